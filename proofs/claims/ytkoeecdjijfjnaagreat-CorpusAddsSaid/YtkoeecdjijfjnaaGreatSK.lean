/- Contracts of functions, plain laws. Conditions: none. -/
import Derived.Deep.RegionHeld3
import Derived.Deep.DeepCutAuto
import Derived.Test.YtkoeecdjijfjnaaGreatSI
import Derived.Test.YtkoeecdjijfjnaaGreatPA
set_option maxRecDepth 100000
set_option maxHeartbeats 8000000
namespace Go.Proofs.YtkoeecdjijfjnaaGreat
open Go.RowKit
def eN:List GN:=[⟨1,⟨#[]⟩,0,9,[],[],[],[],.mk 0 0 ⟨#[]⟩ []⟩]
theorem aD6:aU eN [5]=true:=by kernel_rfl
theorem yC:aU eN [3]=true:=by kernel_rfl
theorem aD5:aU eN [8]=true:=by kernel_rfl
theorem rY:bW eN=0:=by kernel_rfl
theorem rZ:∀ x ∈ eN,dL x:=by
 intro x hx;simp only [eN,List.mem_singleton] at hx;subst hx;refine ⟨by simp,by simp,by simp,by simp,by simp [gsz,jO],by simp⟩
def ent (z:Int)(f:Bool):GE:=mkE [z] 0 0 0 f
def lc1:List GE:=nY (aU eN) 7 [] (ent 5 false)
def lc2:List GE:=nY (aU eN) 7 lc1 (ent 3 false)
def lc3:List GE:=nY (aU eN) 7 lc2 (ent 8 false)
def ld3:List GE:=nY (aU eN) 7 lc2 (ent 8 true)
def ld4:List GE:=nY (aU eN) 7 ld3 (ent 3 false)
theorem aRn:lc1=[ent 5 false]:=by kernel_rfl
theorem aRm:lc2=[ent 3 false,ent 5 false]:=by kernel_rfl
theorem aRl:lc3=[ent 3 false,ent 5 false]:=by kernel_rfl
theorem aRk:ld3=[ent 3 false,ent 8 true]:=by kernel_rfl
theorem aJg:ld4=[{ ent 3 false with hits:=2 },ent 8 true]:=by kernel_rfl
theorem ll1:lc1.length<=10:=by rw [aRn];decide
theorem ll2:lc2.length<=10:=by rw [aRm];decide
theorem ll3:lc3.length=2:=by rw [aRl];rfl
theorem aVp:ld3.length<=10:=by rw [aRk];decide
theorem aVo:ld4.length=2:=by rw [aJg];rfl
theorem lb1:sN (aU eN) 7 [] (ent 5 false)=true:=by kernel_rfl
theorem lb2:sN (aU eN) 7 lc1 (ent 3 false)=true:=by kernel_rfl
theorem lb3:sN (aU eN) 7 lc2 (ent 8 false)=false:=by kernel_rfl
theorem aVr:sN (aU eN) 7 lc2 (ent 8 true)=true:=by kernel_rfl
theorem aVq:sN (aU eN) 7 ld3 (ent 3 false)=false:=by kernel_rfl
theorem li (z:Int)(f:Bool)(h:aU eN [z]=true):xG (aU eN) (ent z f)=0:=by
 unfold xG;rw [show (ent z f).path=[z] from rfl,h]
 rfl
theorem aNk:dE lc3=6:=by kernel_rfl
theorem aVu:gX [5] lc3=true:=by kernel_rfl
theorem aT4:gX [5] ld4=false:=by kernel_rfl
theorem aT3:gX [8] ld4=true:=by kernel_rfl
noncomputable def aTt:Code:=((Tryz.f23.body.bind (aO 5)).getD .skip)
noncomputable def aIz:Code:=((Tryz.f23.body.bind (aO 15)).getD .skip)
noncomputable abbrev aJk:Code:=.seq aQo (.seq aQn (.seq aQm (.seq aQl (.seq (.seq aQk (.cond (.tmp 39) (.seq aTt .ret) .skip)) (.seq aM6 (.seq aM5 (.seq aM4 (.seq aM3 (.seq aDm (.seq aDl (.seq aDk (.seq aDj (.seq (.seq aDi (.cond (.tmp 87) (.seq aIz .ret) .skip)) (.seq aDh .ret))))))))))))))
theorem aR0:Tryz.f23.body=some aJk:=by kernel_rfl
theorem aHs (w:World)(z:Int)(hz:I64 z):bT (w.alloc (.cells #[.int .i64 z] 3)) (fun b=>b=w.heap.size) (.slice (some ⟨w.heap.size,0,none⟩) 1 1) [z] :=
 ⟨some ⟨w.heap.size,0,none⟩,1,rfl,Nat.le_refl _,by simp,by simpa using hz,by simp,fun _=>⟨w.heap.size,0,rfl,rfl,fun j u hu=>by rw [jD];simpa using hu⟩⟩
theorem jA {n1 n2:Value}{L1 L2 L1':List GE}{g1 g2:CA}{B:Nat}{w:World}{r:Bool}(h:hY eN n1 n2 7 7 L1 L2 g1 g2 B w)(z:Int)(f:Bool)(hz:I64 z)(hw:aU eN [z]=true)(hr:sN (aU eN) 7 L1 (ent z f)=r)(hL:nY (aU eN) 7 L1 (ent z f)=L1')(hfew:L1.length<=10) :
  Calls Tryz.prog 12 #[.pointer (some ⟨g1.c,0,none⟩),.slice (some ⟨w.heap.size,0,none⟩) 1 1,jL 0 0 0,.bool f] (w.alloc (.cells #[.int .i64 z] 3)) fun e w'=>e=.returned (.tuple #[.bool r,.int .i64 0])∧(hY eN n1 n2 7 7 L1' L2 g1 g2 B w'∧Fr (fun k=>B<=k) w w'):=by
 refine (h.add ((Ext.refl w).alloc' _) (aHs w z hz) (fun i hi=>.inr (by omega)) 0 0 0 f (by simp [I64]) (by simp [I64]) (by simp [I64]) (by omega) (by simp)).mono ?_;rintro e w' ⟨rfl,h1,h2⟩;subst hr hL;refine ⟨?_,h1,(Fr.of_ext ((Ext.refl w).alloc' _)).trans h2⟩;rw [show mkE [z] 0 0 0 f=ent z f from rfl,li z f hw]
structure F23 (a:Act)(g1 g2:CA):Prop where
 sz:a.tmps.size=125
 df:a.defers=[]
 e2:a.eval (.tmp 2)=.pointer (some ⟨g1.c,0,none⟩)
 e3:a.eval (.tmp 3)=.int .i64 0
 e4:a.eval (.tmp 4)=.pointer (some ⟨g2.c,0,none⟩)
 e5:a.eval (.tmp 5)=.int .i64 0
theorem F23.put {a:Act}{g1 g2:CA}(h:F23 a g1 g2){d:Nat}{v:Value}(hd:6<=d):F23 (a.put (some d) v) g1 g2 :=
 ⟨by rw [zp];exact h.sz,h.df,by rw [vp,if_neg (by omega)];exact h.e2,by rw [vp,if_neg (by omega)];exact h.e3,by rw [vp,if_neg (by omega)];exact h.e4,by rw [vp,if_neg (by omega)];exact h.e5⟩
theorem Ext.fr {M:Nat->Prop}{w w':World}(h:Ext w w'):Fr M w w':=Fr.of_ext h
section
variable {a:Act}{w ws:World}{g1 g2:CA}{n1 n2:Value}{B:Nat}{R:Exit->Act->World->Prop}
noncomputable abbrev aJo:Code:=.seq aDj (.seq (.seq aDi (.cond (.tmp 87) (.seq aIz .ret) .skip)) (.seq aDh .ret))
theorem aRj (hG:F23 a g1 g2)(e6:a.eval (.tmp 6)=.bool false)(e8:a.eval (.tmp 8)=.bool true)(e10:a.eval (.tmp 10)=.bool false)(h:hY eN n1 n2 7 7 lc3 ld4 g1 g2 B w)(hF:Fr (fun k=>B<=k) ws w)(hB:ws.heap.size<=B)
  (hQ:∀ a' w',a'.defers=[]->a'.eval (.tmp 0)=.bool true->Ext ws w'->R .ret a' w'):Code.wp Tryz.prog aJo R a w:=by
 refine wp_seq (aGm (L:=ld4) (m:=2) hG.e4 aVo h.swap.entriesOf hG.sz ?_);intro A c w1 hE hx;have h1:=h.ext hx;rw [aJg] at hE;obtain ⟨b,off,A',d,rfl,-,-,hgc⟩:=hE.get (i:=0) (by decide);have hits:=hgc 5 (.int .i64 2) rfl;refine wp_seq (wp_seq (aGl (L:=lc3) (g1:=g1) (A12:=some ⟨b,off,none⟩) (c12:=c) (by simp [vp,hG.e2]) (by simp [vp,zp,hG.sz]) ll3 h1.entriesOf (by simp [zp,hG.sz]) ?_));intro A2 c2 w2 hx2;have h2:=h1.ext hx2;refine wp_cond_false (by simp [vp,zp,hG.sz]) (wp_skip ?_)
 refine wp_seq (aGk (g1:=g1) (g2:=g2) (b12:=b) (o12:=off) (c12:=c) (by simp [vp,hG.e2]) (by simp [vp,hG.e4]) (by simp [vp,e6]) (by simp [vp,e8]) (by simp [vp,e10]) (by simp [vp,zp,hG.sz])
  (fun w3 hx3=>by have:=(h2.ext hx3).bytes;rw [aNk] at this;exact this)
  (fun w3 b hx3 hp=>by have:=(h2.ext hx3).has hp;rw [aVu] at this;exact this)
  (fun w3 b hx3 hp=>by have:=(h2.ext hx3).swap.has hp;rw [aT4] at this;exact this)
  (fun w3 b hx3 hp=>by have:=(h2.ext hx3).swap.has hp;rw [aT3] at this;exact this)
  (aB hx2 hits) (by simp [zp,hG.sz]) ?_)
 intro a' w' hd he hx3;refine wp_ret (hQ a' w' (by rw [hd];simp only [aD0];exact hG.df) he ?_);exact (((hF.trans (Ext.fr hx)).trans (Ext.fr hx2)).trans (Ext.fr hx3)).new_ext (fun b hb=>by omega)
noncomputable abbrev aT7:Code:=.seq aM6 (.seq aM5 (.seq aM4 (.seq aM3 (.seq aDm (.seq aDl (.seq aDk aJo))))))
theorem aT2 (hG:F23 a g1 g2)(h:hY eN n1 n2 7 7 [] [] g1 g2 B w)(hF:Fr (fun k=>B<=k) ws w)(hB:ws.heap.size<=B)
  (hQ:∀ a' w',a'.defers=[]->a'.eval (.tmp 0)=.bool true->Ext ws w'->R .ret a' w'):Code.wp Tryz.prog aT7 R a w:=by
 have i5:I64 5:=by simp [I64]
 have i3:I64 3:=by simp [I64]
 have i8:I64 8:=by simp [I64]
 refine wp_seq (aLy hG.e2 (jA (L1':=lc1) h 5 false i5 aD6 lb1 rfl (by simp)) hG.sz ?_);rintro w1 ⟨h1,f1⟩;refine wp_seq (aLx (g1:=g1) (by simp [vp,hG.e2]) (jA (L1':=lc2) h1 3 false i3 yC lb2 rfl ll1) (by simp [zp,hG.sz]) ?_);rintro w2 ⟨h2,f2⟩;refine wp_seq (aLw (g1:=g1) (by simp [vp,hG.e2]) (jA (L1':=lc3) h2 8 false i8 aD5 lb3 rfl ll2) (by simp [zp,hG.sz]) ?_);rintro w3 ⟨h3,f3⟩;refine wp_seq (aLv (g2:=g2) (by simp [vp,hG.e4]) (jA (L1':=lc1) h3.swap 5 false i5 aD6 lb1 rfl (by simp)) (by simp [zp,hG.sz]) ?_);rintro w4 ⟨h4,f4⟩;refine wp_seq (aGp (g2:=g2) (by simp [vp,hG.e4]) (jA (L1':=lc2) h4 3 false i3 yC lb2 rfl ll1) (by simp [zp,hG.sz]) ?_);rintro w5 ⟨h5,f5⟩;refine wp_seq (aGo (g2:=g2) (by simp [vp,hG.e4]) (jA (L1':=ld3) h5 8 true i8 aD5 aVr rfl ll2) (by simp [zp,hG.sz]) ?_);rintro w6 ⟨h6,f6⟩;refine wp_seq (aGn (g2:=g2) (by simp [vp,hG.e4]) (jA (L1':=ld4) h6 3 false i3 yC aVq rfl aVp) (by simp [zp,hG.sz]) ?_);rintro w7 ⟨h7,f7⟩;exact aRj (by (iterate 43 refine .put ?_ (by omega));exact hG) (by simp [vp,zp,hG.sz]) (by simp [vp,zp,hG.sz]) (by simp [vp,zp,hG.sz]) h7.swap (((((((hF.trans f1).trans f2).trans f3).trans f4).trans f5).trans f6).trans f7) hB hQ
end
theorem aHn {R:Exit->Act->World->Prop}(a:Act)(w:World)(hsz:a.tmps.size=125)(hdf:a.defers=[])(hQ:∀ a' w',a'.defers=[]->a'.eval (.tmp 0)=.bool true->Ext w w'->R .ret a' w'):Code.wp Tryz.prog aJk R a w:=by
 refine wp_seq (aL3 hsz ?_);refine wp_seq (aL2 (by simp [zp,hsz]) ?_);obtain ⟨W1,hW1⟩:∃ W1,W1=w.alloc (.cells (aE (⟨1,⟨#[]⟩,0,9,[],[],[],[],.mk 0 0 ⟨#[]⟩ []⟩:GN) ⟨none,0,none,0,none,0,none,0,none,0⟩).toArray 87):=⟨_,rfl⟩;have xs1:W1.heap.size=w.heap.size+1:=by rw [hW1];exact World.size_alloc _ _
 have x1:Ext w W1:=by rw [hW1];exact (Ext.refl w).alloc' _
 have nd1:Nds W1 (fun b=>b=w.heap.size) (.slice (some ⟨w.heap.size,0,none⟩) 1 1) eN:=by
  refine ⟨some ⟨w.heap.size,0,none⟩,1,aE (⟨1,⟨#[]⟩,0,9,[],[],[],[],.mk 0 0 ⟨#[]⟩ []⟩:GN) ⟨none,0,none,0,none,0,none,0,none,0⟩,rfl,Nat.le_refl _,by simp [eN],⟨rfl,fun _=>⟨w.heap.size,0,rfl,rfl,fun j u hu=>by rw [hW1,jD];simpa using hu⟩⟩,?_⟩;exact RL.one ⟨⟨none,0,none,0,none,0,none,0,none,0⟩,rfl,⟨by simp [I64],by show (0:Nat)<=_;omega,by simp [I64],by simp [I64],bT.nil,qT.nil,cB.nil,bT.nil,VAt.noKids (by simp [I64]) (by simp [I64]) (by decide)⟩⟩
 rw [<- hW1];clear hW1;have b2:=(Blk.new W1 25 #[.slice none 0 0]).set_ 0 (.slice (some ⟨w.heap.size,0,none⟩) 1 1);have x2:Ext W1 ((W1.alloc (.cells #[.slice none 0 0] 25)).setCell ⟨W1.heap.size,0,none⟩ (.slice (some ⟨w.heap.size,0,none⟩) 1 1)):=((Ext.refl W1).alloc' _).setCell' (p:=⟨W1.heap.size,0,none⟩) (Nat.le_refl _) _;refine wp_seq ?_;generalize (W1.alloc (.cells #[.slice none 0 0] 25)).setCell ⟨W1.heap.size,0,none⟩ (.slice (some ⟨w.heap.size,0,none⟩) 1 1)=W2 at *;have hx2:=x2.size;refine aL1 (t:=eN) (gt:=W1.heap.size) (by simp [vp,zp,hsz]) b2 (lZ eN (fun b=>b=w.heap.size) _ 7 W2 (fun k hk=>by omega) (nd1.ext x2) rZ rY (by omega)) (by simp [zp,hsz]) ?_;intro g1 P1 n1 w3 hm1 hx3;have hs3:=hx3.size;refine wp_seq (aL0 (t:=eN) (gt:=W1.heap.size) (by simp [vp,zp,hsz]) (b2.ext hx3) (lZ eN (fun b=>b=w.heap.size) _ 7 w3 (fun k hk=>by omega) (nd1.ext (x2.trans' hx3)) rZ rY (by omega)) (by simp [zp,hsz]) ?_);intro g2 P2 n2 w4 hm2 hx4;have hT:=hY.two hm1 (Nat.le_refl _) hx4 hm2;refine wp_seq (wp_seq (aLz (g1:=g1) (g2:=g2) (by simp [vp,zp,hsz]) (by simp [vp,zp,hsz]) (by simp [vp,zp,hsz]) (by simp [vp,zp,hsz]) (by simp [zp,hsz]) ?_));refine wp_cond_false (by simp [vp,zp,hsz]) (wp_skip ?_);exact aT2 (ws:=w) ⟨by simp [zp,hsz],by simp only [aD0];exact hdf,by simp [vp,zp,hsz],by simp [vp,zp,hsz],by simp [vp,zp,hsz],by simp [vp,zp,hsz]⟩ hT (Ext.fr (((x1.trans' x2).trans' hx3).trans' hx4)) (by omega) hQ
theorem aD4 (w:World):Calls Tryz.prog 23 #[] w (dC (.bool true) w):=by
 refine calls_of_wp Tryz.func23 aR0 (aHn _ w ?_ rfl ?_)
 ·simp [Tryz.ntmps23]
 ·intro a' w' h1 h2 h3
  refine bodyPost_ret (v:=.bool true) ?_ h1 ⟨rfl,h3⟩;have h5:a'.tmps[0]?.getD undef=.bool true:=by rw [<- h2];simp [Act.eval]
  simp [results,Tryz.results23,go_sem,h5]
def aJv (n:Nat)(w:World)(e:Ending)(w':World):Prop:=∃ (A:Option Addr)(c:Nat)(l:List Int),e=.returned (.slice A l.length c)∧bT w' (fun b=>w.heap.size<=b) (.slice A l.length c) l∧l.length=n∧Ext w w'
def aSm (n:Nat)(W:World)(v i:Value)(wr:World):Prop :=
 ∃ (k:Nat) (l:List Int),k<=n∧i=.int .i64 k∧l.length=k∧(∀ x ∈ l,I64 x)∧wr.ownsRow W.heap.size 3 1 v k (l.map (Value.int .i64))∧Ext W wr
theorem aMq (l:List Int)(n:Nat)(P:Nat->Prop)(v:Value)(w:World)(hv:bT w P v l)(hn:n<=1000):Calls Tryz.prog 45 #[v,.int .i64 n] w (aJv n w):=by
 have HV:=aV4 hv;obtain ⟨Al,cl,el,h1,h2⟩:=hv.form;subst el;clear hv;obtain ⟨i0,hi,hz0,hz1,hz2⟩:=info_parts Tryz.info3;have HI:=aV4 hi;clear hi;go_enter Tryz.func45,Tryz.ntmps45;go_wp2_with fail;go_loopw [5,6] (fun v i wr=>aSm n w v i wr) (fun _ i _=>n - (intOf i).toNat)
 case atStart=>exact ⟨0,[],Nat.zero_le _,rfl,rfl,by simp,aX _ _ _ _,Ext.refl _⟩
 case round =>
  obtain ⟨k,l',hk,rfl,hl',h64,hown,hx⟩:=hrel;obtain ⟨A5,c5,e5,-,-,-⟩:=Sl.of_own hown;subst e5;have HOWN:=aV4 hown;have H64:=aV4 h64;have HX:=aV4 hx;have hsz:=hx.size;have HL:=aV4 hl';clear hown h64 hx hl'
  by_cases hlt:k<n
  ·have HP1:=aV4 (kK l (k:Int) 9 P _ wr (HV.out.ext HX.out) (by unfold I64;omega) (by omega) (by omega))
   have HP2:=aV4 (kK l ((k:Int)+1) 20 P _ wr (HV.out.ext HX.out) (by unfold I64;omega) (by omega) (by omega));have b1:=kJ (l:=l) (i:=(k:Int)) (m:=9) (by omega);have b2:=kJ (l:=l) (i:=(k:Int)+1) (m:=20) (by omega);generalize pick l (k:Int) 9=p1 at *;generalize pick l ((k:Int)+1) 20=p2 at *;go_wp2_with fail;refine HP1.out.mono ?_;rintro e w' ⟨rfl,rfl⟩;go_wp2_with fail;refine HP2.out.mono ?_;rintro e w' ⟨rfl,rfl⟩;go_wp2_with (at_builtin;go_must (refine aK _ rfl (.tmp 12) (.tmp 22) 22 (by rfl) w.heap.size 3 i0 _ 1 8 Tryz.underlying22 HI.out hz0 hz1 hz2 rfl (by omega) (.slice A5 k c5) _ _ rfl (HOWN.out.alloc _) (fun _=>True) (some ⟨wr.heap.size,0,none⟩) 1 1 [.int .i64 (p1 - p2 / 19)] rfl (Sl.new wr _ _ _ _ rfl) (by simp [Value.oneCell']) (by omega) (by omega) (by simp;omega) ?_);intro v9 w4 ho4 hf4 hb4);go_roundw
   case rel =>
    refine ⟨k+1,l' ++ [p1 - p2 / 19],by omega,by go_num,by rw [List.length_append,HL.out];rfl,?_,?_,?_⟩
    ·intro x hx
     rcases List.mem_append.1 hx with hx | hx
     ·exact H64.out x hx
     ·simp only [List.mem_singleton] at hx;subst hx;unfold I64;omega
    ·exact ho4.len_cast rfl (by simp)
    ·exact Fr.new_ext (((Fr.of_ext HX.out).alloc _).trans hf4) (fun b hb=>HOWN.out.block_ge hb.symm)
   case measure=>simp [intOf];omega
  ·obtain rfl:k=n:=by omega
   have HH:=aV4 (show bT wr (fun b=>w.heap.size<=b) (.slice A5 k c5) l' from bT.of_own (HOWN.out.len_cast HL.out.symm rfl) H64.out (by rw [HL.out];omega) (fun b hb=>HOWN.out.block_ge hb));go_wp2_with fail;go_ret;exact ⟨A5,c5,l',by have:=HL.out;subst this;rfl,by rw [HL.out];exact HH.out,HL.out,HX.out⟩
structure GG where
 path:List Int
 kind:Int
 at_:Int
 code:Int
 fresh:Bool
instance:Inhabited GG:=⟨⟨[],0,0,0,false⟩⟩
structure GAt (w:World)(P:Nat->Prop)(x:GG)(A:Option Addr)(c:Nat):Prop where
 path:bT w P (.slice A x.path.length c) x.path
 short:x.path.length<=256
 kind:I64 x.kind
 at_:I64 x.at_
 code:I64 x.code
def pV (x:GG)(A:Option Addr)(c:Nat):List Value:=[.slice A x.path.length c,.int .i64 x.kind,.int .i64 x.at_,.int .i64 x.code,.bool x.fresh]
def RGg (w:World)(P:Nat->Prop)(x:GG)(cs:List Value):Prop:=∃ A c,cs=pV x A c∧GAt w P x A c
section
variable {w w':World}{P Q:Nat->Prop}
theorem GAt.carry {x:GG}{A:Option Addr}{c:Nat}(h:GAt w P x A c)(hk:aD P w w')(hPQ:∀ b,b<w.heap.size->P b->Q b):GAt w' Q x A c:=⟨h.path.carry hk hPQ,h.short,h.kind,h.at_,h.code⟩
theorem aH5:aOi 5 RGg:=⟨fun _ _ _ _ h=>by obtain ⟨A,c,rfl,_⟩:=h;rfl,fun _ _ _ _ _ _ h hk hPQ=>by obtain ⟨A,c,e,h⟩:=h;exact ⟨A,c,e,h.carry hk hPQ⟩⟩
end
def Gvs (w:World)(P:Nat->Prop)(v:Value)(L:List GG):Prop:=Lst w P 5 (RGg w P) v L
section
variable {w w':World}{P Q:Nat->Prop}
theorem Gvs.carry {v:Value}{L:List GG}(h:Gvs w P v L)(hk:aD P w w')(hPQ:∀ b,b<w.heap.size->P b->Q b):Gvs w' Q v L:=Lst.carry h (by omega) hk hPQ (fun x _ cs hx=>aH5.carry _ _ _ _ _ _ hx hk hPQ)
theorem Gvs.get {A:Option Addr}{n c:Nat}{L:List GG}(h:Gvs w P (.slice A n c) L){i:Nat}(hi:i<L.length):∃ b off A' d,A=some ⟨b,off,none⟩∧P b∧GAt w P (L.getD i default) A' d∧(∀ j u,(pV (L.getD i default) A' d)[j]?=some u->w.cell? ⟨b,off+i*5+j,none⟩=some u):=by
 obtain ⟨b,off,c',cs,e,hb,_,_,⟨A',d,rfl,hv⟩,hc⟩:=Lst.at_ (aH5.len w P) h default hi;injection e with e _ _;exact ⟨b,off,A',d,e,hb,hv,hc⟩
end
theorem Tryz.info43:(Tryz.prog.info? 43).map (fun i=>(i.zero,i.size,i.bytes))=some (some (.agg #[.slice none 0 0,.int .i64 0,.int .i64 0,.int .i64 0,.bool false]),5,56):=by kernel_rfl
def aUc (most:Nat)(w:World)(e:Ending)(w':World):Prop:=∃ A c gs,e=.returned (.slice A gs.length c)∧Gvs w' (fun b=>b<w'.heap.size) (.slice A gs.length c) gs∧gs.length<=most∧Ext w w'
def uT (S:Nat->Prop)(most:Nat)(w:World)(e:Ending)(w':World):Prop:=∃ A c gs,e=.returned (.slice A gs.length c)∧Gvs w' (fun b=>b<w'.heap.size∧S b) (.slice A gs.length c) gs∧gs.length<=most∧Ext w w'
def aN8 (S:Nat->Prop)(most:Nat)(W:World)(v i:Value)(wr:World):Prop :=
 ∃ (k:Nat) (gs:List GG) (xs:List Value),k<=most∧i=.int .i64 k∧gs.length=k∧wr.ownsRow W.heap.size 43 5 v k xs∧RL (RGg wr (fun b=>b<wr.heap.size∧some b ≠ v.ownBlock∧S b)) gs xs∧Ext W wr
theorem oY {S:Nat->Prop}{W wr w1 w4:World}{v v':Value}{gs:List GG}{xs:List Value}{x:GG}{A:Option Addr}{c:Nat}(_:wr.ownsRow W.heap.size 43 5 v gs.length xs)(hr:RL (RGg wr (fun b=>b<wr.heap.size∧some b ≠ v.ownBlock∧S b)) gs xs)(h1:Ext wr w1)(hg:GAt w1 (fun b=>some b ≠ v.ownBlock∧S b) x A c)
  (hf:Fr (fun k=>some k=v.ownBlock) w1 w4)(hown:v'.ownBlock=v.ownBlock∨∃ b,v'.ownBlock=some b∧w1.heap.size<=b):RL (RGg w4 (fun b=>b<w4.heap.size∧some b ≠ v'.ownBlock∧S b)) (gs ++ [x]) (xs ++ pV x A c):=by
 have hs1:=h1.size;have hs4:=hf.size
 have hne:∀ b,b<w1.heap.size->some b ≠ v.ownBlock->some b ≠ v'.ownBlock:=by
  intro b hb h;rcases hown with e | ⟨b',e,h'⟩
  ·rw [e];exact h
  ·rw [e];intro e';injection e' with e';omega
 refine (hr.move aH5 (fun b hb h=>(hf.block b (by omega) (fun e=>h.2.1 e)).trans (h1.block b hb)) (fun b hb h=>⟨by omega,hne b (by omega) h.2.1,h.2.2⟩)).append (RL.one ⟨A,c,rfl,hg.carry (fun b hb h=>hf.block b hb (fun e=>h.1 e)) (fun b hb h=>⟨by omega,hne b hb h.1,h.2⟩)⟩)
theorem aCs (t:List GN)(l:List Int)(most:Nat)(P Q:Nat->Prop)(vn vl:Value)(w:World)(hg:fJ t)(hlen:t.length<=16)(hmost:most<=1000)(hP:∀ b,P b->b<w.heap.size)(hQ:∀ b,Q b->b<w.heap.size)(ht:Nds w P vn t)(hl:bT w Q vl l) :
  Calls Tryz.prog 11 #[.agg #[vn],vl,.int .i64 most] w (uT (fun b=>P b∨w.heap.size<=b) most w):=by
 have HT:=aV4 ht;have HL:=aV4 hl;have HG:=aV4 hg;have HP:=aV4 hP;have HQ:=aV4 hQ;obtain ⟨An,cn,en,hn1,hn2⟩:=ht.form;subst en;obtain ⟨Al,cl,el,hl1,hl2⟩:=hl.form;subst el;obtain ⟨i0,hi,hz0,hz1,hz2⟩:=info_parts Tryz.info43;have HI:=aV4 hi;clear ht hl hg hP hQ hi;go_enter Tryz.func11,Tryz.ntmps11;go_wp2_with fail;have HE:=aV4 ((Ext.refl w).alloc' (.cells #[.slice An t.length cn] 25));have HB:=aV4 (Blk.new w 25 #[.slice An t.length cn]);generalize w.alloc (.cells #[.slice An t.length cn] 25)=W at *;have hsW:=HE.out.size;go_loopw [7,8] (fun v i wr=>aN8 (fun b=>P b∨w.heap.size<=b) most W v i wr) (fun _ i _=>most - (intOf i).toNat)
 case atStart=>exact ⟨0,[],[],Nat.zero_le _,rfl,rfl,aX _ _ _ _,by simp [RL],Ext.refl _⟩
 case round =>
  obtain ⟨k,gs,xs,hk,rfl,hgl,hown,hr,hx⟩:=hrel;obtain ⟨A7,c7,e7,-,-,-⟩:=Sl.of_own hown;subst e7;have HOWN:=aV4 hown;have HR:=aV4 hr;have HX:=aV4 hx;have HGL:=aV4 hgl;have hsz:=hx.size;have HDONE:=aV4 (show uT (fun b=>P b∨w.heap.size<=b) most w (.returned (.slice A7 k c7)) wr from ⟨A7,c7,gs,by rw [hgl],by rw [hgl];exact Lst.of_own (hown.len_cast hgl.symm rfl) (hr.move aH5 (fun _ _ _=>rfl) (fun _ _ h=>⟨h.1,h.2.2⟩)) (by omega) (fun b hb=>⟨hown.block_lt hb,.inr (Nat.le_trans hsW (hown.block_ge hb))⟩),by omega,HE.out.trans' hx⟩);clear hown hr hx hgl
  by_cases h1:3*k+2<l.length
  ·have d1:decide (3*(k:Int)+2<(l.length:Int))=true:=aV7 (by omega)
   by_cases h2:k<most
   ·have d2:decide ((k:Int)<(most:Int))=true:=aV7 (by omega)
    clear HDONE;obtain ⟨bl,ol,rfl,-,i64a,ga⟩:=(HL.out.ext (HE.out.trans' HX.out)).get (i:=3*k) (by omega);obtain ⟨bl',ol',e',-,i64b,gb⟩:=(HL.out.ext (HE.out.trans' HX.out)).get (i:=3*k+1) (by omega);injection e' with e';injection e' with e1 e2;subst e1 e2;obtain ⟨bl',ol',e',-,i64c,gc⟩:=(HL.out.ext (HE.out.trans' HX.out)).get (i:=3*k+2) (by omega);injection e' with e';injection e' with e1 e2;subst e1 e2;generalize l.getD (3*k) 0=xa at *;generalize l.getD (3*k+1) 0=xb at *;generalize l.getD (3*k+2) 0=xc at *;go_upto_region 6 with (go_at_call 9;refine (fO xa 1048576 _ i64a (by omega) (by omega)).mono ?_;rintro e w' ⟨rfl,rfl⟩);have hna:=gI (n:=xa) (m:=1048576) (by omega);generalize gD xa 1048576=n at *;have lbl:=aP ga;have hw0:IntKind.i64.wrap (3*(k:Int))=3*(k:Int):=IntWalk.i64_in _ (by omega);have hw1:IntKind.i64.wrap (3*(k:Int)+1)=3*(k:Int)+1:=IntWalk.i64_in _ (by omega);have hw2:IntKind.i64.wrap (3*(k:Int)+2)=3*(k:Int)+2:=IntWalk.i64_in _ (by omega);have q0:(0:Int)<=3*(k:Int):=by omega
    have q1:3*(k:Int)<(l.length:Int):=by omega
    have q2:(0:Int)<=3*(k:Int)+1:=by omega
    have q3:3*(k:Int)+1<(l.length:Int):=by omega
    have q4:(0:Int)<=3*(k:Int)+2:=by omega
    have q5:3*(k:Int)+2<(l.length:Int):=by omega
    have HRAW:=aV4 (show Calls Tryz.prog 45 #[.slice (some ⟨wr.heap.size,0,none⟩) 3 3,.int .i64 8] ((wr.alloc (.cells #[.int .i64 xa,.int .i64 xb,.int .i64 xc] 3)).drew) (aJv 8 ((wr.alloc (.cells #[.int .i64 xa,.int .i64 xb,.int .i64 xc] 3)).drew)) from
     aMq [xa,xb,xc] 8 (fun _=>True) _ _ (bT.ext (w:=wr.alloc (.cells #[.int .i64 xa,.int .i64 xb,.int .i64 xc] 3)) ⟨some ⟨wr.heap.size,0,none⟩,3,rfl,by simp,by simp,by
      intro x hx;simp only [List.mem_cons,List.not_mem_nil,or_false] at hx;rcases hx with rfl | rfl | rfl <;> assumption,Sl.new wr _ _ _ _ rfl⟩ (Ext.refl _).drew') (by omega))
    rw [show 3*k=(3*(k:Int)).toNat by omega] at ga;rw [show 3*k+1=(3*(k:Int)+1).toNat by omega] at gb;rw [show 3*k+2=(3*(k:Int)+2).toNat by omega] at gc
    go_region_held3 (fun w'=>w'.cell? ⟨bl,ol+(3*(k:Int)).toNat,none⟩=some (.int .i64 xa)∧w'.cell? ⟨bl,ol+(3*(k:Int)+1).toNat,none⟩=some (.int .i64 xb)∧w'.cell? ⟨bl,ol+(3*(k:Int)+2).toNat,none⟩=some (.int .i64 xc))
     (first
      | (go_split_ands
         with_reducible exact ⟨aB hx3 ‹_›,aB hx3 ‹_›,aB hx3 ‹_›⟩)
      | go_keep)
     (first
      | (go_at_call 45;refine HRAW.out.mono ?_;rintro e w3 ⟨A3,c3,raw,rfl,hraw,hrl,hx3⟩;have HRL:=aV4 hrl;clear hrl))
    clear hw0 hw1 hw2 q0 q1 q2 q3 q4 q5 HRAW;have HX3:=aV4 (show Ext wr w3 from ((Ext.refl wr).alloc' _).drew'.trans' hx3);have hs3:wr.heap.size+1<=w3.heap.size:=by have:=hx3.size;simp at this;exact this
    have HOL:=aV4 (show ∀ b,(Value.slice A7 k c7).ownBlock=some b->W.heap.size<=b∧b<wr.heap.size from fun b hb=>⟨HOWN.out.block_ge hb,HOWN.out.block_lt hb⟩);have HRW:=aV4 (hraw.carry (Q:=fun b=>some b ≠ (Value.slice A7 k c7).ownBlock∧(P b∨w.heap.size<=b)) (fun _ _ _=>rfl) (fun b hb h=>⟨fun e=>by have:=(HOL.out b e.symm).2;simp at h;omega,.inr (by simp at h;omega)⟩));have hcap:=hraw.form;have HT3:=aV4 (HT.out.carry (Q:=fun b=>some b ≠ (Value.slice A7 k c7).ownBlock∧(P b∨w.heap.size<=b)) (aD.of_ext (HE.out.trans' (HX.out.trans' HX3.out))) (fun b hb h=>⟨fun e=>by have:=(HOL.out b e.symm).1;have:=HP.out b h;omega,.inl h⟩));have b3:=(HB.out.ext (HX.out.trans' HX3.out)).cell' (u:=.slice An t.length cn) 0 rfl;clear hraw hx3 ga gb gc hcap;have HFT:=aV4 (aNp t raw _ _ _ w3 HG.out.good hlen HG.out.few HT3.out HRW.out);go_upto_region 8 with (go_at_call 46;refine HFT.out.mono ?_;rintro e w4 ⟨vf,pf,nf,rfl,hpf,hpl,hx4⟩);obtain ⟨Af,cf,ef,hpf1,hpf2⟩:=hpf.form;subst ef;have HX4:=aV4 (HX3.out.trans' hx4)
    have HPF:=aV4 (hpf.carry (Q:=fun b=>some b ≠ (Value.slice A7 k c7).ownBlock∧(P b∨w.heap.size<=b)) (fun _ _ _=>rfl) (fun b hb h=>by
     rcases h with h | h
     ·exact h
     ·exact ⟨fun e=>by have:=(HOL.out b e.symm).2;omega,.inr (by omega)⟩))
    have HRW4:=aV4 (HRW.out.ext hx4);clear hpf hx4 b3 HFT;go_cut [64] from 14 to 87 (fun s wx=>(∃ bb,s=.bool bb)∧w4=wx)
    case first =>
     by_cases he:nf=0
     ·have e1:(nf == 0)=true:=aV6 he
      go_wp2_with fail;go_meet;exact ⟨⟨_,rfl⟩,rfl⟩
     ·have e1:(nf == 0)=false:=aV5 he
      go_wp2_with fail;go_meet;exact ⟨⟨_,rfl⟩,rfl⟩
    case rest =>
     obtain ⟨⟨bb,rfl⟩,rfl⟩:=hcut;go_upto_if 64 with fail;go_cut [11] from 14 to 87 (fun s wx=>(∃ A c p,s=.slice A p.length c∧bT w4 (fun b=>some b ≠ (Value.slice A7 k c7).ownBlock∧(P b∨w.heap.size<=b)) (.slice A p.length c) p∧p.length<=256)∧w4=wx)
     case first =>
      cases bb
      ·go_wp2_with fail
       go_meet;exact ⟨⟨_,_,_,rfl,HPF.out,hpl⟩,rfl⟩
      ·go_wp2_with fail
       go_meet;exact ⟨⟨_,_,_,rfl,HRW4.out,by rw [HRL.out];omega⟩,rfl⟩
     case rest =>
      obtain ⟨⟨Ap,cp,p,rfl,hp,hpl2⟩,rfl⟩:=hcut;have HP2:=aV4 hp;clear hp;have hs4:=HX4.out.size;generalize hfb:(n % 3 == 0)=fb at *;have HFB:=aV4 hfb
      by_cases s0:n / 3 % 4=0
      ·have t0:(n / 3 % 4 == 0)=true:=aV6 s0
       have HSL:=aV4 (show Sl ((w4.alloc (.cells #[.slice Ap p.length cp,.int .i64 1,.int .i64 (n % 2),.int .i64 0,.bool fb] 43)).alloc (.cells #[.slice Ap p.length cp,.int .i64 1,.int .i64 (n % 2),.int .i64 0,.bool fb] 43)) (fun _=>True) 5 (some ⟨w4.heap.size+1,0,none⟩) 1 [.slice Ap p.length cp,.int .i64 1,.int .i64 (n % 2),.int .i64 0,.bool fb] from by
        have h:=Sl.new (w4.alloc (.cells #[.slice Ap p.length cp,.int .i64 1,.int .i64 (n % 2),.int .i64 0,.bool fb] 43)) [.slice Ap p.length cp,.int .i64 1,.int .i64 (n % 2),.int .i64 0,.bool fb] 43 1 5 rfl;rw [World.size_alloc] at h;exact h)
       go_wp2_with (at_builtin;go_must (refine aK _ rfl (.tmp 84) (.tmp 86) 36 (by rfl) W.heap.size 43 i0 _ 5 56 Tryz.underlying36 HI.out hz0 hz1 hz2 rfl (by omega) (.slice A7 k c7) k xs rfl (((HOWN.out.ext_ HX4.out).alloc _).alloc _) (fun _=>True) (some ⟨w4.heap.size+1,0,none⟩) 1 1 [.slice Ap p.length cp,.int .i64 1,.int .i64 (n % 2),.int .i64 0,.bool fb] rfl HSL.out (by simp [Value.oneCell']) (by omega) (by omega) (by simp;omega) ?_);intro v9 w9 ho9 hf9 hb9);go_roundw
       case rel =>
        have hE5:Ext wr ((w4.alloc (.cells #[.slice Ap p.length cp,.int .i64 1,.int .i64 (n % 2),.int .i64 0,.bool fb] 43)).alloc (.cells #[.slice Ap p.length cp,.int .i64 1,.int .i64 (n % 2),.int .i64 0,.bool fb] 43)):=(HX4.out.alloc' _).alloc' _;have hfr:Fr (fun k'=>some k'=(Value.slice A7 k c7).ownBlock) wr w9:=(Fr.of_ext hE5).trans hf9;refine ⟨k+1,gs ++ [⟨p,1,(n % 2),0,fb⟩],xs ++ pV ⟨p,1,(n % 2),0,fb⟩ Ap cp,by omega,by go_num,by rw [List.length_append,HGL.out];rfl,ho9,?_,Fr.new_ext ((Fr.of_ext HX.out).trans hfr) (fun b hb=>(HOL.out b hb.symm).1)⟩;refine oY (W:=W) (HOWN.out.len_cast HGL.out.symm rfl) HR.out hE5 ⟨HP2.out.ext (((Ext.refl w4).alloc' _).alloc' _),hpl2,show I64 1 by unfold I64;omega,show I64 (n % 2) by unfold I64;omega,show I64 0 by unfold I64;omega⟩ hf9 ?_;rcases hb9 with h | h
        ·exact .inl h
        ·exact .inr ⟨_,h,by simp⟩
       case measure=>simp [intOf];omega
      ·have t0:(n / 3 % 4 == 0)=false:=aV5 s0
       by_cases s1:n / 3 % 4=1
       ·have t1:(n / 3 % 4 == 1)=true:=aV6 s1
        have HSL:=aV4 (show Sl ((w4.alloc (.cells #[.slice Ap p.length cp,.int .i64 2,.int .i64 0,.int .i64 15,.bool fb] 43)).alloc (.cells #[.slice Ap p.length cp,.int .i64 2,.int .i64 0,.int .i64 15,.bool fb] 43)) (fun _=>True) 5 (some ⟨w4.heap.size+1,0,none⟩) 1 [.slice Ap p.length cp,.int .i64 2,.int .i64 0,.int .i64 15,.bool fb] from by
         have h:=Sl.new (w4.alloc (.cells #[.slice Ap p.length cp,.int .i64 2,.int .i64 0,.int .i64 15,.bool fb] 43)) [.slice Ap p.length cp,.int .i64 2,.int .i64 0,.int .i64 15,.bool fb] 43 1 5 rfl;rw [World.size_alloc] at h;exact h)
        go_wp2_with (at_builtin;go_must (refine aK _ rfl (.tmp 84) (.tmp 86) 36 (by rfl) W.heap.size 43 i0 _ 5 56 Tryz.underlying36 HI.out hz0 hz1 hz2 rfl (by omega) (.slice A7 k c7) k xs rfl (((HOWN.out.ext_ HX4.out).alloc _).alloc _) (fun _=>True) (some ⟨w4.heap.size+1,0,none⟩) 1 1 [.slice Ap p.length cp,.int .i64 2,.int .i64 0,.int .i64 15,.bool fb] rfl HSL.out (by simp [Value.oneCell']) (by omega) (by omega) (by simp;omega) ?_);intro v9 w9 ho9 hf9 hb9);go_roundw
        case rel =>
         have hE5:Ext wr ((w4.alloc (.cells #[.slice Ap p.length cp,.int .i64 2,.int .i64 0,.int .i64 15,.bool fb] 43)).alloc (.cells #[.slice Ap p.length cp,.int .i64 2,.int .i64 0,.int .i64 15,.bool fb] 43)):=(HX4.out.alloc' _).alloc' _;have hfr:Fr (fun k'=>some k'=(Value.slice A7 k c7).ownBlock) wr w9:=(Fr.of_ext hE5).trans hf9;refine ⟨k+1,gs ++ [⟨p,2,0,15,fb⟩],xs ++ pV ⟨p,2,0,15,fb⟩ Ap cp,by omega,by go_num,by rw [List.length_append,HGL.out];rfl,ho9,?_,Fr.new_ext ((Fr.of_ext HX.out).trans hfr) (fun b hb=>(HOL.out b hb.symm).1)⟩;refine oY (W:=W) (HOWN.out.len_cast HGL.out.symm rfl) HR.out hE5 ⟨HP2.out.ext (((Ext.refl w4).alloc' _).alloc' _),hpl2,show I64 2 by unfold I64;omega,show I64 0 by unfold I64;omega,show I64 15 by unfold I64;omega⟩ hf9 ?_;rcases hb9 with h | h
         ·exact .inl h
         ·exact .inr ⟨_,h,by simp⟩
        case measure=>simp [intOf];omega
       ·have t1:(n / 3 % 4 == 1)=false:=aV5 s1
        have HSL:=aV4 (show Sl ((w4.alloc (.cells #[.slice Ap p.length cp,.int .i64 0,.int .i64 0,.int .i64 0,.bool fb] 43)).alloc (.cells #[.slice Ap p.length cp,.int .i64 0,.int .i64 0,.int .i64 0,.bool fb] 43)) (fun _=>True) 5 (some ⟨w4.heap.size+1,0,none⟩) 1 [.slice Ap p.length cp,.int .i64 0,.int .i64 0,.int .i64 0,.bool fb] from by
         have h:=Sl.new (w4.alloc (.cells #[.slice Ap p.length cp,.int .i64 0,.int .i64 0,.int .i64 0,.bool fb] 43)) [.slice Ap p.length cp,.int .i64 0,.int .i64 0,.int .i64 0,.bool fb] 43 1 5 rfl;rw [World.size_alloc] at h;exact h)
        go_wp2_with (at_builtin;go_must (refine aK _ rfl (.tmp 84) (.tmp 86) 36 (by rfl) W.heap.size 43 i0 _ 5 56 Tryz.underlying36 HI.out hz0 hz1 hz2 rfl (by omega) (.slice A7 k c7) k xs rfl (((HOWN.out.ext_ HX4.out).alloc _).alloc _) (fun _=>True) (some ⟨w4.heap.size+1,0,none⟩) 1 1 [.slice Ap p.length cp,.int .i64 0,.int .i64 0,.int .i64 0,.bool fb] rfl HSL.out (by simp [Value.oneCell']) (by omega) (by omega) (by simp;omega) ?_);intro v9 w9 ho9 hf9 hb9);go_roundw
        case rel =>
         have hE5:Ext wr ((w4.alloc (.cells #[.slice Ap p.length cp,.int .i64 0,.int .i64 0,.int .i64 0,.bool fb] 43)).alloc (.cells #[.slice Ap p.length cp,.int .i64 0,.int .i64 0,.int .i64 0,.bool fb] 43)):=(HX4.out.alloc' _).alloc' _;have hfr:Fr (fun k'=>some k'=(Value.slice A7 k c7).ownBlock) wr w9:=(Fr.of_ext hE5).trans hf9;refine ⟨k+1,gs ++ [⟨p,0,0,0,fb⟩],xs ++ pV ⟨p,0,0,0,fb⟩ Ap cp,by omega,by go_num,by rw [List.length_append,HGL.out];rfl,ho9,?_,Fr.new_ext ((Fr.of_ext HX.out).trans hfr) (fun b hb=>(HOL.out b hb.symm).1)⟩;refine oY (W:=W) (HOWN.out.len_cast HGL.out.symm rfl) HR.out hE5 ⟨HP2.out.ext (((Ext.refl w4).alloc' _).alloc' _),hpl2,show I64 0 by unfold I64;omega,show I64 0 by unfold I64;omega,show I64 0 by unfold I64;omega⟩ hf9 ?_;rcases hb9 with h | h
         ·exact .inl h
         ·exact .inr ⟨_,h,by simp⟩
        case measure=>simp [intOf];omega
   ·have d2:decide ((k:Int)<(most:Int))=false:=aV8 (by omega)
    go_wp2_with fail;go_ret;exact HDONE.out
  ·have d1:decide (3*(k:Int)+2<(l.length:Int))=false:=aV8 (by omega)
   go_wp2_with fail;go_ret;exact HDONE.out
noncomputable def aVl:Code:=(Tryz.f3.body.bind (aO 0)).getD .skip
noncomputable def aU7:Code:=(Tryz.f3.body.bind (aO 1)).getD .skip
noncomputable def aU6:Code:=(Tryz.f3.body.bind (aO 2)).getD .skip
noncomputable def aU5:Code:=(Tryz.f3.body.bind (aO 3)).getD .skip
noncomputable def aU4:Code:=(Tryz.f3.body.bind (aO 4)).getD .skip
noncomputable def aU3:Code:=(Tryz.f3.body.bind (aO 5)).getD .skip
noncomputable def aVk:Code:=(Tryz.f3.body.bind (aO 6)).getD .skip
noncomputable def aSz:Code:=(Tryz.f3.body.bind (aO 7)).getD .skip
noncomputable def aVj:Code:=(Tryz.f3.body.bind (aO 8)).getD .skip
noncomputable def aU2:Code:=(Tryz.f3.body.bind (aO 9)).getD .skip
noncomputable def aM2:Code:=(Tryz.f3.body.bind (aO 10)).getD .skip
noncomputable def aM1:Code:=(Tryz.f3.body.bind (aO 11)).getD .skip
noncomputable def aM0:Code:=(Tryz.f3.body.bind (aO 12)).getD .skip
noncomputable def aMz:Code:=(Tryz.f3.body.bind (aO 13)).getD .skip
noncomputable def aQj:Code:=(Tryz.f3.body.bind (aO 14)).getD .skip
noncomputable def aQi:Code:=(Tryz.f3.body.bind (aO 15)).getD .skip
noncomputable def aQh:Code:=(Tryz.f3.body.bind (aO 16)).getD .skip
noncomputable def aQg:Code:=(Tryz.f3.body.bind (aO 17)).getD .skip
noncomputable def aQf:Code:=(Tryz.f3.body.bind (aO 18)).getD .skip
noncomputable def aTs:Code:=(Tryz.f3.body.bind (aO 19)).getD .skip
noncomputable def aMy:Code:=(Tryz.f3.body.bind (aO 20)).getD .skip
section
variable {ops:Array Oper}{K:Act->World->Prop}{S:World->Prop}{bf:Nat->Bool}{n:Nat}{is:List Nat}{a:Act}{w:World}{o:Oper}{d gd:Nat}{j:Nat}{want b:Bool}{f:FuncId}{xs:Array Operand}{ats:Array TypeId}{fn:Func}{vs:Array Value}{R:Ending->World->Prop}
theorem d_c (i:Nat)(hr:Region.ready .any ops (mkL ops.size is)=[i])(hi:ops[i]?=some o)(hg:o.guard=none)(hd:o.dst=some d)(hop:o.op=Op.call { callee:=Callee.value (Operand.func f),args:=xs,argTypes:=ats })(hf:Tryz.prog.funcs[f]?=some fn)(hn:(fn.name == "runtime.NumGoroutine")=false) (hb:fn.body.isNone=false)
  (hc:Calls Tryz.prog f vs w R)(hv:xs.map (Ev a)=vs)(h:∀ e w',R e w'->∃ v,e=.returned v∧(bf i=true->S w')∧WD ops K S bf n (i :: is) (Pt a d v) w'):WD ops K S bf (n+1) is a w:=aRt i d hr hi hg hd f xs ats hop fn hf hn hb vs hv (hc.mono h)
theorem aOl (i:Nat)(hr:Region.ready .any ops (mkL ops.size is)=[i])(hi:ops[i]?=some o)(hg:o.guard=some (j,want))(hj:(ops[j]?).bind (fun x=>x.dst)=some gd)(hs:gd<a.tmps.size)(he:Ev a (.tmp gd)=.bool b)(hbw:(b == want)=true)(hd:o.dst=some d)(hop:o.op=Op.call { callee:=Callee.value (Operand.func f),args:=xs,argTypes:=ats })(hf:Tryz.prog.funcs[f]?=some fn)(hn:(fn.name == "runtime.NumGoroutine")=false) (hb:fn.body.isNone=false)
  (hc:Calls Tryz.prog f vs w R)(hv:xs.map (Ev a)=vs)(h:∀ e w',R e w'->∃ v,e=.returned v∧(bf i=true->S w')∧WD ops K S bf n (i :: is) (Pt a d v) w'):WD ops K S bf (n+1) is a w:=aNr i d gd hr hi hg hj hs he hbw hd f xs ats hop fn hf hn hb vs hv (hc.mono h)
end
def GS (b o:Nat)(x:GG)(A:Option Addr)(d:Nat)(w:World):Prop:=w.cell? ⟨b,o,none⟩=some (.slice A x.path.length d)∧w.cell? ⟨b,o+1,none⟩=some (.int .i64 x.kind)∧w.cell? ⟨b,o+2,none⟩=some (.int .i64 x.at_)∧w.cell? ⟨b,o+3,none⟩=some (.int .i64 x.code)∧w.cell? ⟨b,o+4,none⟩=some (.bool x.fresh)
theorem GS.of {b o:Nat}{x:GG}{A:Option Addr}{d:Nat}{w:World}(h:∀ j u,(pV x A d)[j]?=some u->w.cell? ⟨b,o+j,none⟩=some u):GS b o x A d w:=⟨h 0 _ rfl,h 1 _ rfl,h 2 _ rfl,h 3 _ rfl,h 4 _ rfl⟩
section
variable {Q:Exit->Act->World->Prop}{a:Act}{w:World}{gt m gc:Nat}{b bu z z2:Int}{A Ag_:Option Addr}{c cg n i:Nat}{v vk vl vn:Value}{R:World->Prop}
theorem aO9 (hsz:a.tmps.size=177)(e0:Ev a (.tmp 0)=vl)(hc:Calls Tryz.prog 8 #[vl] w (qP w))
  (h:∀ a' A c t w1 W,Ag [1,2,3,4,5] a a'->Nds w1 (fun b=>w.heap.size<=b∧b<w1.heap.size) (.slice A t.length c) t->fJ t->t.length<=14->Ext w w1->Ext w1 W->Blk W w1.heap.size 25 #[.slice A t.length c]->Ev a' (.tmp 13)=.pointer (some ⟨w1.heap.size,0,none⟩)->Q .normal a' W):Code.wp Tryz.prog aU7 Q a w:=by
 conv=>arg 2;whnf
 refine aA ?_
 iterate 1 refine l_v rfl rfl (by simp [execOp,go_sem, *];exact ⟨rfl,rfl⟩) ?_
 refine l_c rfl rfl rfl Tryz.func8 (by rfl) (by rfl) hc (by simp [*]) ?_;rintro e w1 ⟨A,c,t,rfl,h1,h2,h3,h4⟩;refine ⟨_,rfl,?_⟩
 iterate 1 refine l_v rfl rfl (by simp [execOp,go_sem];exact ⟨rfl,rfl⟩) ?_
 have hB:=Blk.new w1 25 #[.slice none 0 0];have hX:Ext w1 (w1.alloc (.cells #[.slice none 0 0] 25)):=(Ext.refl w1).alloc' _;generalize w1.alloc (.cells #[.slice none 0 0] 25)=W at *;refine l_s rfl rfl (by simp [execOp,go_sem,hB.cell,hB.frozen,hsz];rfl) ?_;exact aQ (h _ A c t w1 _ (by (repeat refine .put ?_ rfl);exact .rf) h1 h2 h3 h4 (hX.setCell' (p:=⟨w1.heap.size,0,none⟩) (Nat.le_refl _) _) (hB.set_ 0 _) (by simp [hsz]))
theorem aO8 (hsz:a.tmps.size=177)(e2:Ev a (.tmp 2)=.int .i64 bu)(hc:Calls Tryz.prog 9 #[.int .i64 bu,.int .i64 60] w fun e w'=>e=.returned (.int .i64 b)∧w'=w)
  (h:∀ a',Ag [1,2,3,4,5,13] a a'->Ev a' (.tmp 14)=.int .i64 b->Q .normal a' w):Code.wp Tryz.prog aU6 Q a w:=by
 conv=>arg 2;whnf
 refine aA ?_
 iterate 1 refine l_v rfl rfl (by simp [execOp,go_sem, *];exact ⟨rfl,rfl⟩) ?_
 refine l_c rfl rfl rfl Tryz.func9 (by rfl) (by rfl) hc (by simp [*]) ?_;rintro e w' ⟨rfl,rfl⟩;refine ⟨_,rfl,?_⟩
 iterate 1 refine l_v rfl rfl (by simp [execOp,go_sem, *];exact ⟨rfl,rfl⟩) ?_
 exact aQ (h _ (by (repeat refine .put ?_ rfl);exact .rf) (by simp [*]))
theorem aO7 {R:Value->World->Prop}(hsz:a.tmps.size=177)(e13:Ev a (.tmp 13)=.pointer (some ⟨gt,0,none⟩))(e14:Ev a (.tmp 14)=.int .i64 b)(c13:w.cell? ⟨gt,0,none⟩=some vn)(hc:Calls Tryz.prog 10 #[.agg #[vn],.int .i64 b] w fun e w'=>∃ u,e=.returned (.tuple #[u,.int .i64 z])∧R u w')
  (h:∀ a' u w',Ag [1,2,3,4,5,13,14] a a'->Ev a' (.tmp 15)=u->Ev a' (.tmp 16)=.int .i64 z->R u w'->Q .normal a' w'):Code.wp Tryz.prog aU5 Q a w:=by
 conv=>arg 2;whnf
 refine aA ?_
 iterate 2 refine l_v rfl rfl (by simp [execOp,go_sem, *];exact ⟨rfl,rfl⟩) ?_
 refine l_c rfl rfl rfl Tryz.func10 (by rfl) (by rfl) hc (by simp [*]) ?_;rintro e w' ⟨u,rfl,hR⟩;refine ⟨_,rfl,?_⟩
 iterate 5 refine l_v rfl rfl (by simp [execOp,go_sem,hsz];exact ⟨rfl,rfl⟩) ?_
 exact aQ (h _ u _ (by (repeat refine .put ?_ rfl);exact .rf) (by simp [hsz]) (by simp [hsz]) hR)
theorem aO6 (hsz:a.tmps.size=177)(e13:Ev a (.tmp 13)=.pointer (some ⟨gt,0,none⟩))(e14:Ev a (.tmp 14)=.int .i64 b)(c13:w.cell? ⟨gt,0,none⟩=some (.slice A n c))
  (h:∀ a',Ag [1,2,3,4,5,13,14,15,16] a a'->Ev a' (.tmp 17)=.pointer (some ⟨w.heap.size,0,none⟩)->Q .normal a' (w.alloc (.cells #[.slice A n c,.int .i64 b,.slice none 0 0] 35))):Code.wp Tryz.prog aU4 Q a w:=by
 conv=>arg 2;whnf
 refine aA ?_
 iterate 5 refine l_v rfl rfl (by simp [execOp,go_sem, *];exact ⟨rfl,rfl⟩) ?_
 exact aQ (h _ (by (repeat refine .put ?_ rfl);exact .rf) (by simp [*]))
theorem aO5 (hsz:a.tmps.size=177)(e15:Ev a (.tmp 15)=.pointer (some ⟨gc,0,none⟩))(e16:Ev a (.tmp 16)=.int .i64 0)
  (h:∀ a',Ag [1,2,3,4,5,13,14,15,17] a a'->Ev a' (.tmp 47)=.bool false->Q .normal a' w):Code.wp Tryz.prog aU3 Q a w:=by
 conv=>arg 2;whnf
 refine aA ?_
 iterate 3 refine l_v rfl rfl (by simp [execOp,go_sem, *];exact ⟨rfl,rfl⟩) ?_
 iterate 2 refine l_y rfl rfl rfl (by simp [*]) (by simp [*];rfl) rfl (by simp [execOp,go_sem, *];exact ⟨rfl,rfl⟩) ?_
 iterate 1 refine l_v rfl rfl (by simp [execOp,go_sem, *];exact ⟨rfl,rfl⟩) ?_
 exact aQ (h _ (by (repeat refine .put ?_ rfl);exact .rf) (by simp [*]))
theorem aO4 (hsz:a.tmps.size=177)(e1:Ev a (.tmp 1)=vk)(e13:Ev a (.tmp 13)=.pointer (some ⟨gt,0,none⟩))(c13:w.cell? ⟨gt,0,none⟩=some vn){S:Nat->Prop}(hc:Calls Tryz.prog 11 #[.agg #[vn],vk,.int .i64 20] w (uT S 20 w))
  (h:∀ a' A c gs w',Ag [2,3,4,5,13,14,15,17] a a'->Gvs w' (fun b=>b<w'.heap.size∧S b) (.slice A gs.length c) gs->gs.length<=20->Ext w w'->Ev a' (.tmp 18)=.slice A gs.length c->Q .normal a' w'):Code.wp Tryz.prog aSz Q a w:=by
 conv=>arg 2;whnf
 refine aA ?_
 iterate 2 refine l_v rfl rfl (by simp [execOp,go_sem, *];exact ⟨rfl,rfl⟩) ?_
 refine l_c rfl rfl rfl Tryz.func11 (by rfl) (by rfl) hc (by simp [*]) ?_;rintro e w' ⟨A,c,gs,rfl,h1,h2,h3⟩;refine ⟨_,rfl,?_⟩
 iterate 1 refine l_v rfl rfl (by simp [execOp,go_sem, *];exact ⟨rfl,rfl⟩) ?_
 exact aQ (h _ A c gs w' (by (repeat refine .put ?_ rfl);exact .rf) h1 h2 h3 (by simp [*]))
theorem aO3 (hsz:a.tmps.size=177)(e18:Ev a (.tmp 18)=.slice A n c)(e19:Ev a (.tmp 19)=.int .i64 (i:Int))(h:∀ a',Ag [2,3,4,5,13,14,15,17,18,19] a a'->Ev a' (.tmp 54)=.bool (decide (i<n))->Q .normal a' w):Code.wp Tryz.prog aU2 Q a w:=by
 conv=>arg 2;whnf
 refine aA ?_
 iterate 4 refine l_v rfl rfl (by simp [execOp,go_sem, *];exact ⟨rfl,rfl⟩) ?_
 exact aQ (h _ (by (repeat refine .put ?_ rfl);exact .rf) (by simp [*]))
theorem aLu (hsz:a.tmps.size=177)(e19:Ev a (.tmp 19)=.int .i64 (i:Int))(hw:IntKind.i64.wrap ((i:Int)+1)=(i:Int)+1)(h:∀ a',Ag [2,3,4,5,13,14,15,17,18] a a'->Ev a' (.tmp 19)=.int .i64 ((i+1:Nat):Int)->Q .normal a' w):Code.wp Tryz.prog aM2 Q a w:=by
 conv=>arg 2;whnf
 refine aA ?_
 iterate 3 refine l_v rfl rfl (by simp [execOp,go_sem, *];exact ⟨rfl,rfl⟩) ?_
 exact aQ (h _ (by (repeat refine .put ?_ rfl);exact .rf) (by simp [*]))
theorem aLt {bg og d:Nat}{x:GG}{A':Option Addr}{r1:Bool}{r2:Int}(hsz:a.tmps.size=177)(e15:Ev a (.tmp 15)=.pointer (some ⟨gc,0,none⟩))(e18:Ev a (.tmp 18)=.slice (some ⟨bg,og,none⟩) n c)(e19:Ev a (.tmp 19)=.int .i64 (i:Int))(hi:(i:Int)<(n:Int))(hG:∀ w',Ext w w'->GS bg (og+i*5) x A' d w')
  (hc1:∀ w1,Ext w w1->Calls Tryz.prog 13 #[.agg #[.int .i64 x.kind,.int .i64 x.at_,.int .i64 x.code]] w1 (dC (jL x.kind x.at_ x.code) w1))
  (hc2:∀ w1,Ext w w1->Calls Tryz.prog 12 #[.pointer (some ⟨gc,0,none⟩),.slice A' x.path.length d,jL x.kind x.at_ x.code,.bool x.fresh] w1 fun e w'=>e=.returned (.tuple #[.bool r1,.int .i64 r2])∧R w'∧GS bg (og+i*5) x A' d w')
  (h:∀ a' w',Ag [2,3,4,5,13,14,15,17,18,19] a a'->Ev a' (.tmp 20)=.bool r1->Ev a' (.tmp 21)=.int .i64 r2->R w'->Q .normal a' w'):Code.wp Tryz.prog aM1 Q a w:=by
 conv=>arg 2;whnf
 have hx0:Ext w w.drew:=(Ext.refl w).drew';have hS:=hG _ hx0;refine fS (GS bg (og+i*5) x A' d) (fun _=>true) 23 (by kernel_rfl) (by kernel_rfl) ?_;generalize w.drew=W at *;refine d_t 7 [0,1,2,3,4,5,6,7,8,9,10,12,13,14,15,16] rfl (by kernel_rfl) hS ?_
 iterate 16 refine t_v rfl rfl rfl (fun w hw=>by simp [execOp,go_sem,hw.1,hw.2.1,hw.2.2.1,hw.2.2.2.1,hw.2.2.2.2,hsz,e15,e18,e19,hi];rfl) ?_
 refine t_e ?_;refine d_c 11 (by kernel_rfl) rfl rfl rfl rfl Tryz.func13 (by rfl) (by rfl) (hc1 W hx0) (by simp [hsz]) ?_;rintro e w1 ⟨rfl,hx1⟩;refine ⟨_,rfl,fun _=>hG _ (hx0.trans' hx1),?_⟩;refine d_c 17 (by kernel_rfl) rfl rfl rfl rfl Tryz.func12 (by rfl) (by rfl) (hc2 w1 (hx0.trans' hx1)) (by simp [hsz]) ?_;rintro e w2 ⟨rfl,hR,hS⟩;refine ⟨_,rfl,fun _=>hS,?_⟩;refine d_t 0 [18,19,20,21,22] rfl (by kernel_rfl) hS ?_
 iterate 5 refine t_v rfl rfl rfl (fun w hw=>by simp [execOp,go_sem,hsz];rfl) ?_
 refine t_e ?_;exact aBx (by kernel_rfl) (h _ _ (by (repeat refine .put ?_ rfl);exact .rf) (by simp [hsz]) (by simp [hsz]) hR)
theorem aLs {bg og d:Nat}{x:GG}{A':Option Addr}{r1:Bool}{r2:Int}(hsz:a.tmps.size=177)(e17:Ev a (.tmp 17)=.pointer (some ⟨m,0,none⟩))(e18:Ev a (.tmp 18)=.slice (some ⟨bg,og,none⟩) n c)(e19:Ev a (.tmp 19)=.int .i64 (i:Int))(hi:(i:Int)<(n:Int))(hG:∀ w',Ext w w'->GS bg (og+i*5) x A' d w')
  (hc2:∀ w1,Ext w w1->Calls Tryz.prog 14 #[.pointer (some ⟨m,0,none⟩),.slice A' x.path.length d,.agg #[.int .i64 x.kind,.int .i64 x.at_,.int .i64 x.code],.bool x.fresh] w1 fun e w'=>e=.returned (.tuple #[.bool r1,.int .i64 r2])∧R w'∧GS bg (og+i*5) x A' d w')
  (h:∀ a' w',Ag [2,3,4,5,13,14,15,17,18,19,20,21] a a'->Ev a' (.tmp 22)=.bool r1->Ev a' (.tmp 23)=.int .i64 r2->R w'->Q .normal a' w'):Code.wp Tryz.prog aM0 Q a w:=by
 conv=>arg 2;whnf
 have hx0:Ext w w.drew:=(Ext.refl w).drew';have hS:=hG _ hx0;refine fS (GS bg (og+i*5) x A' d) (fun _=>true) 22 (by kernel_rfl) (by kernel_rfl) ?_;generalize w.drew=W at *;refine d_t 6 [0,1,2,3,4,5,6,7,8,9,10,11,12,13,14,15] rfl (by kernel_rfl) hS ?_
 iterate 16 refine t_v rfl rfl rfl (fun w hw=>by simp [execOp,go_sem,hw.1,hw.2.1,hw.2.2.1,hw.2.2.2.1,hw.2.2.2.2,hsz,e17,e18,e19,hi];rfl) ?_
 refine t_e ?_;refine d_c 16 (by kernel_rfl) rfl rfl rfl rfl Tryz.func14 (by rfl) (by rfl) (hc2 W hx0) (by simp [hsz]) ?_;rintro e w2 ⟨rfl,hR,hS⟩;refine ⟨_,rfl,fun _=>hS,?_⟩;refine d_t 0 [17,18,19,20,21] rfl (by kernel_rfl) hS ?_
 iterate 5 refine t_v rfl rfl rfl (fun w hw=>by simp [execOp,go_sem,hsz];rfl) ?_
 refine t_e ?_;exact aBx (by kernel_rfl) (h _ _ (by (repeat refine .put ?_ rfl);exact .rf) (by simp [hsz]) (by simp [hsz]) hR)
end
section
variable {Q:Exit->Act->World->Prop}{a:Act}{w:World}{gt gs m gc:Nat}{b bu z z2:Int}{A:Option Addr}{c n i:Nat}{vn vm:Value}{R:World->Prop}{V:Value->Prop}
theorem aLr {bg og d:Nat}{p:List Int}{A':Option Addr}{r1 hb:Bool}{r2 s fz:Int}{L:List GE}(hsz:a.tmps.size=177)(e15:Ev a (.tmp 15)=.pointer (some ⟨gc,0,none⟩))(e17:Ev a (.tmp 17)=.pointer (some ⟨m,0,none⟩))(e18:Ev a (.tmp 18)=.slice (some ⟨bg,og,none⟩) n c)(e19:Ev a (.tmp 19)=.int .i64 (i:Int))(e20:Ev a (.tmp 20)=.bool r1)(e21:Ev a (.tmp 21)=.int .i64 r2)(e22:Ev a (.tmp 22)=.bool r1)(e23:Ev a (.tmp 23)=.int .i64 r2)(hi:(i:Int)<(n:Int))
  (hG:∀ w',Ext w w'->w'.cell? ⟨bg,og+i*5,none⟩=some (.slice A' p.length d)∧w'.cell? ⟨m,2,none⟩=some vm)
  (h15:∀ w1,Ext w w1->Calls Tryz.prog 15 #[.pointer (some ⟨gc,0,none⟩)] w1 (dC (.int .i64 s) w1))(h16:∀ w1,Ext w w1->Calls Tryz.prog 16 #[.pointer (some ⟨m,0,none⟩)] w1 (dC (.int .i64 s) w1))(h18:∀ w1,Ext w w1->Calls Tryz.prog 18 #[.pointer (some ⟨gc,0,none⟩)] w1 (nO L w1))
  (h17:∀ w1 P v,Ext w w1->Ens w1 P v L->Calls Tryz.prog 17 #[v,vm] w1 (dC (.bool true) w1))(h19:∀ w1,Ext w w1->Calls Tryz.prog 19 #[.pointer (some ⟨gc,0,none⟩),.slice A' p.length d] w1 (dC (.bool hb) w1))(h20:∀ w1,Ext w w1->Calls Tryz.prog 20 #[.pointer (some ⟨m,0,none⟩),.slice A' p.length d] w1 (dC (.int .i64 fz) w1))(hf:decide (0<=fz)=hb)
  (h:∀ a' w',Ext w w'->Ag [2,3,4,5,13,14,15,17,18,19] a a'->Ev a' (.tmp 140)=.bool false->Q .normal a' w'):Code.wp Tryz.prog aMz Q a w:=by
 conv=>arg 2;whnf
 have hS:Ext w w.drew:=(Ext.refl w).drew';refine fS (Ext w) (fun _=>true) 43 (by kernel_rfl) (by kernel_rfl) ?_;generalize w.drew=W at *;refine d_t 32 [0,1,2,3,4,5,6,7,8,9,11] rfl (by kernel_rfl) hS ?_
 iterate 4 refine t_v rfl rfl rfl (fun w hw=>by simp [execOp,go_sem,hsz,e20,e22];rfl) ?_
 iterate 3 refine t_y rfl rfl rfl rfl (by simp [*]) (by simp [*];rfl) rfl (fun w hw=>by simp [execOp,go_sem,hsz,e21,e23];rfl) ?_
 iterate 2 refine t_v rfl rfl rfl (fun w hw=>by simp [execOp,go_sem,hsz];rfl) ?_
 iterate 2 refine t_y rfl rfl rfl rfl (by simp [*]) (by simp [*];rfl) rfl (fun w hw=>by simp [execOp,go_sem,e15,e17];rfl) ?_
 refine t_e ?_;refine aOl 10 (by kernel_rfl) rfl rfl rfl (by simp [hsz]) (by simp [hsz];rfl) rfl rfl rfl Tryz.func15 (by rfl) (by rfl) (h15 W hS) (by simp [hsz]) ?_;rintro e w1 ⟨rfl,hx⟩;have hS:=hS.trans' hx;refine ⟨_,rfl,fun _=>hS,?_⟩;refine aOl 12 (by kernel_rfl) rfl rfl rfl (by simp [hsz]) (by simp [hsz];rfl) rfl rfl rfl Tryz.func16 (by rfl) (by rfl) (h16 w1 hS) (by simp [hsz]) ?_;rintro e w2 ⟨rfl,hx⟩;have hS:=hS.trans' hx;refine ⟨_,rfl,fun _=>hS,?_⟩;refine d_t 22 [13,14,15,16,18,19,20,21] rfl (by kernel_rfl) hS ?_
 iterate 1 refine t_y rfl rfl rfl rfl (by simp [*]) (by simp [*];rfl) rfl (fun w hw=>by simp [execOp,go_sem,hsz];rfl) ?_
 iterate 2 refine t_v rfl rfl rfl (fun w hw=>by simp [execOp,go_sem,hsz];rfl) ?_
 iterate 5 refine t_y rfl rfl rfl rfl (by simp [*]) (by simp [*];rfl) rfl (fun w hw=>by simp [execOp,go_sem,(hG w hw).2,hsz,e15,e17];rfl) ?_
 refine t_e ?_;refine aOl 17 (by kernel_rfl) rfl rfl rfl (by simp [hsz]) (by simp [hsz];rfl) rfl rfl rfl Tryz.func18 (by rfl) (by rfl) (h18 w2 hS) (by simp [hsz]) ?_;rintro e w3 ⟨Ae,ce,rfl,hE,hx⟩;have hS:=hS.trans' hx;refine ⟨_,rfl,fun _=>hS,?_⟩;refine aOl 22 (by kernel_rfl) rfl rfl rfl (by simp [hsz]) (by simp [hsz];rfl) rfl rfl rfl Tryz.func17 (by rfl) (by rfl) (h17 w3 _ _ hS hE) (by simp [hsz]) ?_;rintro e w4 ⟨rfl,hx⟩;have hS:=hS.trans' hx;refine ⟨_,rfl,fun _=>hS,?_⟩;refine d_t 5 [23,24,25,26,27,28,29,30,31,33,34,35,36,37,38] rfl (by kernel_rfl) hS ?_
 iterate 1 refine t_y rfl rfl rfl rfl (by simp [*]) (by simp [*];rfl) rfl (fun w hw=>by simp [execOp,go_sem,hsz];rfl) ?_
 iterate 2 refine t_v rfl rfl rfl (fun w hw=>by simp [execOp,go_sem,hsz];rfl) ?_
 iterate 12 refine t_y rfl rfl rfl rfl (by simp [*]) (by simp [*];rfl) rfl (fun w hw=>by simp [execOp,go_sem,(hG w hw).1,hsz,e15,e17,e18,e19,hi];rfl) ?_
 refine t_e ?_;refine aOl 32 (by kernel_rfl) rfl rfl rfl (by simp [hsz]) (by simp [hsz];rfl) rfl rfl rfl Tryz.func19 (by rfl) (by rfl) (h19 w4 hS) (by simp [hsz]) ?_;rintro e w5 ⟨rfl,hx⟩;have hS:=hS.trans' hx;refine ⟨_,rfl,fun _=>hS,?_⟩;refine aOl 39 (by kernel_rfl) rfl rfl rfl (by simp [hsz]) (by simp [hsz];rfl) rfl rfl rfl Tryz.func20 (by rfl) (by rfl) (h20 w5 hS) (by simp [hsz]) ?_;rintro e w6 ⟨rfl,hx⟩;have hS:=hS.trans' hx;refine ⟨_,rfl,fun _=>hS,?_⟩;refine d_t 0 [40,41,42] rfl (by kernel_rfl) hS ?_
 iterate 2 refine t_y rfl rfl rfl rfl (by simp [*]) (by simp [*];rfl) rfl (fun w hw=>by simp [execOp,go_sem,hsz,hf];rfl) ?_
 iterate 1 refine t_v rfl rfl rfl (fun w hw=>by simp [execOp,go_sem,hsz];rfl) ?_
 refine t_e ?_;exact aBx (by kernel_rfl) (h _ w6 hS (by (repeat refine .put ?_ rfl);exact .rf) (by simp [hsz]))
theorem aLq {at_ how k:Int}{P:Nat->Prop}(hsz:a.tmps.size=177)(e3:Ev a (.tmp 3)=.int .i64 at_)(e4:Ev a (.tmp 4)=.int .i64 how)(e5:Ev a (.tmp 5)=.int .i64 k)(e13:Ev a (.tmp 13)=.pointer (some ⟨gt,0,none⟩))(c13:w.cell? ⟨gt,0,none⟩=some vn)(hc:Calls Tryz.prog 21 #[.agg #[vn],.int .i64 at_,.int .i64 how,.int .i64 k] w (qQ P w))
  (h:∀ a' A c t w1 W,Ag [2] a a'->Nds w1 (fun b=>P b∨w.heap.size<=b) (.slice A t.length c) t->(∀ x ∈ t,dL x)->Ext w w1->Ext w1 W->Blk W w1.heap.size 25 #[.slice A t.length c]->Ev a' (.tmp 24)=.pointer (some ⟨w1.heap.size,0,none⟩)->Q .normal a' W):Code.wp Tryz.prog aQi Q a w:=by
 conv=>arg 2;whnf
 refine aA ?_
 iterate 4 refine l_v rfl rfl (by simp [execOp,go_sem, *];exact ⟨rfl,rfl⟩) ?_
 refine l_c rfl rfl rfl Tryz.func21 (by rfl) (by rfl) hc (by simp [*]) ?_;rintro e w1 ⟨A,c,t,rfl,h1,h2,h3⟩;refine ⟨_,rfl,?_⟩
 iterate 1 refine l_v rfl rfl (by simp [execOp,go_sem];exact ⟨rfl,rfl⟩) ?_
 have hB:=Blk.new w1 25 #[.slice none 0 0];have hX:Ext w1 (w1.alloc (.cells #[.slice none 0 0] 25)):=(Ext.refl w1).alloc' _;generalize w1.alloc (.cells #[.slice none 0 0] 25)=W at *;refine l_s rfl rfl (by simp [execOp,go_sem,hB.cell,hB.frozen,hsz];rfl) ?_;exact aQ (h _ A c t w1 _ (by (repeat refine .put ?_ rfl);exact .rf) h1 h2 h3 (hX.setCell' (p:=⟨w1.heap.size,0,none⟩) (Nat.le_refl _) _) (hB.set_ 0 _) (by simp [hsz]))
theorem aLp (hsz:a.tmps.size=177)(e2:Ev a (.tmp 2)=.int .i64 bu)(e24:Ev a (.tmp 24)=.pointer (some ⟨gs,0,none⟩))(c24:w.cell? ⟨gs,0,none⟩=some vn)(hc:Calls Tryz.prog 10 #[.agg #[vn],.int .i64 bu] w fun e w'=>∃ u,e=.returned (.tuple #[u,.int .i64 z])∧V u∧Ext w w')
  (h:∀ a' u w',Ag [2,24] a a'->Ev a' (.tmp 25)=u->Ev a' (.tmp 26)=.int .i64 z->V u->Ext w w'->Q .normal a' w'):Code.wp Tryz.prog aQh Q a w:=by
 conv=>arg 2;whnf
 refine aA ?_
 iterate 2 refine l_v rfl rfl (by simp [execOp,go_sem, *];exact ⟨rfl,rfl⟩) ?_
 refine l_c rfl rfl rfl Tryz.func10 (by rfl) (by rfl) hc (by simp [*]) ?_;rintro e w' ⟨u,rfl,hV,hR⟩;refine ⟨_,rfl,?_⟩
 iterate 5 refine l_v rfl rfl (by simp [execOp,go_sem,hsz];exact ⟨rfl,rfl⟩) ?_
 exact aQ (h _ u _ (by (repeat refine .put ?_ rfl);exact .rf) (by simp [hsz]) (by simp [hsz]) hV hR)
theorem aLo (hsz:a.tmps.size=177)(e24:Ev a (.tmp 24)=.pointer (some ⟨gs,0,none⟩))(c24:w.cell? ⟨gs,0,none⟩=some vn)(hc:Calls Tryz.prog 22 #[.agg #[vn]] w (dC (.int .i64 z2) w))
  (h:∀ a' w',Ag [2,25,26] a a'->Ev a' (.tmp 27)=.int .i64 z2->Ext w w'->Q .normal a' w'):Code.wp Tryz.prog aQg Q a w:=by
 conv=>arg 2;whnf
 refine aA ?_
 iterate 1 refine l_v rfl rfl (by simp [execOp,go_sem, *];exact ⟨rfl,rfl⟩) ?_
 refine l_c rfl rfl rfl Tryz.func22 (by rfl) (by rfl) hc (by simp [*]) ?_;rintro e w' ⟨rfl,hx⟩;refine ⟨_,rfl,?_⟩
 iterate 1 refine l_v rfl rfl (by simp [execOp,go_sem,hsz];exact ⟨rfl,rfl⟩) ?_
 exact aQ (h _ _ (by (repeat refine .put ?_ rfl);exact .rf) (by simp [hsz]) hx)
theorem aLn (hsz:a.tmps.size=177)(e2:Ev a (.tmp 2)=.int .i64 bu)(e27:Ev a (.tmp 27)=.int .i64 z2)(h:∀ a',Ag [25,26,27] a a'->Ev a' (.tmp 163)=.bool (decide (z2=0∧(bu<0∨1099511627776<bu)))->Q .normal a' w):Code.wp Tryz.prog aQf Q a w:=by
 conv=>arg 2;whnf
 refine aA ?_
 by_cases h0:z2=0
 ·by_cases h1:bu<0
  ·iterate 3 refine l_v rfl rfl (by simp [execOp,go_sem, *];exact ⟨rfl,rfl⟩) ?_
   iterate 3 refine l_y rfl rfl rfl (by simp [*]) (by simp [*];rfl) rfl (by simp [execOp,go_sem, *];exact ⟨rfl,rfl⟩) ?_
   iterate 2 refine l_n rfl rfl rfl (by simp [*]) (by simp [*];rfl) rfl ?_
   iterate 1 refine l_y rfl rfl rfl (by simp [*]) (by simp [*];rfl) rfl (by simp [execOp,go_sem, *];exact ⟨rfl,rfl⟩) ?_
   iterate 1 refine l_v rfl rfl (by simp [execOp,go_sem, *];exact ⟨rfl,rfl⟩) ?_
   exact aQ (h _ (by (repeat refine .put ?_ rfl);exact .rf) (by simp [*]))
  ·iterate 3 refine l_v rfl rfl (by simp [execOp,go_sem, *];exact ⟨rfl,rfl⟩) ?_
   iterate 3 refine l_y rfl rfl rfl (by simp [*]) (by simp [*];rfl) rfl (by simp [execOp,go_sem, *];exact ⟨rfl,rfl⟩) ?_
   iterate 2 refine l_y rfl rfl rfl (by simp [*]) (by simp [hsz];rfl) rfl (by simp [execOp,go_sem, *];exact ⟨rfl,rfl⟩) ?_
   iterate 1 refine l_y rfl rfl rfl (by simp [*]) (by simp [*];rfl) rfl (by simp [execOp,go_sem, *];exact ⟨rfl,rfl⟩) ?_
   iterate 1 refine l_v rfl rfl (by simp [execOp,go_sem, *];exact ⟨rfl,rfl⟩) ?_
   exact aQ (h _ (by (repeat refine .put ?_ rfl);exact .rf) (by simp [*]))
 ·have h0':(z2 == 0)=false:=aV5 h0
  iterate 3 refine l_v rfl rfl (by simp [execOp,go_sem, *];exact ⟨rfl,rfl⟩) ?_
  iterate 3 refine l_n rfl rfl rfl (by simp [*]) (by simp [*];rfl) rfl ?_
  iterate 2 refine l_u rfl rfl rfl (by simp [*]) (by simp [*]) ?_
  iterate 1 refine l_n rfl rfl rfl (by simp [*]) (by simp [*];rfl) rfl ?_
  iterate 1 refine l_v rfl rfl (by simp [execOp,go_sem, *];exact ⟨rfl,rfl⟩) ?_
  exact aQ (h _ (by (repeat refine .put ?_ rfl);exact .rf) (by simp [*]))
theorem aLm {u:Value}(hsz:a.tmps.size=177)(e25:Ev a (.tmp 25)=u)(e26:Ev a (.tmp 26)=.int .i64 z)(e27:Ev a (.tmp 27)=.int .i64 z)(hu:(z=0∧∃ g,u=.pointer (some ⟨g,0,none⟩))∨(z ≠ 0∧u=.pointer none))(hc:Calls Tryz.prog 23 #[] w (dC (.bool true) w))
  (h:∀ a' w',Ag [] a a'->Ev a' (.tmp 12)=.bool true->Ext w w'->Q .normal a' w'):Code.wp Tryz.prog aMy Q a w:=by
 have hR:∀ e w',dC (.bool true) w e w'->e=.returned (.bool true)∧Ext w w':=fun _ _ h=>h
 rcases hu with ⟨rfl,g,rfl⟩ | ⟨hz,rfl⟩
 ·conv=>arg 2;whnf
  refine aA ?_
  iterate 4 refine l_v rfl rfl (by simp [execOp,go_sem, *];exact ⟨rfl,rfl⟩) ?_
  iterate 5 refine l_y rfl rfl rfl (by simp [*]) (by simp [*];rfl) rfl (by simp [execOp,go_sem, *];exact ⟨rfl,rfl⟩) ?_
  iterate 2 refine l_v rfl rfl (by simp [execOp,go_sem, *];exact ⟨rfl,rfl⟩) ?_
  refine aU9 rfl rfl rfl (by simp [*]) (by simp [*];rfl) rfl rfl Tryz.func23 (by rfl) (by rfl) hc (by simp) ?_;rintro e w' ⟨rfl,hx⟩;refine ⟨_,rfl,?_⟩
  iterate 2 refine l_v rfl rfl (by simp [execOp,go_sem,hsz];exact ⟨rfl,rfl⟩) ?_
  exact aQ (h _ w' (by (repeat refine .put ?_ rfl);exact .rf) (by simp [hsz]) hx)
 ·have hz':(z == 0)=false:=aV5 hz
  conv=>arg 2;whnf
  refine aA ?_
  iterate 4 refine l_v rfl rfl (by simp [execOp,go_sem, *];exact ⟨rfl,rfl⟩) ?_
  iterate 5 refine l_y rfl rfl rfl (by simp [*]) (by simp [*];rfl) rfl (by simp [execOp,go_sem, *];exact ⟨rfl,rfl⟩) ?_
  iterate 2 refine l_v rfl rfl (by simp [execOp,go_sem, *];exact ⟨rfl,rfl⟩) ?_
  refine aU9 rfl rfl rfl (by simp [*]) (by simp [*];rfl) rfl rfl Tryz.func23 (by rfl) (by rfl) hc (by simp) ?_;rintro e w' ⟨rfl,hx⟩;refine ⟨_,rfl,?_⟩
  iterate 2 refine l_v rfl rfl (by simp [execOp,go_sem,hsz];exact ⟨rfl,rfl⟩) ?_
  exact aQ (h _ w' (by (repeat refine .put ?_ rfl);exact .rf) (by simp [hsz]) hx)
end
end Go.Proofs.YtkoeecdjijfjnaaGreat
