/- Contracts and laws. Conditions: none. -/
import Derived.Test.YtkoeecdjijfjnaaGreatSI
set_option linter.all false
set_option maxRecDepth 100000
set_option maxHeartbeats 8000000
namespace Go.Proofs.YtkoeecdjijfjnaaGreat
open Go.RowKit
def a0x (n:Nat)(w:World)(e:Ending)(w':World):Prop:=∃ (A:Option Addr)(c:Nat)(l:List Int),e=.returned (.slice A l c)∧Ints w' (fun b=>w.heap.size<=b) (.slice A l c) l∧l=n∧Ext w w'
def a0z (n:Nat)(W:World)(v i:Value)(wr:World):Prop :=
 ∃ (k:Nat) (l:List Int),k<=n∧i=↑k∧l=k∧(∀ x ∈ l,I64 x)∧wr.ownsRow W 3 1 v k (l.map (Value.int .i64))∧Ext W wr
structure GG where
 path:List Int
 kind:Int
 at_:Int
 code:Int
 fresh:Bool
instance:Inhabited GG:=⟨⟨[],0,0,0,false⟩⟩
structure GAt (w:World)(P:Nat->Prop)(x:GG)(A:Option Addr)(c:Nat):Prop where
 path:Ints w P (.slice A x.path c) x.path
 short:x.path.length<=256
 kind:I64 x.kind
 at_:I64 x.at_
 code:I64 x.code
def sH (x:GG)(A:Option Addr)(c:Nat):List Value:=[.slice A x.path c,x.kind,x.at_,x.code,x.fresh]
def RGg (w:World)(P:Nat->Prop)(x:GG)(cs:List Value):Prop:=∃ A c,cs=sH x A c∧GAt w P x A c
section
variable {w w':World}{P Q:Nat->Prop}
theorem GAt.carry {x A c}(h:GAt w P x A c)(hk:aB P w w')(hPQ:∀ b,b<w.heap.size->P b->Q b):GAt w' Q x A c:=⟨h.path.carry hk hPQ,h.short,h.kind,h.at_,h.code⟩
theorem aL3:aJl 5 RGg:=⟨fun _ _ _ _ h=>by obtain ⟨A,c,rfl,_⟩:=h;rfl,fun _ _ _ _ _ _ h hk hPQ=>by obtain ⟨A,c,e,h⟩:=h;exact ⟨A,c,e,h.carry hk hPQ⟩⟩
end
def Gvs (w:World)(P:Nat->Prop)(v:Value)(L:List GG):Prop:=Lst w P 5 (RGg w P) v L
section
variable {w w':World}{P Q:Nat->Prop}
theorem Gvs.carry {v L}(h:Gvs w P v L)(hk:aB P w w')(hPQ:∀ b,b<w.heap.size->P b->Q b):Gvs w' Q v L:=Lst.carry h I hk hPQ (fun x _ cs hx=>aL3.carry _ _ _ _ _ _ hx hk hPQ)
theorem Gvs.get {A n c L}(h:Gvs w P (.slice A n c) L){i:Nat}(hi:i<L):∃ b off A' d,A=some ↑(qt b off)∧P b∧GAt w P (L.getD i default) A' d∧(∀ j u,(sH (L.getD i default) A' d)[j]?=some u->qc w b (off+i*5+j) u):=by
 obtain ⟨b,off,c',cs,e,hb,_,_,⟨A',d,rfl,hv⟩,hc⟩:=Lst.at_ (aL3.len w P) h default hi;injection e with e _ _;exact ⟨b,off,A',d,e,hb,hv,hc⟩
end
theorem Tryz.info43:(Tryz.prog.info? 43).map (fun i=>(i.zero,i.size,i.bytes))=some (some (.agg #[qn,qz,qz,qz,false]),5,56):=U
def aZg (most:Nat)(w:World)(e:Ending)(w':World):Prop:=∃ A c gs,e=.returned (.slice A gs.length c)∧Gvs w' (fun b=>b<w'.heap.size) (.slice A gs.length c) gs∧gs<=most∧Ext w w'
def aWr (S:Nat->Prop)(most:Nat)(w:World)(e:Ending)(w':World):Prop:=∃ A c gs,e=.returned (.slice A gs.length c)∧Gvs w' (fun b=>b<w'.heap.size∧S b) (.slice A gs.length c) gs∧gs<=most∧Ext w w'
def aZd (S:Nat->Prop)(most:Nat)(W:World)(v i:Value)(wr:World):Prop :=
 ∃ (k:Nat) (gs:List GG) (xs:List Value),k<=most∧i=↑k∧gs=k∧wr.ownsRow W 43 5 v k xs∧RL (RGg wr (fun b=>b<wr.heap.size∧some b ≠ v.ownBlock∧S b)) gs xs∧Ext W wr
theorem rE {S:Nat->Prop}{W wr w1 w4:World}{v v':Value}{gs:List GG}{xs x A c}(ho:wr.ownsRow W 43 5 v gs xs)(hr:RL (RGg wr (fun b=>b<wr.heap.size∧some b ≠ v.ownBlock∧S b)) gs xs)(h1:Ext wr w1)(hg:GAt w1 (fun b=>some b ≠ v.ownBlock∧S b) x A c)
  (hf:Fr (fun k=>some k=v.ownBlock) w1 w4)(hown:v'.ownBlock=v.ownBlock∨∃ b,v'.ownBlock=some b∧w1<=b):RL (RGg w4 (fun b=>b<w4.heap.size∧some b ≠ v'.ownBlock∧S b)) (gs ++ [x]) (xs ++ sH x A c):=by
 have hs1:=h1.size;have hs4:=hf.size
 have hne:∀ b,b<w1.heap.size->some b ≠ v.ownBlock->some b ≠ v'.ownBlock:=by
  intro b hb h;rcases hown with e | ⟨b',e,h'⟩
  ·rw [e];exact h
  ·rw [e];intro e';injection e' with e';omega
 refine (hr.move aL3 (fun b hb h=>(hf.block b I (fun e=>h.2.1 e)).trans (h1.block b hb)) (fun b hb h=>⟨I,hne b I h.2.1,h.2.2⟩)).append (RL.one ⟨A,c,rfl,hg.carry (fun b hb h=>hf.block b hb (fun e=>h.1 e)) (fun b hb h=>⟨I,hne b hb h.1,h.2⟩)⟩)
def eW:List GN:=[⟨1,⟨#[]⟩,0,9,[],[],[],[],.mk 0 0 ⟨#[]⟩ []⟩]
theorem aHl:aL eW [5]=true:=U
theorem aCc:aL eW [3]=true:=U
theorem aHk:aL eW [8]=true:=U
theorem uR:aY eW=0:=U
theorem uS:∀ x ∈ eW,iD x:=by
 intro x hx;simp only [eW,List.mem_singleton] at hx;subst hx;refine ⟨O,O,O,O,eq,O⟩
def ent (z:Int)(f:Bool):GE:=mkE [z] 0 0 0 f
def lc1:List GE:=lB (aL eW) 7 [] (ent 5 false)
def lc2:List GE:=lB (aL eW) 7 lc1 (ent 3 false)
def lc3:List GE:=lB (aL eW) 7 lc2 (ent 8 false)
def ld3:List GE:=lB (aL eW) 7 lc2 (ent 8 true)
def ld4:List GE:=lB (aL eW) 7 ld3 (ent 3 false)
theorem aUu:lc1=[ent 5 false]:=U
theorem aUt:lc2=[ent 3 false,ent 5 false]:=U
theorem aUs:lc3=[ent 3 false,ent 5 false]:=U
theorem aUr:ld3=[ent 3 false,ent 8 true]:=U
theorem aM9:ld4=[{ ent 3 false with hits:=2 },ent 8 true]:=U
theorem ll1:lc1.length<=10:=by rw [aUu];decide
theorem ll2:lc2.length<=10:=by rw [aUt];decide
theorem ll3:lc3.length=2:=by rw [aUs];rfl
theorem a17:ld3.length<=10:=by rw [aUr];decide
theorem a16:ld4.length=2:=by rw [aM9];rfl
theorem lb1:tO (aL eW) 7 [] (ent 5 false)=true:=U
theorem lb2:tO (aL eW) 7 lc1 (ent 3 false)=true:=U
theorem lb3:tO (aL eW) 7 lc2 (ent 8 false)=false:=U
theorem a19:tO (aL eW) 7 lc2 (ent 8 true)=true:=U
theorem a18:tO (aL eW) 7 ld3 (ent 3 false)=false:=U
theorem li (z f)(h:aL eW [z]=true):yU (aL eW) (ent z f)=0:=by
 unfold yU;rw [show (ent z f).path=[z] from rfl,h];rfl
theorem aQa:bC lc3=6:=U
theorem a2b:gE [5] lc3=true:=U
theorem aY1:gE [5] ld4=false:=U
theorem aY0:gE [8] ld4=true:=U
noncomputable def R23:=RG Tryz.f23
noncomputable abbrev aNl:Code:=.seq (R23 13) (.seq (.seq (R23 14) (.cond (.tmp 87) (.seq (R23 15) .ret) .skip)) (.seq (R23 16) .ret))
noncomputable abbrev aVe:Code:=.seq (R23 6) (.seq (R23 7) (.seq (R23 8) (.seq (R23 9) (.seq (R23 10) (.seq (R23 11) (.seq (R23 12) aNl))))))
noncomputable abbrev aNi:Code:=.seq (R23 0) (.seq (R23 1) (.seq (R23 2) (.seq (R23 3) (.seq (.seq (R23 4) (.cond (.tmp 39) (.seq (R23 5) .ret) .skip)) aVe))))
theorem aVq:Tryz.f23.body=some aNi:=U
theorem qI (w:World)(z)(hz:I64 z):Ints (w.alloc (qk #[↑z] 3)) (fun b=>b=w.heap.size) (.slice (qp w) 1 1) [z] :=
 ⟨some ↑(qp w),1,rfl,ab _,O,dw,O,fun _=>⟨w.heap.size,0,rfl,rfl,fun j u hu=>by rw [iA];simpa using hu⟩⟩
theorem iY {n1 n2 L1 L2 L1' g1 g2 B w r}(h:gC eW n1 n2 7 7 L1 L2 g1 g2 B w)(z f)(hz:I64 z)(hw:aL eW [z]=true)(hr:tO (aL eW) 7 L1 (ent z f)=r)(hL:lB (aL eW) 7 L1 (ent z f)=L1')(hfew:L1.length<=10) :
  Calls Tryz.prog 12 #[qp g1.c,.slice (qp w) 1 1,zY 0 0 0,f] (w.alloc (qk #[↑z] 3)) fun e w'=>e=.returned (.tuple #[r,qz])∧(gC eW n1 n2 7 7 L1' L2 g1 g2 B w'∧Fr (fun k=>B<=k) w w'):=by
 refine (h.add ((aq w).alloc' _) (qI w z hz) (fun i hi=>.inr I) 0 0 0 f cm cm cm I O).mono ?_;rintro e w' ⟨rfl,h1,h2⟩;subst hr hL;refine ⟨?_,h1,(ar ((aq w).alloc' _)).trans h2⟩;rw [show mkE [z] 0 0 0 f=ent z f from rfl,li z f hw]
section
variable {a:Act}{w ws:World}{g1 g2:CA}{n1 n2:Value}{B:Nat}{R:Exit->Act->World->Prop}
theorem aUq (sz:a.tmps.size=125)(df:a.defers=[])(e2:qq a 2 (qp g1.c))(e4:qq a 4 (qp g2.c))(e6:qq a 6 false)(e8:qq a 8 true)(e10:qq a 10 false)(h:gC eW n1 n2 7 7 lc3 ld4 g1 g2 B w)(hF:Fr (fun k=>B<=k) ws w)(hB:ws<=B)
  (hQ:∀ a' w',a'.defers=[]->qq a' 0 true->Ext ws w'->R .ret a' w'):qw aNl R a w:=by
 refine rS ?_;refine lv ?_;refine lc Tryz.func54 h.swap.entriesOf ?_;rintro e w1 ⟨A,c,rfl,hE,hx⟩;refine ⟨_,rfl,?_⟩;refine lv ?_;refine lE a [2,4,6,8,10] 12 ?_;intro a1 u1 e12;have h1:=h.ext hx;rw [a16] at e12;rw [aM9] at hE;obtain ⟨b,off,A',d,rfl,-,-,hgc⟩:=hE.get (i:=0) cq;have sz1:=u1.sz.trans sz;have f2:=u1.get 2 e2;refine wp_seq (rS ?_);iterate 4 refine lv ?_
 refine ly ?_;refine lcg Tryz.func54 h1.entriesOf ?_;rintro e w2 ⟨A2,c2,rfl,-,hx2⟩;have l3:=ll3;refine ⟨_,rfl,?_⟩;iterate 2 refine ly ?_
 refine lv ?_;refine lE a1 [2,4,6,8,10,12] 87 ?_;intro a2 u2 e87;refine wp_cond_false e87 (wp_skip ?_);have h2:=h1.ext hx2;have hits:=aA hx2 (hgc 5 (.int .i64 2) rfl);have bt:=h2.bytes;rw [aQa] at bt;have sz2:=u2.sz.trans sz1;have g2':=u2.get 2 f2;have g4:=u2.get 4 (u1.get 4 e4);have g6:=u2.get 6 (u1.get 6 e6);have g8:=u2.get 8 (u1.get 8 e8);have g10:=u2.get 10 (u1.get 10 e10);have g12:=u2.get 12 e12;refine rS ?_;iterate 3 refine lv ?_
 refine ly ?_;iterate 2 refine lv ?_
 iterate 2 refine ly ?_
 iterate 2 refine lv ?_
 refine ly ?_;refine lcg Tryz.func15 bt ?_;rintro e w3 ⟨rfl,hx3⟩;refine ⟨_,rfl,?_⟩;refine ly ?_;iterate 2 refine lv ?_
 iterate 2 refine ly ?_
 have hx3':=hx3.alloc' (qk #[.int .i64 5] 3);have q:=(h2.ext hx3').has (qI w3 5 cm);rw [a2b] at q;refine lcg Tryz.func19 q ?_;rintro e w4 ⟨rfl,hx4⟩;refine ⟨_,rfl,?_⟩;iterate 2 refine lv ?_
 iterate 2 refine ly ?_
 have hx4':=(hx3'.trans' hx4).alloc' (qk #[.int .i64 5] 3);have q:=(h2.ext hx4').swap.has (qI w4 5 cm);rw [aY1] at q;refine lcg Tryz.func19 q ?_;rintro e w5 ⟨rfl,hx5⟩;refine ⟨_,rfl,?_⟩;refine ly ?_;iterate 2 refine lv ?_
 iterate 2 refine ly ?_
 have hx5':=(hx4'.trans' hx5).alloc' (qk #[.int .i64 8] 3);have q:=(h2.ext hx5').swap.has (qI w5 8 cm);rw [aY0] at q;refine lcg Tryz.func19 q ?_;rintro e w6 ⟨rfl,hx6⟩;refine ⟨_,rfl,?_⟩;have hx6':=hx5'.trans' hx6;have hits6:=aA hx6' hits;iterate 2 refine lv ?_
 iterate 5 refine ly ?_
 iterate 2 refine lv ?_
 refine lE a2 [] 0 ?_;intro a3 u3 e0;refine wp_ret (hQ a3 w6 (u3.df.trans (u2.df.trans (u1.df.trans df))) e0 ?_);exact (((hF.trans (.of_ext hx)).trans (.of_ext hx2)).trans (.of_ext hx6')).new_ext (fun b hb=>by omega)
theorem aYx (sz:a.tmps.size=125)(df:a.defers=[])(e2:qq a 2 (qp g1.c))(e4:qq a 4 (qp g2.c))(h:gC eW n1 n2 7 7 [] [] g1 g2 B w)(hF:Fr (fun k=>B<=k) ws w)(hB:ws<=B)
  (hQ:∀ a' w',a'.defers=[]->qq a' 0 true->Ext ws w'->R .ret a' w'):qw aVe R a w:=by
 refine rS ?_;iterate 3 refine lv ?_
 refine lc Tryz.func12 (iY (L1':=lc1) h 5 false cm aHl lb1 rfl O) ?_ (hv:=by simp [zY, *]);rintro e w1 ⟨rfl,h1,f1⟩;refine ⟨_,rfl,?_⟩;refine lN a [2,4] ?_;intro a1 u1;refine u1.c2 sz df e2 e4 fun sz df e2 e4=>?_
 refine rS ?_;iterate 3 refine lv ?_
 refine lc Tryz.func12 (iY (L1':=lc2) h1 3 false cm aCc lb2 rfl ll1) ?_ (hv:=by simp [zY, *]);rintro e w2 ⟨rfl,h2,f2⟩;refine ⟨_,rfl,?_⟩;refine lN a1 [2,4] ?_;intro a2 u2;refine u2.c2 sz df e2 e4 fun sz df e2 e4=>?_
 refine rS ?_;iterate 3 refine lv ?_
 refine lc Tryz.func12 (iY (L1':=lc3) h2 8 false cm aHk lb3 rfl ll2) ?_ (hv:=by simp [zY, *]);rintro e w3 ⟨rfl,h3,f3⟩;refine ⟨_,rfl,?_⟩;iterate 5 refine lv ?_
 refine lE a2 [2,4] 6 ?_;intro a3 u3 e6;refine u3.c2 sz df e2 e4 fun sz df e2 e4=>?_
 refine rS ?_;iterate 3 refine lv ?_
 refine lc Tryz.func12 (iY (L1':=lc1) h3.swap 5 false cm aHl lb1 rfl O) ?_ (hv:=by simp [zY, *]);rintro e w4 ⟨rfl,h4,f4⟩;refine ⟨_,rfl,?_⟩;refine lN a3 [2,4,6] ?_;intro a4 u4;refine u4.c3 sz df e2 e4 e6 fun sz df e2 e4 e6=>?_
 refine rS ?_;iterate 3 refine lv ?_
 refine lc Tryz.func12 (iY (L1':=lc2) h4 3 false cm aCc lb2 rfl ll1) ?_ (hv:=by simp [zY, *]);rintro e w5 ⟨rfl,h5,f5⟩;refine ⟨_,rfl,?_⟩;refine lN a4 [2,4,6] ?_;intro a5 u5;refine u5.c3 sz df e2 e4 e6 fun sz df e2 e4 e6=>?_
 refine rS ?_;iterate 3 refine lv ?_
 refine lc Tryz.func12 (iY (L1':=ld3) h5 8 true cm aHk a19 rfl ll2) ?_ (hv:=by simp [zY, *]);rintro e w6 ⟨rfl,h6,f6⟩;refine ⟨_,rfl,?_⟩;iterate 5 refine lv ?_
 refine lE a5 [2,4,6] 8 ?_;intro a6 u6 e8;refine u6.c3 sz df e2 e4 e6 fun sz df e2 e4 e6=>?_
 refine rS ?_;iterate 3 refine lv ?_
 refine lc Tryz.func12 (iY (L1':=ld4) h6 3 false cm aCc a18 rfl a17) ?_ (hv:=by simp [zY, *]);rintro e w7 ⟨rfl,h7,f7⟩;refine ⟨_,rfl,?_⟩;iterate 5 refine lv ?_
 refine lE a6 [2,4,6,8] 10 ?_;intro a7 u7 e10;exact aUq (u7.sz.trans sz) (u7.df.trans df) (u7.get 2 e2) (u7.get 4 e4) (u7.get 6 e6) (u7.get 8 e8) e10 h7.swap (((((((hF.trans f1).trans f2).trans f3).trans f4).trans f5).trans f6).trans f7) hB hQ
theorem aLc (sz:a.tmps.size=125)(df:a.defers=[])(hQ:∀ a' w',a'.defers=[]->qq a' 0 true->Ext w w'->R .ret a' w'):qw aNi R a w:=by
 refine rS ?_;refine lv ?_;refine lN a [] ?_;intro a1 u1;refine u1.c0 sz df fun sz df=>?_
 obtain ⟨W1,hW1⟩:∃ W1,W1=w.alloc (qk (aK (⟨1,⟨#[]⟩,0,9,[],[],[],[],.mk 0 0 ⟨#[]⟩ []⟩:GN) ⟨none,0,none,0,none,0,none,0,none,0⟩).toArray 87):=⟨_,rfl⟩;have xs1:W1.heap.size=w+1:=by rw [hW1];exact World.size_alloc _ _
 have x1:Ext w W1:=by rw [hW1];exact (aq w).alloc' _
 have nd1:Nds W1 (fun b=>b=w.heap.size) (.slice (qp w) 1 1) eW:=by
  refine ⟨some ↑(qp w),1,aK (⟨1,⟨#[]⟩,0,9,[],[],[],[],.mk 0 0 ⟨#[]⟩ []⟩:GN) ⟨none,0,none,0,none,0,none,0,none,0⟩,rfl,ab _,by simp [eW],⟨rfl,fun _=>⟨w.heap.size,0,rfl,rfl,fun j u hu=>by rw [hW1,iA];simpa using hu⟩⟩,?_⟩;exact RL.one ⟨⟨none,0,none,0,none,0,none,0,none,0⟩,rfl,⟨cm,dh,cm,cm,Ints.nil,nW.nil,bT.nil,Ints.nil,VAt.noKids cm cm cq⟩⟩
 refine rS ?_;refine lv ?_;refine lv (w1:=W1) (v:=.slice (qp w) 1 1) ?_ rfl rfl (by rw [hW1];simp [execOp,go_sem, *];rfl);clear hW1;have b2:=az W1 25 #[qn] xs1.symm;have x2:Ext W1 (W1.alloc (qk #[qn] 25)):=(aq W1).alloc' _;iterate 2 refine lv ?_
 generalize W1.alloc (qk #[qn] 25)=W2 at *;refine ls ?_ rfl rfl (by simp [execOp,go_sem,b2.cell,b2.frozen,sz];rfl);refine lE a1 [] 1 ?_;intro a2 u2 e1;replace b2:=b2.set_ 0 (.slice (qp w) 1 1);replace x2:Ext W1 (W2.setCell (qp (w+1)) (.slice (qp w) 1 1)):=x2.setCell' (p:=qp (w+1)) (by show W1.heap.size<=w+1;omega) _;refine u2.c0 sz df fun sz df=>?_
 refine rS ?_;generalize W2.setCell (qp (w+1)) (.slice (qp w) 1 1)=W2 at *;have hs2:=x2.size;have c2:=b2.cell' 0 rfl;refine lv ?_;refine lc Tryz.func10 (mQ eW (fun b=>b=w.heap.size) _ 7 W2 (fun k hk=>by omega) (nd1.ext x2) uS uR I) ?_;rintro e w3 ⟨g1,P1,n1,rfl,hm1,hx3⟩;refine ⟨_,rfl,?_⟩;iterate 5 refine lv ?_
 refine lE2 a2 [1] 2 3 ?_;intro a3 u3 e2 e3;refine u3.c1 sz df e1 fun sz df e1=>?_
 have hs3:=hx3.size;replace c2:=(b2.ext hx3).cell' 0 rfl;refine rS ?_;refine lv ?_;refine lc Tryz.func10 (mQ eW (fun b=>b=w.heap.size) _ 7 w3 (fun k hk=>by omega) (nd1.ext (x2.trans' hx3)) uS uR I) ?_;rintro e w4 ⟨g2,P2,n2,rfl,hm2,hx4⟩;refine ⟨_,rfl,?_⟩;iterate 5 refine lv ?_
 refine lE2 a3 [2,3] 4 5 ?_;intro a4 u4 e4 e5;refine u4.c2 sz df e2 e3 fun sz df e2 e3=>?_
 refine wp_seq (rS ?_);iterate 3 refine lv ?_
 iterate 2 refine ly ?_
 iterate 2 refine lv ?_
 iterate 2 refine ly ?_
 iterate 2 refine lv ?_
 iterate 2 refine ly ?_
 refine lv ?_;refine lE a4 [2,4] 39 ?_;intro a5 u5 e39;refine wp_cond_false e39 (wp_skip ?_);exact aYx (u5.sz.trans sz) (u5.df.trans df) (u5.get 2 e2) (u5.get 4 e4) (gC.two hm1 (ab _) hx4 hm2) (.of_ext (((x1.trans' x2).trans' hx3).trans' hx4)) I hQ
end
theorem aHj (w):qg 23 #[] w (dI true w):=by
 refine calls_of_wp Tryz.func23 aVq (aLc ?_ rfl ?_)
 ·simp [Tryz.ntmps23]
 ·intro a' w' h1 h2 h3
  refine bodyPost_ret (v:=true) ?_ h1 ⟨rfl,h3⟩;have h5:a'.tmps[0]?.getD undef=.bool true:=by rw [<- h2];simp [Ev,Act.eval]
  simp [results,Tryz.results23,go_sem,h5]
noncomputable def a36:=RG Tryz.f3 0
noncomputable def a35:=RG Tryz.f3 1
noncomputable def a34:=RG Tryz.f3 2
noncomputable def a33:=RG Tryz.f3 3
noncomputable def a32:=RG Tryz.f3 4
noncomputable def a31:=RG Tryz.f3 5
noncomputable def a30:=RG Tryz.f3 6
noncomputable def aZ6:=RG Tryz.f3 7
noncomputable def a3z:=RG Tryz.f3 8
noncomputable def a3y:=RG Tryz.f3 9
noncomputable def a1t:=RG Tryz.f3 10
noncomputable def a1s:=RG Tryz.f3 11
noncomputable def a1r:=RG Tryz.f3 12
noncomputable def a1q:=RG Tryz.f3 13
noncomputable def a1p:=RG Tryz.f3 14
noncomputable def a1o:=RG Tryz.f3 15
noncomputable def a1n:=RG Tryz.f3 16
noncomputable def a1m:=RG Tryz.f3 17
noncomputable def a1l:=RG Tryz.f3 18
noncomputable def a1k:=RG Tryz.f3 19
noncomputable def a1j:=RG Tryz.f3 20
section
variable {ops:Array Oper}{K:Act->World->Prop}{S:World->Prop}{bf:Nat->Bool}{n:Nat}{is:List Nat}{a:Act}{w:World}{o:Oper}{d gd:Nat}{j:Nat}{want b:Bool}{f:FuncId}{xs:Array Operand}{ats:Array TypeId}{fn:Func}{vs:Array Value}{R:Ending->World->Prop}
theorem d_c (i:Nat)(hr:Region.ready .any ops (mkL ops.size is)=[i])(hi:ops[i]?=some o)(hg:o.guard=none)(hd:o.dst=some d)(hop:o.op=Op.call { callee:=Callee.value (Operand.func f),args:=xs,argTypes:=ats })(hf:Tryz.prog.funcs[f]?=some fn)(hn:(fn.name == "runtime.NumGoroutine")=false) (hb:fn.body.isNone=false)
  (hc:qg f vs w R)(hv:xs.map (Ev a)=vs)(h:∀ e w',R e w'->∃ v,e=.returned v∧(bf i=true->S w')∧WD ops K S bf n (i :: is) (Pt a d v) w'):WD ops K S bf (n+1) is a w:=aNd i d hr hi hg hd f xs ats hop fn hf hn hb vs hv (hc.mono h)
theorem a0n (i:Nat)(hr:Region.ready .any ops (mkL ops.size is)=[i])(hi:ops[i]?=some o)(hg:o.guard=some (j,want))(hj:(ops[j]?).bind (fun x=>x.dst)=some gd)(hs:gd<a.tmps.size)(he:Ev a (.tmp gd)=.bool b)(hbw:(b == want)=true)(hd:o.dst=some d)(hop:o.op=Op.call { callee:=Callee.value (Operand.func f),args:=xs,argTypes:=ats })(hf:Tryz.prog.funcs[f]?=some fn)(hn:(fn.name == "runtime.NumGoroutine")=false) (hb:fn.body.isNone=false)
  (hc:qg f vs w R)(hv:xs.map (Ev a)=vs)(h:∀ e w',R e w'->∃ v,e=.returned v∧(bf i=true->S w')∧WD ops K S bf n (i :: is) (Pt a d v) w'):WD ops K S bf (n+1) is a w:=aIj i d gd hr hi hg hj hs he hbw hd f xs ats hop fn hf hn hb vs hv (hc.mono h)
end
def GS (b o:Nat)(x:GG)(A:Option Addr)(d:Nat)(w:World):Prop:=qc w b o (.slice A x.path d)∧qc w b (o+1) x.kind∧qc w b (o+2) x.at_∧qc w b (o+3) x.code∧qc w b (o+4) x.fresh
theorem GS.of {b o x A d w}(h:∀ j u,(sH x A d)[j]?=some u->qc w b (o+j) u):GS b o x A d w:=⟨h 0 _ rfl,h 1 _ rfl,h 2 _ rfl,h 3 _ rfl,h 4 _ rfl⟩
section
variable {Q:Exit->Act->World->Prop}{a:Act}{w:World}{gt m gc:Nat}{b bu z z2:Int}{A Ag_:Option Addr}{c cg n i:Nat}{v vk vl vn:Value}{R:World->Prop}
end
theorem aB.cell {S w w'}(h:aB S w w'){b o u}(hb:S b)(hc:qc w b o u):qc w' b o u:=(World.cell?_of_block (w:=w) (w':=w') (h b (aX hc) hb)).trans hc
theorem GS.keep {S w w'}(h:aB S w w'){b o x A d}(hb:S b)(hc:GS b o x A d w):GS b o x A d w':=⟨h.cell hb hc.1,h.cell hb hc.2.1,h.cell hb hc.2.2.1,h.cell hb hc.2.2.2.1,h.cell hb hc.2.2.2.2⟩
theorem GS.ext {w w'}(h:Ext w w'){b o x A d}(hc:GS b o x A d w):GS b o x A d w':=hc.keep (aB.of_ext (P:=fun _=>True) h) trivial
theorem aEc (b):∀ n L,(aCt b n L).length<=L
 | 0,L=>ab _
 | n+1,L=>by
  unfold aCt;split
  ·refine ae (aEc b n _) ?_
   rw [List.length_eraseIdx];split <;> omega
  ·exact ab _
theorem aEi (ok b L x):(lB ok b L x).length<=L+1:=by
 have h1:(cY L x).length<=L+1:=by rw [kL];exact sE L x
 unfold lB;split
 ·split
  ·exact h1
  ·exact ae (aEc b _ _) h1
 ·omega
