/- Contracts and laws. Conditions: none. -/
import Derived.Test.YtkoeecdjijfjnaaGreatDoorC4
import Derived.Test.YtkoeecdjijfjnaaGreatDoorTV
set_option linter.all false
set_option maxRecDepth 100000
set_option maxHeartbeats 8000000
namespace Go.Proofs.YtkoeecdjijfjnaaGreatDoor
open Go.RowKit
def gJ (before:List Int):List Int->Int
 | []=>0
 | z :: zs=>before.getD z.toNat 0+gJ before zs
theorem rz {before:List Int}:∀ {zs:List Int},(∀ z ∈ zs,0<=before.getD z.toNat 0∧before.getD z.toNat 0<=256)->0<=gJ before zs∧gJ before zs<=256*zs.length
 | [],_=>by simp [gJ]
 | z :: zs,h=>by
  have h1:=h z U;have h2:=rz (zs:=zs) (fun y hy=>h y dh);simp only [gJ,ai];omega
theorem Ba {before:List Int}:∀ {zs:List Int}{s:Int},(∀ z ∈ zs,0<=before.getD z.toNat 0∧before.getD z.toNat 0<=256)->0<=s->s+256*zs.length<=1000000000->dO before s zs=s+gJ before zs
 | [],s,_,_,_=>by simp [dO,gJ]
 | z :: zs,s,h,h0,h1=>by
  have h2:=h z U;simp only [ai] at h1;simp only [dO,gJ];rw [IntWalk.wrap64_in _ I,Ba (fun y hy=>h y dh) I I];omega
theorem eM {before:List Int}{ch:Bool}:∀ (zs:List Int)(i:Nat)(m:Int),m<=bA before ch i m zs∧(∀ k,k<zs.length->(ch=true∨0<i+k)->before.getD (zs.getD k 0).toNat 0<=bA before ch i m zs)
 | [],i,m=>⟨by simp [bA],fun k hk=>by simp at hk⟩
 | z :: zs,i,m=>by
  simp only [bA];obtain ⟨h1,h2⟩:=eM (before:=before) (ch:=ch) zs (i+1) (if ch=true∨0<i then (if m<before.getD z.toNat 0 then before.getD z.toNat 0 else m) else m);refine ⟨Int.le_trans ?_ h1,fun k hk hc=>?_⟩
  ·split
   ·split <;> omega
   ·omega
  ·cases k with
   | zero =>
    refine Int.le_trans ?_ h1;rw [if_pos (by simpa using hc)];simp only [List.getD_cons_zero];split <;> omega
   | succ k =>
    simp only [List.getD_cons_succ];exact h2 k (by simpa using hk) (by rcases hc with h | h;exact .inl h;exact .inr I)
theorem mI {before:List Int}{ch:Bool}{N:Int}:∀ (zs:List Int)(i:Nat)(m:Int),m<=N->(∀ z ∈ zs,before.getD z.toNat 0<=N)->bA before ch i m zs<=N
 | [],i,m,h,_=>by simpa [bA] using h
 | z :: zs,i,m,h,hz=>by
  simp only [bA];have h1:=hz z U;refine mI zs (i+1) _ ?_ (fun y hy=>hz y dh);split
  ·split <;> omega
  ·omega
theorem vM {t:List GN}{j:Nat}(hj:j<t){z:Int}(hz:0<=z∧z<(j:Int)):(aI (t.take j)).getD z.toNat 0=(aI t).getD z.toNat 0:=by
 unfold aI;rw [gX _ _ _ I];have h:z.toNat<j:=by omega
 simp [List.getD,h]
theorem oY {t:List GN}{j:Nat}(hj:j<t):(aI t).getD j 0=gZ (aI (t.take j)) (t.getD j default):=pH gZ 0 t hj
structure Mf (t:List GN)(j:Nat):Prop where
 bd:0<=(aI t).getD j 0∧(aI t).getD j 0<=256
 range:(t.getD j default).kind=1->(aI t).getD j 0=1
 leaf:(t.getD j default).kind=0->(aI t).getD j 0=0
 seq:(t.getD j default).kind=3->(aI t).getD j 0=gJ (aI t) (t.getD j default).kids
 choice:(t.getD j default).kind=2->1<=(aI t).getD j 0∧∀ z ∈ (t.getD j default).kids,1+(aI t).getD z.toNat 0<=(aI t).getD j 0
 bind:(t.getD j default).kind=4->(aI t).getD ((t.getD j default).kids.getD 0 0).toNat 0<=(aI t).getD j 0∧∀ k,1<=k->k<(t.getD j default).kids.length ->
  (aI t).getD ((t.getD j default).kids.getD 0 0).toNat 0+(aI t).getD ((t.getD j default).kids.getD k 0).toNat 0<=(aI t).getD j 0
theorem tE {a b:List Int}:∀ {zs:List Int},(∀ z ∈ zs,a.getD z.toNat 0=b.getD z.toNat 0)->gJ a zs=gJ b zs
 | [],_=>rfl
 | z :: zs,h=>by simp only [gJ];rw [h z U,tE (fun y hy=>h y dh)]
theorem bJ {t:List GN}{i:Nat}(h:aO t i):∀ j,j<i->Mf t j:=by
 intro j
 induction j using Nat.strongRecOn with
 | ind j ih =>
  intro hj;have hjt:j<t:=by have:=h.1;omega
  have hc:=h.at_ hj;have hfew:=(cJ h hj).1;have hl:=oY hjt;have hlen:=hc.len;have hn:=hc.node;generalize hx:t.getD j default=x at *;have hk:∀ z ∈ x.kids,(aI (t.take j)).getD z.toNat 0=(aI t).getD z.toNat 0:=fun z hz=>vM hjt (hn.kids z hz)
  have hb:∀ z ∈ x.kids,0<=(aI (t.take j)).getD z.toNat 0∧(aI (t.take j)).getD z.toNat 0<=256:=fun z hz=>by
   have hz':=hn.kids z hz;rw [hk z hz];exact (ih z.toNat I I).bd
  have hkd:=hn.kind
  have h0:0<=(aI t).getD j 0∧(x.kind=1->(aI t).getD j 0=1)∧(x.kind=0->(aI t).getD j 0=0)∧(x.kind=3->(aI t).getD j 0=gJ (aI t) x.kids) ∧
    (x.kind=2->1<=(aI t).getD j 0∧∀ z ∈ x.kids,1+(aI t).getD z.toNat 0<=(aI t).getD j 0) ∧
    (x.kind=4->(aI t).getD (x.kids.getD 0 0).toNat 0<=(aI t).getD j 0∧∀ k,1<=k->k<x.kids.length->(aI t).getD (x.kids.getD 0 0).toNat 0+(aI t).getD (x.kids.getD k 0).toNat 0<=(aI t).getD j 0):=by
   rw [hl];unfold gZ;by_cases k0:x.kind=0
   ·rw [if_pos k0];exact ⟨I,I,fun _=>rfl,I,I,I⟩
   rw [if_neg k0];by_cases k1:x.kind=1
   ·rw [if_pos k1];exact ⟨I,fun _=>rfl,I,I,I,I⟩
   rw [if_neg k1];by_cases k3:x.kind=3
   ·rw [if_pos k3,Ba hb I I,tE hk]
    have:=rz (before:=aI t) (zs:=x.kids) (fun z hz=>by rw [<- hk z hz];exact hb z hz);exact ⟨I,I,I,fun _=>by omega,I,I⟩
   rw [if_neg k3];by_cases k2:x.kind=2
   ·rw [if_pos k2]
    obtain ⟨g1,g2⟩:=eM (before:=aI (t.take j)) (ch:=true) x.kids 0 0;have g3:=mI (before:=aI (t.take j)) (ch:=true) (N:=256) x.kids 0 0 I (fun z hz=>(hb z hz).2);rw [IntWalk.wrap64_in _ I];refine ⟨I,I,I,I,fun _=>⟨I,fun z hz=>?_⟩,I⟩;obtain ⟨k,hk',e⟩:=List.getElem_of_mem hz;have:=g2 k hk' (.inl rfl);have e2:x.kids.getD k 0=z:=by rw [<- e];simp [hk']
    rw [e2,hk z hz] at this;omega
   rw [if_neg k2];have k4:x.kind=4:=by omega
   have hbd:=hn.bind k4;have hz0:x.kids.getD 0 0 ∈ x.kids:=aC I;obtain ⟨g1,g2⟩:=eM (before:=aI (t.take j)) (ch:=false) x.kids 0 0;have g3:=mI (before:=aI (t.take j)) (ch:=false) (N:=256) x.kids 0 0 I (fun z hz=>(hb z hz).2);have hb0:=hb _ hz0;rw [IntWalk.wrap64_in _ I];rw [<- hk _ hz0];refine ⟨I,I,I,I,I,fun _=>⟨I,fun k hk1 hk2=>?_⟩⟩;have:=g2 k hk2 (.inr I);rw [hk _ (aC hk2)] at this;omega
  obtain ⟨a0,a1,a2,a3,a4,a5⟩:=h0;exact ⟨⟨a0,hlen⟩,by rw [hx];exact a1,by rw [hx];exact a2,by rw [hx];exact a3,by rw [hx];exact a4,by rw [hx];exact a5⟩
structure GR where
 val:GV
 used:Int
 stop:Int
def cX:GV:=.mk 0 0 ByteArray.empty []
def bX (r:Int->Int->GR)(name:ByteArray)(at_:Int):Int->List GV->List Int->GR
 | used,acc,[]=>⟨cB name acc,used,-1⟩
 | used,acc,z :: zs=>if (r z (at_+used)).stop=-1 then bX r name at_ (used+(r z (at_+used)).used) (acc ++ [(r z (at_+used)).val]) zs
   else ⟨cX,used+(r z (at_+used)).used,(r z (at_+used)).stop⟩
def dZ (r:Int->Int->GR)(path:List Int)(i:Int)(x:GN)(at_:Int):GR :=
 if x.kind=0 then ⟨x.value,0,-1⟩
 else if x.kind=3 then bX r x.name at_ 0 [] x.kids
 else if x.kind=4 then
  (if (r (x.kids.getD 0 0) at_).stop=-1 then
   ⟨(r (x.kids.getD ((bK x.values (r (x.kids.getD 0 0) at_).val).1+1) 0) (at_+(r (x.kids.getD 0 0) at_).used)).val,
    (r (x.kids.getD 0 0) at_).used+(r (x.kids.getD ((bK x.values (r (x.kids.getD 0 0) at_).val).1+1) 0) (at_+(r (x.kids.getD 0 0) at_).used)).used,
    (r (x.kids.getD ((bK x.values (r (x.kids.getD 0 0) at_).val).1+1) 0) (at_+(r (x.kids.getD 0 0) at_).used)).stop⟩
  else r (x.kids.getD 0 0) at_)
 else if (path:Int)<=at_ then ⟨cX,0,i⟩
 else if path.getD at_.toNat 0<0∨aP x<=path.getD at_.toNat 0 then ⟨cX,0,-2⟩
 else if x.kind=1 then ⟨.mk 0 (x.lo+path.getD at_.toNat 0) ByteArray.empty [],1,-1⟩
 else ⟨(r (x.kids.getD (path.getD at_.toNat 0).toNat 0) (at_+1)).val,(r (x.kids.getD (path.getD at_.toNat 0).toNat 0) (at_+1)).used+1,(r (x.kids.getD (path.getD at_.toNat 0).toNat 0) (at_+1)).stop⟩
def cA (t:List GN)(path:List Int):Nat->Int->Int->GR
 | 0,_,_=>⟨cX,0,-1⟩
 | f+1,i,at_=>dZ (cA t path f) path i (t.getD i.toNat default) at_
theorem dA {j:Nat}{x:GN}(h:cR j x):aP x=if x.kind=1 then x.hi - x.lo+1 else (x.kids:Int):=by
 have:=aZ h.numbers;unfold aP;split
 ·rw [IntWalk.wrap64_in (x.hi - x.lo) I,IntWalk.wrap64_in _ I]
 ·rfl
theorem mZ (a:Act)(d:Nat)(v:Value):(Pt a d v).defers=a.defers:=rfl
theorem jH {ops:Array Oper}{Q:Exit->Act->World->Prop}{a:Act}{w:World}{o1 o2 o3:Oper}{d1 d2 base:Nat}{A:Option Addr}{n c:Nat}{l:List Value}{z:Int}{s:Operand}
  (hown:w.ownsRow base 3 1 (.slice A n c) n l)(hb:base<=w)(hn:n<=100000)(h:∀ a' v' w',a'.defers=a.defers->qq a' 4 v'->w'.ownsRow base 3 1 v' (n+1) (l ++ [.int .i64 z])->Fr (fun k=>some k=(Value.slice A n c).ownBlock) w w'->(v'.ownBlock=(Value.slice A n c).ownBlock∨∃ b,v'.ownBlock=some b∧w<=b)->Q .normal a' w')
  (hg1:o1.guard=none:=by exact rfl)(hd1:o1.dst=some d1:=by exact rfl)(hg2:o2.guard=none:=by exact rfl)(hd2:o2.dst=some d2:=by exact rfl)(ho2:o2.op=.call { callee:=.builtin .append,args:=#[s,.tmp d1],argTypes:=#[22,22] }:=by exact rfl)(hg3:o3.guard=none:=by exact rfl)(hd3:o3.dst=some 4:=by exact rfl)(ho3:o3.op=.assign (.tmp d2):=by exact rfl)
  (hsz:d1<a.tmps.size:=by simp [*])(hsz2:d2<a.tmps.size:=by simp [*])(h4:4<a.tmps.size:=by simp [*])(hr1:(execOp (Ev a) o1).run Tryz.prog w=.ok (.value (.slice (qp w) 1 1)) (w.alloc (qk #[↑z] 3)):=by (simp [execOp,go_sem, *];try rfl))(hs1:Ev (Pt a d1 (.slice (qp w) 1 1)) s=.slice A n c:=by simp [*]):WL ops Q [o1,o2,o3] a w:=by
 refine l_v hg1 hd1 hr1 ?_;have hx1:Ev (Pt a d1 (.slice (qp w) 1 1)) (.tmp d1)=.slice (qp w) 1 1:=by simp [hsz]
 refine la Tryz.underlying22 Tryz.info3 (hown.alloc _) (T:=fun _=>True) (Sl.new w [.int .i64 z] _ 1 1 rfl) I I bh ci (fun v' w' ho hf hv=>?_) hg2 hd2 ho2 rfl I hs1 hx1;refine l_v (v:=v') (w1:=w') hg3 hd3 (by simp [execOp,ho3,go_sem,hsz2]) (aV (h _ v' w' rfl (by simp [h4]) ho ((ar ((aq w).alloc' _)).trans hf) (hv.elim .inl (fun h=>.inr ⟨_,h,U⟩))))
noncomputable def R58:=RG Tryz.f31
noncomputable abbrev c58:Code:=.seq (R58 0) (.seq (R58 1) (.seq (R58 2) (.seq (.seq (R58 3) (.block 0 (.loop (.seq (.seq (R58 4) (.cond (.tmp 13) .skip (.exit 0))) (.seq (.block 1 (.seq (R58 6) (.seq (R58 7) (.seq (R58 8) (.cond (.tmp 33) (R58 9) .skip))))) (R58 5)))))) (.seq (.seq (R58 10) (.block 2 (.seq (R58 11) (.cond (.tmp 39) (.seq (R58 12) .ret) (.seq (R58 13) (.cond (.tmp 44) (.seq (R58 14) .ret) (.seq (R58 15) (.cond (.tmp 49) (.seq (R58 16) .ret) (.seq (R58 17) (.cond (.tmp 55) (.seq (R58 18) .ret) .skip)))))))))) (.seq (R58 19) .ret)))))
theorem b58:Tryz.f31.body=some c58:=av
theorem Hp (before:List Int)(x:GN)(na:NA)(P:Nat->Prop)(base:Nat)(vb:Value)(w:World)(hx:NAt w P x na)(hown:w.ownsRow base 3 1 vb before (before.map (Value.int .i64)))
  (hbase:base<=w)(hlen:before.length<=100000)(hb64:∀ z ∈ before,I64 z)(hok:cR before x) :
  qg 31 #[vb,fE x na] w (yp base 3 1 vb (before+1) ((before ++ [gZ before x]).map (Value.int .i64)) w):=by
 have hkk:=hok.kind;obtain ⟨A,c,rfl,hnc,hcm,hsl⟩:=Sl.of_own hown;unfold maxLen at hcm;refine gD Tryz.func31 b58 rfl U (fun a Q sz df ea hQ=>?_);have e0:=ea 0 (.slice A before c) rfl;obtain ⟨hl,hc⟩:=hx.kids.le;have hE:Ext w (w.alloc (qk (aN x na).toArray 60)):=(aq _).alloc' _;have hB:=aw w 60 (aN x na).toArray;refine rS ?_;iterate 2 refine lv ?_
 refine lE a [0] 3 ?_;intro a1 u1 e3;generalize w.alloc (qk (aN x na).toArray 60)=W at *;refine u1.c1 sz df e0 fun sz df e0=>?_
 have b0:=hB.cell' (u:=↑x.kind) 0 rfl;have b7:=hB.cell' (u:=.slice na.kA x.kids na.kc) 7 rfl;have hK:=hx.kids.ext hE;have hS:=(hsl (fun _=>True) (fun _ _=>trivial)).keep (aB.of_ext hE) (fun _ h=>h);have hO:=hown.ext_ hE;have hse:=hE.size;refine rS ?_;refine lv ?_;refine lE a1 [0,3] 5 ?_;intro a2 u2 e5;refine u2.c2 sz df e0 e3 fun sz df e0 e3=>?_
 refine rS ?_;refine lv ?_;refine lE a2 [0,3,5] 6 ?_;intro a3 u3 e6;refine u3.c3 sz df e0 e3 e5 fun sz df e0 e3 e5=>?_
 refine wp_seq (rS ?_);refine lv ?_;refine lE a3 [0,3,5,6] 7 ?_;intro a4 u4 e7;refine u4.c4 sz df e0 e3 e5 e6 fun sz df e0 e3 e5 e6=>?_
 refine wp_block (wp_loop (fun a' V=>∃ (k:Nat) (s1 m1:Int),Ag [0,3] a4 a'∧qq a' 7 (k:Int)∧qq a' 5 s1∧qq a' 6 m1∧k<=x.kids∧dO before 0 x.kids=dO before s1 (x.kids.drop k)∧bA before (decide (x.kind=2)) 0 0 x.kids=bA before (decide (x.kind=2)) k m1 (x.kids.drop k)∧V=W) (fun a' _=>(x.kids.length - intOf (Ev a' (.tmp 7))).toNat) ⟨0,_,_,.rf,e7,e5,e6,af _,rfl,rfl,rfl⟩ ?_);clear e5 e6 e7;rintro a5 V ⟨k,s1,m1,u5,e7,e5,e6,hk,hs,hm,rfl⟩;refine u5.c2 sz df e0 e3 fun sz df e0 e3=>?_
 have m7:=e7;refine wp_seq (rS ?_);iterate 5 refine lv ?_
 refine lE a5 [0,3,5,6,7] 13 ?_;intro a6 u6 e13;refine u6.c5 sz df e0 e3 e5 e6 e7 fun sz df e0 e3 e5 e6 e7=>?_
 by_cases hlt:k<x.kids
 ·refine wp_cond_true (e13.trans ff) (wp_skip (wp_seq (wp_block (rS ?_))))
  obtain ⟨b1,o1,e1',-,-,g1⟩:=hK.get hlt;have hD:=aJ 0 hlt;obtain ⟨hz1,hz2⟩:=hok.kids _ (aC (d:=0) hlt);rw [hD] at hs hm;clear hD;rw [e1'] at b7;generalize x.kids.getD k 0=z at *;obtain ⟨j,rfl⟩:=Int.eq_ofNat_of_zero_le hz1;obtain ⟨b2,o2,rfl,-,hc2⟩:=hS.2 I;have g2:=cZ (k:=j) I hc2;have hki:(k:Int)<x.kids:=by omega
  simp only [dO,bA,Int.toNat_natCast,<- IntWalk.i64_left] at hs hm;generalize before.getD j 0=nn at *;iterate 9 refine lv ?_
  refine lE a6 [0,3,5,6,7] 8 ?_;intro a7 u7 e8;refine u7.c5 sz df e0 e3 e5 e6 e7 fun sz df e0 e3 e5 e6 e7=>?_
  refine rS ?_;iterate 4 refine lv ?_
  refine lE a7 [0,3,6,7,8] 5 ?_;clear e5;intro a8 u8 e5;refine u8.c5 sz df e0 e3 e6 e7 e8 fun sz df e0 e3 e6 e7 e8=>?_
  have hN:∀ (R:Exit->Act->World->Prop),(∀ b,Ag [0,3,5,7] a8 b->Ev b (.tmp 6)=.int .i64 (if decide (x.kind=2)=true∨0<k then (if m1<nn then nn else m1) else m1)->R .normal b V)->qw (.seq (R58 8) (.cond (.tmp 33) (R58 9) .skip)) R a8 V:=by
   intro R hR
   have h9:∀ a9,Ag [0,3,5,6,7,8] a8 a9->(decide (x.kind=2)=true∨0<k)->qw (R58 9) R a9 V:=by
    intro a9 u9 hd;refine u9.c6 sz df e0 e3 e5 e6 e7 e8 fun sz df e0 e3 e5 e6 e7 e8=>?_
    refine rW ?_;iterate 4 refine lv ?_
    refine lE a9 [0,3,5,7] 6 ?_;intro b u e;exact hR b ((u9.mono rfl).trans u) (e.trans (by rw [if_pos hd]))
   by_cases hk2:x.kind=2
   ·have t2:(x.kind == 2)=true:=aYh hk2
    refine rS ?_;iterate 4 refine lv ?_
    iterate 2 refine ln ?_
    refine lv ?_;refine lE a8 [0,3,5,6,7,8] 33 ?_;intro a9 u9 e33;exact wp_cond_true e33 (h9 a9 u9 (.inl (by simp [hk2])))
   ·have t2:(x.kind == 2)=false:=aYg hk2
    refine rS ?_;iterate 4 refine lv ?_
    iterate 2 refine ly ?_
    refine lv ?_;refine lE a8 [0,3,5,6,7,8] 33 ?_;intro a9 u9 e33;by_cases h0:0<k
    ·exact wp_cond_true (e33.trans jg) (h9 a9 u9 (.inr h0))
    ·exact wp_cond_false (e33.trans jg) (wp_skip (hR a9 (u9.mono rfl) ((u9.get 6 e6).trans (by rw [if_neg (by simp [hk2,h0])]))))
  refine hN _ ?_;clear e6 hN;intro a9 u9 e6;refine u9.c4 sz df e0 e3 e5 e7 fun sz df e0 e3 e5 e7=>?_
  refine rW ?_;iterate 3 refine lv ?_
  refine lE a9 [0,3,5,6] 7 ?_;clear e7;intro b u e7;refine ⟨⟨k+1,_,_,((((u5.trans (u6.mono rfl)).trans (u7.mono rfl)).trans (u8.mono rfl)).trans (u9.mono rfl)).trans (u.mono rfl),e7.trans U,u.get 5 e5,u.get 6 e6,hlt,hs,hm,rfl⟩,?_⟩;rw [e7,m7];simp only [intOf];omega
 ·refine wp_cond_false (e13.trans ff) (wp_exit (wp_seq (rS ?_)))
  rw [drop_nil I] at hs hm;replace hs:dO before 0 x.kids=s1:=hs;replace hm:bA before (decide (x.kind=2)) 0 0 x.kids=m1:=hm
  have hR:∀ (b:Act) (v':Value) (w':World) (z:Int),gZ before x=z->b.defers=[]->qq b 4 v'->w'.ownsRow base 3 1 v' (before+1) (before.map (Value.int .i64) ++ [.int .i64 z])->Fr (fun k=>some k=(Value.slice A before c).ownBlock) V w'->(v'.ownBlock=(Value.slice A before c).ownBlock∨∃ b,v'.ownBlock=some b∧V<=b)->Q .ret b w':=by
   intro b v' w' z hz hd he ho hf hv;refine (hQ _ _ v' hd (by simp [results,Tryz.results31,go_sem,evT he];try rfl) ⟨v',rfl,by rw [List.map_append,hz];exact ho,(ar hE).trans hf,hv.elim .inl (fun ⟨b,h1,h2⟩=>.inr ⟨b,h1,I⟩)⟩)
  iterate 2 refine lv ?_
  refine lE a6 [0,3,5,6] 38 ?_;intro a7 u7 e38;refine u7.c4 sz df e0 e3 e5 e6 fun sz df e0 e3 e5 e6=>?_
  refine wp_block (rS ?_);iterate 2 refine lv ?_
  refine lE a7 [0,3,5,6,38] 39 ?_;intro a8 u8 e39;refine u8.c5 sz df e0 e3 e5 e6 e38 fun sz df e0 e3 e5 e6 e38=>?_
  by_cases k0:x.kind=0
  ·refine wp_cond_true (e39.trans jx) (rS ?_)
   iterate 1 refine lv ?_
   refine jH hO I hlen ?_;intro b v1 w1 hd he ho hf hv;exact wp_ret (hR b v1 w1 _ (by unfold gZ;rw [if_pos k0]) ee he ho hf hv)
  refine wp_cond_false (e39.trans jx) (rS ?_);iterate 2 refine lv ?_
  refine lE a8 [0,3,5,6,38] 44 ?_;intro a9 u9 e44;refine u9.c5 sz df e0 e3 e5 e6 e38 fun sz df e0 e3 e5 e6 e38=>?_
  by_cases k1:x.kind=1
  ·refine wp_cond_true (e44.trans ir) (rS ?_)
   iterate 1 refine lv ?_
   refine jH hO I hlen ?_;intro b v1 w1 hd he ho hf hv;exact wp_ret (hR b v1 w1 _ (by unfold gZ;rw [if_neg k0,if_pos k1]) ee he ho hf hv)
  refine wp_cond_false (e44.trans ir) (rS ?_);iterate 2 refine lv ?_
  refine lE a9 [0,3,5,6,38] 49 ?_;intro a10 u10 e49;refine u10.c5 sz df e0 e3 e5 e6 e38 fun sz df e0 e3 e5 e6 e38=>?_
  by_cases k3:x.kind=3
  ·refine wp_cond_true (e49.trans jy) (rS ?_)
   iterate 2 refine lv ?_
   refine jH hO I hlen ?_;intro b v1 w1 hd he ho hf hv;exact wp_ret (hR b v1 w1 _ (by unfold gZ;rw [if_neg k0,if_neg k1,if_pos k3];exact hs) ee he ho hf hv)
  refine wp_cond_false (e49.trans jy) (rS ?_);iterate 2 refine lv ?_
  refine lE a10 [0,3,5,6,38] 55 ?_;intro a11 u11 e55;refine u11.c5 sz df e0 e3 e5 e6 e38 fun sz df e0 e3 e5 e6 e38=>?_
  by_cases k2:x.kind=2
  ·refine wp_cond_true (e55.trans (by simp [k2])) (rS ?_)
   iterate 3 refine lv ?_
   refine jH hO I hlen ?_;intro b v1 w1 hd he ho hf hv;exact wp_ret (hR b v1 w1 _ (by unfold gZ;rw [if_neg k0,if_neg k1,if_neg k3,if_pos k2];rw [show decide (x.kind=2)=true by simp [k2]] at hm;rw [hm,IntWalk.i64_left]) ee he ho hf hv)
  refine wp_cond_false (e55.trans (by simp [k2])) (wp_skip (rS ?_));have k4:x.kind=4:=by omega
  have hk0:=hok.bind k4;have hk1:0<x.kids.length:=by omega
  obtain ⟨b1,o1,e1',-,-,g1⟩:=hK.get hk1;obtain ⟨hz1,hz2⟩:=hok.kids _ (aC (d:=0) hk1)
  have hsp:gZ before x=wrap64 (before.getD (x.kids.getD 0 0).toNat 0+m1):=by
   unfold gZ;rw [show decide (x.kind=2)=false by simp [k4]] at hm;rw [if_neg k0,if_neg k1,if_neg k3,if_neg k2,hm]
  rw [e1'] at b7;generalize x.kids.getD 0 0=z at *;obtain ⟨j,rfl⟩:=Int.eq_ofNat_of_zero_le hz1;have hki:(0:Int)<x.kids:=by omega
  obtain ⟨b2,o2,rfl,-,hc2⟩:=hS.2 I;have g2:=cZ (k:=j) I hc2;rw [Int.toNat_natCast,<- IntWalk.i64_left] at hsp;simp only [Nat.zero_mul,Nat.add_zero] at g1;generalize before.getD j 0=nn at *;iterate 10 refine lv ?_
  refine jH hO I hlen ?_;intro b v1 w1 hd he ho hf hv;exact wp_ret (hR b v1 w1 _ hsp ee he ho hf hv)
noncomputable def R59:=RG Tryz.f32
noncomputable abbrev c59:Code:=.seq (R59 0) (.seq (R59 1) (.seq (R59 2) (.seq (.seq (R59 3) (.block 0 (.loop (.seq (.seq (R59 4) (.cond (.tmp 13) .skip (.exit 0))) (.seq (.block 1 (.seq (R59 6) (.seq (R59 7) (.seq (R59 8) (.cond (.tmp 33) (R59 9) .skip))))) (R59 5)))))) (.seq (.seq (R59 10) (.block 2 (.seq (R59 11) (.cond (.tmp 39) (.seq (R59 12) .ret) (.seq (R59 13) (.cond (.tmp 47) (.seq (R59 14) .ret) (.seq (R59 15) (.cond (.tmp 52) (.seq (R59 16) .ret) .skip)))))))) (.seq (R59 17) .ret)))))
theorem b59:Tryz.f32.body=some c59:=av
theorem DY (before:List Int)(x:GN)(na:NA)(P:Nat->Prop)(base:Nat)(vb:Value)(w:World)(hx:NAt w P x na)(hown:w.ownsRow base 3 1 vb before (before.map (Value.int .i64)))
  (hbase:base<=w)(hlen:before.length<=100000)(hb64:∀ z ∈ before,I64 z)(hok:cR before x) :
  qg 32 #[vb,fE x na] w (yp base 3 1 vb (before+1) ((before ++ [jO before x]).map (Value.int .i64)) w):=by
 obtain ⟨A,c,rfl,hnc,hcm,hsl⟩:=Sl.of_own hown;unfold maxLen at hcm;refine gD Tryz.func32 b59 rfl U (fun a Q sz df ea hQ=>?_);have e0:=ea 0 (.slice A before c) rfl;obtain ⟨hl,hc⟩:=hx.kids.le;have hE:Ext w (w.alloc (qk (aN x na).toArray 60)):=(aq _).alloc' _;have hB:=aw w 60 (aN x na).toArray;refine rS ?_;iterate 2 refine lv ?_
 refine lE a [0] 3 ?_;intro a1 u1 e3;generalize w.alloc (qk (aN x na).toArray 60)=W at *;refine u1.c1 sz df e0 fun sz df e0=>?_
 have b0:=hB.cell' (u:=↑x.kind) 0 rfl;have b7:=hB.cell' (u:=.slice na.kA x.kids na.kc) 7 rfl;have hK:=hx.kids.ext hE;have hS:=(hsl (fun _=>True) (fun _ _=>trivial)).keep (aB.of_ext hE) (fun _ h=>h);have hO:=hown.ext_ hE;have hse:=hE.size;refine rS ?_;refine lv ?_;refine lE a1 [0,3] 5 ?_;intro a2 u2 e5;refine u2.c2 sz df e0 e3 fun sz df e0 e3=>?_
 refine rS ?_;refine lv ?_;refine lE a2 [0,3,5] 6 ?_;intro a3 u3 e6;refine u3.c3 sz df e0 e3 e5 fun sz df e0 e3 e5=>?_
 refine wp_seq (rS ?_);refine lv ?_;refine lE a3 [0,3,5,6] 7 ?_;intro a4 u4 e7;refine u4.c4 sz df e0 e3 e5 e6 fun sz df e0 e3 e5 e6=>?_
 refine wp_block (wp_loop (fun a' V=>∃ (k:Nat) (s1 m1:Int),Ag [0,3] a4 a'∧qq a' 7 (k:Int)∧qq a' 5 s1∧qq a' 6 m1∧k<=x.kids∧dO before 1 x.kids=dO before s1 (x.kids.drop k)∧bA before (decide (x.kind=2)) 0 0 x.kids=bA before (decide (x.kind=2)) k m1 (x.kids.drop k)∧V=W) (fun a' _=>(x.kids.length - intOf (Ev a' (.tmp 7))).toNat) ⟨0,_,_,.rf,e7,e5,e6,af _,rfl,rfl,rfl⟩ ?_);clear e5 e6 e7;rintro a5 V ⟨k,s1,m1,u5,e7,e5,e6,hk,hs,hm,rfl⟩;refine u5.c2 sz df e0 e3 fun sz df e0 e3=>?_
 have m7:=e7;refine wp_seq (rS ?_);iterate 5 refine lv ?_
 refine lE a5 [0,3,5,6,7] 13 ?_;intro a6 u6 e13;refine u6.c5 sz df e0 e3 e5 e6 e7 fun sz df e0 e3 e5 e6 e7=>?_
 by_cases hlt:k<x.kids
 ·refine wp_cond_true (e13.trans ff) (wp_skip (wp_seq (wp_block (rS ?_))))
  obtain ⟨b1,o1,e1',-,-,g1⟩:=hK.get hlt;have hD:=aJ 0 hlt;obtain ⟨hz1,hz2⟩:=hok.kids _ (aC (d:=0) hlt);rw [hD] at hs hm;clear hD;rw [e1'] at b7;generalize x.kids.getD k 0=z at *;obtain ⟨j,rfl⟩:=Int.eq_ofNat_of_zero_le hz1;obtain ⟨b2,o2,rfl,-,hc2⟩:=hS.2 I;have g2:=cZ (k:=j) I hc2;have hki:(k:Int)<x.kids:=by omega
  simp only [dO,bA,Int.toNat_natCast,<- IntWalk.i64_left] at hs hm;generalize before.getD j 0=nn at *;iterate 9 refine lv ?_
  refine lE a6 [0,3,5,6,7] 8 ?_;intro a7 u7 e8;refine u7.c5 sz df e0 e3 e5 e6 e7 fun sz df e0 e3 e5 e6 e7=>?_
  refine rS ?_;iterate 4 refine lv ?_
  refine lE a7 [0,3,6,7,8] 5 ?_;clear e5;intro a8 u8 e5;refine u8.c5 sz df e0 e3 e6 e7 e8 fun sz df e0 e3 e6 e7 e8=>?_
  have hN:∀ (R:Exit->Act->World->Prop),(∀ b,Ag [0,3,5,7] a8 b->Ev b (.tmp 6)=.int .i64 (if decide (x.kind=2)=true∨0<k then (if m1<nn then nn else m1) else m1)->R .normal b V)->qw (.seq (R59 8) (.cond (.tmp 33) (R59 9) .skip)) R a8 V:=by
   intro R hR
   have h9:∀ a9,Ag [0,3,5,6,7,8] a8 a9->(decide (x.kind=2)=true∨0<k)->qw (R59 9) R a9 V:=by
    intro a9 u9 hd;refine u9.c6 sz df e0 e3 e5 e6 e7 e8 fun sz df e0 e3 e5 e6 e7 e8=>?_
    refine rW ?_;iterate 4 refine lv ?_
    refine lE a9 [0,3,5,7] 6 ?_;intro b u e;exact hR b ((u9.mono rfl).trans u) (e.trans (by rw [if_pos hd]))
   by_cases hk2:x.kind=2
   ·have t2:(x.kind == 2)=true:=aYh hk2
    refine rS ?_;iterate 4 refine lv ?_
    iterate 2 refine ln ?_
    refine lv ?_;refine lE a8 [0,3,5,6,7,8] 33 ?_;intro a9 u9 e33;exact wp_cond_true e33 (h9 a9 u9 (.inl (by simp [hk2])))
   ·have t2:(x.kind == 2)=false:=aYg hk2
    refine rS ?_;iterate 4 refine lv ?_
    iterate 2 refine ly ?_
    refine lv ?_;refine lE a8 [0,3,5,6,7,8] 33 ?_;intro a9 u9 e33;by_cases h0:0<k
    ·exact wp_cond_true (e33.trans jg) (h9 a9 u9 (.inr h0))
    ·exact wp_cond_false (e33.trans jg) (wp_skip (hR a9 (u9.mono rfl) ((u9.get 6 e6).trans (by rw [if_neg (by simp [hk2,h0])]))))
  refine hN _ ?_;clear e6 hN;intro a9 u9 e6;refine u9.c4 sz df e0 e3 e5 e7 fun sz df e0 e3 e5 e7=>?_
  refine rW ?_;iterate 3 refine lv ?_
  refine lE a9 [0,3,5,6] 7 ?_;clear e7;intro b u e7;refine ⟨⟨k+1,_,_,((((u5.trans (u6.mono rfl)).trans (u7.mono rfl)).trans (u8.mono rfl)).trans (u9.mono rfl)).trans (u.mono rfl),e7.trans U,u.get 5 e5,u.get 6 e6,hlt,hs,hm,rfl⟩,?_⟩;rw [e7,m7];simp only [intOf];omega
 ·refine wp_cond_false (e13.trans ff) (wp_exit (wp_seq (rS ?_)))
  rw [drop_nil I] at hs hm;replace hs:dO before 1 x.kids=s1:=hs;replace hm:bA before (decide (x.kind=2)) 0 0 x.kids=m1:=hm
  have hR:∀ (b:Act) (v':Value) (w':World) (z:Int),jO before x=z->b.defers=[]->qq b 4 v'->w'.ownsRow base 3 1 v' (before+1) (before.map (Value.int .i64) ++ [.int .i64 z])->Fr (fun k=>some k=(Value.slice A before c).ownBlock) V w'->(v'.ownBlock=(Value.slice A before c).ownBlock∨∃ b,v'.ownBlock=some b∧V<=b)->Q .ret b w':=by
   intro b v' w' z hz hd he ho hf hv;refine (hQ _ _ v' hd (by simp [results,Tryz.results32,go_sem,evT he];try rfl) ⟨v',rfl,by rw [List.map_append,hz];exact ho,(ar hE).trans hf,hv.elim .inl (fun ⟨b,h1,h2⟩=>.inr ⟨b,h1,I⟩)⟩)
  iterate 2 refine lv ?_
  refine lE a6 [0,3,5,6] 38 ?_;intro a7 u7 e38;refine u7.c4 sz df e0 e3 e5 e6 fun sz df e0 e3 e5 e6=>?_
  refine wp_block (rS ?_);iterate 2 refine lv ?_
  refine lE a7 [0,3,5,6,38] 39 ?_;intro a8 u8 e39;refine u8.c5 sz df e0 e3 e5 e6 e38 fun sz df e0 e3 e5 e6 e38=>?_
  by_cases k0:x.kind=0
  ·refine wp_cond_true (e39.trans jx) (rS ?_)
   have b8:=hB.cell' (u:=↑x.value.kind) 8 rfl;have b9:=hB.cell' (u:=↑x.value.n) 9 rfl;have b10:=hB.cell' (u:=x.value.s) 10 rfl;have b11:=hB.cell' (u:=.slice na.xA x.value.kids na.xc) 11 rfl;iterate 3 refine lv ?_
   refine lc Tryz.func58 (pW x.value na.xA na.xc P V (hx.value.ext hE)) ?_ (hv:=by simp [*]);rintro e w1 ⟨rfl,x1⟩;refine ⟨_,rfl,?_⟩;have hw1:=x1.size;refine jH (hO.ext_ x1) I hlen ?_;intro b v1 w2 hd he ho hf hv;exact wp_ret (hR b v1 w2 _ (by unfold jO;rw [if_pos k0]) ee he ho ((ar x1).trans hf) (hv.elim .inl (fun ⟨b,h1,h2⟩=>.inr ⟨b,h1,I⟩)))
  refine wp_cond_false (e39.trans jx) (rS ?_);iterate 2 refine lv ?_
  refine lE a8 [0,3,5,6,38] 47 ?_;intro a9 u9 e47;refine u9.c5 sz df e0 e3 e5 e6 e38 fun sz df e0 e3 e5 e6 e38=>?_
  by_cases k1:x.kind=1
  ·refine wp_cond_true (e47.trans ir) (rS ?_)
   iterate 1 refine lv ?_
   refine jH hO I hlen ?_;intro b v1 w1 hd he ho hf hv;exact wp_ret (hR b v1 w1 _ (by unfold jO;rw [if_neg k0,if_pos k1]) ee he ho hf hv)
  refine wp_cond_false (e47.trans ir) (rS ?_);iterate 2 refine lv ?_
  refine lE a9 [0,3,5,6,38] 52 ?_;intro a10 u10 e52;refine u10.c5 sz df e0 e3 e5 e6 e38 fun sz df e0 e3 e5 e6 e38=>?_
  by_cases k3:x.kind=3
  ·refine wp_cond_true (e52.trans jy) (rS ?_)
   iterate 2 refine lv ?_
   refine jH hO I hlen ?_;intro b v1 w1 hd he ho hf hv;exact wp_ret (hR b v1 w1 _ (by unfold jO;rw [if_neg k0,if_neg k1,if_pos k3];exact hs) ee he ho hf hv)
  refine wp_cond_false (e52.trans jy) (wp_skip (rS ?_));iterate 2 refine lv ?_
  refine jH hO I hlen ?_;intro b v1 w1 hd he ho hf hv;exact wp_ret (hR b v1 w1 _ (by unfold jO;rw [if_neg k0,if_neg k1,if_neg k3];exact hm) ee he ho hf hv)
theorem qB {w:World}{base:Nat}{v:Value}{n:Nat}{l:List Int}(h:w.ownsRow base 3 1 v n (l.map (Value.int .i64))){j:Nat}(hj:j<n) :
  ∃ b c,v=.slice (qp b) n c∧n<=c∧c<=9223372036854775807∧qc w b j (.int .i64 (l.getD j 0)):=by
 have hl:=h.1;rcases h.2 with ⟨rfl,h0⟩ | ⟨g,cap,cur,rfl,hg,hh,hn,hm,hs,ht⟩
 ·omega
 ·refine ⟨g,cap,rfl,hn,by unfold maxLen at hm;omega,?_⟩
  have hb:Blk w g 3 cur:=hh;rw [hb.cell];have hjl:j<l:=by simp at hl;omega
  have h1:(List.take (n*1) cur.toList)[j]?=some (.int .i64 (l.getD j 0)):=by rw [ht];simp [hjl]
  rw [List.getElem?_take] at h1;split at h1
  ·simpa using h1
  ·cases h1
theorem wS {β:Type}{f:List β->GN->β}{Q:β->Prop}(hf:∀ acc x,(∀ z ∈ acc,Q z)->Q (f acc x)):∀ (l:List GN)(acc:List β),(∀ z ∈ acc,Q z)->∀ z ∈ jN f acc l,Q z
 | [],_,h=>h
 | x :: xs,acc,h=>by
  simp only [jN];refine wS hf xs _ ?_;intro z hz;rcases ap.1 hz with hz | hz
  ·exact h z hz
  ·rw [List.mem_singleton.1 hz];exact hf acc x h
theorem pK (n:Int):I64 (wrap64 n):=by
 unfold wrap64 I64;have:=Int.emod_nonneg (n+9223372036854775808) (show (18446744073709551616:Int) ≠ 0 by decide);have:=Int.emod_lt_of_pos (n+9223372036854775808) (show (0:Int)<18446744073709551616 by decide);omega
theorem nA:I64 0:=cu
theorem kB (before:List Int):∀ (zs:List Int)(s:Int),I64 s->I64 (dO before s zs)
 | [],_,h=>h
 | z :: zs,s,_=>by simp only [dO];exact kB before zs _ (pK _)
theorem kL (before:List Int)(hb:∀ z ∈ before,I64 z)(ch:Bool):∀ (zs:List Int)(i:Nat)(m:Int),I64 m->I64 (bA before ch i m zs)
 | [],_,_,h=>h
 | z :: zs,i,m,h=>by
  simp only [bA];refine kL before hb ch zs _ _ ?_;split
  ·split
   ·exact sn hb _
   ·exact h
  ·exact h
theorem zw:∀ (l:List GV)(n:Int),I64 n->I64 (zT n l)
 | [],_,h=>by rw [fM];exact h
 | x :: xs,n,_=>by rw [gQ];exact zw xs _ (pK _)
theorem uS (x:GV):I64 (rsz x):=by rw [nX];exact zw _ _ cu
theorem C7 (t:List GN):∀ z ∈ aI t,I64 z:=by
 refine wS (fun acc x h=>?_) t [] U;unfold gZ;split
 ·exact nA
 ·split
  ·simp [I64]
  ·split
   ·exact kB _ _ _ nA
   ·split
    ·exact pK _
    ·exact pK _
theorem FN (t:List GN):∀ z ∈ bS t,I64 z:=by
 refine wS (fun acc x h=>?_) t [] U;unfold jO;split
 ·exact uS _
 ·split
  ·simp [I64]
  ·split
   ·exact kB _ _ _ cu
   ·exact kL _ h _ _ _ _ nA
theorem cP {w w':World}{M:Nat->Prop}{base:Nat}{e:TypeId}{size:Nat}{v:Value}{n:Nat}{xs:List Value}(h:w.ownsRow base e size v n xs)(hf:Fr M w w')(hm:∀ b,v.ownBlock=some b->¬ M b):w'.ownsRow base e size v n xs:=by
 refine ⟨h.1,?_⟩;rcases h.2 with h | ⟨g,cap,cur,rfl,h2,h3,h4⟩
 ·exact .inl h
 ·exact .inr ⟨g,cap,cur,rfl,h2,Blk.fr (t:=e) h3 hf (hm g rfl),h4⟩
def FM (t:List GN)(W:World)(v3 v4 i:Value)(wr:World):Prop :=
 ∃ k:Nat,k<=t.length∧i=↑k∧wr.ownsRow W 3 1 v3 k ((aI (t.take k)).map (Value.int .i64))∧wr.ownsRow W 3 1 v4 k ((bS (t.take k)).map (Value.int .i64)) ∧
  (∀ b,v3.ownBlock=some b->v4.ownBlock ≠ some b)∧Ext W wr∧aO t k∧bE t=dD t k (t.length - k)
theorem mX {β:Type}(f:List β->GN->β)(d:β)(t:List GN){k:Nat}(hk:k<t):(jN f [] (t.take (k+1))).getD k d=(jN f [] t).getD k d:=by
 rw [gX _ _ _ I];simp [List.getD]
theorem eQ (t:List GN)(P:Nat->Prop)(vn:Value)(w:World)(ht:Nds w P vn t)(hvl:∀ x ∈ t,x.values.length<=1000000000) :
  qg 10 #[.agg #[vn]] w (dE (.int .i64 (bE t)) w):=by
 have HT:=aYf ht;have HVL:=aYf hvl;obtain ⟨An,cn,en,hn1,hn2⟩:=ht.form;subst en;clear ht hvl;by_cases hbig:4096<t.length
 ·have HV:=aYf (show bE t=4 by unfold bE;rw [if_pos hbig])
  go_enter Tryz.func10,Tryz.ntmps10;go_wp2_with fail;go_ret;exact ⟨aK HV.out.symm,(aq w).alloc' _⟩
 have HV:=aYf (show bE t=dD t 0 t.length by unfold bE;rw [if_neg hbig]);have hsm:t.length<=4096:=by omega
 go_enter Tryz.func10,Tryz.ntmps10;go_wp2_with fail;have HE:=aYf (show Ext w (w.alloc (qk #[.slice An t cn] 25)) from (aq w).alloc' _);have HBX:=aYf (aw w 25 #[.slice An t cn]);generalize hW:w.alloc (qk #[.slice An t cn] 25)=W at *;clear hW;go_loopw [3,4,5] (fun v3 v4 i wr=>FM t W v3 v4 i wr) (fun _ _ i _=>t.length - (intOf i).toNat)
 case atStart=>exact ⟨0,af _,rfl,aT _ _ _ _,aT _ _ _ _,fun b h=>by simp [Value.ownBlock] at h,aq _,⟨af _,hsm,fun j hj=>by omega⟩,HV.out⟩
 case round =>
  obtain ⟨k,hk,rfl,ho3,ho4,hne,hx,hgd,hvf⟩:=hrel;have HO3:=aYf ho3;have HO4:=aYf ho4;have HNE:=aYf hne;have HX:=aYf hx;have HGD:=aYf hgd;have HVF:=aYf hvf;have b0:=(HBX.out.ext hx).cell' (u:=.slice An t cn) 0 rfl;have hsz:=hx.size;have hsw:=HE.out.size;clear ho3 ho4 hne hx hgd hvf;by_cases hlt:k<t
  ·obtain ⟨b1,o1,a1,rfl,-,ha1,hc1⟩:=(HT.out.carry (Q:=fun b=>b<w.heap.size) (aB.of_ext (HE.out.trans' HX.out)) (fun b hb _=>hb)).get hlt
   have HVX:=aYf (HVL.out _ (aC (d:=default) hlt))
   have HCK:=aYf (show bE t=if cY t k=0 then dD t (k+1) (t.length - (k+1)) else cY t k by
    rw [HVF.out,show t.length - k=(t.length - (k+1))+1 by omega];rfl)
   have HCR:=aYf (show cY t k=_ from by rw [cY]);have HLS:=aYf (show aI (t.take (k+1))=aI (t.take k) ++ [gZ (aI (t.take k)) (t.getD k default)] by unfold aI;rw [aW default hlt,iW]);have HSS:=aYf (show bS (t.take (k+1))=bS (t.take k) ++ [jO (bS (t.take k)) (t.getD k default)] by unfold bS;rw [aW default hlt,iW]);have HLG:=aYf (show (aI (t.take (k+1))).getD k 0=(aI t).getD k 0 from mX _ _ _ hlt);have HSG:=aYf (show (bS (t.take (k+1))).getD k 0=(bS t).getD k 0 from mX _ _ _ hlt);have HA1:=aYf ha1;have HC1:=aYf hc1;have c0:=hc1.c0;have c1:=hc1.c1;have c2:=hc1.c2;have c3:=hc1.c3;have c4:=hc1.c4;have c5:=hc1.c5;have c6:=hc1.c6;have c7:=hc1.c7;have c8:=hc1.c8;have c9:=hc1.c9;have c10:=hc1.c10;have c11:=hc1.c11;clear hc1 ha1;generalize hgx:t.getD k default=x at *;have HGX:=aYf hgx;clear hgx;have hll:(aI (t.take k))=k:=by unfold aI;rw [dU];simp;omega
   have hsl:(bS (t.take k))=k:=by unfold bS;rw [dU];simp;omega
   have HLL:=aYf hll;have HSL:=aYf hsl;clear hll hsl;go_wp2_with fail;refine (F3 k x a1 _ _ (HA1.out.ext ((aq wr).alloc' _)) HVX.out).mono ?_;rintro e w1 ⟨rfl,hx1⟩;have HX1:=aYf (((aq wr).alloc' (qk (aN x a1).toArray 60)).trans' hx1);have BX:=aYf ((aw wr 60 (aN x a1).toArray).ext hx1);clear hx1 c0 c1 c2 c3 c4 c5 c6 c7 c8 c9 c10 c11;have x0:=BX.out.cell' (u:=↑x.kind) 0 rfl;have x1:=BX.out.cell' (u:=x.name) 1 rfl;have x2:=BX.out.cell' (u:=↑x.lo) 2 rfl;have x3:=BX.out.cell' (u:=↑x.hi) 3 rfl;have x4:=BX.out.cell' (u:=.slice a1.wA x.weights a1.wc) 4 rfl;have x5:=BX.out.cell' (u:=.slice a1.lA x.labels a1.lc) 5 rfl;have x6:=BX.out.cell' (u:=.slice a1.vA x.values a1.vc) 6 rfl;have x7:=BX.out.cell' (u:=.slice a1.kA x.kids a1.kc) 7 rfl;have x8:=BX.out.cell' (u:=↑x.value.kind) 8 rfl;have x9:=BX.out.cell' (u:=↑x.value.n) 9 rfl;have x10:=BX.out.cell' (u:=x.value.s) 10 rfl;have x11:=BX.out.cell' (u:=.slice a1.xA x.value.kids a1.xc) 11 rfl;have hs1:=HX1.out.size;by_cases hz:iK k x=0
   ·have HZ:=aYf hz
    have tz:(iK k x != 0)=false:=er;have HOK:=aYf (kK.1 hz);clear hz;go_wp2_with fail;refine (Hp (aI (t.take k)) x a1 _ W u3 _ (HA1.out.ext HX1.out) ((HO3.out.ext_ HX1.out).len_cast HLL.out.symm rfl) I (by rw [HLL.out];omega) (C7 _) (by rw [HLL.out];exact HOK.out)).mono ?_;rintro e w2 ⟨v3,rfl,hp3,hf2,hq3⟩;have hB:∀ b,b<W.heap.size->¬ some b=u3.ownBlock:=fun b hb e=>by have:=HO3.out.block_ge e.symm;omega
    have BX2:=aYf (BX.out.fr hf2 (fun e=>by have:=HO3.out.block_lt e.symm;omega));have HP3:=aYf hp3;have hs2:=hf2.size;have HA2:=aYf ((HA1.out.ext HX1.out).carry (Q:=fun b=>b<w.heap.size) (fun b hb h=>hf2.block b hb (hB b I)) (fun _ _ h=>h));have HO42:=aYf (cP (HO4.out.ext_ HX1.out) hf2 (fun b h e=>HNE.out b e.symm h))
    have HQ3:=aYf (show ∀ b,v3.ownBlock=some b->¬ some b=u4.ownBlock from by
     intro b hb e;rcases hq3 with h | ⟨b',h,hb'⟩
     ·rw [h] at hb;exact HNE.out b hb e.symm
     ·rw [hb] at h;injection h with h;have:=HO4.out.block_lt e.symm;omega)
    have HB2:=aYf (show Ext W w2 from Fr.new_ext ((ar (HX.out.trans' HX1.out)).trans hf2) (fun b hb=>HO3.out.block_ge hb.symm));clear hp3 hf2 hq3 hB x0 x1 x2 x3 x4 x5 x6 x7 x8 x9 x10 x11;have x0:=BX2.out.cell' (u:=↑x.kind) 0 rfl;have x1:=BX2.out.cell' (u:=x.name) 1 rfl;have x2:=BX2.out.cell' (u:=↑x.lo) 2 rfl;have x3:=BX2.out.cell' (u:=↑x.hi) 3 rfl;have x4:=BX2.out.cell' (u:=.slice a1.wA x.weights a1.wc) 4 rfl;have x5:=BX2.out.cell' (u:=.slice a1.lA x.labels a1.lc) 5 rfl;have x6:=BX2.out.cell' (u:=.slice a1.vA x.values a1.vc) 6 rfl;have x7:=BX2.out.cell' (u:=.slice a1.kA x.kids a1.kc) 7 rfl;have x8:=BX2.out.cell' (u:=↑x.value.kind) 8 rfl;have x9:=BX2.out.cell' (u:=↑x.value.n) 9 rfl;have x10:=BX2.out.cell' (u:=x.value.s) 10 rfl;have x11:=BX2.out.cell' (u:=.slice a1.xA x.value.kids a1.xc) 11 rfl;go_wp2_with fail;refine (DY (bS (t.take k)) x a1 _ W u4 _ HA2.out (HO42.out.len_cast HSL.out.symm rfl) I (by rw [HSL.out];omega) (FN _) (by rw [HSL.out];exact HOK.out)).mono ?_;rintro e w3 ⟨v4,rfl,hp4,hf3,hq4⟩;have BX3:=aYf (BX2.out.fr hf3 (fun e=>by have:=HO4.out.block_lt e.symm;omega));have hB:∀ b,b<W.heap.size->¬ some b=u4.ownBlock:=fun b hb e=>by have:=HO4.out.block_ge e.symm;omega
    have HA3:=aYf (HA2.out.carry (Q:=fun b=>b<w.heap.size) (fun b hb h=>hf3.block b hb (hB b I)) (fun _ _ h=>h));have HB3:=aYf (show Ext W w3 from Fr.new_ext ((ar HB2.out).trans hf3) (fun b hb=>HO4.out.block_ge hb.symm));have hP3:=cP HP3.out hf3 HQ3.out;rw [<- HLS.out,HLL.out] at hP3;rw [<- HSS.out,HSL.out] at hp4;have HP3':=aYf hP3;have HP4:=aYf hp4
    have HNE3:=aYf (show ∀ b,v3.ownBlock=some b->v4.ownBlock ≠ some b from by
     intro b hb e;rcases hq4 with h | ⟨b',h,hb'⟩
     ·rw [h] at e;exact HQ3.out b hb e.symm
     ·rw [e] at h;injection h with h;have:=HP3.out.block_lt hb;omega)
    obtain ⟨q3,d3,e3,hd31,hd32,g3⟩:=qB hP3 (j:=k) I;obtain ⟨q4,d4,e4,hd41,hd42,g4⟩:=qB hp4 (j:=k) I;rw [HLG.out] at g3;rw [HSG.out] at g4;subst e3 e4;clear hP3 hp4 hf3 hq4 hB x0 x1 x2 x3 x4 x5 x6 x7 x8 x9 x10 x11;have hk1:(0:Int)<=(k:Int):=by omega
    generalize hL:(aI t).getD k 0=L at *;generalize hS:(bS t).getD k 0=S at *;have HCK2:=aYf (show cY t k=if 256<L∨1024<S then 4 else if x.kind=4 then iI t x else 0 by rw [HCR.out,if_pos HZ.out]);have HLQ:=aYf hL;have HSQ:=aYf hS;clear hL hS;have x0:=BX3.out.cell' (u:=↑x.kind) 0 rfl;by_cases hL1:256<L
    ·have HV4:=aYf (show bE t=4 from HCK.out.trans (by rw [HCK2.out.trans (if_pos (Or.inl hL1))];rfl))
     go_wp2_with fail;go_ret;exact ⟨aK HV4.out.symm,HE.out.trans' HB3.out⟩
    have tL:decide (256<L)=false:=aYj hL1;by_cases hS1:1024<S
    ·have HV4:=aYf (show bE t=4 from HCK.out.trans (by rw [HCK2.out.trans (if_pos (Or.inr hS1))];rfl))
     go_wp2_with fail;go_ret;exact ⟨aK HV4.out.symm,HE.out.trans' HB3.out⟩
    have tS:decide (1024<S)=false:=aYj hS1;by_cases hk4:x.kind=4
    ·have t4:(x.kind == 4)=true:=aYh hk4
     have hkp:0<x.kids.length:=by have:=HOK.out.bind hk4;omega
     have hkz:=HOK.out.kids _ (aC (d:=0) hkp);have HKZ:=aYf hkz;have HCK3:=aYf (show cY t k=iI t x by rw [HCK2.out,if_neg I,if_pos hk4]);clear hk4 hkz;have x1:=BX3.out.cell' (u:=x.name) 1 rfl;have x2:=BX3.out.cell' (u:=↑x.lo) 2 rfl;have x3:=BX3.out.cell' (u:=↑x.hi) 3 rfl;have x4:=BX3.out.cell' (u:=.slice a1.wA x.weights a1.wc) 4 rfl;have x5:=BX3.out.cell' (u:=.slice a1.lA x.labels a1.lc) 5 rfl;have x6:=BX3.out.cell' (u:=.slice a1.vA x.values a1.vc) 6 rfl;have x7:=BX3.out.cell' (u:=.slice a1.kA x.kids a1.kc) 7 rfl;have x8:=BX3.out.cell' (u:=↑x.value.kind) 8 rfl;have x9:=BX3.out.cell' (u:=↑x.value.n) 9 rfl;have x10:=BX3.out.cell' (u:=x.value.s) 10 rfl;have x11:=BX3.out.cell' (u:=.slice a1.xA x.value.kids a1.xc) 11 rfl;have y0:=(HBX.out.ext HB3.out).cell' (u:=.slice (qt b1 o1) t cn) 0 rfl;go_wp2_with fail;refine (JW t x a1 (x.kids.getD 0 0).toNat (fun b=>b<w.heap.size) _ _ (HT.out.carry (aB.of_ext (HE.out.trans' HB3.out)) (fun b hb _=>hb)) HA3.out hkp (Int.toNat_of_nonneg HKZ.out.1).symm (HGD.out.mono (by have:=HKZ.out;omega))).mono ?_;rintro e w4 ⟨rfl,hx4⟩;have HX4:=aYf hx4;clear hx4 x0 x1 x2 x3 x4 x5 x6 x7 x8 x9 x10 x11 y0 g3 g4;by_cases hbz:iI t x=0
     ·have tb:(iI t x != 0)=false:=by rw [bne_eq_false_iff_eq];exact hbz
      have HCZ:=aYf (HCK3.out.trans hbz);clear hbz;go_wp2_with fail;go_roundw
      case rel =>
       refine ⟨k+1,I,by go_num,HP3'.out.ext_ HX4.out,HP4.out.ext_ HX4.out,HNE3.out,HB3.out.trans' HX4.out,⟨I,hsm,fun j hj=>?_⟩,?_⟩
       ·rcases Nat.lt_succ_iff_lt_or_eq.1 hj with h | rfl
        ·exact HGD.out.2.2 j h
        ·exact HCZ.out
       ·rw [HCK.out,if_pos HCZ.out]
      case measure=>simp [intOf];omega
     ·have tb:(iI t x != 0)=true:=bne_iff_ne.2 hbz
      have HVB:=aYf (show bE t=iI t x by rw [HCK.out,HCK3.out,if_neg hbz]);clear hbz;go_wp2_with fail;go_ret;exact ⟨aK HVB.out.symm,HE.out.trans' (HB3.out.trans' HX4.out)⟩
    ·have t4:(x.kind == 4)=false:=aYg hk4
     have HCZ:=aYf (show cY t k=0 by rw [HCK2.out,if_neg I,if_neg hk4]);clear hk4;go_wp2_with fail;go_roundw
     case rel =>
      refine ⟨k+1,I,by go_num,HP3'.out,HP4.out,HNE3.out,HB3.out,⟨I,hsm,fun j hj=>?_⟩,?_⟩
      ·rcases Nat.lt_succ_iff_lt_or_eq.1 hj with h | rfl
       ·exact HGD.out.2.2 j h
       ·exact HCZ.out
      ·rw [HCK.out,if_pos HCZ.out]
     case measure=>simp [intOf];omega
   ·have tz:(iK k x != 0)=true:=bne_iff_ne.2 hz
    have HVN:=aYf (show bE t=iK k x by rw [HCK.out,HCR.out,if_neg hz,if_neg hz]);clear hz;go_wp2_with fail;go_ret;exact ⟨aK HVN.out.symm,HE.out.trans' (HX.out.trans' HX1.out)⟩
  ·have HVZ:=aYf (show bE t=0 by rw [HVF.out,show t.length - k=0 by omega];rfl)
   go_wp2_with fail;go_ret;exact ⟨aK HVZ.out.symm,HE.out.trans' HX.out⟩
