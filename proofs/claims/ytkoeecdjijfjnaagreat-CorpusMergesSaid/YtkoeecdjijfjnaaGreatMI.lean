/- CorpusMerges: for every input the law returns true, and each argument reads behind the call as it read before. Conditions: none besides the statement's own. -/
import Derived.Test.YtkoeecdjijfjnaaGreatRows
import Derived.WalkKit
import Derived.ProofKit
import Derived.OpenShut
import Derived.SizedLaws
import Derived.Test.YtkoeecdjijfjnaaGreatMG
set_option maxRecDepth 100000
set_option maxHeartbeats 8000000
namespace Go.Proofs.YtkoeecdjijfjnaaGreat
open Go.RowKit
theorem gN {α:Type} [BEq α] [LawfulBEq α] (x y:α):(x == y)=(y == x):=BEq.comm
theorem aAp (x y:GV):(cE x y == 0)=(cE y x == 0):=by
 rw [jR x y]
 by_cases h:cE x y=0
 ·rw [h];rfl
 ·rw [aZw h,aZw D]
theorem iC {n m:Nat}{f g:Nat->Bool}(h:∀ k,f k=g k):(decide (n=m) && (List.range n).all f)=(decide (m=n) && (List.range m).all g):=by
 by_cases e:n=m
 ·subst e
  rw [show f=g from funext h]
 ·rw [aZz e,aZz (fun h=>e h.symm)]
  rfl
theorem aL3 (x y:GN):sN x y=sN y x:=by
 unfold sN eqI eqS eqV;rw [gN x.kind,gN x.name.toList,gN x.lo,gN x.hi,aAp x.value,iC (fun k=>gN (x.weights.getD k 0) _),iC (fun k=>gN (x.kids.getD k 0) _),iC (fun k=>gN (x.labels.getD k default).toList _),iC (fun k=>aAp (x.values.getD k default) _)]
theorem aIz (s t:List GN):eqT s t=eqT t s:=iC (fun k=>aL3 _ _)
theorem aQd {s t:List GN}(hs:bY s=0)(ht:bY t=0)(hf:∀ x ∈ t,x.kind=3->x.kids.length<=4)(h:s=t∨∃ k x',k<t.length∧s=t.set k x'∧Sp1 (t.getD k default) x'):(∀ x ∈ s,x.kind=3->x.kids.length<=5)∧s.length=t.length:=by
 rcases h with rfl | ⟨k,x',hk,rfl,hl,hsp⟩
 ·exact ⟨fun x hx h3=>Nat.le_succ_of_le (hf x hx h3),rfl⟩
 refine ⟨fun x hx h3=>?_,U⟩;rcases List.mem_or_eq_of_mem_set hx with hx | rfl
 ·exact Nat.le_succ_of_le (hf x hx h3)
 have hm:t.getD k default ∈ t:=aD hk;rcases hsp with he | ⟨h1,h2,h4⟩
 ·have:=hf _ hm (by rw [<- he];exact h3)
  omega
 ·have n1:=((dW.1 ht).at_ hk).node
  have n2:=((dW.1 hs).at_ (j:=k) (by simpa using hk)).node;have e:(t.set k x).getD k default=x:=by simp [hk]
  rw [e] at n2;rw [h1];generalize t.getD k default=y at *;have u2:=n2.unused;have u1:=n1.unused;unfold fW unA unB unC at u1 u2;simp only [Bool.and_eq_true,Bool.not_eq_true',Bool.or_eq_false_iff,Bool.and_eq_false_imp,Bool.or_eq_true,decide_eq_false_iff_not,decide_eq_true_eq,Bool.not_eq_false'] at u1 u2;have w0:=u2.1.2.1 D;have v0:=u2.1.2.2 D;rw [h2] at w0;rw [h4] at v0;have hkd:=n1.kind;have h5:y.kind=0∨y.kind=1∨y.kind=2∨y.kind=3∨y.kind=4:=by omega
  rcases h5 with h5 | h5 | h5 | h5 | h5
  ·have:=u1.2
   rcases this with h6 | h6 <;> omega
  ·have:=u1.2
   rcases this with h6 | h6 <;> omega
  ·have:=n1.choice h5;omega
  ·have:=hf y hm h5;omega
  ·have:=n1.bind h5;omega
theorem MAt.weak {t:List GN}{vn ve:Value}{b:Int}{L:List GE}{m:Nat}{P P':Nat->Prop}{w:World}(h:MAt t vn b L m P ve w)(hP:∀ q,P q->P' q)(hx:∀ q,P' q->¬ mM m ve q)(hl:∀ q,P' q->q<w.heap.size):MAt t vn b L m P' ve w:=by
 obtain ⟨xs,h1,h2⟩:=h.own;exact ⟨h.box,h.tree.carry (fun _ _ _=>rfl) (fun q _ hq=>hP q hq),⟨xs,h1,h2.move fB (fun _ _ _=>rfl) (fun q _ hq=>hP q hq)⟩,fun q hq=>⟨fun e=>hx q hq (.inl e),fun e=>hx q hq (.inr e)⟩,h.ne,h.inc,h.bI,h.few,h.short,hl⟩
theorem wM (t:List GN)(b:Int)(gs:List GG):(jP t b gs).length<=gs.length:=by
 have:=nV (t:=t) (b:=b) (gs:=gs) gs.length (Nat.le_refl _)
 rwa [List.take_length] at this
noncomputable abbrev tl5:Code:=.seq aQz (.seq (.seq aQy (.cond (.tmp 114) (.seq aQx .ret) .skip)) (.seq aQw (.seq (.seq aQv (.cond (.tmp 121) (.seq aVg .ret) .skip)) (.seq aQu (.seq aQt .ret)))))
noncomputable abbrev aTo:Code:=.seq aX0 (.seq aVi (.seq aVf (.seq aVe (.seq aVd (.seq aVc (.seq aVb (.seq aVa (.seq (.seq aU9 (.cond (.tmp 57) (.seq aXz .ret) .skip)) (.seq aN6 (.seq aN5 (.seq (.seq aQ0 (.cond (.tmp 101) (.seq aVh .ret) .skip)) tl5)))))))))))
theorem aW1:Tryz.f5.body=some aTo:=Y
section
variable {w:World}{a:Act}{k:List Int}{Qk P:Nat->Prop}{vn vk n1:Value}{b b2 other at_ how:Int}{R:Exit->Act->World->Prop}{t:List GN}{L:List GE}{g:CA}{P1:Nat->Prop}{v1 vx:Value}{gt mx:Nat}
theorem aEc (hP:∀ q,P q->q<w.heap.size)(ht:Nds w P vn t)(hlen:t.length<=14)(hgen:fL t)(hk:bM w Qk vk k)(hQk:∀ q,Qk q->q<w.heap.size)(hc:cI t n1 b L g P1 v1 w)(hE:E5 g.c mx L vx w)(hb2:0<=b2∧b2<=1099511627776)(h1:I64 at_)(h2:I64 how)(hz:I64 other)
  (hsz:a.tmps.size=146)(e2:Ev a (.tmp 2)=vk)(e4:Ev a (.tmp 4)=↑other)(e5:Ev a (.tmp 5)=↑at_)(e6:Ev a (.tmp 6)=↑how)(e15:Ev a (.tmp 15)=.pointer (some ⟨gt,0,none⟩))(c15:w.cell? ⟨gt,0,none⟩=some vn)(e17:Ev a (.tmp 17)=↑b2)(e18:Ev a (.tmp 18)=.pointer (some ⟨g.c,0,none⟩))(e20:Ev a (.tmp 20)=.pointer (some ⟨mx,0,none⟩))
  (hR:∀ a' w',a'.defers=a.defers->Ev a' (.tmp 14)=.bool true->Ext w w'->R .ret a' w'):Code.wp Tryz.prog tl5 R a w:=by
 refine wp_seq (aMf hsz e5 e6 e4 e15 c15 (aBc hP ht D hgen.m h1 h2 hz) ?_);intro a1 A c s w1 W g1 hs hsm hx1 hsp hxW hB e26;have z1:=g1.sz.trans hsz;have hxa:=hx1.trans' hxW;have hsW:=hs.ext hxW;have htW:=ht.ext hxa;have hs0:=hx1.size;have hs1:=hxW.size;refine wp_seq (wp_seq (aMe (bq:=eqT s t) (vm:=vn) z1 e26 (g1.get 15 e15) (fun w' h=>⟨aA h (hB.cell' 0 rfl),aA (hxa.trans' h) c15⟩) (gS s _ _ W hsW (fun x hx=>(hsm x hx).2.2.1)) (fun w' h=>vK s t _ _ _ _ w' (hsW.ext h) (htW.ext h)) ?_));intro a2 w2 hx2 g2 e114;have z2:=g2.sz.trans z1;have hs2:=hx2.size
 by_cases hcase:bY s=0∧eqT s t=false
 ·obtain ⟨hv,hq⟩:=hcase
  refine wp_cond_false (e114.trans (by rw [hq,aZy hv];rfl)) (wp_skip ?_);obtain ⟨hfw,hle⟩:=aQd hv hgen.good hgen.few hsp;have hx02:=hxa.trans' hx2;refine wp_seq (aMc (RV:=fun u w'=>uC s b2 k 12 w2 (.returned u) w') z2 (g2.get 26 e26) (g2.get 17 (g1.get 17 e17)) (g2.get 2 (g1.get 2 e2)) (aA hx2 (hB.cell' 0 rfl)) ((mO (P:=fun q=>q<w2.heap.size∧(P q∨w.heap.size<=q)) (vn:=.slice A s.length c) (most:=12) hv hfw hsm D D hb2 (fun q hq=>hq.1) (fun q hq=>Nat.lt_of_lt_of_le (hQk q hq) hx02.size) ((hsW.ext hx2).carry (fun _ _ _=>rfl) (fun q h1 h2=>⟨h1,h2⟩)) (hk.ext hx02)).mono ?_) ?_)
  ·rintro e w' ⟨gs,n3,g3,P3,v3,q1,rfl,q2,q3⟩
   exact ⟨_,rfl,gs,n3,g3,P3,v3,q1,rfl,q2,q3⟩
  rintro a3 u w3 ⟨gs,n3,g3,P3,v3,-,hu,hM,hx3⟩ g3' e27;injection hu with hu;subst hu;have z3:=g3'.sz.trans z2;refine wp_seq (wp_seq (aMb z3 e27 ?_));intro a4 g4 e121;have z4:=g4.sz.trans z3;refine wp_cond_false e121 (wp_skip ?_);have hx03:=hx02.trans' hx3;refine wp_seq (aMa z4 (g4.get 18 (g3'.get 18 (g2.get 18 (g1.get 18 e18)))) (g4.get 27 e27) (yE (hc.ext hx03) hM.cor (by rw [aIz];exact hq)) ?_);intro a5 w5 hx5 g5 e28 e29;have z5:=g5.sz.trans z4;have hx05:=hx03.trans' hx5;refine wp_seq (aL9 z5 e28 e29 (g5.get 18 (g4.get 18 (g3'.get 18 (g2.get 18 (g1.get 18 e18))))) (g5.get 20 (g4.get 20 (g3'.get 20 (g2.get 20 (g1.get 20 e20))))) ⟨fun w' h=>hE.cx w' (hx05.trans' h),fun w' h=>hE.ec w' (hx05.trans' h),fun w' P v h=>hE.sx w' P v (hx05.trans' h)⟩ (fun w' _=>vW w') ?_);intro a6 w6 hx6 g6 e14;exact wp_ret (hR _ _ (g6.df.trans (g5.df.trans (g4.df.trans (g3'.df.trans (g2.df.trans g1.df))))) e14 (hx05.trans' hx6))
 ·refine wp_cond_true (e114.trans ?_) (wp_seq (aMd z2 (vW w2) ?_))
  ·by_cases hv:bY s=0
   ·cases hq:eqT s t
    ·exact absurd ⟨hv,hq⟩ hcase
    ·simp
   ·simp [hv]
  intro a3 w3 hx3 g3 e14;exact wp_ret (hR _ _ (g3.df.trans (g2.df.trans g1.df)) e14 (hxa.trans' (hx2.trans' hx3)))
end
section
variable {w:World}{a:Act}{l k n:List Int}{Ql Qk Qn:Nat->Prop}{vl vk vn:Value}{bu other at_ how:Int}{R:Exit->Act->World->Prop}
theorem aEb (hl:bM w Ql vl l)(hk:bM w Qk vk k)(hn:bM w Qn vn n)(hQk:∀ b,Qk b->b<w.heap.size)(hQn:∀ b,Qn b->b<w.heap.size)(hbu:I64 bu)(hz:I64 other)(h1:I64 at_)(h2:I64 how)
  (hsz:a.tmps.size=146)(e0:Ev a (.tmp 0)=vl)(e1:Ev a (.tmp 1)=vk)(e2:Ev a (.tmp 2)=vn)(e3:Ev a (.tmp 3)=↑bu)(e4:Ev a (.tmp 4)=↑other)(e5:Ev a (.tmp 5)=↑at_)(e6:Ev a (.tmp 6)=↑how)
  (hR:∀ a' w',a'.defers=a.defers->Ev a' (.tmp 14)=.bool true->Ext w w'->R .ret a' w'):Code.wp Tryz.prog aTo R a w:=by
 refine wp_seq ?_;refine rW ?_
 iterate 1 refine l_v rfl rfl (by simp [execOp,go_sem,hsz];exact ⟨rfl,rfl⟩) ?_
 refine aJ ?_;have g0:Ag [0,1,2,3,4,5,6] a (Pt a 14 (.bool false)):=I;generalize Pt a 14 (.bool false)=a0 at *;have z0:=g0.sz.trans hsz;refine wp_seq (aQn z0 (g0.get 0 e0) (aGk l Ql vl w hl) ?_);intro a1 A c t w1 W g1 hnd hgen hlen hx1 hxW hB e15;have z1:=g1.sz.trans z0;have hb:=fK (n:=bu) (m:=60) D;have hb2:=fK (n:=other) (m:=60) D;refine wp_seq (aQm z1 (g1.get 3 (g0.get 3 e3)) ((eN bu 60 W hbu D D).mono (fun _ _ q=>⟨q.1,q.2.symm⟩)) ?_);intro a2 g2 e16;have z2:=g2.sz.trans z1;refine wp_seq (aQl z2 (g2.get 4 (g1.get 4 (g0.get 4 e4))) ((eN other 60 W hz D D).mono (fun _ _ q=>⟨q.1,q.2.symm⟩)) ?_);intro a3 g3 e17;have z3:=g3.sz.trans z2;generalize fD bu 60=b at *;generalize fD other 60=b2 at *;have hs1:=hx1.size;have hsW:=hxW.size;have lgt:=hB.lt;have hx0W:=hx1.trans' hxW;have hndW:=hnd.ext hxW;have hfw:∀ x ∈ t,x.kind=3->x.kids.length<=5:=fun x hx h3=>Nat.le_succ_of_le (hgen.few x hx h3)
 have hRd:∀ p:List Int,p.length<=1000->RdT t p:=fun p hp=>⟨dW.1 hgen.good,D,hfw,D⟩
 have hvl:∀ x ∈ t,x.values.length<=1000000:=fun x hx=>(hgen.small x hx).2.2.1
 have f1:=g3.get 1 (g2.get 1 (g1.get 1 (g0.get 1 e1)));have f2:=g3.get 2 (g2.get 2 (g1.get 2 (g0.get 2 e2)));have f4:=g3.get 4 (g2.get 4 (g1.get 4 (g0.get 4 e4)));have f5:=g3.get 5 (g2.get 5 (g1.get 5 (g0.get 5 e5)));have f6:=g3.get 6 (g2.get 6 (g1.get 6 (g0.get 6 e6)));have f15:=g3.get 15 (g2.get 15 e15);have f16:=g3.get 16 e16;refine wp_seq (aQk (RV:=fun u w'=>uC t b k 12 W (.returned u) w') z3 f15 f16 f1 (hB.cell' 0 rfl) ((mO (vn:=.slice A t.length c) (most:=12) hgen.good hfw hgen.small hlen D D (fun q hq=>by omega) (fun q hq=>Nat.lt_of_lt_of_le (hQk q hq) hx0W.size) hndW (hk.ext hx0W)).mono ?_) ?_)
 ·rintro e w' ⟨gs,n3,g3,P3,v3,q1,rfl,q2,q3⟩
  exact ⟨_,rfl,gs,n3,g3,P3,v3,q1,rfl,q2,q3⟩
 rintro a4 u w4 ⟨gs1,n1,gc,P1,v1,hs1',hu,hC,hx4⟩ g4 e18;injection hu with hu;subst hu;have z4:=g4.sz.trans z3;have hs4:=hx4.size;have hx04:=hx0W.trans' hx4;refine wp_seq (aQj (RV:=fun u w'=>uC t b2 n 12 w4 (.returned u) w') z4 (g4.get 15 f15) (g4.get 17 e17) (g4.get 2 f2) (aA hx4 (hB.cell' 0 rfl)) ((mO (vn:=.slice A t.length c) (most:=12) hgen.good hfw hgen.small hlen D D (fun q hq=>by omega) (fun q hq=>Nat.lt_of_lt_of_le (hQn q hq) hx04.size) (hndW.ext hx4) (hn.ext hx04)).mono ?_) ?_)
 ·rintro e w' ⟨gs,n3,g3,P3,v3,q1,rfl,q2,q3⟩
  exact ⟨_,rfl,gs,n3,g3,P3,v3,q1,rfl,q2,q3⟩
 rintro a5 u w5 ⟨gs2,n2,gd,P2,v2,hs2',hu,hD,hx5⟩ g5 e19;injection hu with hu;subst hu;have z5:=g5.sz.trans z4;have hs5:=hx5.size;have hx05:=hx04.trans' hx5;refine wp_seq (aQi (RV:=fun u w'=>uB t (.slice A t.length c) b k 12 (fun b=>w.heap.size<=b∧b<w1.heap.size) w5 (.returned u) w') z5 (g5.get 15 (g4.get 15 f15)) (g5.get 16 (g4.get 16 f16)) (g5.get 1 (g4.get 1 f1)) (aA hx5 (aA hx4 (hB.cell' 0 rfl))) ((pL (vn:=.slice A t.length c) (most:=12) hRd hvl hgen.good hfw hlen D D (fun q hq=>by omega) (fun q hq=>Nat.lt_of_lt_of_le (hQk q hq) hx05.size) ((hndW.ext hx4).ext hx5) (hk.ext hx05)).mono ?_) ?_)
 ·rintro e w' ⟨gs,m,ve,P',q1,rfl,q2⟩
  exact ⟨_,rfl,gs,m,ve,P',q1,rfl,q2⟩
 rintro a6 u w6 ⟨gs3,m1,u1,Px,hs3',hu,hX,hm1,hPx,hx6⟩ g6 e20;injection hu with hu;subst hu;obtain rfl:=hs3'.uniq hs1';have z6:=g6.sz.trans z5;have hs6:=hx6.size;have hx06:=hx05.trans' hx6;refine wp_seq (aQh (RV:=fun u w'=>uB t (.slice A t.length c) b2 n 12 (fun b=>w.heap.size<=b∧b<w1.heap.size) w6 (.returned u) w') z6 (g6.get 15 (g5.get 15 (g4.get 15 f15))) (g6.get 17 (g5.get 17 (g4.get 17 e17))) (g6.get 2 (g5.get 2 (g4.get 2 f2))) (aA hx6 (aA hx5 (aA hx4 (hB.cell' 0 rfl)))) ((pL (vn:=.slice A t.length c) (most:=12) hRd hvl hgen.good hfw hlen D D (fun q hq=>by omega) (fun q hq=>Nat.lt_of_lt_of_le (hQn q hq) hx06.size) (((hndW.ext hx4).ext hx5).ext hx6) (hn.ext hx06)).mono ?_) ?_)
 ·rintro e w' ⟨gs,m,ve,P',q1,rfl,q2⟩
  exact ⟨_,rfl,gs,m,ve,P',q1,rfl,q2⟩
 rintro a7 u w7 ⟨gs4,m2,u2,Py,hs4',hu,hY,hm2,hPy,hx7⟩ g7 e21;injection hu with hu;subst hu;obtain rfl:=hs4'.uniq hs2';have z7:=g7.sz.trans z6;have hs7:=hx7.size;have hx07:=hx06.trans' hx7;have hl1:=wM t b gs3;have hl2:=wM t b2 gs4;have hg3:=hs3'.1;have hg4:=hs4'.1;generalize jP t b gs3=L1 at *;generalize jP t b2 gs4=L2 at *;have k18:=g7.get 18 (g6.get 18 (g5.get 18 e18));have k19:=g7.get 19 (g6.get 19 e19);have k20:=g7.get 20 e20;have k2:=g7.get 2 (g6.get 2 (g5.get 2 (g4.get 2 f2)));have k4:=g7.get 4 (g6.get 4 (g5.get 4 (g4.get 4 f4)));have k5:=g7.get 5 (g6.get 5 (g5.get 5 (g4.get 5 f5)));have k6:=g7.get 6 (g6.get 6 (g5.get 6 (g4.get 6 f6)));have k15:=g7.get 15 (g6.get 15 (g5.get 15 (g4.get 15 f15)));have k17:=g7.get 17 (g6.get 17 (g5.get 17 (g4.get 17 e17)));have d7:a7.defers=a.defers:=((((((g7.df.trans g6.df).trans g5.df).trans g4.df).trans g3.df).trans g2.df).trans g1.df).trans g0.df;have hC7:=hC.ext (hx5.trans' (hx6.trans' hx7));have hD7:=hD.ext (hx6.trans' hx7);have hX7:=hX.ext hx7;have hB7:=hB.ext (hx4.trans' (hx5.trans' (hx6.trans' hx7)));have hnd7:=hndW.ext (hx4.trans' (hx5.trans' (hx6.trans' hx7)));have loC:=hC.lo;have loD:=hD.lo;refine wp_seq (wp_seq (aQg z7 k18 k19 ?_));intro a8 g8 e57
 have z8:=g8.sz.trans z7;refine wp_cond_false e57 (wp_skip ?_);refine wp_seq (aMi z8 (g8.get 18 k18) ((aEd _)) ?_);intro a9 g9 e23;have z9:=g9.sz.trans z8;refine wp_seq (aMh z9 (g9.get 18 (g8.get 18 k18)) (g9.get 19 (g8.get 19 k19)) (aEe hC7.cor (fun q hq=>(hC7.lo q (.inl hq)).2) hD7.cor (aIy t) D) ?_);rintro a10 w8 ⟨P1',v1',hC8,hF8,hP8,hM8⟩ g10 e24 e25;have z10:=g10.sz.trans z9;have hs8:=hF8.size;have nM:∀ q,gc.M v1 q->W.heap.size<=q∧q<w4.heap.size:=fun q hq=>loC q (.inr hq)
 have hPx':∀ q,Px q->q<w1.heap.size∨w5.heap.size<=q:=fun q hq=>(hPx q hq).imp (fun h=>h.2) id
 have hPy':∀ q,Py q->q<w1.heap.size∨w6.heap.size<=q:=fun q hq=>(hPy q hq).imp (fun h=>h.2) id
 have hxl:=hX.lt;have hyl:=hY.lt;have hxm:∀ q,mM m1 u1 q->q<w6.heap.size:=fun q hq=>hX.mlt hq
 have hym:∀ q,mM m2 u2 q->q<w7.heap.size:=fun q hq=>hY.mlt hq
 have hD8:cI t n2 b2 L2 gd P2 v2 w8:=hD7.cor.carry (aB.of_fr hF8 (fun q hq hm=>by have:=nM q hm;have:=loD q hq;omega)) (fun _ _ h=>h) hD7.cor.excl
 have hX8:MAt t (.slice A t.length c) b L1 m1 Px u1 w8:=hX7.carry (aB.of_fr hF8 (fun q hq hm=>by
  have:=nM q hm;rcases hq with hq | hq
  ·have:=hPx' q hq;omega
  ·have:=hm1 q hq;omega)) hs8
 have hY8:MAt t (.slice A t.length c) b2 L2 m2 Py u2 w8:=hY.carry (aB.of_fr hF8 (fun q hq hm=>by
  have:=nM q hm;rcases hq with hq | hq
  ·have:=hPy' q hq;omega
  ·have:=hm2 q hq;omega)) hs8
 have hB8:w8.cell? ⟨w1.heap.size,0,none⟩=some (.slice A t.length c):=(hB7.fr hF8 (fun hm=>by have:=nM _ hm;omega)).cell' 0 rfl;have hnd8:Nds w8 (fun b=>w.heap.size<=b∧b<w1.heap.size) (.slice A t.length c) t:=hnd7.carry (aB.of_fr hF8 (fun q hq hm=>by have:=nM q hm;omega)) (fun _ _ h=>h);have hd8:Ext w8 w8.drew:=(Ext.refl w8).drew';have hsd:=hd8.size
 have hX9:=(hX8.ext hd8).weak (P':=fun q=>Px q∨Py q) (fun q h=>.inl h) (fun q hq hm=>by
  have:=hm1 q hm;have:=hxm q hm;rcases hq with hq | hq
  ·have:=hX.excl q hq;exact hm.elim this.1 this.2
  ·have:=hPy' q hq;omega) (fun q hq=>by
  rcases hq with hq | hq
  ·have:=hxl q hq;omega
  ·have:=hyl q hq;omega)
 have hY9:=(hY8.ext hd8).weak (P':=fun q=>Px q∨Py q) (fun q h=>.inr h) (fun q hq hm=>by
  have:=hm2 q hm;rcases hq with hq | hq
  ·have:=hxl q hq;omega
  ·have:=hY.excl q hq;exact hm.elim this.1 this.2) (fun q hq=>by
  rcases hq with hq | hq
  ·have:=hxl q hq;omega
  ·have:=hyl q hq;omega)
 have hap:∀ q,mM m2 u2 q->¬ mM m1 u1 q:=fun q hq hm=>by
  have:=hm2 q hq;have:=hxm q hm;omega
 have h8lo:=hC8.lo
 have stay:∀ W9,xC t (.slice A t.length c) b (mgE b L1 L2) m1 (fun q=>Px q∨Py q) u1 w8.drew W9->(∃ vx,E5 gc.c m1 (mgE b L1 L2) vx W9)∧E5 gd.c m2 L2 u2 W9∧cI t n1 b (mgE b L1 L2) gc P1' v1' W9∧Nds W9 (fun b=>w.heap.size<=b∧b<w1.heap.size) (.slice A t.length c) t∧W9.cell? ⟨w1.heap.size,0,none⟩=some (.slice A t.length c)∧Fr (mM m1 u1) w8 W9:=by
  rintro W9 ⟨vx,hXX,hF9,hM9⟩;have hF9':Fr (mM m1 u1) w8 W9:=(Fr.of_ext hd8).trans hF9
  have hc9:cI t n1 b (mgE b L1 L2) gc P1' v1' W9:=hC8.cor.carry (aB.of_fr hF9' (fun q hq hm=>by
   have h3:=hm1 q hm;have h4:=hxm q hm;rcases hq with hq | hq
   ·rcases hP8 q hq with h | h
    ·have:=loC q (.inl h);omega
    ·omega
   ·rcases hM8 q hq with h | h
    ·have:=nM q h;omega
    ·omega)) (fun _ _ h=>h) hC8.cor.excl
  have hd9:cI t n2 b2 L2 gd P2 v2 W9:=hD8.carry (aB.of_fr hF9' (fun q hq hm=>by have:=hm1 q hm;have:=loD q hq;omega)) (fun _ _ h=>h) hD8.excl
  have hy9:MAt t (.slice A t.length c) b2 L2 m2 (fun q=>Px q∨Py q) u2 W9:=hY9.carry (aB.of_fr hF9 (fun q hq hm=>by
   rcases hq with hq | hq
   ·have:=hX9.excl q hq;exact hm.elim this.1 this.2
   ·exact hap q hq hm)) hF9.size
  refine ⟨⟨vx,fun w' h=>aA h hXX.cell2,fun w' h=>pN t n1 b _ gc P1' v1' w' (hc9.ext h),fun w' P v h hv=>zF hc9.few hv (hXX.ens.ext h)⟩,⟨fun w' h=>aA h hy9.cell2,fun w' h=>pN t n2 b2 _ gd P2 v2 w' (hd9.ext h),fun w' P v h hv=>zF hd9.few hv (hy9.ens.ext h)⟩,hc9,hnd8.carry (aB.of_fr hF9' (fun q hq hm=>by have:=hm1 q hm;omega)) (fun _ _ h=>h),?_,hF9'⟩;exact (World.cell?_of_block (w:=w8) (hF9'.block w1.heap.size (aN hB8) (fun hm=>by have:=hm1 w1.heap.size hm;omega))).trans hB8
 refine wp_seq (wp_seq (aMg (R:=xC t (.slice A t.length c) b (mgE b L1 L2) m1 (fun q=>Px q∨Py q) u1 w8.drew) z10 (g10.get 23 e23) e25 e24 (g10.get 18 (g9.get 18 (g8.get 18 k18))) (g10.get 19 (g9.get 19 (g8.get 19 k19))) (g10.get 20 (g9.get 20 (g8.get 20 k20))) (g10.get 21 (g9.get 21 (g8.get 21 e21))) (aBs hX9 hY9 hap D) (fun W9 h=>by
  obtain ⟨⟨vx,q1⟩,q2,-⟩:=stay W9 h;exact ⟨_,vx,_,u2,q1,q2⟩) ?_))
 intro a11 W9 w9 hA9 hx9 g11 e101;have z11:=g11.sz.trans z10;obtain ⟨⟨vx,hE9⟩,-,hc9,hnd9,hB9,hF9⟩:=stay W9 hA9;have hs9:=hF9.size;have hs10:=hx9.size;refine wp_cond_false e101 (wp_skip ?_);have hE09:Ext w w9:=(((Fr.of_ext hx07).trans (hF8.mono (N:=fun q=>w.heap.size<=q) (fun q hq=>by have:=nM q hq;omega))).trans (hF9.mono (fun q hq=>by have:=hm1 q hq;omega))).trans (Fr.of_ext hx9) |>.new_ext (fun _ h=>h);refine aEc (b2:=b2) (P:=fun q=>w.heap.size<=q∧q<w1.heap.size) (fun q hq=>by omega) (hnd9.ext hx9) hlen hgen (hn.ext hE09) (fun q hq=>Nat.lt_of_lt_of_le (hQn q hq) hE09.size) (hc9.ext hx9) ⟨fun w' h=>hE9.cx w' (hx9.trans' h),fun w' h=>hE9.ec w' (hx9.trans' h),fun w' P v h=>hE9.sx w' P v (hx9.trans' h)⟩ D h1 h2 hz z11 (g11.get 2 (g10.get 2 (g9.get 2 (g8.get 2 k2)))) (g11.get 4 (g10.get 4 (g9.get 4 (g8.get 4 k4)))) (g11.get 5 (g10.get 5 (g9.get 5 (g8.get 5 k5)))) (g11.get 6 (g10.get 6 (g9.get 6 (g8.get 6 k6)))) (g11.get 15 (g10.get 15 (g9.get 15 (g8.get 15 k15)))) (aA hx9 hB9) (g11.get 17 (g10.get 17 (g9.get 17 (g8.get 17 k17)))) (g11.get 18 (g10.get 18 (g9.get 18 (g8.get 18 k18)))) (g11.get 20 (g10.get 20 (g9.get 20 (g8.get 20 k20)))) ?_;intro a12 w12 q1 q2 q3;exact hR a12 w12 (q1.trans ((((g11.df.trans g10.df).trans g9.df).trans g8.df).trans d7)) q2 (hE09.trans' q3)
theorem nH (hl:bM w Ql vl l)(hk:bM w Qk vk k)(hn:bM w Qn vn n)(hQk:∀ b,Qk b->b<w.heap.size)(hQn:∀ b,Qn b->b<w.heap.size)(hbu:I64 bu)(hz:I64 other)(h1:I64 at_)(h2:I64 how) :
  Calls Tryz.prog 5 #[vl,vk,vn,↑bu,↑other,↑at_,↑how] w (cT (.bool true) w):=by
 refine calls_of_wp Tryz.func5 aW1 (aEb hl hk hn hQk hQn hbu hz h1 h2 ?_ ?_ ?_ ?_ ?_ ?_ ?_ ?_ ?_)
 ·simp [Tryz.ntmps5]
 iterate 7
  ·simp [Ev,Act.eval]
 ·intro a' w' q1 q2 q3
  refine bodyPost_ret (v:=.bool true) ?_ q1 ⟨rfl,q3⟩;have h5:a'.tmps[14]?.getD undef=.bool true:=by rw [<- q2];simp [Ev,Act.eval]
  simp [results,Tryz.results5,go_sem,h5]
end
end Go.Proofs.YtkoeecdjijfjnaaGreat
namespace Go.Proofs.YtkoeecdjijfjnaaGreat
open Go.ChangeShapes Go.WideShapes Go.ChangeAt Go.RowKit
theorem Tryz.own:ownKnob Tryz.prog.godebug=none:=Y
theorem Tryz.laidOut:laidOutB Tryz.prog=true:=Y
theorem Tryz.cells3:Tryz.prog.cellsOf 3=1:=Y
theorem Tryz.bytes3:Tryz.prog.bytesOf 3=8:=Y
theorem jU {n:Int}(h:(Lit.int .i64 n).wf=true):I64 n:=by
 have h1:IntKind.i64.min=-9223372036854775808:=rfl;have h2:IntKind.i64.max=9223372036854775807:=rfl;simp only [Lit.wf,Bool.and_eq_true,decide_eq_true_eq] at h;unfold I64;omega
theorem tW {H:Type}{enc:TypeId × Value->H}{W:World}{base:Nat}{v:Value}{d:DataW H}{p:List MemPlace}(hok:Value.okWide Tryz.prog W .any base 22 v)(h:DataW.Trod enc Tryz.prog W 0 (fun _=>true) true 22 v d p)(hlt:∀ x ∈ p,x.block<W.heap.size)
  (hw:∀ elems spare,d=.slice elems spare->(elems.length+spare.length)*8<=reachBytes):∃ l,bM W (fun b=>b<W.heap.size) v l:=by
 obtain ⟨a0,len,cap,rfl⟩:=okWide_slice Tryz.underlying22 hok;obtain ⟨fuel,hf⟩:=h;rcases open_ints Tryz.underlying22 Tryz.underlying3 Tryz.cells3 hf with ⟨hcs,hx⟩ | ⟨a,len',cap',zs,hcs,_,hl,hm,hz,hx,hcell,hwz⟩
 ·simp [Value.cells] at hcs
  obtain ⟨rfl,rfl,rfl⟩:=hcs;exact ⟨[],bM.nil⟩
 ·simp [Value.cells] at hcs
  obtain ⟨rfl,rfl,rfl⟩:=hcs;simp only [Prod.mk.injEq] at hx;obtain ⟨rfl,rfl⟩:=hx;simp only [if_true] at hz
  have hreach:cap*8<=140737488351232:=by
   have:=hw _ _ rfl;simp only [lits,List.length_map,List.length_take,List.length_drop,reachBytes] at this;omega
  have hlen:(zs.take len).length=len:=az
  refine ⟨zs.take len,some a,cap,by rw [hlen],by rw [hlen];exact hl,⟨by rw [hlen];omega,D⟩,fun x hx=>jU (hwz x (List.mem_of_mem_take hx)),U,?_⟩;intro hpos;rw [hlen] at hpos;obtain ⟨b,off,spot⟩:=a;have hspot:spot=none:=by simpa [Addr.add] using World.cell?_spot (hcell 0 D)
  subst hspot;refine ⟨b,off,rfl,hlt (.cell b off) (MemPlace.mem_row.2 ⟨0,D,U⟩),?_⟩;intro j u hu
  have hj:j<len:=by
   have:=(List.getElem?_eq_some_iff.1 hu).1;rw [List.length_map,hlen] at this;exact this
  have hc:=hcell j D;rw [add_plain] at hc;rw [hc];rw [List.getElem?_map,List.getElem?_take_of_lt hj] at hu;have hjz:j<zs.length:=by omega
  simp only [List.getElem?_eq_getElem hjz,Option.map_some,Option.some.injEq] at hu;rw [<- hu];simp [List.getD,hjz]
theorem kT (os:Os)(started:os.Started)(H:Type)(enc:TypeId × Value->H) :
  ReturnsInHanded {} Tryz.checked os 5 .any (Rows.corpusMergesSpec.pre6 enc Tryz.prog Tryz.f5 Rows.corpusMergesRow.domain false) (Rows.corpusMergesSpec.post enc Tryz.prog Tryz.f5 false true false false):=by
 refine returnsInHanded_of_change_sized (C:=Tryz.checked) Tryz.own started Y Tryz.func5
  (ChangeSpec.witness6 (enc:=enc) (C:=Tryz.checked) false ⟨#[],#[.slice none 0 0,.slice none 0 0,.slice none 0 0,.int .i64 0,.int .i64 0,.int .i64 0,.int .i64 0],[]⟩ 8 Y Y Y Y) ?_
 intro W base args ds gs before hval0 hW _ hsz0 _;have hsz:(DataW.weightsEach Tryz.prog (Tryz.f5.params.toList ++ Rows.corpusMergesSpec.plain.varTypes Tryz.prog) (ds ++ gs)).all (·<=reachBytes)=true:=hsz0;clear hsz0;have hval:∀ (j:Nat) t v,Tryz.f5.params[j]?=some t->args[j]?=some v->Value.okWide Tryz.prog W .any base t v:=hval0;have hW':=hW;obtain ⟨p,q,hA0,hV,rfl,_,_⟩:=hW;have hA:DataW.TrodAll enc Tryz.prog W 0 (fun _=>true) true Tryz.f5.params.toList args.toList ds p:=hA0;rw [Tryz.params5] at hA hval hsz;obtain ⟨v0,vs0,d0,ds0,p0,q0,hargs0,rfl,rfl,h0,r0⟩:=trodAll_cons hA;obtain ⟨v1,vs1,d1,ds1,p1,q1,rfl,rfl,rfl,h1,r1⟩:=trodAll_cons r0;obtain ⟨v2,vs2,d2,ds2,p2,q2,rfl,rfl,rfl,h2,r2⟩:=trodAll_cons r1;obtain ⟨v3,vs3,d3,ds3,p3,q3,rfl,rfl,rfl,h3,r3⟩:=trodAll_cons r2;obtain ⟨v4,vs4,d4,ds4,p4,q4,rfl,rfl,rfl,h4,r4⟩:=trodAll_cons r3;obtain ⟨v5,vs5,d5,ds5,p5,q5,rfl,rfl,rfl,h5,r5⟩:=trodAll_cons r4;obtain ⟨v6,vs6,d6,ds6,p6,q6,rfl,rfl,rfl,h6,r6⟩:=trodAll_cons r5;obtain ⟨rfl,rfl,rfl⟩:=trodAll_nil r6;obtain rfl:args=#[v0,v1,v2,v3,v4,v5,v6]:=by cases args;simp_all
 obtain ⟨rfl,rfl⟩:=trodVars_none hV;obtain ⟨a3,rfl,rfl,rfl,w3⟩:=open_int Tryz.underlying3 (hval 3 3 v3 rfl rfl) h3;obtain ⟨a4,rfl,rfl,rfl,w4⟩:=open_int Tryz.underlying3 (hval 4 3 v4 rfl rfl) h4;obtain ⟨a5,rfl,rfl,rfl,w5⟩:=open_int Tryz.underlying3 (hval 5 3 v5 rfl rfl) h5;obtain ⟨a6,rfl,rfl,rfl,w6⟩:=open_int Tryz.underlying3 (hval 6 3 v6 rfl rfl) h6;have hlt:∀ x ∈ p0 ++ (p1 ++ (p2 ++ ([] ++ ([] ++ ([] ++ ([] ++ [])))))) ++ [],x.block<W.heap.size:=fun x hx=>by simpa using hW'.lt x hx
 have hlt0:∀ x ∈ p0,x.block<W.heap.size:=fun x hx=>hlt x (by simp [hx])
 have hlt1:∀ x ∈ p1,x.block<W.heap.size:=fun x hx=>hlt x (by simp [hx])
 have hlt2:∀ x ∈ p2,x.block<W.heap.size:=fun x hx=>hlt x (by simp [hx])
 obtain ⟨l,hl⟩:=tW (hval 0 22 v0 rfl rfl) h0 hlt0 (fun elems spare he=>by
  have:=sized_slice hsz (j:=0) (t:=22) (e:=3) (elems:=elems) (spare:=spare) rfl i5 Tryz.underlying22;rw [Tryz.bytes3] at this;exact this)
 obtain ⟨k,hk⟩:=tW (hval 1 22 v1 rfl rfl) h1 hlt1 (fun elems spare he=>by
  have:=sized_slice hsz (j:=1) (t:=22) (e:=3) (elems:=elems) (spare:=spare) rfl i5 Tryz.underlying22;rw [Tryz.bytes3] at this;exact this)
 obtain ⟨n,hn⟩:=tW (hval 2 22 v2 rfl rfl) h2 hlt2 (fun elems spare he=>by
  have:=sized_slice hsz (j:=2) (t:=22) (e:=3) (elems:=elems) (spare:=spare) rfl i5 Tryz.underlying22;rw [Tryz.bytes3] at this;exact this)
 refine (nH hl hk hn (fun _ h=>h) (fun _ h=>h) (jU w3) (jU w4) (jU w5) (jU w6)).mono ?_;rintro e W' ⟨rfl,hx⟩;have k0:=Below.trod Tryz.laidOut Y (of_decide_eq_true Y) h0 hx hlt0;have k1:=Below.trod Tryz.laidOut Y (of_decide_eq_true Y) h1 hx hlt1;have k2:=Below.trod Tryz.laidOut Y (of_decide_eq_true Y) h2 hx hlt2;exact ⟨_,rfl,_,_,_,[],_,[],hW',trodAll_cons_mk (shut_bool Tryz.underlying4 _) trodAll_mk0,trodAll_cons_mk k0 (trodAll_cons_mk k1 (trodAll_cons_mk k2 (trodAll_cons_mk (shut_int Tryz.underlying3 w3) (trodAll_cons_mk (shut_int Tryz.underlying3 w4) (trodAll_cons_mk (shut_int Tryz.underlying3 w5) (trodAll_cons_mk (shut_int Tryz.underlying3 w6) trodAll_mk0)))))),rfl,hx.frame _,fun h=>by cases h⟩
theorem corpusMerges_holds:Rows.CorpusMergesSaid :=
 OpenClaim.holds_of_wide 5 Tryz.f5 rfl rfl rfl rfl rfl rfl rfl ⟨rfl,rfl,rfl,rfl,rfl⟩ rfl rfl rfl rfl rfl Y Tryz.func5 Y
  (of_decide_eq_true Y) (by unfold Func.isWrapper;first | (rw [if_pos (by decide +kernel)];kernel_rfl) | (rw [if_neg (by decide +kernel)];exact ⟨rfl,rfl⟩))
  (fun os started H enc _=>kT os started H enc)
#print axioms corpusMerges_holds
end Go.Proofs.YtkoeecdjijfjnaaGreat
