/- Contracts and laws. Conditions: none. -/
import Derived.Test.YtkoeecdjijfjnaaGreatDoorQF
set_option linter.all false
set_option maxRecDepth 100000
set_option maxHeartbeats 8000000
namespace Go.Proofs.YtkoeecdjijfjnaaGreatDoor
open Go.RowKit
noncomputable def rY:=RG Tryz.f135
noncomputable abbrev Eb:Code:=.seq (rY 0) (.seq (.block 0 (.seq (rY 1) (.cond (.tmp 12) (.seq (rY 2) (.seq (rY 3) .ret)) (.seq (rY 4) (.cond (.tmp 33) (.seq (.seq (rY 5) (.cond (.tmp 44) (.seq (rY 6) .ret) .skip)) (.seq (rY 7) (.seq (.seq (rY 8) (.cond (.tmp 85) (.seq (rY 9) .ret) .skip)) (.seq (rY 10) .ret)))) (.seq (rY 11) (.cond (.tmp 92) (.seq (rY 12) .ret) (.seq (rY 13) (.cond (.tmp 115) (.seq (rY 14) .ret) .skip))))))))) (.seq (rY 15) (.seq (rY 16) .ret)))
theorem Gq:Tryz.f135.body=some Eb:=av
def NF (w:World)(b o:Nat)(x:GN)(a:NA):Prop:=qc w b o x.kind∧qc w b (o+2) x.lo∧qc w b (o+3) x.hi ∧
 qc w b (o+5) (.slice a.lA x.labels a.lc)∧qc w b (o+7) (.slice a.kA x.kids a.kc)
theorem np {w:World}{b o:Nat}{x:GN}{a:NA}(h:aR w b o x a):∀ w',Ext w w'->NF w' b o x a:=fun _ hx=>⟨(h.ext hx).c0,(h.ext hx).c2,(h.ext hx).c3,(h.ext hx).c5,(h.ext hx).c7⟩
theorem qE {ops:Array Oper}{C:World->Prop}{K:Act->Prop}{a:Act}{v:Value}(a0:Act)(L:List Nat)(d:Nat)(h:∀ a',Ag L a0 a'->qq a' d v->K a')(hA:Ag L a0 a:=by (repeat refine .put ?_ rfl);exact .rf)(he:qq a d v:=by simp [*];rfl):WQ ops C K [] a:=l6 (h a hA he)
theorem qE2 {ops:Array Oper}{C:World->Prop}{K:Act->Prop}{a:Act}{v v':Value}(a0:Act)(L:List Nat)(d d':Nat)(h:∀ a',Ag L a0 a'->qq a' d v->Ev a' (.tmp d')=v'->K a')(hA:Ag L a0 a:=by (repeat refine .put ?_ rfl);exact .rf)(he:qq a d v:=by simp [*];rfl)(he':Ev a (.tmp d')=v':=by simp [*];rfl):WQ ops C K [] a:=l6 (h a hA he he')
theorem Fb {x y:GN}{nx ny:NA}{b1 o1 b2 o2 i j n:Nat}{P1 P2:Nat->Prop}{w:World}(hx:aR w b1 o1 x nx)(hy:aR w b2 o2 y ny)(ax:NAt w P1 x nx)(ay:NAt w P2 y ny)(okx:cR i x)(oky:cR j y)(hkx:x.kind=1∨x.kind=2)(hky:y.kind=1∨y.kind=2)(hnb:¬ (x.kind=1∧y.kind=1))(hk1:(n:Int)<gY x)(hl:∀ s ∈ x.labels,s.size<=281474976710656)(ht:sP w) :
  qg 135 #[qt b1 o1,qt b2 o2,↑n] w (zN (.int .i64 (sL x y n).1) (.bool (sL x y n).2) w):=by
 refine gD Tryz.func135 Gq rfl U (fun a Q sz df ea hQ=>?_);have e0:=ea 0 (qt b1 o1) rfl;have e1:=ea 1 (qt b2 o2) rfl;have e2:=ea 2 (↑n) rfl;clear ea;replace sz:a.tmps.size=156:=sz;have hnx:=aZ okx.numbers;have hny:=aZ oky.numbers;have hfew:∀ z:GN,∀ i:Nat,cR i z->z.kind=2->z.labels.length<=256∧(z.labels.length=0∨z.labels.length=z.kids):=fun z i h h2=>by have:=h.choice h2;omega
 have X:=np hx;have Y:=np hy;unfold NF at X Y
 have hret:∀ (a':Act) (w':World) (p:Int) (b:Bool),a'.tmps.size=156->a'.defers=[]->Ext w w'->qq a' 6 p->qq a' 7 b->sL x y n=(p,b)->Q .ret a' w':=by
  intro a' w' p b z d hx' h6 h7 hc;refine hQ _ _ (.tuple #[↑p,b]) d (by simp [results,Tryz.results135,go_sem,evT h6,evT h7]) ?_;rw [hc];exact ⟨rfl,hx'⟩
 refine rS ?_;iterate 2 refine lv ?_
 refine lN a [0,1,2] ?_;intro a1 u1;refine u1.c3 sz df e0 e1 e2 fun sz df e0 e1 e2=>?_
 have X0:=X w (aq w);have Y0:=Y w (aq w);refine wp_seq (wp_block (rS ?_));iterate 6 refine lv ?_
 by_cases k1:x.kind=1
 ·have y2:y.kind=2:=by omega
  have hw:IntKind.i64.wrap (x.lo+n)=x.lo+n:=IntWalk.i64_in _ (by unfold gY at hk1;rw [if_pos k1] at hk1;omega);have hI:I64 (x.lo+n):=by unfold I64;unfold gY at hk1;rw [if_pos k1] at hk1;omega
  refine lE a1 [0,1,2] 12 ?_;intro a2 u2 e12;refine u2.c3 sz df e0 e1 e2 fun sz df e0 e1 e2=>?_
  refine wp_cond_true e12 (wp_seq ?_)
  conv=>arg 2;whnf
  refine cU (fun w'=>Ext w w') av av (aq w).drew' ?_;iterate 4 refine q_v rfl rfl (fun w hw=>by simp [execOp,go_sem,X w hw,Y w hw, *];rfl) ?_
  iterate 6 refine q_v rfl rfl (fun w hw=>by simp [execOp,go_sem,X w hw,Y w hw, *];rfl) ?_
  refine q_c rfl rfl rfl Tryz.func144 dd dd (vs:=#[.int .i64 (x.lo+n)]) (v:=.string (kC (x.lo+n))) (fun w1 h1=>(ur (ht.ext h1) hI).mono fun e w2 h2=>⟨h2.1,h1.trans' h2.2⟩) ba ?_;refine q_c rfl rfl rfl Tryz.func143 dd dd (vs:=#[.slice ny.lA y.labels ny.lc,.string (kC (x.lo+n))]) (v:=.int .i64 (oA (kC (x.lo+n)) y.labels 0)) (fun w1 h1=>(yS ((ay.ext h1).labels) (by have:=hfew y j oky y2;omega)).mono fun e w2 h2=>⟨h2.1,h2.2 ▸ h1⟩) ba ?_;iterate 1 refine q_v rfl rfl (fun w hw=>by simp [execOp,go_sem, *];rfl) ?_
  refine qE a2 [0] 8 ?_;intro a3 u3 e8 w3 hx3;refine u3.c0 sz df fun sz df=>?_
  refine rS ?_;have hc:sL x y n=(oA (kC (x.lo+n)) y.labels 0,decide (0<=oA (kC (x.lo+n)) y.labels 0)):=by unfold sL;rw [if_pos k1]
  generalize oA (kC (x.lo+n)) y.labels 0=p at *;iterate 5 refine lv ?_
  refine lE2 a3 [] 6 7 ?_;intro a4 u4 e6 e7;refine u4.c0 sz df fun sz df=>?_
  exact wp_ret (hret a4 w3 _ _ sz df hx3 e6 e7 hc)
 have x2:x.kind=2:=I;have hxl:=hfew x i okx x2;have hon:gY x=x.kids:=by unfold gY;rw [if_neg k1,if_pos x2]
 rw [hon] at hk1;refine lE a1 [0,1,2] 12 ?_;intro a2 u2 e12;refine u2.c3 sz df e0 e1 e2 fun sz df e0 e1 e2=>?_
 refine wp_cond_false e12 (rS ?_);iterate 6 refine lv ?_
 by_cases y1:y.kind=1
 ·have t2:(y.kind == 1)=true:=aYh y1
  refine lE a2 [0,1,2] 33 ?_;intro a3 u3 e33;refine u3.c3 sz df e0 e1 e2 fun sz df e0 e1 e2=>?_
  refine wp_cond_true e33 (wp_seq (rS ?_));iterate 6 refine lv ?_
  by_cases l0:x.labels.length=0
  ·have t3:((x.labels:Int) == 0)=true:=aYh I
   refine lE a3 [] 44 ?_;intro a4 u4 e44;refine u4.c0 sz df fun sz df=>?_
   refine wp_cond_true e44 (rS ?_);iterate 2 refine lv ?_
   refine lE2 a4 [] 6 7 ?_;intro a5 u5 e6 e7;refine u5.c0 sz df fun sz df=>?_
   exact wp_ret (hret a5 w _ _ sz df (aq w) e6 e7 (by unfold sL;rw [if_neg k1,if_pos y1,if_pos l0]))
  have t3:((x.labels:Int) == 0)=false:=aYg I;refine lE a3 [0,1,2] 44 ?_;intro a4 u4 e44;refine u4.c3 sz df e0 e1 e2 fun sz df e0 e1 e2=>?_
  refine wp_cond_false e44 (wp_skip (rS ?_));have hnl:n<x.labels:=by omega
  obtain ⟨bl,ol,hA,gl⟩:=oV ax.labels hnl;have hlab:mL x n=x.labels.getD n ByteArray.empty:=by unfold mL;rw [Int.toNat_natCast]
  have hsl:(mL x n).size<=281474976710656:=by rw [hlab];exact hl _ (aC hnl)
  rw [<- hlab] at gl;clear hlab;have hni:(n:Int)<(x.labels:Int):=by omega
  iterate 7 refine lv ?_
  by_cases hok:∃ v,Lib.atoiAll (mL x n).data.toList=.ok v
  ·obtain ⟨v,hv⟩:=hok
   have hb:=Lib.atoiAll_bounds hv;refine lc Tryz.func145 (GY hsl hv) ?_;rintro e w2 ⟨rfl,hx2⟩;refine ⟨_,rfl,?_⟩;iterate 5 refine lv ?_
   refine lE2 a4 [0,1,2] 9 10 ?_;intro a5 u5 e9 e10;refine u5.c3 sz df e0 e1 e2 fun sz df e0 e1 e2=>?_
   have hI:I64 v:=dg
   have hend:∀ (K:Exit->Act->World->Prop) (a6:Act) (w6:World) (b:Bool),(∀ a w,Q .ret a w->K .ret a w)->Ag [0,1,2,9] a5 a6->Ext w w6->qq a6 85 b->b=decide (kC v ≠ mL x n∨v<y.lo∨y.hi<v) ->
     qw (.cond (.tmp 85) (.seq (rY 9) .ret) .skip) (Exit.then (Code.wp Tryz.prog (.seq (rY 10) .ret) K) K) a6 w6:=by
    intro K a6 w6 b hK u6 hx6 e85 hb;refine u6.c4 sz df e0 e1 e2 e9 fun sz df e0 e1 e2 e9=>?_
    cases b with
    | true =>
     refine wp_cond_true e85 (rS ?_);iterate 2 refine lv ?_
     refine lE2 a6 [] 6 7 ?_;intro a7 u7 e6 e7;refine u7.c0 sz df fun sz df=>?_
     exact wp_ret (hK _ _ (hret a7 w6 _ _ sz df hx6 e6 e7 (by unfold sL;rw [if_neg k1,if_pos y1,if_neg l0,hv];simp only;rw [if_pos (of_decide_eq_true hb.symm)])))
    | false =>
     have hbn:=of_decide_eq_false hb.symm;have h1:¬ v<y.lo:=fun h=>hbn (.inr (.inl h))
     have h2:¬ y.hi<v:=fun h=>hbn (.inr (.inr h))
     have hw:IntKind.i64.wrap (v - y.lo)=v - y.lo:=IntWalk.i64_in _ I;refine wp_cond_false e85 (wp_skip (rS ?_));iterate 8 refine lv ?_
     refine lE2 a6 [] 6 7 ?_;intro a7 u7 e6 e7;refine u7.c0 sz df fun sz df=>?_
     exact wp_ret (hK _ _ (hret a7 w6 _ _ sz df hx6 e6 e7 (by unfold sL;rw [if_neg k1,if_pos y1,if_neg l0,hv];simp only;rw [if_neg hbn])))
   refine wp_seq (wp_seq ?_);have gl2:∀ w',Ext w w'->qc w' bl (ol+n) (.string (mL x n)):=fun w' h=>aA h gl
   have hcall:∀ w1,Ext w2 w1->Calls Tryz.prog 144 #[↑v] w1 fun e w'=>e=.returned (.string (kC v))∧Ext w2 w':=fun w1 h1=>(ur (ht.ext (hx2.trans' h1)) hI).mono fun e w3 h2=>⟨h2.1,h1.trans' h2.2⟩
   have X2:∀ w',Ext w2 w'->_:=fun w' h=>X w' (hx2.trans' h)
   have Y2:∀ w',Ext w2 w'->_:=fun w' h=>Y w' (hx2.trans' h)
   have G2:∀ w',Ext w2 w'->_:=fun w' h=>gl2 w' (hx2.trans' h)
   clear X Y gl2 X0 Y0
   conv=>arg 2;whnf
   refine cU (fun w'=>Ext w2 w') av av (aq w2).drew' ?_;by_cases c1:kC v=mL x n
   ·have d1:=teq c1
    by_cases c2:v<y.lo
    ·have d2:decide (v<y.lo)=true:=aYi c2
     iterate 3 refine q_v rfl rfl (fun w hw=>by simp [execOp,go_sem, *];rfl) ?_
     iterate 1 refine q_y rfl rfl rfl ba cd rfl (fun w hw=>by simp [execOp,go_sem, *];rfl) ?_
     refine nh rfl rfl rfl ba cd rfl rfl Tryz.func144 dd dd (vs:=#[↑v]) (v:=.string (kC v)) hcall ba ?_;iterate 8 refine q_y rfl rfl rfl ba cd rfl (fun w hw=>by simp [execOp,go_sem,X2 w hw,Y2 w hw,G2 w hw, *];rfl) ?_
     iterate 2 refine q_v rfl rfl (fun w hw=>by simp [execOp,go_sem, *];rfl) ?_
     iterate 6 refine q_y rfl rfl rfl ba cd rfl (fun w hw=>by simp [execOp,go_sem,X2 w hw,Y2 w hw,G2 w hw, *];rfl) ?_
     iterate 2 refine q_v rfl rfl (fun w hw=>by simp [execOp,go_sem, *];rfl) ?_
     iterate 6 refine q_n rfl rfl rfl ba cd rfl ?_
     iterate 1 refine q_v rfl rfl (fun w hw=>by simp [execOp,go_sem, *];rfl) ?_
     refine qE a5 [0,1,2,9] 85 ?_;intro a6 u6 e85 w6 hx6;exact hend _ a6 w6 _ (fun _ _ h=>h) u6 (hx2.trans' hx6) e85 (by simp [c2])
    ·have d2:decide (v<y.lo)=false:=aYj c2
     iterate 3 refine q_v rfl rfl (fun w hw=>by simp [execOp,go_sem, *];rfl) ?_
     iterate 1 refine q_y rfl rfl rfl ba cd rfl (fun w hw=>by simp [execOp,go_sem, *];rfl) ?_
     refine nh rfl rfl rfl ba cd rfl rfl Tryz.func144 dd dd (vs:=#[↑v]) (v:=.string (kC v)) hcall ba ?_;iterate 8 refine q_y rfl rfl rfl ba cd rfl (fun w hw=>by simp [execOp,go_sem,X2 w hw,Y2 w hw,G2 w hw, *];rfl) ?_
     iterate 2 refine q_v rfl rfl (fun w hw=>by simp [execOp,go_sem, *];rfl) ?_
     iterate 6 refine q_y rfl rfl rfl ba cd rfl (fun w hw=>by simp [execOp,go_sem,X2 w hw,Y2 w hw,G2 w hw, *];rfl) ?_
     iterate 2 refine q_v rfl rfl (fun w hw=>by simp [execOp,go_sem, *];rfl) ?_
     iterate 6 refine q_y rfl rfl rfl ba cd rfl (fun w hw=>by simp [execOp,go_sem,X2 w hw,Y2 w hw,G2 w hw, *];rfl) ?_
     iterate 1 refine q_v rfl rfl (fun w hw=>by simp [execOp,go_sem, *];rfl) ?_
     refine qE a5 [0,1,2,9] 85 ?_;intro a6 u6 e85 w6 hx6;exact hend _ a6 w6 _ (fun _ _ h=>h) u6 (hx2.trans' hx6) e85 (by simp [c1,c2])
   ·have d1:=tne c1
    iterate 3 refine q_v rfl rfl (fun w hw=>by simp [execOp,go_sem, *];rfl) ?_
    iterate 1 refine q_y rfl rfl rfl ba cd rfl (fun w hw=>by simp [execOp,go_sem, *];rfl) ?_
    refine nh rfl rfl rfl ba cd rfl rfl Tryz.func144 dd dd (vs:=#[↑v]) (v:=.string (kC v)) hcall ba ?_;iterate 8 refine q_y rfl rfl rfl ba cd rfl (fun w hw=>by simp [execOp,go_sem,X2 w hw,Y2 w hw,G2 w hw, *];rfl) ?_
    iterate 2 refine q_v rfl rfl (fun w hw=>by simp [execOp,go_sem, *];rfl) ?_
    iterate 6 refine q_n rfl rfl rfl ba cd rfl ?_
    iterate 2 refine q_v rfl rfl (fun w hw=>by simp [execOp,go_sem, *];rfl) ?_
    iterate 6 refine q_n rfl rfl rfl ba cd rfl ?_
    iterate 1 refine q_v rfl rfl (fun w hw=>by simp [execOp,go_sem, *];rfl) ?_
    refine qE a5 [0,1,2,9] 85 ?_;intro a6 u6 e85 w6 hx6;exact hend _ a6 w6 _ (fun _ _ h=>h) u6 (hx2.trans' hx6) e85 (by simp [c1])
  ·refine lc Tryz.func145 (Hu ht hsl (fun v h=>hok ⟨v,h⟩)) ?_
   rintro e w2 ⟨x9,N,rfl,hx2⟩;refine ⟨_,rfl,?_⟩;iterate 5 refine lv ?_
   refine lE a4 [] 10 ?_;intro a5 u5 e10;refine u5.c0 sz df fun sz df=>?_
   refine wp_seq (wp_seq ?_);clear X Y X0 Y0
   conv=>arg 2;whnf
   refine cU (fun w'=>Ext w2 w') av av (aq w2).drew' ?_;iterate 3 refine q_v rfl rfl (fun w hw=>by simp [execOp,go_sem, *];rfl) ?_
   iterate 10 refine q_n rfl rfl rfl ba cd rfl ?_
   iterate 2 refine q_v rfl rfl (fun w hw=>by simp [execOp,go_sem, *];rfl) ?_
   iterate 6 refine q_n rfl rfl rfl ba cd rfl ?_
   iterate 2 refine q_v rfl rfl (fun w hw=>by simp [execOp,go_sem, *];rfl) ?_
   iterate 6 refine q_n rfl rfl rfl ba cd rfl ?_
   iterate 1 refine q_v rfl rfl (fun w hw=>by simp [execOp,go_sem, *];rfl) ?_
   refine qE a5 [] 85 ?_;intro a6 u6 e85 w6 hx6;refine u6.c0 sz df fun sz df=>?_
   refine wp_cond_true e85 (rS ?_);iterate 2 refine lv ?_
   refine lE2 a6 [] 6 7 ?_;intro a7 u7 e6 e7;refine u7.c0 sz df fun sz df=>?_
   refine wp_ret (hret a7 w6 _ _ sz df (hx2.trans' hx6) e6 e7 ?_);unfold sL;rw [if_neg k1,if_pos y1,if_neg l0];split
   ·next v hv=>exact absurd ⟨v,hv⟩ hok
   ·rfl
 have y2:y.kind=2:=I;have t2:(y.kind == 1)=false:=aYg y1;have hyl:=hfew y j oky y2;refine lE a2 [0,1,2] 33 ?_;intro a3 u3 e33;refine u3.c3 sz df e0 e1 e2 fun sz df e0 e1 e2=>?_
 refine wp_cond_false e33 (rS ?_);iterate 7 refine lv ?_
 have h92:∀ (K:Exit->Act->World->Prop) (a4:Act),(∀ a w,Q .ret a w->K .ret a w)->Ag [0,1,2] a3 a4->qq a4 92 true->(x.labels.length=0∨y.labels.length=0)->∀ c:Code,qw (.cond (.tmp 92) (.seq (rY 12) .ret) c) K a4 w:=by
  intro K a4 hK u4 e92 hor c;refine u4.c3 sz df e0 e1 e2 fun sz df e0 e1 e2=>?_
  refine wp_cond_true e92 (wp_seq ?_)
  conv=>arg 2;whnf
  refine cU (fun w'=>Ext w w') av av (aq w).drew' ?_;iterate 10 refine q_v rfl rfl (fun w hw=>by simp [execOp,go_sem,X w hw,Y w hw, *];rfl) ?_
  refine qE2 a4 [] 6 7 ?_;intro a5 u5 e6 e7 w5 hx5;refine u5.c0 sz df fun sz df=>?_
  exact wp_ret (hK _ _ (hret a5 w5 _ _ sz df hx5 e6 e7 (by unfold sL;rw [if_neg k1,if_neg y1,if_pos hor];simp)))
 by_cases l0:x.labels.length=0
 ·have t3:((x.labels:Int) == 0)=true:=aYh I
  iterate 6 refine ln ?_
  iterate 2 refine lv ?_
  refine lE a3 [0,1,2] 92 ?_;intro a4 u4 e92;refine h92 _ a4 ?_ u4 e92 (.inl l0) _;exact fun _ _ h=>h
 have t3:((x.labels:Int) == 0)=false:=aYg I;by_cases l1:y.labels.length=0
 ·have t4:((y.labels:Int) == 0)=true:=aYh I
  iterate 6 refine ly ?_
  iterate 2 refine lv ?_
  refine lE a3 [0,1,2] 92 ?_;intro a4 u4 e92;refine h92 _ a4 ?_ u4 e92 (.inr l1) _;exact fun _ _ h=>h
 have t4:((y.labels:Int) == 0)=false:=aYg I;iterate 6 refine ly ?_
 iterate 2 refine lv ?_
 refine lE a3 [0,1,2] 92 ?_;intro a4 u4 e92;refine u4.c3 sz df e0 e1 e2 fun sz df e0 e1 e2=>?_
 clear h92;have hnl:n<x.labels:=by omega
 obtain ⟨bl,ol,hA,gl⟩:=oV ax.labels hnl;have hlab:mL x n=x.labels.getD n ByteArray.empty:=by unfold mL;rw [Int.toNat_natCast]
 rw [<- hlab] at gl;clear hlab;have hni:(n:Int)<(x.labels:Int):=by omega
 have gl2:∀ w',Ext w w'->qc w' bl (ol+n) (.string (mL x n)):=fun w' h=>aA h gl
 have hnor:¬ (x.labels.length=0∨y.labels.length=0):=I
 have hlast:∀ (a5:Act) (w5:World),Ag [0,1,2] a4 a5->Ext w w5->¬ ((n:Int)<y.labels∧mL y n=mL x n)->qw (.seq (rY 15) (.seq (rY 16) .ret)) Q a5 w5:=by
  intro a5 w5 u5 hx5 hno;refine u5.c3 sz df e0 e1 e2 fun sz df e0 e1 e2=>?_
  refine wp_seq ?_
  conv=>arg 2;whnf
  refine cU (fun w'=>Ext w w') av av hx5.drew' ?_;iterate 11 refine q_v rfl rfl (fun w hw=>by simp [execOp,go_sem,X w hw,Y w hw,gl2 w hw, *];rfl) ?_
  refine q_c rfl rfl rfl Tryz.func143 dd dd (vs:=#[.slice ny.lA y.labels ny.lc,.string (mL x n)]) (v:=.int .i64 (oA (mL x n) y.labels 0)) (fun w1 h1=>(yS ((ay.ext h1).labels) I).mono fun e w2 h2=>⟨h2.1,h2.2 ▸ h1⟩) ba ?_;iterate 1 refine q_v rfl rfl (fun w hw=>by simp [execOp,go_sem, *];rfl) ?_
  refine qE a5 [0] 11 ?_;intro a6 u6 e11 w6 hx6;refine u6.c0 sz df fun sz df=>?_
  refine rS ?_;have hc:sL x y n=(oA (mL x n) y.labels 0,decide (0<=oA (mL x n) y.labels 0)):=by unfold sL;rw [if_neg k1,if_neg y1,if_neg hnor,if_neg hno]
  generalize oA (mL x n) y.labels 0=p at *;iterate 5 refine lv ?_
  refine lE2 a6 [] 6 7 ?_;intro a7 u7 e6 e7;refine u7.c0 sz df fun sz df=>?_
  exact wp_ret (hret a7 w6 _ _ sz df hx6 e6 e7 hc)
 refine wp_cond_false e92 (wp_seq ?_)
 conv=>arg 2;whnf
 refine cU (fun w'=>Ext w w') av av (aq w).drew' ?_;by_cases c1:n<y.labels
 ·have d1:decide ((n:Int)<(y.labels:Int))=true:=aYi I
  obtain ⟨bm,om,hB,gm⟩:=oV ay.labels c1;have hlab2:mL y n=y.labels.getD n ByteArray.empty:=by unfold mL;rw [Int.toNat_natCast]
  rw [<- hlab2] at gm;clear hlab2;have hnj:(n:Int)<(y.labels:Int):=by omega
  have gm2:∀ w',Ext w w'->qc w' bm (om+n) (.string (mL y n)):=fun w' h=>aA h gm
  iterate 8 refine q_v rfl rfl (fun w hw=>by simp [execOp,go_sem,X w hw,Y w hw, *];rfl) ?_
  iterate 14 refine q_y rfl rfl rfl ba cd rfl (fun w hw=>by simp [execOp,go_sem,X w hw,Y w hw,gl2 w hw,gm2 w hw, *];rfl) ?_
  by_cases c2:mL y n=mL x n
  ·have d2:=teq c2
   iterate 1 refine q_y rfl rfl rfl ba cd rfl (fun w hw=>by simp [execOp,go_sem, *];rfl) ?_
   iterate 2 refine q_v rfl rfl (fun w hw=>by simp [execOp,go_sem, *];rfl) ?_
   refine qE a4 [0,1,2] 115 ?_;intro a5 u5 e115 w5 hx5;refine u5.c3 sz df e0 e1 e2 fun sz df e0 e1 e2=>?_
   refine wp_cond_true e115 (rS ?_);iterate 3 refine lv ?_
   refine lE2 a5 [] 6 7 ?_;intro a6 u6 e6 e7;refine u6.c0 sz df fun sz df=>?_
   exact wp_ret (hret a6 w5 _ _ sz df hx5 e6 e7 (by unfold sL;rw [if_neg k1,if_neg y1,if_neg hnor,if_pos ⟨hnj,c2⟩]))
  ·have d2:=tne c2
   iterate 1 refine q_y rfl rfl rfl ba cd rfl (fun w hw=>by simp [execOp,go_sem, *];rfl) ?_
   iterate 2 refine q_v rfl rfl (fun w hw=>by simp [execOp,go_sem, *];rfl) ?_
   refine qE a4 [0,1,2] 115 ?_;intro a5 u5 e115 w5 hx5;exact wp_cond_false e115 (wp_skip (hlast a5 w5 u5 hx5 (fun h=>c2 h.2)))
 ·have d1:decide ((n:Int)<(y.labels:Int))=false:=aYj I
  iterate 8 refine q_v rfl rfl (fun w hw=>by simp [execOp,go_sem,X w hw,Y w hw, *];rfl) ?_
  iterate 15 refine q_n rfl rfl rfl ba cd rfl ?_
  iterate 2 refine q_v rfl rfl (fun w hw=>by simp [execOp,go_sem, *];rfl) ?_
  refine qE a4 [0,1,2] 115 ?_;intro a5 u5 e115 w5 hx5;exact wp_cond_false e115 (wp_skip (hlast a5 w5 u5 hx5 (fun h=>c1 I)))
noncomputable def zU:=RG Tryz.f116
noncomputable abbrev ID:Code:=.seq (zU 0) (.seq (.seq (zU 1) (.cond (.tmp 22) (.seq (zU 2) .ret) .skip)) (.seq (.seq (zU 3) (.cond (.tmp 30) (.seq (zU 4) (.seq (zU 5) (.seq (zU 6) .ret))) .skip)) (.seq (.seq (zU 7) (.seq (zU 8) (.cond (.tmp 54) (.seq (zU 9) .ret) .skip))) (.seq (zU 10) .ret))))
theorem ED:Tryz.f116.body=some ID:=av
theorem tC {w:World}{g t:Nat}{x:GN}{a:NA}(h:Blk w g t (aN x a).toArray):aR w g 0 x a:=fun j u hu=>by
 rw [Nat.zero_add];exact h.cell' j fy
theorem Ky {x y:GN}{nx ny:NA}{i j n:Nat}{P1 P2:Nat->Prop}{w:World}(ax:NAt w P1 x nx)(ay:NAt w P2 y ny)(okx:cR i x)(oky:cR j y)(hkx:x.kind=1∨x.kind=2)(hky:y.kind=1∨y.kind=2)(hk1:(n:Int)<gY x)(hl:∀ s ∈ x.labels,s.size<=281474976710656)(ht:sP w) :
  qg 116 #[fE x nx,fE y ny,↑n] w (zN (.int .i64 (iJ x y n).1) (.bool (iJ x y n).2) w):=by
 refine gD Tryz.func116 ED rfl U (fun a Q sz df ea hQ=>?_);have e0:=ea 0 (fE x nx) rfl;have e1:=ea 1 (fE y ny) rfl;have e2:=ea 2 (↑n) rfl;clear ea;replace sz:a.tmps.size=60:=sz;have hnx:=aZ okx.numbers;have hny:=aZ oky.numbers;have hoy:1<=gY y:=by have:=vL (x:=x) oky hky 0;omega
 have hob:gY y<=1099511627776:=by
  have:=oky.choice;unfold gY;split
  ·omega
  ·split
   ·have:=this I;omega
   ·omega
 have hopt:iJ x y n=if x.kind=1∧y.kind=1 then (min (max (x.lo+n) y.lo) y.hi - y.lo,decide (min (max (x.lo+n) y.lo) y.hi=x.lo+n)) else if (sL x y n).2=true then ((sL x y n).1,true) else (min (n:Int) (gY y - 1),false):=by
  unfold iJ;rw [if_neg I]
 have hret:∀ (a':Act) (w':World) (p:Int) (b:Bool),a'.defers=[]->Ext w w'->qq a' 6 p->qq a' 7 b->iJ x y n=(p,b)->Q .ret a' w':=by
  intro a' w' p b d hx' h6 h7 hc;refine hQ _ _ (.tuple #[↑p,b]) d (by simp [results,Tryz.results116,go_sem,evT h6,evT h7]) ?_;rw [hc];exact ⟨rfl,hx'⟩
 refine rS ?_;refine lv (w1:=w.alloc (qk (aN x nx).toArray 60)) (v:=qp w) ?_ (hrun:=by simp [execOp,go_sem, *];try rfl);obtain ⟨B1,x1,n1⟩:=nw w 60 (aN x nx).toArray;generalize w.alloc (qk (aN x nx).toArray 60)=w1 at *;refine lv (w1:=w1.alloc (qk (aN y ny).toArray 60)) (v:=qp w1) ?_ (hrun:=by simp [execOp,go_sem, *];try rfl);obtain ⟨B2,x2,n2⟩:=nw w1 60 (aN y ny).toArray;generalize w1.alloc (qk (aN y ny).toArray 60)=W at *;iterate 2 refine lv ?_
 refine lE2 a [2] 3 4 ?_;intro a1 u1 e3 e4;refine u1.c1 sz df e2 fun sz df e2=>?_
 have hX:=x1.trans' x2;have N1:=tC (B1.ext x2);have N2:=tC B2;clear B1 B2 x1 x2 n2;generalize w.heap.size=g1 at *;generalize w1.heap.size=g2 at *;have X:=np N1;have Y:=np N2;unfold NF at X Y;refine wp_seq (rS ?_);have q0:decide ((n:Int)<0)=false:=aYj I;have q1:decide (gY x<=(n:Int))=false:=aYj I;have q2:(gY y == 0)=false:=aYg I;iterate 3 refine lv ?_
 refine ly ?_;refine lcg Tryz.func134 (lK N1 okx) ?_;rintro e w3 ⟨rfl,m,rfl⟩;refine ⟨_,rfl,?_⟩;have hx3:=Ext.drewN W m;generalize W.drewN m=w3 at *;refine ly ?_;iterate 2 refine lv ?_
 refine lcg Tryz.func134 (lK (N2.ext hx3) oky) ?_;rintro e w4 ⟨rfl,m4,rfl⟩;refine ⟨_,rfl,?_⟩;have hx4:=hx3.trans' (Ext.drewN w3 m4);generalize w3.drewN m4=w4 at *;refine ly ?_;refine lv ?_;refine lE a1 [2,3,4] 22 ?_;intro a2 u2 e22;refine u2.c3 sz df e2 e3 e4 fun sz df e2 e3 e4=>?_
 have hX4:=hX.trans' hx4
 have tail:∀ (a3:Act) (K:Exit->Act->World->Prop),Ag [2,3,4] a2 a3->¬ (x.kind=1∧y.kind=1)->(∀ a w,Q .ret a w->K .ret a w)->qw (.seq (.seq (zU 7) (.seq (zU 8) (.cond (.tmp 54) (.seq (zU 9) .ret) .skip))) (.seq (zU 10) .ret)) K a3 w4:=by
  intro a3 K u3 hnb hK;refine u3.c3 sz df e2 e3 e4 fun sz df e2 e3 e4=>?_
  refine wp_seq (rS ?_);refine lv ?_;refine lc Tryz.func135 (Fb (N1.ext hx4) (N2.ext hx4) (ax.ext hX4) (ay.ext hX4) okx oky hkx hky hnb hk1 hl (ht.ext hX4)) ?_;rintro e w5 ⟨rfl,hx5⟩;refine ⟨_,rfl,?_⟩;rw [if_neg hnb] at hopt;generalize sL x y n=c at *;obtain ⟨p,b⟩:=c;simp only at hopt;iterate 5 refine lv ?_
  refine lE2 a3 [2,3,4] 10 11 ?_;intro a5 u5 e10 e11;refine u5.c3 sz df e2 e3 e4 fun sz df e2 e3 e4=>?_
  refine rS ?_;refine lv ?_;refine lE a5 [2,3,4,10] 54 ?_;intro a6 u6 e54;refine u6.c4 sz df e2 e3 e4 e10 fun sz df e2 e3 e4 e10=>?_
  cases b with
  | true =>
   refine wp_cond_true e54 (rS ?_);iterate 3 refine lv ?_
   refine lE2 a6 [] 6 7 ?_;intro a7 u7 e6 e7;refine u7.c0 sz df fun sz df=>?_
   exact wp_ret (hK _ _ (hret a7 w5 _ _ df (hX4.trans' hx5) e6 e7 hopt))
  | false =>
   have hw:IntKind.i64.wrap (gY y - 1)=gY y - 1:=IntWalk.i64_in _ (by have:=hob;omega);refine wp_cond_false e54 (wp_skip (rS ?_));refine lv ?_;refine lc Tryz.func134 (lK (N2.ext (hx4.trans' hx5)) oky) ?_;rintro e w7 ⟨rfl,m7,rfl⟩;refine ⟨_,rfl,?_⟩;have hx7:=(hX4.trans' hx5).trans' (Ext.drewN w5 m7);generalize w5.drewN m7=w7 at *;iterate 4 refine lv ?_
   refine lE2 a6 [] 6 7 ?_;intro a7 u7 e6 e7;refine u7.c0 sz df fun sz df=>?_
   refine wp_ret (hK _ _ (hret a7 w7 _ _ df hx7 e6 e7 ?_));rw [hopt,if_neg U]
 refine wp_cond_false e22 (wp_skip (wp_seq (rS ?_)));clear hx3;by_cases k1:x.kind=1
 ·have t1:(x.kind == 1)=true:=aYh k1
  iterate 4 refine lv ?_
  iterate 3 refine ly ?_
  refine lv ?_;by_cases y1:y.kind=1
  ·have t2:(y.kind == 1)=true:=aYh y1
   refine lE a2 [2,3,4] 30 ?_;intro a3 u3 e30;refine u3.c3 sz df e2 e3 e4 fun sz df e2 e3 e4=>?_
   have hb:(n:Int)<x.hi - x.lo+1:=by unfold gY at hk1;rw [if_pos k1] at hk1;exact hk1
   have hw:IntKind.i64.wrap (x.lo+n)=x.lo+n:=IntWalk.i64_in _ I;refine wp_cond_true e30 (rS ?_);iterate 5 refine lv ?_
   refine lE a3 [2,3,4] 8 ?_;intro a4 u4 e8;refine u4.c3 sz df e2 e3 e4 fun sz df e2 e3 e4=>?_
   refine rS ?_;iterate 8 refine lv ?_
   have key:∀ m:Int,m=min (max (x.lo+n) y.lo) y.hi->∀ a5:Act,Ag [2,3,4,8] a4 a5->qq a5 9 m->∀ K:Exit->Act->World->Prop,(∀ a w,Q .ret a w->K .ret a w)->qw (.seq (zU 6) .ret) K a5 w4:=by
    intro m hm a5 u5 e9 K hK;refine u5.c4 sz df e2 e3 e4 e8 fun sz df e2 e3 e4 e8=>?_
    have hw2:IntKind.i64.wrap (m - y.lo)=m - y.lo:=IntWalk.i64_in _ I;refine rS ?_;iterate 9 refine lv ?_
    by_cases he:m=x.lo+n
    ·have t5:(m == x.lo+(n:Int))=true:=aYh he
     refine lE2 a5 [] 6 7 ?_;intro a6 u6 e6 e7;refine u6.c0 sz df fun sz df=>?_
     exact wp_ret (hK _ _ (hret a6 w4 _ _ df hX4 e6 e7 (by rw [hopt,if_pos ⟨k1,y1⟩,<- hm,aYi he,t5])))
    ·have t5:(m == x.lo+(n:Int))=false:=aYg he
     refine lE2 a5 [] 6 7 ?_;intro a6 u6 e6 e7;refine u6.c0 sz df fun sz df=>?_
     exact wp_ret (hK _ _ (hret a6 w4 _ _ df hX4 e6 e7 (by rw [hopt,if_pos ⟨k1,y1⟩,<- hm,aYj he,t5])))
   refine lE a4 [2,3,4,8] 9 ?_;intro a5 u5 e9;refine key _ ?_ a5 u5 e9 _ ?_
   ·rfl
   ·exact fun _ _ h=>h
  ·have t2:(y.kind == 1)=false:=aYg y1
   refine lE a2 [2,3,4] 30 ?_;intro a3 u3 e30;refine wp_cond_false e30 (wp_skip ?_);refine tail a3 _ u3 (fun h=>y1 h.2) ?_;exact fun _ _ h=>h
 ·have t1:(x.kind == 1)=false:=aYg k1
  iterate 4 refine lv ?_
  iterate 3 refine ln ?_
  refine lv ?_;refine lE a2 [2,3,4] 30 ?_;intro a3 u3 e30;refine wp_cond_false e30 (wp_skip ?_);refine tail a3 _ u3 (fun h=>k1 h.1) ?_;exact fun _ _ h=>h
structure KA where
 w:Nat
 s:Nat
 l:Nat
 f:Nat
 p:Nat
 r:Nat
 b:Nat
 base:Nat
 hi:Nat
structure kt (t:List GN)(raw:List Int)(vn vr:Value)(g:KA)(w:World):Prop where
 walk:dY t vn g.w g.s g.l g.f (fun q=>q<g.base) w
 rbox:qc w g.r 0 vr
 wbox:qc w g.b 0 (qp g.w)
 raw:bL w (fun q=>q<g.base) vr raw
 pb:g.base<=g.p
 nr:g.r ≠ g.p
 nb:g.b ≠ g.p
 hr:g.r<g.hi
 hb:g.b<g.hi
 hp:g.p<g.hi
 hh:g.base<=g.hi
 sz:g.hi<=w
def KM (g:KA)(v:Value):Nat->Prop:=fun q=>q=g.p∨some q=v.ownBlock
structure KSt (g:KA)(s:List Int)(v:Value)(w:World):Prop where
 box:Blk w g.p 22 #[v]
 row:w.ownsRow g.hi 3 1 v s (s.map (Value.int .i64))
def fQ (w:World)(v v':Value):Prop:=v'.ownBlock=v.ownBlock∨∃ q,v'.ownBlock=some q∧w<=q
theorem fQ.trans {w1 w2:World}{a b c:Value}(h:fQ w1 a b)(k:fQ w2 b c)(hs:w1.heap.size<=w2):fQ w1 a c:=by
 rcases k with e | ⟨q,e,h1⟩
 ·rw [fQ,e];exact h
 ·exact .inr ⟨q,e,I⟩
section
variable {t:List GN}{raw s:List Int}{vn vr v v':Value}{g:KA}{w w':World}
theorem KM.mono (h:fQ w v v'){q:Nat}(hq:KM g v' q):KM g v q∨w<=q:=by
 rcases hq with h1 | h1
 ·exact .inl (.inl h1)
 ·rcases h with e | ⟨x,e,hx⟩
  ·exact .inl (.inr (by rw [h1,e]))
  ·rw [e] at h1;cases h1;exact .inr hx
theorem KM.old (hr:w.ownsRow g.hi 3 1 v s (s.map (Value.int .i64)))(hh:g.base<=g.hi)(hp:g.base<=g.p){q:Nat}(hq:KM g v q):g.base<=q:=by
 rcases hq with h1 | h1
 ·omega
 ·have:=hr.block_ge h1.symm;omega
theorem kt.fr (h:kt t raw vn vr g w)(hs:KSt g s v w)(hf:Fr (KM g v) w w'):kt t raw vn vr g w':=by
 have ho:∀ q,KM g v q->g.base<=q:=fun q hq=>KM.old hs.row h.hh h.pb hq
 have hk:aB (fun q=>q<g.base) w w':=aB.of_fr hf (fun b hb hm=>by have:=ho b hm;omega)
 have hn:∀ q,q<g.hi->q ≠ g.p->¬ KM g v q:=fun q hq hne hm=>by
  rcases hm with h1 | h1
  ·exact hne h1
  ·have:=hs.row.block_ge h1.symm;omega
 exact ⟨h.walk.carry hk (fun _ _ h=>h),aH hf (hn _ h.hr h.nr) h.rbox,aH hf (hn _ h.hb h.nb) h.wbox,h.raw.carry hk (fun _ _ h=>h),h.pb,h.nr,h.nb,h.hr,h.hb,h.hp,h.hh,ae h.sz hf.size⟩
theorem kt.ext (h:kt t raw vn vr g w)(hx:Ext w w'):kt t raw vn vr g w' :=
 ⟨h.walk.carry (aB.of_ext hx) (fun _ _ h=>h),aA hx h.rbox,aA hx h.wbox,h.raw.carry (aB.of_ext hx) (fun _ _ h=>h),h.pb,h.nr,h.nb,h.hr,h.hb,h.hp,h.hh,ae h.sz hx.size⟩
theorem KSt.ext (h:KSt g s v w)(hx:Ext w w'):KSt g s v w':=⟨h.box.ext hx,h.row.ext_ hx⟩
end
def zy (g:KA)(c:Int)(s:List Int)(v:Value)(w:World)(e:Ending)(w':World):Prop:=e=.returned (↑c)∧∃ v',KSt g (s ++ [c]) v' w'∧Fr (KM g v) w w'∧fQ w v v'
noncomputable def lh:=RG Tryz.f118
noncomputable abbrev Jb:Code:=.seq (lh 0) (.seq (lh 1) (.seq (.seq (lh 2) (.cond (.tmp 11) (lh 3) .skip)) (.seq (lh 4) (.seq (lh 5) .ret))))
theorem Lo:Tryz.f118.body=some Jb:=av
theorem KN {t:List GN}{raw s:List Int}{vn vr v:Value}{g:KA}{w:World}{i:Nat}(hE:kt t raw vn vr g w)(hS:KSt g s v w)(hg:aO t t)(hi:i<t)(hk:1<=aP (t.getD i default))(hs:s.length<=1000000) :
  qg 118 #[↑i,qp g.p,qp g.r,qp g.b] w (zy g (ftC raw (t.getD i default) s) s v w):=by
 refine gD Tryz.func118 Lo rfl U (fun a Q sz df ea hQ=>?_);have e0:=ea 0 (↑i) rfl;have e1:=ea 1 (qp g.p) rfl;have e2:=ea 2 (qp g.r) rfl;have e3:=ea 3 (qp g.b) rfl;clear ea;replace sz:a.tmps.size=35:=sz;obtain ⟨Ar,cr,rfl,-,-⟩:=hE.raw.form;obtain ⟨An,cn,rfl,-,-⟩:=hE.walk.nodes.form;obtain ⟨bn,on,na,rfl,-,hxx,hnn⟩:=hE.walk.nodes.get hi;obtain ⟨As,cs,rfl,-,-,-⟩:=Sl.of_own hS.row;have hn:=(hg.at_ hi).node;have hopt:=dA hn;have hnum:=aZ hn.numbers;have hkids:=(cJ hg hi).1;generalize t.getD i default=x at *;have hob:aP x<=1099511627777:=by rw [hopt];split <;> omega
 have hw:IntKind.i64.wrap (aP x - 1)=aP x - 1:=IntWalk.i64_in _ I;clear hopt hkids hnum;have i0:(0:Int)<=(i:Int):=by omega
 have i1:(i:Int)<(t:Int):=I;have hsz:=hE.sz;have hhp:=hE.hp
 have hret:∀ (a':Act) (w':World) (c:Int) (v':Value),a'.defers=[]->qq a' 5 c->c=ftC raw x s->KSt g (s ++ [c]) v' w'->Fr (KM g (.slice As s cs)) w w'->fQ w (.slice As s cs) v'->Q .ret a' w':=by
  intro a' w' c v' d h5 hc h1 h2 h3;exact hQ _ _ (↑c) d (by simp [results,Tryz.results118,go_sem,evT h5]) ⟨by rw [hc],v',by rw [<- hc];exact h1,h2,h3⟩
 have mid:∀ (a5:Act) (w4:World) (c:Int) (K:Exit->Act->World->Prop),(∀ a w,Q .ret a w->K .ret a w)->a5.tmps.size=35->a5.defers=[]->qq a5 1 (qp g.p)->qq a5 6 c->c=ftC raw x s->Ext w w4->qw (.seq (lh 4) (.seq (lh 5) .ret)) K a5 w4:=by
  intro a5 w4 c K hK sz df e1 e6 hc0 hx4;have HC:=aYf hc0;clear hc0;have hB:=hS.box.ext hx4;have hR:=hS.row.ext_ hx4;have c0:=hB.cell' (u:=.slice As s cs) 0 rfl;have hsz4:=hx4.size;refine rS ?_;iterate 3 refine lv ?_
  have hxa:=(aq w4).alloc' (qk #[↑c] 3);refine la Tryz.underlying22 Tryz.info3 (hR.alloc _) (T:=fun _=>True) (Sl.new w4 _ _ 1 1 rfl) I I bh ci ?_;intro v5 w5 ho5 hf5 hb5;have hpn:∀ q:Nat,some q=(Value.slice As s cs).ownBlock->q ≠ g.p:=fun q hq e=>by have:=hS.row.block_ge hq.symm;omega
  have hB5:=(hB.ext hxa).fr (M:=fun q=>some q=(Value.slice As s cs).ownBlock) hf5 (fun h=>hpn _ h rfl)
  have hbn:fQ w (.slice As s cs) v5:=by
   rcases hb5 with h | h
   ·exact .inl h
   ·exact .inr ⟨_,h,by have:=hxa.size;omega⟩
  have hf5':Fr (KM g (.slice As s cs)) w w5:=((ar (hx4.trans' hxa)).trans (hf5.mono fun q hq=>.inr hq));clear hf5 hb5 hB hR c0;obtain ⟨A5,c5,rfl,-,-,-⟩:=Sl.of_own ho5;have b0:=hB5.cell' (u:=.slice As s cs) 0 rfl;have bf:=hB5.frozen 0;refine ls (w1:=w5.setCell (qp g.p) (.slice A5 (s+1) c5)) ?_ (hrun:=by simp [execOp,go_sem, *];try rfl);refine lN a5 [6] ?_;intro a6 u6;refine u6.c1 sz df e6 fun sz df e6=>?_
  refine rS ?_;iterate 2 refine lv ?_
  refine lE a6 [] 5 ?_;intro a7 u7 e5;refine u7.c0 sz df fun sz df=>?_
  have hpo:∀ q,(Value.slice A5 (s+1) c5).ownBlock=some q->q ≠ g.p:=fun q hq e=>by have:=ho5.block_ge hq;omega
  refine wp_ret (hK _ _ (hret a7 _ c _ df e5 HC.out ⟨by simpa using hB5.set_ 0 (.slice A5 (s+1) c5),?_⟩ (hf5'.setCell (p:=qp g.p) (.inl (.inl rfl)) _) hbn));have:=cP ho5 (M:=fun q=>q=g.p) ((au (fun q=>q=g.p) w5).setCell (p:=qp g.p) (.inl rfl) (.slice A5 (s+1) c5)) (fun q hq e=>hpo q hq e);exact this.len_cast U U
 refine rS ?_;refine lv ?_;refine lN a [0,1,2,3] ?_;intro a1 u1;refine u1.c4 sz df e0 e1 e2 e3 fun sz df e0 e1 e2 e3=>?_
 refine rS ?_;refine lv ?_;refine lE a1 [0,1,2,3] 6 ?_;intro a2 u2 e6;refine u2.c4 sz df e0 e1 e2 e3 fun sz df e0 e1 e2 e3=>?_
 have c0:=hS.box.cell' (u:=.slice As s cs) 0 rfl;have c1:=hE.rbox;refine wp_seq (rS ?_);iterate 5 refine lv ?_
 by_cases hlt:s.length<raw
 ·have d1:decide ((s:Int)<(raw:Int))=true:=aYi I
  refine lE a2 [0,1,2,3] 11 ?_;intro a3 u3 e11;refine u3.c4 sz df e0 e1 e2 e3 fun sz df e0 e1 e2 e3=>?_
  have hc:ftC raw x s=min (max (raw.getD s 0) 0) (aP x - 1):=by unfold ftC;rw [if_pos hlt]
  obtain ⟨br,or_,rfl,-,-,gr⟩:=hE.raw.get hlt;generalize raw.getD s 0=z at *;have q1:(s:Int)<(raw:Int):=by omega
  have X:∀ w',Ext w w'->qc w' g.r 0 (.slice (qt br or_) raw cr)∧qc w' g.p 0 (.slice As s cs)∧qc w' br (or_+s) z∧qc w' g.b 0 (qp g.w)∧qc w' g.w 0 (qp g.s)∧qc w' g.s 0 (.slice (qt bn on) t cn) :=
   fun w' h=>⟨aA h c1,aA h c0,aA h gr,aA h hE.wbox,aA h (hE.walk.box.cell' 0 rfl),aA h hE.walk.sets⟩
  clear c0 c1;refine wp_cond_true e11 ?_
  conv=>arg 2;whnf
  refine cU (fun w'=>Ext w w') av av (aq w).drew' ?_;iterate 15 refine q_v rfl rfl (fun w hw=>by simp [execOp,go_sem,X w hw, *];rfl) ?_
  refine q_c rfl rfl rfl Tryz.func90 dd dd (vs:=#[qt bn (on+i*12)]) (v:=.int .i64 (aP x)) (fun w1 h1=>(jZ x na bn (on+i*12) w1 (hnn.ext h1)).mono fun e w2 h2=>⟨h2.1,by obtain ⟨m,rfl⟩:=h2.2;exact h1.drewN' m⟩) ba ?_;iterate 3 refine q_v rfl rfl (fun w hw=>by simp [execOp,go_sem, *];rfl) ?_
  refine qE a3 [1] 6 ?_;intro a4 u4 e6' w4 hx4;exact mid a4 w4 _ _ (fun _ _ h=>h) (u4.sz.trans sz) (u4.df.trans df) (u4.get 1 e1) e6' hc.symm hx4
 ·have d1:decide ((s:Int)<(raw:Int))=false:=aYj I
  refine lE a2 [1,6] 11 ?_;intro a3 u3 e11;refine wp_cond_false e11 (wp_skip ?_);exact mid a3 w 0 _ (fun _ _ h=>h) (u3.sz.trans sz) (u3.df.trans df) (u3.get 1 e1) (u3.get 6 e6) (by unfold ftC;rw [if_neg hlt]) (aq w)
theorem Lb {a:Act}{dst:Option Tmp}{y:Operand}{xs:Array Operand}{ats:Array TypeId}{ty:TypeId}{pos:String}{after:Array Edge}{guard:Option (Nat × Bool)}{f:FuncId}{pre post:Array Value}(hy:a.eval y=.func (.func f) pre post) :
  execOp a.eval { dst,op:=.call { callee:=.value y,args:=xs,argTypes:=ats },type:=ty,pos,after,guard }=callFunc f (pre ++ xs.map a.eval ++ post):=by
 rw [show execOp a.eval { dst,op:=.call { callee:=.value y,args:=xs,argTypes:=ats },type:=ty,pos,after,guard }=(do let d <- Deferred.ofValue (a.eval y) (xs.map a.eval);invoke d.target d.args) from rfl,hy];rfl
section
variable {ops:Array Oper}{Q:Exit->Act->World->Prop}{a:Act}{w:World}{rest:List Oper}{o:Oper}{d:Nat}{y:Operand}{f:FuncId}{xs:Array Operand}{ats:Array TypeId}{fn:Func}{vs pre post:Array Value}{R:Ending->World->Prop}
theorem xn {K:Act->World->Prop}(hop:o.op=Op.call { callee:=Callee.value y,args:=xs,argTypes:=ats })(hy:Ev a y=.func (.func f) pre post)(hf:Tryz.prog.funcs[f]?=some fn)(hn:(fn.name == "runtime.NumGoroutine")=false) (hb:fn.body.isNone=false) (hv:pre ++ xs.map (Ev a) ++ post=vs)
  (h:Calls Tryz.prog f vs w fun e w'=>∃ v,e=.returned v∧K (a.put o.dst v) w'):Oper.wp Tryz.prog o a w K Q:=by
 unfold Oper.wp;obtain ⟨dst,op,ty,pos,after,guard⟩:=o;simp only at hop;subst hop;subst hv;rw [Lb hy];have hp:Sem.run Tryz.prog program w=.ok Tryz.prog w:=rfl;simp only [callFunc,Sem.run_bind,hp,Result.andThen_ok,hf,hn,hb,Bool.false_eq_true,if_false,Sem.run_pure,Oper.upon];refine h.mono ?_;rintro e w' ⟨v,rfl,hk⟩;exact hk
theorem lcp (hf:Tryz.prog.funcs[f]?=some fn)(hy:Ev a y=.func (.func f) pre post)(hc:qg f vs w R)(h:∀ e w',R e w'->∃ v,e=.returned v∧WL ops Q rest (Pt a d v) w')
  (hg:o.guard=none:=by exact rfl)(hd:o.dst=some d:=by exact rfl)(hop:o.op=Op.call { callee:=Callee.value y,args:=xs,argTypes:=ats }:=by exact rfl)(hn:(fn.name == "runtime.NumGoroutine")=false:=by rfl) (hb:fn.body.isNone=false:=by rfl) (hv:pre ++ xs.map (Ev a) ++ post=vs:=by simp [*]):WL ops Q (o :: rest) a w:=by
 refine ⟨wpList_plain hg fun K hK=>?_⟩;refine xn hop hy hf hn hb hv (hc.mono fun e w' hR=>?_);obtain ⟨v,rfl,h1⟩:=h e w' hR;exact ⟨v,rfl,by rw [hd];exact hK _ _ h1.out⟩
end
section
variable {ops:Array Oper}{K:Act->World->Prop}{S:World->Prop}{bf:Nat->Bool}{n:Nat}{is:List Nat}{a:Act}{w:World}{o:Oper}{d:Nat}{y:Operand}{f:FuncId}{xs:Array Operand}{ats:Array TypeId}{fn:Func}{vs pre post:Array Value}{R:Ending->World->Prop}
theorem dcp (i:Nat)(hf:Tryz.prog.funcs[f]?=some fn)(hy:Ev a y=.func (.func f) pre post)(hc:qg f vs w R)(h:∀ e w',R e w'->∃ v,e=.returned v∧(bf i=true->S w')∧WD ops K S bf n (i :: is) (Pt a d v) w')
  (hr:Region.ready .any ops (mkL ops.size is)=[i]:=by kernel_rfl)(hi:ops[i]?=some o:=by exact rfl)(hg:o.guard=none:=by exact rfl)(hd:o.dst=some d:=by exact rfl)(hop:o.op=Op.call { callee:=Callee.value y,args:=xs,argTypes:=ats }:=by exact rfl)(hn:(fn.name == "runtime.NumGoroutine")=false:=by rfl) (hb:fn.body.isNone=false:=by rfl) (hv:pre ++ xs.map (Ev a) ++ post=vs:=by simp [*]):WD ops K S bf (n+1) is a w:=by
 refine l5 i hr hi (fun K' hK=>?_);rw [if_pos dy];refine xn hop hy hf hn hb hv (hc.mono fun e w' hR=>?_);obtain ⟨v,rfl,h1,h2⟩:=h e w' hR;exact ⟨v,rfl,by rw [hd];exact hK _ _ h1 h2⟩
end
def kfn (g:KA):Value:=.func (.func 118) #[] #[qp g.p,qp g.r,qp g.b]
def KP (g:KA)(w:World)(v':Value):Nat->Prop:=fun q=>(q<g.base∨w.heap.size<=q)∧¬ KM g v' q
def DP (g:KA)(want:Bool)(r:GV × List Int)(v:Value)(w:World)(e:Ending)(w':World):Prop :=
 ∃ y A c v',e=.returned (cN y A c)∧KSt g r.2 v' w'∧Fr (KM g v) w w'∧fQ w v v'∧(want=true->y=r.1∧VAt w' (KP g w v') y A c)
def wU (t:List GN)(raw:List Int)(vn vr:Value)(g:KA)(f:Nat):Prop:=∀ (i:Nat)(s:List Int)(v:Value)(w:World)(want:Bool),i<f->i<t->kt t raw vn vr g w->KSt g s v w->(s:Int)+(aI t).getD i 0<=1000000 ->
 qg 88 #[qp g.w,↑i,want,kfn g] w (DP g want (ftR t raw f i s) v w)
noncomputable def R88:=RG Tryz.f88
abbrev eR:List Value:=[qz,qz,qe,qn]
structure JE (t:List GN)(raw s:List Int)(v vr:Value)(g:KA)(f i bn on cn gr:Nat)(x:GN)(na:NA)(want:Bool)(w W:World)(a0:Act)(Q:Exit->Act->World->Prop)(R:GV × List Int):Prop where
 sz:a0.tmps.size=116
 df:a0.defers=[]
 e0:qq a0 0 (qp g.w)
 e1:qq a0 1 (i:Int)
 e2:qq a0 2 want
 e3:qq a0 3 (kfn g)
 e8:qq a0 8 (qp gr)
 res:Blk W gr 58 eR.toArray
 ext:Ext w W
 lo:w=gr
 env:kt t raw (.slice (qt bn on) t cn) vr g W
 st:KSt g s v W
 stw:KSt g s v w
 szw:g.hi<=w
 nd:NAt W (fun q=>q<g.base) x na
 nc:aR W bn (on+i*12) x na
 said:wU t raw (.slice (qt bn on) t cn) vr g f
 hif:i<f+1
 hi:i<t
 hx:t.getD i default=x
 hg:aO t t
 bd:(s:Int)+(aI t).getD i 0<=1000000
 step:R=ftR t raw (f+1) i s
 hQ:∀ (a':Act) (w':World) (y:GV) (A:Option Addr) (c:Nat) (v':Value),a'.defers=[]->(results Tryz.f88 a'.tmps).run Tryz.prog w'=.ok (cN y A c) w'->KSt g R.2 v' w'->Fr (KM g v) w w'->fQ w v v'->(want=true->y=R.1∧VAt w' (KP g w v') y A c)->Q .ret a' w'
section
variable {t:List GN}{raw s:List Int}{v vr:Value}{g:KA}{f i bn on cn gr:Nat}{x:GN}{na:NA}{want:Bool}{w W:World}{a0 a:Act}{Q:Exit->Act->World->Prop}{R:GV × List Int}
theorem JE.km (hE:JE t raw s v vr g f i bn on cn gr x na want w W a0 Q R){q:Nat}(hq:KM g v q):q<w:=by
 rcases hq with h | h
 ·rw [h];exact hE.stw.box.lt
 ·exact hE.stw.row.block_lt h.symm
theorem vY (hE:JE t raw s v vr g f i bn on cn gr x na want w W a0 Q R){w6:World}{y:GV}{A:Option Addr}{c:Nat}{v':Value}{cs:List Value}(hu:Ag [8] a0 a)(hB:Blk w6 gr 58 cs.toArray)(hcs:cs.length=4)(hS:KSt g R.2 v' w6)(hF:Fr (KM g v) w w6)(hb:fQ w v v')(hng:v'.ownBlock ≠ some gr)(hv:want=true->y=R.1∧VAt w6 (fun q=>KP g w v' q∧q ≠ gr) y A c):Q .ret a (w6.setCells gr 0 (cellsOf y A c)):=by
 have hl:=hE.lo;have hsw:=hE.szw;have hf:Fr (fun k=>k=gr) w6 (w6.setCells gr 0 (cellsOf y A c)):=(au _ w6).setCells _ 0 (.inl rfl);have hbk:=aF (cellsOf y A c) (cs:=cs) 0 hB i6
 have e:(cs.take 0 ++ cellsOf y A c ++ cs.drop (0+(cellsOf y A c).length)).toArray=(cellsOf y A c).toArray:=by
  rw [List.take_zero,List.nil_append,Nat.zero_add,List.drop_eq_nil_of_le i6,List.append_nil]
 rw [e] at hbk;have e8:=hu.get 8 hE.e8;have q0:=hbk.cell' (u:=↑y.kind) 0 rfl;have q1:=hbk.cell' (u:=↑y.n) 1 rfl;have q2:=hbk.cell' (u:=y.s) 2 rfl;have q3:=hbk.cell' (u:=.slice A y.kids c) 3 rfl;have hpn:g.p ≠ gr:=by have:=hE.env.hp;omega
 refine hE.hQ a _ y A c v' (hu.df.trans hE.df) (by simp [results,Tryz.results88,go_sem,evT e8,q0,q1,q2,q3]) ⟨hS.box.fr hf hpn,cP hS.row hf (fun q hq h=>hng (by rw [hq,h]))⟩ (hF.trans_new (hf.mono fun q hq=>.inr I)) hb (fun hw=>⟨(hv hw).1,(hv hw).2.carry (aB.of_fr hf (fun q hq h=>hq.2 h)) (fun q _ h=>h.1)⟩)
theorem qD (hE:JE t raw s v vr g f i bn on cn gr x na want w W a0 Q R){W':World}{v':Value}(hb:fQ W' v v')(hs:gr<W'):v'.ownBlock ≠ some gr:=fun h=>by
 have hl:=hE.lo;rcases hb with e | ⟨q,e,h1⟩
 ·have:=hE.stw.row.block_lt (e.symm.trans h)
  omega
 ·rw [e] at h;cases h;omega
end
section
variable {t:List GN}{raw s:List Int}{v vr:Value}{g:KA}{f i bn on cn gr:Nat}{x:GN}{na:NA}{want:Bool}{w W:World}{a0 a:Act}{Q:Exit->Act->World->Prop}{R:GV × List Int}
theorem JE.bnl (hE:JE t raw s v vr g f i bn on cn gr x na want w W a0 Q R):bn<g.base:=by
 obtain ⟨b,o,a,e,hb,-,-⟩:=hE.env.walk.nodes.get hE.hi;cases e;exact hb
theorem JE.nkm (hE:JE t raw s v vr g f i bn on cn gr x na want w W a0 Q R){q:Nat}(hq:q<g.base){u:Value}{s':List Int}{w':World}(hS:KSt g s' u w'):¬ KM g u q:=fun h=>by
 have:=KM.old hS.row hE.env.hh hE.env.pb h;omega
theorem JE.step' (hE:JE t raw s v vr g f i bn on cn gr x na want w W a0 Q R)(hl:(aI t).getD i 0 ≠ 0):R=if x.kind=1 then (.mk 0 (x.lo+ftC raw x s) ByteArray.empty [],s ++ [ftC raw x s])
  else if x.kind=2 then ftR t raw f (x.kids.getD (ftC raw x s).toNat 0) (s ++ [ftC raw x s])
  else if x.kind=4 then ftR t raw f (x.kids.getD ((bK x.values (ftR t raw f (x.kids.getD 0 0) s).1).1+1) 0) (ftR t raw f (x.kids.getD 0 0) s).2
  else ftP (ftR t raw f) x.name s [] x.kids:=by
 rw [hE.step];simp only [ftR,Int.toNat_natCast,hE.hx];unfold ftS;rw [Int.toNat_natCast,if_neg hl]
theorem JE.node (hE:JE t raw s v vr g f i bn on cn gr x na want w W a0 Q R):cR i x:=by rw [<- hE.hx];exact (hE.hg.at_ hE.hi).node
theorem JE.choose (hE:JE t raw s v vr g f i bn on cn gr x na want w W a0 Q R)(hk:1<=aP x)(hs:s.length<=1000000){V:World}(hx:Ext W V):qg 118 #[↑i,qp g.p,qp g.r,qp g.b] V (zy g (ftC raw x s) s v V):=by
 have:=KN (hE.env.ext hx) (hE.st.ext hx) hE.hg hE.hi (by rw [hE.hx];exact hk) hs
 rwa [hE.hx] at this
theorem Df (hE:JE t raw s v vr g f i bn on cn gr x na want w W a0 Q R)(hu:Ag [0,1,2,3,8,9] a0 a)(e9:qq a 9 (qt bn (on+i*12)))(hl:(aI t).getD i 0 ≠ 0)(k1:x.kind=1):qw (.seq (R88 6) .ret) Q a W:=by
 have sz:=hu.sz.trans hE.sz;have e1:=hu.get 1 hE.e1;have e3:=hu.get 3 hE.e3;have e8:=hu.get 8 hE.e8;have hR:=hE.step' hl;rw [if_pos k1] at hR;have hn:=hE.node;have hnum:=aZ hn.numbers;have hopt:=dA hn;rw [if_pos k1] at hopt;have hc:=tH (raw:=raw) (s:=s) (x:=x) I;have hbd:=hE.bd;have hlb:=(bJ hE.hg i hE.hi).bd;have hcall:=fun V (h:Ext W V)=>hE.choose I I h
 have hbn:=hE.bnl;have c2:=hE.nc.c2;have hx0:Ext W W.drew:=(aq W).drew';refine wp_seq (rD (fun V=>qc V bn (on+i*12+2) x.lo) (fun _=>true) 10 ?_);generalize W.drew=V0 at *;refine dt 4 [0,1,2,3,4,5] (hS:=aA hx0 c2) ?_;iterate 6 refine tv ?_
 refine t_e ?_;generalize ftC raw x s=c at *;have hw:IntKind.i64.wrap (x.lo+c)=x.lo+c:=IntWalk.i64_in _ I;refine dcp (y:=.tmp 49) (pre:=#[]) (post:=#[qp g.p,qp g.r,qp g.b]) 6 Tryz.func118 cd (hcall V0 hx0) ?_;rintro e w3 ⟨rfl,v',hS3,hF3,hb3⟩;have c3:=aH hF3 (hE.nkm hbn (hE.st.ext hx0)) (aA hx0 c2);refine ⟨_,rfl,fun _=>c3,?_⟩;have hB3:=(hE.res.ext hx0).fr hF3 (fun h=>by have:=hE.km h;have:=hE.lo;omega);refine dv 7 ?_ (hS:=fun _=>c3);refine dv 8 (v:=cN (.mk 0 (x.lo+c) ByteArray.empty []) none 0) ?_ (hS:=fun _=>c3) (hrun:=by simp [execOp,go_sem, *];exact ⟨rfl,rfl,rfl,rfl⟩);have hgr:=hE.lo;have hsw:=hE.szw;have hgs:gr<V0:=(hE.res.ext hx0).lt
 have hb8:fQ w v v':=by
  rcases hb3 with h | ⟨q,h,h1⟩
  ·exact .inl h
  ·exact .inr ⟨q,h,I⟩
 have c4:(w3.setCells gr 0 (cellsOf (.mk 0 (x.lo+c) ByteArray.empty []) none 0)).cell? (qt bn (on+i*12+2))=some (↑x.lo):=aH (M:=fun q=>q=gr) ((au _ w3).setCells _ 0 (.inl rfl)) (by have:=hE.env.hh;omega) c3;refine dq 9 (w1:=w3.setCells gr 0 (cellsOf (.mk 0 (x.lo+c) ByteArray.empty []) none 0)) ?_ (hS:=fun _=>c4) (hrun:=by simp [execOp,go_sem,hB3.cell,hB3.frozen,e8,sz];try rfl);refine d_E a [8] ?_;intro a6 u6;refine wp_ret (vY hE ((hu.mono rfl).trans u6) hB3 rfl (by rw [hR];exact hS3) ((ar (hE.ext.trans' hx0)).trans hF3) hb8 (qD hE hb3 hgs) (fun _=>⟨by rw [hR],?_⟩));exact ⟨jm,by unfold I64;simp only [GV.n];omega,by simp [GV.s],ab _,⟨dm,I⟩,⟨none,0,[],rfl,ab _,⟨dm,I⟩,⟨rfl,fun h=>absurd h dm⟩,rfl⟩⟩
theorem AS {w3 w4:World}{v':Value}(h:Fr (KM g v) w w3)(hb:fQ w v v')(k:Fr (KM g v') w3 w4):Fr (KM g v) w w4:=h.trans_new (k.mono fun q hq=>hb.elim (fun e=>.inl (hq.imp id (fun h=>by rw [h,e]))) (fun ⟨x,e,hx⟩=>hq.elim (fun h=>.inl (.inl h)) (fun h=>.inr (by rw [e] at h;cases h;exact hx))))
theorem vz (hE:JE t raw s v vr g f i bn on cn gr x na want w W a0 Q R){w3 w4:World}{v' v2:Value}{y:GV}{A:Option Addr}{c:Nat}(hu:Ag [8] a0 a)(hF3:Fr (KM g v) w w3)(hb3:fQ w v v')(hgs:gr<w3)(hB:Blk w4 gr 58 eR.toArray)(hS4:KSt g R.2 v2 w4)(hF4:Fr (KM g v') w3 w4)(hb4:fQ w3 v' v2)(hv:want=true->y=R.1∧VAt w4 (KP g w3 v2) y A c)(hng:v'.ownBlock ≠ some gr):Q .ret a (w4.setCells gr 0 (cellsOf y A c)):=by
 have hs3:=hF3.size;have hl:=hE.lo;have hsw:=hE.szw;have hh:=hE.env.hh;refine vY hE hu hB rfl hS4 (AS hF3 hb3 hF4) (hb3.trans hb4 hs3) (fun h=>?_) (fun hw=>⟨(hv hw).1,(hv hw).2.carry (fun _ _ _=>rfl) (fun q _ h=>⟨⟨h.1.imp id (fun h=>by omega),h.2⟩,fun e=>?_⟩)⟩)
 ·rcases hb4 with e | ⟨q,e,h1⟩
  ·exact hng (e.symm.trans h)
  ·rw [e] at h;cases h;omega
 ·rcases h.1 with h | h <;> omega
theorem Gl (hE:JE t raw s v vr g f i bn on cn gr x na want w W a0 Q R)(hu:Ag [0,1,2,3,8,9] a0 a)(e9:qq a 9 (qt bn (on+i*12)))(hl:(aI t).getD i 0 ≠ 0)(k2:x.kind=2):qw (.seq (R88 8) .ret) Q a W:=by
 have sz:=hu.sz.trans hE.sz;have e0:=hu.get 0 hE.e0;have e1:=hu.get 1 hE.e1;have e2:=hu.get 2 hE.e2;have e3:=hu.get 3 hE.e3;have e8:=hu.get 8 hE.e8;have hR:=hE.step' hl;rw [if_neg I,if_pos k2] at hR;have hn:=hE.node;have hch:=hn.choice k2;have hopt:=dA hn;rw [if_neg I] at hopt;have hc:=tH (raw:=raw) (s:=s) (x:=x) I;have hbd:=hE.bd;have hlb:=(bJ hE.hg i hE.hi).bd;have hlc:=(bJ hE.hg i hE.hi).choice (by rw [hE.hx];exact k2);rw [hE.hx] at hlc;have hcall:=fun V (h:Ext W V)=>hE.choose I I h
 have hbn:=hE.bnl;have c7:=hE.nc.c7;have hx0:Ext W W.drew:=(aq W).drew';have hcc:(ftC raw x s).toNat<x.kids:=by omega
 obtain ⟨bk,ok,hK,hqk,-,gk⟩:=hE.nd.kids.get hcc;have hzz:=hn.kids _ (aC (d:=0) hcc);have hlz:=hlc.2 _ (aC (d:=0) hcc);obtain ⟨zn,hzn⟩:∃ zn:Nat,x.kids.getD (ftC raw x s).toNat 0=(zn:Int):=⟨(x.kids.getD (ftC raw x s).toNat 0).toNat,I⟩;rw [hzn] at gk hR hzz hlz;rw [Int.toNat_natCast] at hlz;have hct:((ftC raw x s).toNat:Int)=ftC raw x s:=by omega
 have hck:ftC raw x s<(x.kids:Int):=I;rw [hK] at c7;have hif:=hE.hif;have hit:=hE.hi;clear hzn hch hopt;refine wp_seq (rD (fun V=>qc V bn (on+i*12+7) (.slice (qt bk ok) x.kids na.kc)∧qc V bk (ok+(ftC raw x s).toNat) zn) (fun _=>true) 14 ?_);generalize W.drew=V0 at *;refine dt 5 [0,1,2,3,4,5,6,10,11] (hS:=⟨aA hx0 c7,aA hx0 gk⟩) ?_;iterate 9 refine tv ?_
 refine t_e ?_;generalize ftC raw x s=c at *;refine dcp (y:=.tmp 61) (pre:=#[]) (post:=#[qp g.p,qp g.r,qp g.b]) 7 Tryz.func118 cd (hcall V0 hx0) ?_;rintro e w3 ⟨rfl,v',hS3,hF3,hb3⟩;have c3:=aH hF3 (hE.nkm hbn (hE.st.ext hx0)) (aA hx0 c7);have d3:=aH hF3 (hE.nkm hqk (hE.st.ext hx0)) (aA hx0 gk);refine ⟨_,rfl,fun _=>⟨c3,d3⟩,?_⟩;have hB3:=(hE.res.ext hx0).fr hF3 (fun h=>by have:=hE.km h;have:=hE.lo;omega);have hE3:=(hE.env.ext hx0).fr (hE.st.ext hx0) hF3;have hgr:=hE.lo;have hsw:=hE.szw;have hgs:gr<V0:=(hE.res.ext hx0).lt
 have hb8:fQ w v v':=by
  rcases hb3 with h | ⟨q,h,h1⟩
  ·exact .inl h
  ·exact .inr ⟨q,h,I⟩
 have hF8:=(ar (hE.ext.trans' hx0)).trans hF3;have hng:=qD hE hb3 hgs;refine dv 8 (v:=qt bk (ok+c.toNat)) ?_ (hS:=fun _=>⟨c3,d3⟩) (hrun:=by simp [execOp,go_sem, *];try rfl);refine dv 9 ?_ (hS:=fun _=>⟨c3,d3⟩);refine dc (vs:=#[qp g.w,↑zn,want,kfn g]) 12 Tryz.func88 (hE.said zn (s ++ [c]) v' w3 want I I hE3 hS3 gu) ?_;rintro e w4 ⟨y,A,d,v2,rfl,hS4,hF4,hb4,hv4⟩;have c4:=aH hF4 (hE.nkm hbn hS3) c3;have d4:=aH hF4 (hE.nkm hqk hS3) d3;refine ⟨_,rfl,fun _=>⟨c4,d4⟩,?_⟩;have hhp:=hE.env.hp;have hB4:=hB3.fr hF4 (fun h=>h.elim (fun h=>by omega) (fun h=>hng h.symm));have hgs3:=hB3.lt;have hhh:=hE.env.hh;have hfs:Fr (fun q=>q=gr) w4 (w4.setCells gr 0 (cellsOf y A d)):=(au _ w4).setCells _ 0 (.inl rfl);have c5:=aH hfs (show ¬ bn=gr by omega) c4;have d5:=aH hfs (show ¬ bk=gr by omega) d4;refine dq 13 (w1:=w4.setCells gr 0 (cellsOf y A d)) ?_ (hS:=fun _=>⟨c5,d5⟩) (hrun:=by simp [execOp,go_sem,hB4.cell,hB4.frozen,e8,sz];try rfl);refine d_E a [8] ?_;intro a6 u6;exact wp_ret (vz hE ((hu.mono rfl).trans u6) hF8 hb8 hgs3 hB4 (by rw [hR];exact hS4) hF4 hb4 (by rw [hR];exact hv4) hng)
end
section
variable {t:List GN}{raw s:List Int}{v vr:Value}{g:KA}{f i bn on cn gr:Nat}{x:GN}{na:NA}{want:Bool}{w W:World}{a0 a:Act}{Q:Exit->Act->World->Prop}{R:GV × List Int}
theorem sy {u:Value}{s':List Int}{w':World}(hS:KSt g s' u w'){q:Nat}(hq:KM g u q):q<w':=by
 rcases hq with h | h
 ·rw [h];exact hS.box.lt
 ·exact hS.row.block_lt h.symm
theorem Ku (hE:JE t raw s v vr g f i bn on cn gr x na want w W a0 Q R)(hu:Ag [0,1,2,3,8,9] a0 a)(e9:qq a 9 (qt bn (on+i*12)))(hl:(aI t).getD i 0 ≠ 0)(k4:x.kind=4):qw (.seq (R88 10) (.seq (R88 11) .ret)) Q a W:=by
 have sz:=hu.sz.trans hE.sz;have e0:=hu.get 0 hE.e0;have e1:=hu.get 1 hE.e1;have e2:=hu.get 2 hE.e2;have e3:=hu.get 3 hE.e3;have e8:=hu.get 8 hE.e8;have hR:=hE.step' hl;rw [if_neg I,if_neg I,if_pos k4] at hR;have hn:=hE.node;have hb:=hn.bind k4;have hbd:=hE.bd;have hlB:=(bJ hE.hg i hE.hi).bind (by rw [hE.hx];exact k4);have hmany:=(hE.hg.at_ hE.hi).many (by rw [hE.hx];exact k4);have hvals:=(hE.hg.at_ hE.hi).vals (by rw [hE.hx];exact k4);have hkf:=(cJ hE.hg hE.hi).1;rw [hE.hx] at hlB hmany hvals hkf;have hbn:=hE.bnl;have c7:=hE.nc.c7;have hif:=hE.hif;have hit:=hE.hi;have hinc:=hn.inc;have h0:0<x.kids.length:=by omega
 obtain ⟨bk,ok,hK,hqk,-,gk⟩:=hE.nd.kids.get h0;have hzz:=hn.kids _ (aC (d:=0) h0);obtain ⟨z0,hz0⟩:∃ z0:Nat,x.kids.getD 0 0=(z0:Int):=⟨(x.kids.getD 0 0).toNat,I⟩;rw [hz0] at gk hR hzz hlB hmany hvals;rw [Int.toNat_natCast] at hlB hmany hvals;rw [Nat.add_zero] at gk;rw [hK] at c7;have hfl:=se hE.hg raw z0 I f I s (by rw [Int.toNat_natCast];omega);rw [Int.toNat_natCast] at hfl;have hmem:=Ce hE.hg raw (f:=f) (i:=z0) I I s I hmany;rw [hvals] at hmem;have hfi:=(eN hinc hmem).2.1;have hsaid:=hE.said z0 s v W true I I hE.env hE.st I;have hidx:(bK x.values (ftR t raw f z0 s).1).1+1<x.kids:=by omega
 have hvl:=(cJ hE.hg hE.hi).2.1;rw [hE.hx] at hvl;clear hb hmem hvals;refine rS ?_;iterate 8 refine lv ?_
 refine lc (vs:=#[qp g.w,↑z0,true,kfn g]) Tryz.func88 hsaid ?_;rintro e w1 ⟨y,A,d,v1,rfl,hS1,hF1,hb1,hv1⟩;obtain ⟨rfl,hv1⟩:=hv1 rfl;refine ⟨_,rfl,?_⟩;have hgr:=hE.lo;have hsw:=hE.szw;have hhp:=hE.env.hp;have hhh:=hE.env.hh;have hE1:=hE.env.fr hE.st hF1;have hgs:gr<W:=hE.res.lt;have hng:=qD hE hb1 hgs;have hB1:=hE.res.fr hF1 (fun h=>by have:=hE.km h;omega);have c71:=aH hF1 (hE.nkm hbn hE.st) c7;have hq0:=hlB.2 _ I hidx;obtain ⟨bk2,ok2,hK2,-,-,gk2⟩:=hE.nd.kids.get hidx;rw [hK] at hK2;cases hK2;have hz2:=hn.kids _ (aC (d:=0) hidx);have hnd1:=hE.nd.carry (Q:=fun q=>q<g.base) (aB.of_fr hF1 (fun q hq h=>hE.nkm hq hE.st h)) (fun _ _ h=>h);have hnc1:aR w1 bn (on+i*12) x na:=fun j u hu=>aH hF1 (hE.nkm hbn hE.st) (hE.nc j u hu)
 have hcase:∀ V,Ext w1 V->qg 96 #[qt bn (on+i*12),cN (ftR t raw f z0 s).1 A d] V (dE (.int .i64 (((bK x.values (ftR t raw f z0 s).1).1:Int)+1)) V):=fun V h=>fT x na bn (on+i*12) _ A d _ _ V (hnc1.ext h) (hnd1.ext h) (hv1.ext h) hinc I
 generalize hr0:ftR t raw f z0 s=r0 at *;obtain ⟨y,s1⟩:=r0;simp only at hv1 hS1 hcase hfl hidx hq0 gk2 hz2 hR;generalize (bK x.values y).1=qi at *;obtain ⟨zq,hzq⟩:∃ zq:Nat,x.kids.getD (qi+1) 0=(zq:Int):=⟨(x.kids.getD (qi+1) 0).toNat,I⟩;rw [hzq] at gk2 hR hz2 hq0;rw [Int.toNat_natCast] at hq0;have d1:=aH hF1 (hE.nkm hqk hE.st) gk2;clear hr0 hsaid hkf hmany;refine lv (w1:=w1.alloc (qk eR.toArray 58)) (v:=qp w1) ?_ (hrun:=by simp [execOp,go_sem];try rfl);obtain ⟨Bq,xq,nq⟩:=nw w1 58 eR.toArray;generalize w1.alloc (qk eR.toArray 58)=w2 at *;refine ls (w1:=w2.setCells w1 0 (cellsOf y A d)) ?_ (hrun:=by simp [execOp,go_sem,Bq.cell,Bq.frozen,sz];try rfl);have Bv:Blk (w2.setCells w1 0 (cellsOf y A d)) w1 58 (cellsOf y A d).toArray:=aF (cellsOf y A d) (cs:=eR) 0 Bq fs;have xv:Ext w1 (w2.setCells w1 0 (cellsOf y A d)):=((ar xq).trans ((au (fun k=>k=w1.heap.size) w2).setCells _ 0 (.inl rfl))).new_ext (fun k hk=>by omega);clear Bq xq nq;generalize w2.setCells w1 0 (cellsOf y A d)=w3 at *;have hgq:gr<w1:=hB1.lt;have hkq:∀ q,KM g v1 q->q<w1:=fun q h=>sy hS1 h
 generalize w1.heap.size=gq at *;refine lE a [0,1,2,3,8,9] 10 ?_;intro a2 u2 e10;refine u2.b6 sz e0 e1 e2 e3 e8 e9 fun sz e0 e1 e2 e3 e8 e9=>?_
 have hx0:Ext w3 w3.drew:=(aq w3).drew';have v0:=Bv.cell' (u:=↑y.kind) 0 rfl;have v1':=Bv.cell' (u:=↑y.n) 1 rfl;have v2':=Bv.cell' (u:=y.s) 2 rfl;have v3':=Bv.cell' (u:=.slice A y.kids d) 3 rfl;have c73:=aA xv c71;have d3:=aA xv d1;have hqk1:(qi:Int)+1<(x.kids:Int):=by omega
 have hqk0:(0:Int)<=(qi:Int)+1:=I;have hqt:((qi:Int)+1).toNat=qi+1:=I;refine wp_seq (rD (fun V=>qc V bn (on+i*12+7) (.slice (qt bk ok) x.kids na.kc)∧qc V bk (ok+(qi+1)) zq∧qc V gq 0 y.kind∧qc V gq 1 y.n∧qc V gq 2 y.s∧qc V gq 3 (.slice A y.kids d)) (fun _=>true) 14 ?_);generalize w3.drew=V0 at *;have hxV:=xv.trans' hx0;have hS0:∀ V,Ext V0 V->qc V bn (on+i*12+7) (.slice (qt bk ok) x.kids na.kc)∧qc V bk (ok+(qi+1)) zq∧qc V gq 0 y.kind∧qc V gq 1 y.n∧qc V gq 2 y.s∧qc V gq 3 (.slice A y.kids d):=fun V h=>⟨aA (hx0.trans' h) c73,aA (hx0.trans' h) d3,aA (hx0.trans' h) v0,aA (hx0.trans' h) v1',aA (hx0.trans' h) v2',aA (hx0.trans' h) v3'⟩
 refine dt 5 [0,1,2,3,4,5,6,10,11] (hS:=hS0 V0 (aq V0)) ?_;iterate 6 refine tv ?_
 refine tv (v:=cN y A d) ?_ (hy:=by intro w hw;simp [execOp,go_sem, *];try rfl);iterate 2 refine tv ?_
 refine t_e ?_;refine dc (vs:=#[qt bn (on+i*12),cN y A d]) 7 Tryz.func96 (hcase V0 hxV) ?_;rintro e w5 ⟨rfl,hx5⟩;have hS5:=hS0 w5 hx5;refine ⟨_,rfl,fun _=>hS5,?_⟩;refine dv 8 (v:=qt bk (ok+(qi+1))) ?_ (hS:=fun _=>hS5) (hrun:=by simp [execOp,go_sem, *];try rfl);refine dv 9 ?_ (hS:=fun _=>hS5);have hx15:=hxV.trans' hx5;have hS1e:=hS1.ext hx15;refine dc (vs:=#[qp g.w,↑zq,want,kfn g]) 12 Tryz.func88 (hE.said zq s1 v1 w5 want I I (hE1.ext hx15) hS1e I) ?_;rintro e w6 ⟨yb,Ab,db,vb,rfl,hS6,hF6,hb6,hv6⟩;have hnq:¬ KM g v1 gq:=fun h=>by have:=hkq _ h;omega
 have hS7:∀ V,Fr (KM g v1) w5 V->qc V bn (on+i*12+7) (.slice (qt bk ok) x.kids na.kc)∧qc V bk (ok+(qi+1)) zq∧qc V gq 0 y.kind∧qc V gq 1 y.n∧qc V gq 2 y.s∧qc V gq 3 (.slice A y.kids d):=fun V h=>by
  obtain ⟨r0,r1,r2,r3,r4,r5⟩:=hS5;exact ⟨aH h (hE.nkm hbn hS1e) r0,aH h (hE.nkm hqk hS1e) r1,aH h hnq r2,aH h hnq r3,aH h hnq r4,aH h hnq r5⟩
 refine ⟨_,rfl,fun _=>hS7 w6 hF6,?_⟩;have hB6:=(hB1.ext hx15).fr hF6 (fun h=>h.elim (fun h=>by omega) (fun h=>hng h.symm));have hgs5:=(hB1.ext hx15).lt;have hfs:Fr (fun q=>q=gr) w6 (w6.setCells gr 0 (cellsOf yb Ab db)):=(au _ w6).setCells _ 0 (.inl rfl);have hS8:=hS7 w6 hF6
 have hS9:(w6.setCells gr 0 (cellsOf yb Ab db)).cell? (qt bn (on+i*12+7))=some (.slice (qt bk ok) x.kids na.kc)∧(w6.setCells gr 0 (cellsOf yb Ab db)).cell? (qt bk (ok+(qi+1)))=some (↑zq)∧(w6.setCells gr 0 (cellsOf yb Ab db)).cell? (qp gq)=some (↑y.kind)∧(w6.setCells gr 0 (cellsOf yb Ab db)).cell? (qt gq 1)=some (↑y.n)∧(w6.setCells gr 0 (cellsOf yb Ab db)).cell? (qt gq 2)=some ↑y.s∧(w6.setCells gr 0 (cellsOf yb Ab db)).cell? (qt gq 3)=some (.slice A y.kids d):=by
  obtain ⟨r0,r1,r2,r3,r4,r5⟩:=hS8;have n1:¬ bn=gr:=by omega
  have n2:¬ bk=gr:=I;have n3:¬ gq=gr:=I;exact ⟨aH hfs n1 r0,aH hfs n2 r1,aH hfs n3 r2,aH hfs n3 r3,aH hfs n3 r4,aH hfs n3 r5⟩
 refine dq 13 (w1:=w6.setCells gr 0 (cellsOf yb Ab db)) ?_ (hS:=fun _=>hS9) (hrun:=by simp [execOp,go_sem,hB6.cell,hB6.frozen,e8,sz];try rfl);refine d_E a2 [8] ?_;intro a6 u6
 have hb8:fQ w v v1:=by
  rcases hb1 with h | ⟨q,h,h1⟩
  ·exact .inl h
  ·exact .inr ⟨q,h,I⟩
 exact wp_ret (vz hE (((hu.mono rfl).trans (u2.mono rfl)).trans u6) (((ar hE.ext).trans hF1).trans (ar hx15)) hb8 hgs5 hB6 (by rw [hR];exact hS6) hF6 hb6 (by rw [hR];exact hv6) hng)
end
