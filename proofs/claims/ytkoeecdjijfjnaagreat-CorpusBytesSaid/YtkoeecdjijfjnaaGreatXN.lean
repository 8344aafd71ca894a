/- Contracts and laws. Conditions: none. -/
import Derived.Test.YtkoeecdjijfjnaaGreatXD
set_option linter.all false
set_option maxRecDepth 100000
set_option maxHeartbeats 8000000
namespace Go.Proofs.YtkoeecdjijfjnaaGreat
open Go.RowKit
section
variable {w:World}{Q:Exit->Act->World->Prop}{a:Act}
theorem aOw {n:Int}(sz:a.tmps.size=123)(e8:qq a 8 n)(hQ:∀ a',Ag [4,7,8] a a'->qq a' 39 (.bool (decide (n<0∨256<n)))->Q .normal a' w):qw (RG Tryz.f34 9) Q a w:=by
 refine rW ?_;by_cases hn:n<0
 ·iterate 3 refine lv ?_
  iterate 2 refine ln ?_
  refine lv ?_;exact lE a [4,7,8] 39 hQ (he:=by simp [*])
 ·iterate 3 refine lv ?_
  iterate 2 refine ly ?_
  refine lv ?_;exact lE a [4,7,8] 39 hQ (he:=by simp [*])
theorem aKr {gc vn pw}{b:Int}{A k c}(sz:a.tmps.size=123)(e7:qq a 7 (qp gc))(hB:Blk w gc 95 #[vn,pw,↑b,.slice A k c])(hk:k<=100000)(hQ:∀ a',Ag [4,7,8,9,11,40,41] a a'->qq a' 12 (.int .i64 ((k:Int) - 1))->Q .normal a' w):qw (RG Tryz.f34 18) Q a w:=by
 have c3:=hB.cell' (u:=.slice A k c) 3 rfl;refine rW ?_;iterate 7 refine lv ?_
 exact lE a [4,7,8,9,11,40,41] 12 hQ (he:=by simp [*])
end
theorem dEv {ops:Array Oper}{K:Act->World->Prop}{S:World->Prop}{bf:Nat->Bool}{n:Nat}{is:List Nat}{a:Act}{w:World}{v:Value}(a0:Act)(L:List Nat)(d:Nat)(h:∀ a',Ag L a0 a'->qq a' d v->K a' w)(hr:Region.ready .any ops (mkL ops.size is)=[]:=by kernel_rfl)(hA:Ag L a0 a:=by (repeat refine .put ?_ rfl);exact .rf)(he:qq a d v:=by simp [*];rfl):WD ops K S bf n is a w:=jN hr (h a hA he)
theorem dcg {ops:Array Oper}{K:Act->World->Prop}{S:World->Prop}{bf:Nat->Bool}{n:Nat}{is:List Nat}{a:Act}{w:World}{o:Oper}{d gd j:Nat}{want b:Bool}{f:FuncId}{xs:Array Operand}{ats:Array TypeId}{fn:Func}{vs:Array Value}{R:Ending->World->Prop}(i:Nat)(hf:Tryz.prog.funcs[f]?=some fn)(hc:qg f vs w R)(h:∀ e w',R e w'->∃ v,e=.returned v∧(bf i=true->S w')∧WD ops K S bf n (i :: is) (Pt a d v) w')
  (hr:Region.ready .any ops (mkL ops.size is)=[i]:=by kernel_rfl)(hi:ops[i]?=some o:=by exact rfl)(hg:o.guard=some (j,want):=by exact rfl)(hj:(ops[j]?).bind (fun x=>x.dst)=some gd:=by exact rfl)(hd:o.dst=some d:=by exact rfl)(hs:gd<a.tmps.size:=by simp [*])(he:Ev a (.tmp gd)=.bool b:=by simp [*];rfl)(hb:(b == want)=true:=by exact rfl)(hop:o.op=Op.call { callee:=Callee.value (Operand.func f),args:=xs,argTypes:=ats }:=by exact rfl)(hn:(fn.name == "runtime.NumGoroutine")=false:=by rfl) (hbn:fn.body.isNone=false:=by rfl) (hv:xs.map (Ev a)=vs:=by simp [*]):WD ops K S bf (n+1) is a w:=aIj i d gd hr hi hg hj hs he hb hd f xs ats hop fn hf hn hbn vs hv (hc.mono h)
section
variable {g:Nat}{P:Nat->Prop}{s:Option (List Int)}{w:World}{Q:Exit->Act->World->Prop}{a:Act}
theorem aKo {t vn b L c P' ve}(sz:a.tmps.size=123)(e4:qq a 4 (qp g))(e7:qq a 7 (qp c.c))(hR:RS g P s w)(hC:cV t vn b L c P' ve w)
  (hQ:∀ (a':Act)(w':World)(bb:Bool),Ag [4,7] a a'->qq a' 121 bb->(bb=false ↔ s=some []∧bC L<=b)->Ext w w'->Q .normal a' w'):qw (RG Tryz.f34 23) Q a w:=by
 have hx0:Ext w w.drew:=(aq w).drew';have c2:=hC.box.cell' (u:=↑b) 2 rfl;have hS0:=aA hx0 c2;refine rD (fun W=>qc W c.c 2 b) (fun _=>true) 12 ?_;have hb:qg 15 #[qp c.c] w.drew (dI (.int .i64 (bC L)) w.drew):=tH t vn b L c P' ve w.drew (hC.carry (aB.of_ext hx0) (fun _ _ h=>h) hC.excl);replace hR:=hR.ext hx0;generalize w.drew=W at *;refine dv 0 ?_ (hS:=fun _=>hS0);refine dc 1 Tryz.func80 (aU6 hR) ?_;rintro e w1 ⟨r,rfl,hr,rfl⟩;refine ⟨_,rfl,fun _=>hS0,?_⟩;by_cases hr0:r=0
 ·subst hr0
  have hs0:s=some []:=hr.1 rfl;clear hr;refine dv 2 ?_ (v:=false) (hS:=fun _=>hS0) (hrun:=by simp [execOp,go_sem, *];try rfl);refine dv 3 ?_ (v:=false) (hS:=fun _=>hS0) (hrun:=by simp [execOp,go_sem, *];try rfl);refine dt 3 [4,6,7,8,9] (hS:=hS0) ?_;iterate 5 refine t_y (gd:=113) (b:=false) ba ba ba ba av av ba (by (intro w hw;simp [execOp,go_sem, *];rfl)) ?_
  refine t_e ?_;refine dcg 5 Tryz.func15 hb ?_ (b:=false) (gd:=113) (he:=by simp [*]);rintro e w2 ⟨rfl,hx2⟩;have hS2:=aA hx2 hS0;refine ⟨_,rfl,fun _=>hS2,?_⟩;refine dt 0 [10,11] (hS:=hS2) ?_;refine t_y (gd:=113) (b:=false) (v:=(decide (b<bC L))) ba ba ba ba av av ba (by (intro w hw;simp [execOp,go_sem, *];try rfl)) ?_;refine tv ?_ (v:=(decide (b<bC L))) (hy:=by (intro w hw;simp [execOp,go_sem, *];try rfl));refine t_e ?_;refine dEv a [4,7] 121 (v:=(decide (b<bC L))) ?_ (he:=by simp [*]);intro a' u e;exact hQ a' w2 _ u e (by simp [hs0]) (hx0.trans' hx2)
 ·have hs0:¬ s=some []:=fun h=>hr0 (hr.2 h)
  clear hr;refine dv 2 ?_ (v:=true) (hS:=fun _=>hS0) (hrun:=by simp [execOp,go_sem, *];try rfl);refine dv 3 ?_ (v:=true) (hS:=fun _=>hS0) (hrun:=by simp [execOp,go_sem, *];try rfl);refine dt 0 [4,5,6,7,8,9,10,11] (hS:=hS0) ?_;iterate 7 refine t_n (gd:=113) (b:=true) ba ba ba ba av av ba ?_
  refine tv ?_ (v:=true) (hy:=by (intro w hw;simp [execOp,go_sem, *];try rfl));refine t_e ?_;refine dEv a [4,7] 121 (v:=true) ?_ (he:=by simp [*]);intro a' u e;exact hQ a' w1 true u e (by simp [hs0]) hx0
end
theorem t_u {ops:Array Oper}{S K' J}{i d gd j:Nat}{o want a}(hi:ops[i]?=some o)(hg:o.guard=some (j,want))(hj:(ops[j]?).bind (fun x=>x.dst)=some gd)(hd:o.dst=some d)(hs:gd<a.tmps.size)(he:Ev a (.tmp gd)=undef)(h:WT ops S K' J (Pt a d undef)):WT ops S K' (i :: J) a:=by
 have h1:a.tmps[gd]?=some undef:=by
  have h2:a.tmps.getD gd undef=undef:=he;simp only [Array.getD,hs,dite_true] at h2;rw [Array.getElem?_eq_getElem hs];exact congrArg some h2
 have h3:yielded ops a.tmps j=none:=by
  unfold yielded;rw [show ((ops[j]?).bind (fun x=>x.dst)).bind (fun x=>a.tmps[x]?)=some undef by rw [hj];exact h1];rfl
 exact ⟨⟨o,d,undef,hi,hd,.inr ⟨by simp [Region.wanted,hg,h3],rfl⟩,h.out⟩⟩
section
variable {w:World}{Q:Exit->Act->World->Prop}{a:Act}
theorem aG6 {E}{ok:Bool}{h:Int}{k:Nat}{u0 u1 u2 u3 u4}(sz:a.tmps.size=123)(e9:qq a 9 (qp E))(e11:qq a 11 ok)(e12:qq a 12 (.int .i64 ((k:Int) - 1)))(hB:Blk w E 102 #[u0,u1,u2,u3,u4,↑h])(hc:ok=false∨h<1∨k=0)
  (hQ:∀ a' w',Ag [4,7,8,9,40,41] a a'->qq a' 98 (!ok || decide (h<1))->Ext w w'->Q .normal a' w'):qw (RG Tryz.f34 19) Q a w:=by
 have hx0:Ext w w.drew:=(aq w).drew';refine rD (fun W=>qc W E 5 h) (fun _=>true) 23 ?_;have hS0:=aA hx0 (hB.cell' (u:=↑h) 5 rfl);generalize w.drew=W at *;refine dt 0 [0,1,2,3,4,5,6,7,8,9,10,11,12,13,14,15,16,17,18,19,20,21,22] (hS:=hS0) ?_;cases ok with
 | false =>
  iterate 3 refine tv ?_ (hy:=by (intro w hw;simp [execOp,go_sem, *];try rfl))
  iterate 3 refine t_n (gd:=78) (b:=true) ba ba ba ba av av ba ?_
  iterate 2 refine tv ?_ (v:=true) (hy:=by (intro w hw;simp [execOp,go_sem, *];try rfl))
  iterate 3 refine t_n (gd:=83) (b:=true) ba ba ba ba av av ba ?_
  iterate 10 refine t_u (gd:=86) ba ba ba ba av av ?_
  refine t_n (gd:=83) (b:=true) ba ba ba ba av av ba ?_;refine tv ?_ (v:=true) (hy:=by (intro w hw;simp [execOp,go_sem, *];try rfl));refine t_e ?_;exact dEv a [4,7,8,9,40,41] 98 (v:=true) (fun a' u e=>hQ a' W u (by simpa using e) hx0) (he:=by simp [*])
 | true =>
  by_cases hh:h<1
  ·iterate 3 refine tv ?_ (hy:=by (intro w hw;simp [execOp,go_sem, *];try rfl))
   iterate 3 refine t_y (gd:=78) (b:=false) ba ba ba ba av av ba (by (intro w hw;simp [execOp,go_sem, *];rfl)) ?_
   iterate 2 refine tv ?_ (v:=true) (hy:=by (intro w hw;simp [execOp,go_sem, *];try rfl))
   iterate 3 refine t_n (gd:=83) (b:=true) ba ba ba ba av av ba ?_
   iterate 10 refine t_u (gd:=86) ba ba ba ba av av ?_
   refine t_n (gd:=83) (b:=true) ba ba ba ba av av ba ?_;refine tv ?_ (v:=true) (hy:=by (intro w hw;simp [execOp,go_sem, *];try rfl));refine t_e ?_;exact dEv a [4,7,8,9,40,41] 98 (v:=true) (fun a' u e=>hQ a' W u (by simpa [hh] using e) hx0) (he:=by simp [*])
  ·have hk:k=0:=by rcases hc with h | h | h;cases h;exact absurd h hh;exact h
   subst hk;iterate 3 refine tv ?_ (hy:=by (intro w hw;simp [execOp,go_sem, *];try rfl))
   iterate 3 refine t_y (gd:=78) (b:=false) ba ba ba ba av av ba (by (intro w hw;simp [execOp,go_sem, *];rfl)) ?_
   iterate 2 refine tv ?_ (v:=false) (hy:=by (intro w hw;simp [execOp,go_sem, *];try rfl))
   iterate 3 refine t_y (gd:=83) (b:=false) ba ba ba ba av av ba (by (intro w hw;simp [execOp,go_sem, *];rfl)) ?_
   iterate 10 refine t_n (gd:=86) (b:=false) ba ba ba ba av av ba ?_
   refine t_y (gd:=83) (b:=false) (v:=false) ba ba ba ba av av ba (by (intro w hw;simp [execOp,go_sem, *];try rfl)) ?_;refine tv ?_ (v:=false) (hy:=by (intro w hw;simp [execOp,go_sem, *];try rfl));refine t_e ?_;exact dEv a [4,7,8,9,40,41] 98 (v:=false) (fun a' u e=>hQ a' W u (by simpa [hh] using e) hx0) (he:=by simp [*])
end
section
variable {w:World}{Q:Exit->Act->World->Prop}{a:Act}
theorem aG7 {E gc m b1 o1 c n:Nat}{x y A1 Ax d1 dx P1 Px vn pw}{b:Int}(sz:a.tmps.size=123)(e7:qq a 7 (qp gc))(e9:qq a 9 (qp E))(e11:qq a 11 true)(e12:qq a 12 (m:Int))(hB:Blk w E 102 (aV x Ax dx).toArray)(hG:Blk w gc 95 #[vn,pw,↑b,.slice (qt b1 o1) n c])(hm:m<n∧n<=100000)(hy:EAt w P1 y A1 d1)(hx:EAt w Px x Ax dx)(hyc:∀ j u,(aV y A1 d1)[j]?=some u->qc w b1 (o1+m*6+j) u)(h1:¬ x.hits<1)
  (hQ:∀ a' w',Ag [4,7,8,9,40,41] a a'->qq a' 98 (decide (0<=fC y.path x.path))->Ext w w'->Q .normal a' w'):qw (RG Tryz.f34 19) Q a w:=by
 have hx0:Ext w w.drew:=(aq w).drew';refine rD (fun W=>Ext w W) (fun _=>true) 23 ?_;have hcall:=pC y x A1 Ax d1 dx P1 Px w.drew (hy.ext hx0) (hx.ext hx0);generalize w.drew=W0 at *;have r0:∀ W,Ext w W->qc W E 0 (.slice Ax x.path dx)∧qc W E 1 x.kind∧qc W E 2 x.at_∧qc W E 3 x.code∧qc W E 4 x.fresh∧qc W E 5 x.hits:=fun W h=>⟨aA h (hB.cell' 0 rfl),aA h (hB.cell' 1 rfl),aA h (hB.cell' 2 rfl),aA h (hB.cell' 3 rfl),aA h (hB.cell' 4 rfl),aA h (hB.cell' 5 rfl)⟩
 have r1:∀ W,Ext w W->qc W b1 (o1+m*6) (.slice A1 y.path d1)∧qc W b1 (o1+m*6+1) y.kind∧qc W b1 (o1+m*6+2) y.at_∧qc W b1 (o1+m*6+3) y.code∧qc W b1 (o1+m*6+4) y.fresh∧qc W b1 (o1+m*6+5) y.hits:=fun W h=>⟨aA h (hyc 0 _ rfl),aA h (hyc 1 _ rfl),aA h (hyc 2 _ rfl),aA h (hyc 3 _ rfl),aA h (hyc 4 _ rfl),aA h (hyc 5 _ rfl)⟩
 have r2:∀ W,Ext w W->qc W gc 3 (.slice (qt b1 o1) n c):=fun W h=>aA h (hG.cell' 3 rfl)
 clear hB hG hyc hy hx;refine dt 4 [0,1,2,3,4,5,6,7,8,9,10,11,12,13,14,15,16,17,18] (hS:=hx0) ?_;iterate 3 refine tv ?_ (hy:=by (intro w hw;simp [execOp,go_sem, *];try rfl))
 iterate 3 refine t_y (gd:=78) (b:=false) ba ba ba ba av av ba (by (intro w hw;obtain ⟨q0,q1,q2,q3,q4,q5⟩:=r0 w hw;simp [execOp,go_sem, *];rfl)) ?_
 iterate 2 refine tv ?_ (v:=false) (hy:=by (intro w hw;simp [execOp,go_sem, *];try rfl))
 iterate 3 refine t_y (gd:=83) (b:=false) ba ba ba ba av av ba (by (intro w hw;simp [execOp,go_sem, *];rfl)) ?_
 iterate 5 refine t_y (gd:=86) (b:=true) ba ba ba ba av av ba (by (intro w hw;simp [execOp,go_sem, *];rfl)) ?_
 refine t_y (gd:=86) (b:=true) (v:=qt b1 (o1+m*6)) ba ba ba ba av av ba (by (intro w hw;simp [execOp,go_sem, *];try rfl)) ?_;refine t_y (gd:=86) (b:=true) (v:=aD6 y A1 d1) ba ba ba ba av av ba (by (intro w hw;obtain ⟨q0,q1,q2,q3,q4,q5⟩:=r1 w hw;simp [execOp,go_sem, *];try rfl)) ?_;refine t_y (gd:=86) (b:=true) (v:=aD6 x Ax dx) ba ba ba ba av av ba (by (intro w hw;obtain ⟨q0,q1,q2,q3,q4,q5⟩:=r0 w hw;simp [execOp,go_sem, *];try rfl)) ?_;refine t_e ?_;refine dcg 19 Tryz.func56 hcall ?_ (gd:=86) (b:=true) (he:=by simp [*]);rintro e w2 ⟨rfl,hx2⟩;refine ⟨_,rfl,fun _=>hx0.trans' hx2,?_⟩;refine dt 0 [20,21,22] (hS:=hx0.trans' hx2) ?_;refine t_y (gd:=86) (b:=true) (v:=(decide (0<=fC y.path x.path))) ba ba ba ba av av ba (by (intro w hw;simp [execOp,go_sem, *];try rfl)) ?_;refine t_y (gd:=83) (b:=false) (v:=(decide (0<=fC y.path x.path))) ba ba ba ba av av ba (by (intro w hw;simp [execOp,go_sem, *];try rfl)) ?_;refine tv ?_ (v:=(decide (0<=fC y.path x.path))) (hy:=by (intro w hw;simp [execOp,go_sem, *];try rfl));refine t_e ?_;exact dEv a [4,7,8,9,40,41] 98 (fun a' u e=>hQ a' w2 u e (hx0.trans' hx2)) (he:=by simp [*])
end
section
variable {w:World}{Q:Exit->Act->World->Prop}{a:Act}
abbrev z85:Array Value:=#[qz,qz,qe,qn]
theorem aKs {E gc gw ok vn pv ve u1 u2 u3 u4 u5}{b:Int}(sz:a.tmps.size=123)(e7:qq a 7 (qp gc))(e9:qq a 9 (qp E))(hB:Blk w E 102 #[pv,u1,u2,u3,u4,u5])(hG:Blk w gc 95 #[vn,qp gw,↑b,ve])(hcall:∀ W,Ext w W->qg 47 #[qp gw,pv] W (aEn ok W))
  (hQ:∀ a' w',Ag [4,7,8,9,40,41] a a'->qq a' 11 ok->Ext w w'->Q .normal a' w'):qw (RG Tryz.f34 17) Q a w:=by
 have hx0:Ext w w.drew:=(aq w).drew';have r0:∀ W,Ext w W->qc W E 0 pv∧qc W gc 1 (qp gw):=fun W h=>⟨aA h (hB.cell' 0 rfl),aA h (hG.cell' 1 rfl)⟩
 refine rD (fun W=>Ext w W) (fun _=>true) 13 ?_;generalize w.drew=W at *;clear hB hG;refine dt 7 [0,1,2,3,4,5] (hS:=hx0) ?_;iterate 6 refine tv ?_ (hy:=by (intro w hw;obtain ⟨q0,q1⟩:=r0 w hw;simp [execOp,go_sem, *];rfl))
 have hO:∀ {ops:Array Oper},(∃ oj,ops[10]?=some oj∧oj.guard=none∧oj.dst=some 10∧oj.op=.alloc 85)->∀ L,L.contains 10=false->AOp ops (fun W=>Ext w W) 10 10 85 z85 w L (fun _ W=>Ext w W):=fun h L hL=>⟨h,fun a w oj e=>by simp [execOp,go_sem,e];try rfl,hL,fun _ h q=>q.trans' h,fun _ q=>q.size,fun _ _ q=>q⟩
 refine t_e (WA.go (j:=10) (g:=10) (ty:=85) (z:=z85) (B:=w.heap.size) (D:=fun _ W=>Ext w W) (L:=[64,66,4,7,8,9,40,41]) ?_ hx0);refine aJ0 (xs:=#[.tmp 64,.tmp 66]) 6 (hO ⟨_,rfl,rfl,rfl,rfl⟩ _ rfl) ci Tryz.func47 (fun _ V _ q=>(hcall V q).mono ?_) (fun c h=>by simp [h.get 64 (v:=qp gw) ci,h.get 66 (v:=pv) ci]);rintro e V1 ⟨y,A,c,rfl,hx⟩;refine ⟨_,fun _=>False,fun _ W=>Ext w W,rfl,ar hx,fun _ h=>h.elim,q.trans' hx,q.trans' hx,?_⟩;refine aRq 7 (hO ⟨_,rfl,rfl,rfl,rfl⟩ _ rfl) ?_ (v:=.tuple #[dA y A c,ok]) (hy:=fun c' h W hW=>by simp [execOp,go_sem,h.get 67 (v:=.tuple #[dA y A c,ok]) ci]);refine aRq 8 (hO ⟨_,rfl,rfl,rfl,rfl⟩ _ rfl) ?_ (v:=dA y A c) (hy:=fun c' h W hW=>by simp [execOp,go_sem,h.get 60 (v:=.tuple #[dA y A c,ok]) ci]);refine aRq 9 (hO ⟨_,rfl,rfl,rfl,rfl⟩ _ rfl) ?_ (v:=ok) (hy:=fun c' h W hW=>by simp [execOp,go_sem,h.get 60 (v:=.tuple #[dA y A c,ok]) ci]);refine aWm (hO ⟨_,rfl,rfl,rfl,rfl⟩ _ rfl) ci ?_;intro G c' V hA e10 hB hG q;have e68:=hA.get 68 (v:=dA y A c) ci;have e69:=hA.get 69 (v:=ok) ci;have zc:c'.tmps.size=123:=hA.sz.trans ci;have hF:Fr (fun k=>k=G) V (V.setCells G 0 (cellsOf y A c)):=(au _ V).setCells _ 0 (.inl rfl);have hE:Ext w (V.setCells G 0 (cellsOf y A c)):=((ar q).trans hF).new_ext (fun b hb=>by subst hb;exact hG);refine dq 11 (w1:=V.setCells G 0 (cellsOf y A c)) ?_ (hS:=fun _=>hE) (hrun:=by simp [execOp,go_sem,hB.cell,hB.frozen, *];rfl);generalize V.setCells G 0 (cellsOf y A c)=V1 at *;refine dv 12 ?_ (hS:=fun _=>hE) (v:=ok) (hrun:=by simp [execOp,go_sem,e69];try rfl);exact jN U (hQ _ _ (((by (repeat refine .put ?_ rfl);exact .rf:Ag [4,7,8,9,40,41] a _).trans (hA.mono rfl)).put rfl) (by simp [zc]) hE)
end
theorem cC.bindO {α γ:Type}{d x0 x s s1}(h:cC d x0 s x s1)(K:α × List Int->Option γ):s.bind (fun l=>(d l).bind K)=s1.bind (fun r=>K (x,r)):=by
 unfold cC at h;cases s with
 | none=>rw [h.2];rfl
 | some l =>
  simp only [aj] at h ⊢;cases hd:d l with
  | none=>rw [hd] at h;rw [h.2];rfl
  | some y =>
   rw [hd] at h;obtain ⟨rfl,h2⟩:=h;rw [h2];rfl
theorem aIf {r p k at_ code h f s1 s2 s3 s4 s5 s6}(h1:cC kC [] (some r) p s1)(h2:cC eD 0 s1 k s2)(h3:cC eD 0 s2 at_ s3)(h4:cC eD 0 s3 code s4)(h5:cC aGf false s4 f s5)(h6:cC eD 0 s5 h s6):(∃ r',s6=some r'∧lW r=some (⟨p,k,at_,code,f,h⟩,r'))∨(h=0∧lW r=none):=by
 have e:lW r=s5.bind (fun r5=>(eD r5).map fun y=>(⟨p,k,at_,code,f,y.1⟩,y.2)):=by
  show (some r).bind (fun l=>(kC l).bind _)=_;rw [h1.bindO];dsimp only;rw [h2.bindO];dsimp only;rw [h3.bindO];dsimp only;rw [h4.bindO];dsimp only;rw [h5.bindO]
 rw [e];unfold cC at h6;cases s5 with
 | none=>exact .inr ⟨h6.1,rfl⟩
 | some l5 =>
  simp only [aj] at h6 ⊢;cases hd:eD l5 with
  | none=>rw [hd] at h6;exact .inr ⟨h6.1,rfl⟩
  | some y =>
   rw [hd] at h6;obtain ⟨rfl,rfl⟩:=h6;exact .inl ⟨_,rfl,rfl⟩
section
variable {l l0 r r' x:List Int}{t:List GN}{b n:Int}{L:List GE}{e:GE}{m N:Nat}{s1 s2 s3:Option (List Int)}
theorem aAl (hl:iR lW N l0=(iR lW (m+1) r).map fun y=>(L ++ y.1,y.2))(hx:lW r=some (e,r')):iR lW N l0=(iR lW m r').map fun y=>((L ++ [e]) ++ y.1,y.2):=by
 rw [hl];simp only [iR,hx,aj,Option.map_map]
 congr
 funext y;simp
theorem aHs (hl:iR lW N l0=(iR lW (m+1) r).map fun y=>(L ++ y.1,y.2))(hx:lW r=none):iR lW N l0=none:=by
 rw [hl];simp [iR,hx]
theorem aLe (hl:iR lW N l0=(iR lW (m+1) r).map fun y=>(L ++ y.1,y.2))(hx:lW r=some (e,r'))(hb:¬ (aL t e.path=true∧1<=e.hits∧mB (L ++ [e]))){y}(hy:iR lW N l0=some y):¬ aCj t b y.1:=by
 rw [aAl hl hx] at hy;cases hd:iR lW m r' with
 | none=>rw [hd] at hy;cases hy
 | some z =>
  rw [hd] at hy;obtain rfl:=Option.some.inj hy;intro hg;have h1:=hg.1 e O;refine hb ⟨h1.1,h1.2,?_⟩;have h2:=hg.2.1;unfold mB at h2 ⊢;rw [List.map_append] at h2;exact (List.pairwise_append.1 h2).1
open Classical in
theorem aIh (h1:cC qQ [] (some l) x s1)(hx:uY x=some t)(hv:aY t=0)(h2:cC eD 0 s1 b s2)(hb:0<=b∧b<=1099511627776)(h3:cC eD 0 s2 n s3):aFx l=s3.bind (fun l0=>if 0<=n∧n<=256 then (iR lW n.toNat l0).bind fun y=>if aCj t b y.1∧y.2=[] then some (t,b,y.1) else none else none):=by
 show (some l).bind (fun l=>(qQ l).bind _)=_;rw [h1.bindO];simp only [hx,aj,if_pos hv];rw [h2.bindO];simp only [if_pos hb];rw [h3.bindO]
theorem aQp (h1:cC qQ [] (some l) x s1)(hx:uY x=none):aFx l=none:=by
 show (some l).bind (fun l=>(qQ l).bind _)=_;rw [h1.bindO];simp only [hx,Option.bind_none];cases s1 <;> rfl
theorem aQo (h1:cC qQ [] (some l) x s1)(hx:uY x=some t)(h2:cC eD 0 s1 b s2)(hb:¬ (aY t=0∧0<=b∧b<=1099511627776)):aFx l=none:=by
 show (some l).bind (fun l=>(qQ l).bind _)=_;rw [h1.bindO];simp only [hx,aj];by_cases hv:aY t=0
 ·simp only [if_pos hv]
  rw [h2.bindO];simp only [if_neg (fun h=>hb ⟨hv,h⟩:¬ (0<=b∧b<=1099511627776))];cases s2 <;> rfl
 ·simp only [if_neg hv]
  cases s1 <;> rfl
theorem aQn (h1:cC qQ [] (some l) x s1)(hx:uY x=some t)(hv:aY t=0)(h2:cC eD 0 s1 b s2)(hb:0<=b∧b<=1099511627776)(h3:cC eD 0 s2 n s3)(hn:¬ (0<=n∧n<=256)):aFx l=none:=by
 rw [aIh h1 hx hv h2 hb h3];simp only [if_neg hn];cases s3 <;> rfl
theorem aHx {y}(h:mB L)(hy:fC y.path e.path<0)(hl:∀ z ∈ L,z=y∨fC z.path y.path<0):mB (L ++ [e]):=by
 unfold mB at *;rw [List.map_append];refine List.pairwise_append.2 ⟨h,List.pairwise_singleton ..,fun p hp q hq=>?_⟩;simp only [List.map_cons,List.map_nil,List.mem_singleton] at hq;subst hq;obtain ⟨z,hz,rfl⟩:=List.mem_map.1 hp;rcases hl z hz with rfl | h2
 ·exact hy
 ·exact yC h2 hy
theorem aHy {k:Nat}(h:mB L)(hk:L=k+1):mB (L ++ [e]) ↔ fC (L.getD k default).path e.path<0:=by
 constructor
 ·intro h2
  have:=aAm h2 (i:=k) (j:=k+1) I bh;have e1:(L ++ [e]).getD k default=L.getD k default:=by simp only [List.getD];rw [List.getElem?_append_left I]
  have e2:(L ++ [e]).getD (k+1) default=e:=by simp only [List.getD];rw [List.getElem?_append_right I,hk];simp
  rw [e1,e2] at this;exact this
 ·intro h2
  refine aHx h h2 (fun z hz=>?_);obtain ⟨i,hi,rfl⟩:=List.getElem_of_mem hz;have e1:L[i]=L.getD i default:=by simp [hi]
  rw [e1];by_cases hik:i=k
  ·subst hik;exact .inl rfl
  ·exact .inr (aAm h I I)
end
section
variable {t:List GN}{vn:Value}{b:Int}{L:List GE}{g:CA}{P:Nat->Prop}{ve v':Value}{w w2:World}{x:GE}{A:Option Addr}{c B:Nat}{xs:List Value}
theorem cV.snoc (h:cV t vn b L g P ve w)(hx:EAt w P x A c)(h0:w.ownsRow 0 102 6 ve L xs)(hr:RL (REn w P) L xs)(ho:w2.ownsRow 0 102 6 v' (L+1) (xs ++ aV x A c))(hF:Fr (fun q=>some q=ve.ownBlock∨q=g.c) w w2)
  (hbox:Blk w2 g.c 95 #[vn,qp g.w,↑b,v'])(hb:v'.ownBlock=ve.ownBlock∨∃ q,v'.ownBlock=some q∧w<=q)(hl:∀ k,P k->k<w)(hinc:mB (L ++ [x]))(hfew:L.length+1<=100000)(hpl:x.path.length<=1000000000):cV t vn b (L ++ [x]) g P v' w2:=by
 have hk:aB P w w2:=aB.of_fr hF (fun q hq hm=>hm.elim (h.excl q hq).2 (h.excl q hq).1)
 have hne:∀ q,q<w.heap.size->some q ≠ ve.ownBlock->some q ≠ v'.ownBlock:=fun q hq h1 h2=>by
  rcases hb with h3 | ⟨q',h3,h4⟩
  ·exact h1 (h2.trans h3)
  ·rw [h3] at h2;injection h2 with h2;omega
 refine ⟨hbox,h.walk.carry hk (fun _ _ h=>h),⟨_,by rw [aa];exact ho,(hr.move eN hk (fun _ _ h=>h)).append (RL.one ⟨A,c,rfl,hx.carry hk (fun _ _ h=>h)⟩)⟩,fun q hq=>⟨(h.excl q hq).1,hne q (hl q hq) (h.excl q hq).2⟩,hne g.c h.box.lt h.ne,hinc,h.bI,by rw [aa];exact hfew,fun e he=>?_,h.good⟩;rcases ap.1 he with he | he
 ·exact h.short e he
 ·simp only [List.mem_singleton] at he;subst he;exact hpl
theorem lC.fr {M}(h:lC t vn b L g P ve B w)(hF:Fr M w w2)(hM:∀ k,B<=k->k<w.heap.size->¬ M k):lC t vn b L g P ve B w2:=by
 have hk:∀ k,P k∨g.M ve k->¬ M k:=fun k hk=>hM k (h.lo k hk).1 (h.lo k hk).2
 exact ⟨h.cor.carry (fun k hk' hp=>hF.block k hk' (hk k hp)) (fun _ _ h=>h) h.cor.excl,fun k hk=>⟨(h.lo k hk).1,ac (h.lo k hk).2 hF.size⟩⟩
end
section
variable {w:World}{Q:Exit->Act->World->Prop}{a:Act}
theorem a2e {E x A c w}(h:Blk w E 102 (aV x A c).toArray):qc w E 0 (.slice A x.path c)∧qc w E 1 x.kind∧qc w E 2 x.at_∧qc w E 3 x.code∧qc w E 4 x.fresh∧qc w E 5 x.hits:=⟨h.cell' 0 rfl,h.cell' 1 rfl,h.cell' 2 rfl,h.cell' 3 rfl,h.cell' 4 rfl,h.cell' 5 rfl⟩
theorem aKp {E gc k c3 dx x Ax A3 vn pw}{b:Int}{xs}(sz:a.tmps.size=123)(e7:qq a 7 (qp gc))(e9:qq a 9 (qp E))(hB:Blk w E 102 (aV x Ax dx).toArray)(hG:Blk w gc 95 #[vn,pw,↑b,.slice A3 k c3])(hown:w.ownsRow 0 102 6 (.slice A3 k c3) k xs)(hk:k<=100000)(hE:some E ≠ (Value.slice A3 k c3).ownBlock)(hg:some gc ≠ (Value.slice A3 k c3).ownBlock)
  (hQ:∀ a' w' v',Ag [4,7,8,40,41] a a'->w'.ownsRow 0 102 6 v' (k+1) (xs ++ aV x Ax dx)->Blk w' gc 95 #[vn,pw,↑b,v']->Fr (fun q=>some q=(Value.slice A3 k c3).ownBlock∨q=gc) w w'->(v'.ownBlock=(Value.slice A3 k c3).ownBlock∨∃ q,v'.ownBlock=some q∧w<=q)->Q .normal a' w'):qw (RG Tryz.f34 21) Q a w:=by
 have hx0:Ext w w.drew:=(aq w).drew';have hgl:=hG.lt;refine rD (fun W=>Blk W E 102 (aV x Ax dx).toArray∧Blk W gc 95 #[vn,pw,↑b,.slice A3 k c3]) (fun q=>q != 10) 11 ?_;have hS:Blk w.drew E 102 (aV x Ax dx).toArray∧Blk w.drew gc 95 #[vn,pw,↑b,.slice A3 k c3]:=⟨hB.ext hx0,hG.ext hx0⟩;replace hown:=hown.ext_ hx0;generalize w.drew=W at *;clear hB hG;refine dt 5 [0,1,2,3,4,5] (hS:=hS) ?_;iterate 5 refine tv ?_ (hy:=by (intro w hw;have q:=hw.2.cell' (u:=.slice A3 k c3) 3 rfl;simp [execOp,go_sem, *];rfl))
 refine tv ?_ (v:=aD6 x Ax dx) (hy:=by (intro w hw;obtain ⟨q0,q1,q2,q3,q4,q5⟩:=a2e hw.1;simp [execOp,go_sem, *];try rfl));refine t_e ?_;have hxA:Ext W (W.alloc (qk (aV x Ax dx).toArray 102)):=(aq W).alloc' _;refine dv 6 ?_ (hS:=fun _=>⟨hS.1.ext hxA,hS.2.ext hxA⟩) (w1:=W.alloc (qk (aV x Ax dx).toArray 102)) (v:=.slice (qp W) 1 1) (hrun:=by simp [execOp,go_sem,aV, *];try rfl);refine da 7 Tryz.underlying93 Tryz.info102 (hown.ext_ hxA) (T:=fun _=>True) (Sl.new _ _ _ 1 6 rfl) I I I (by intro u hu;simp only [aV,ao,List.not_mem_nil,or_false] at hu;rcases hu with rfl | rfl | rfl | rfl | rfl | rfl <;> rfl) ?_;intro v' w' ho hf hb;have hB':=(hS.1.ext hxA).fr hf hE;have hG':=(hS.2.ext hxA).fr hf hg;refine ⟨fun _=>⟨hB',hG'⟩,?_⟩;have f3:=hG'.frozen 3;have g3:=hG'.cell' (u:=.slice A3 k c3) 3 rfl;obtain ⟨A5,c5,rfl,-,-,-⟩:=Sl.of_own ho;refine dv 8 ?_ (hS:=fun _=>⟨hB',hG'⟩);refine dv 9 ?_ (hS:=fun _=>⟨hB',hG'⟩);refine dq 10 (w1:=w'.setCell (qt gc 3) (.slice A5 (k+1) c5)) ?_ (hrun:=by simp [execOp,go_sem, *];try rfl);have hG2:Blk (w'.setCell (qt gc 3) (.slice A5 (k+1) c5)) gc 95 #[vn,pw,↑b,.slice A5 (k+1) c5]:=by simpa using hG'.set_ 3 (.slice A5 (k+1) c5)
 have hne:some gc ≠ (Value.slice A5 (k+1) c5).ownBlock:=by
  have h1:=hx0.size;have h2:=hxA.size;rcases hb with hb | hb
  ·rw [hb];exact hg
  ·rw [hb];intro e;injection e with e;omega
 refine jN U (hQ _ _ _ Y (eG ho (p:=qt gc 3) hne _) hG2 ?_ ?_)
 ·exact ((ar (hx0.trans' hxA)).trans (hf.mono fun _ h=>.inl h)).setCell (p:=qt gc 3) (.inl (.inr rfl)) _
 ·exact hb.imp id (fun h=>⟨_,h,by have h1:=hx0.size;have h2:=hxA.size;omega⟩)
theorem aKq {E k d1}{ok:Bool}{x Ax Al t vn b}{L:List GE}{g P Px}(sz:a.tmps.size=123)(e7:qq a 7 (qp g.c))(e9:qq a 9 (qp E))(e11:qq a 11 ok)(e12:qq a 12 (.int .i64 ((L:Int) - 1)))(hB:Blk w E 102 (aV x Ax d1).toArray)(hx:EAt w Px x Ax d1)(hC:cV t vn b L g P (.slice Al L k) w)
  (hQ:∀ a' w' bad,Ag [4,7,8,9,40,41] a a'->qq a' 98 (.bool bad)->(bad=false ↔ ok=true∧1<=x.hits∧mB (L ++ [x]))->Ext w w'->Q .normal a' w'):qw (RG Tryz.f34 19) Q a w:=by
 have hfw:=hC.few;by_cases hc:ok=false∨x.hits<1∨L.length=0
 ·refine aG6 sz e9 e11 e12 hB hc (fun a' w' u e hx=>hQ a' w' _ u e ?_ hx)
  cases ok with
  | false=>simp
  | true =>
   by_cases h1:x.hits<1
   ·simp [h1];omega
   ·have h0:L=[]:=List.eq_nil_of_length_eq_zero (by rcases hc with h | h | h;cases h;exact absurd h h1;exact h)
    subst h0;simp [h1,mB];omega
 ·have hok:ok=true:=by cases ok with | false=>exact absurd (.inl rfl) hc | true=>rfl
  subst hok;have h1:¬ x.hits<1:=fun h=>hc (.inr (.inl h))
  obtain ⟨m,hm⟩:∃ m,L.length=m+1:=⟨L.length - 1,by have:¬ L.length=0:=fun h=>hc (.inr (.inr h));omega⟩;obtain ⟨b1,o1,A1,d2,rfl,-,hy,hyc⟩:=hC.ens.get (i:=m) I;have hE:=aHy (e:=x) hC.inc hm;refine aG7 (m:=m) (n:=L.length) (c:=k) sz e7 e9 e11 (by rw [e12,hm];congr 1;omega) hB hC.box ⟨I,I⟩ hy hx (fun j u hu=>by rw [Nat.add_assoc];rw [<- Nat.add_assoc];exact hyc j u hu) h1 (fun a' w' u e hx'=>hQ a' w' _ u e ?_ hx');rw [hE];simp only [decide_eq_false_iff_not];constructor
  ·intro h;exact ⟨trivial,I,I⟩
  ·rintro ⟨-,-,h⟩;omega
end
noncomputable def R34:=RG Tryz.f34
noncomputable abbrev c34:Code:=.seq (R34 0) (.seq (R34 1) (.seq (R34 2) (.seq (.seq (R34 3) (.cond (.tmp 22) (.seq (R34 4) .ret) .skip)) (.seq (R34 5) (.seq (.seq (R34 6) (.cond (.tmp 31) (.seq (R34 7) .ret) .skip)) (.seq (R34 8) (.seq (.seq (R34 9) (.cond (.tmp 39) (.seq (R34 10) .ret) .skip)) (.seq (.seq (R34 11) (.block 0 (.loop (.seq (R34 12) (.seq (.cond (.tmp 42) .skip (.exit 0)) (.seq (.block 1 (.seq (R34 13) (.seq (R34 14) (.seq (R34 15) (.seq (R34 16) (.seq (R34 17) (.seq (R34 18) (.seq (.seq (R34 19) (.cond (.tmp 98) (.seq (R34 20) .ret) .skip)) (R34 21))))))))) (R34 22))))))) (.seq (.seq (R34 23) (.cond (.tmp 121) (.seq (R34 24) .ret) .skip)) (.seq (R34 25) .ret))))))))))
theorem b34:Tryz.f34.body=some c34:=U
section
variable {w:World}{Q:Exit->Act->World->Prop}{a:Act}
theorem aI3 {c:Code}{id:Nat}{o1 o2:Oper}(sz:a.tmps.size=123)(h:∀ a',a'.defers=a.defers->qq a' 2 (.pointer none)->qq a' 3 (.int .i64 2)->Q .ret a' w)(hc:c=.region id [o1,o2].toArray false:=by exact rfl)(h1:o1.guard=none∧o1.dst=some 2∧o1.op=.assign (.const (.pointer none)):=by exact ⟨rfl,rfl,rfl⟩)(h2:o2.guard=none∧o2.dst=some 3∧o2.op=.assign (.const (.int .i64 2)):=by exact ⟨rfl,rfl,rfl⟩):qw (.seq c .ret) Q a w:=by
 refine wp_seq (rW ?_ hc);refine lv (v:=.pointer none) (w1:=w) (d:=2) ?_ h1.1 h1.2.1 (by simp [execOp,go_sem,h1.2.2]);refine lv (v:=.int .i64 2) (w1:=w) (d:=3) ?_ h2.1 h2.2.1 (by simp [execOp,go_sem,h2.2.2]);exact lE2 a [] 2 3 (fun a' u e2 e3=>wp_ret (h a' u.df e2 e3)) (he:=by simp [sz]) (he':=by simp [sz])
structure D34 (t:List GN)(vn:Value)(b:Int)(c:CA)(g B:Nat)(PR:Nat->Prop)(n N:Nat)(l0:List Int)(w0:World)(j:Nat)(a:Act)(w:World)(L:List GE)(r:List Int)(P:Nat->Prop)(ve:Value):Prop where
 sz:a.tmps.size=123
 df:a.defers=[]
 e4:qq a 4 (qp g)
 e7:qq a 7 (qp c.c)
 e8:qq a 8 (n:Int)
 e40:qq a 40 (n:Int)
 e41:qq a 41 (j:Int)
 jn:j<=n
 rs:RS g PR (some r) w
 mine:lC t vn b L c P ve B w
 ext:Ext w0 w
 len:L=j
 good:∀ e ∈ L,aL t e.path=true∧1<=e.hits
 link:iR lW n l0=(iR lW (n - j) r).map fun y=>(L ++ y.1,y.2)
 rl:r<=N
theorem aLi {r p s1}(hb:Byt r)(h:cC kC [] (some r) p s1):p.length<=r:=by
 unfold cC at h;simp only [aj] at h;cases hd:kC r with
 | none=>rw [hd] at h;rw [h.1];simp
 | some y =>
  rw [hd] at h;obtain ⟨rfl,-⟩:=h;have h1:=congrArg List.length (sY _ _ _ hb hd).1;have h2:=cK fE dB y.1;simp only [nF,aa] at h1;omega
theorem aCs {t vn b c g B n N j PR P l0 r w0 L ve}(hI:D34 t vn b c g B PR n N l0 w0 j a w L r P ve)(hj:j<n)(hn:n<=256)(hN:N<=1000000000)(hgB:g<B∧∀ k,PR k->k<B)(hw0:w0<=g)
  (hnext:∀ a' w' L' r' P' ve',D34 t vn b c g B PR n N l0 w0 (j+1) a' w' L' r' P' ve'->Q .normal a' w')
  (hbad:∀ a' w',a'.defers=[]->qq a' 2 (.pointer none)->qq a' 3 (.int .i64 2)->(∀ y,iR lW n l0=some y->¬ aCj t b y.1)->Ext w0 w'->Q .ret a' w') :
  qw (.seq (.block 1 (.seq (R34 13) (.seq (R34 14) (.seq (R34 15) (.seq (R34 16) (.seq (R34 17) (.seq (R34 18) (.seq (.seq (R34 19) (.cond (.tmp 98) (.seq (R34 20) .ret) .skip)) (R34 21))))))))) (R34 22)) Q a w:=by
 obtain ⟨sz,df,e4,e7,e8,e40,e41,-,hR,hM,hE0,hlen,hgood,hlink,hrl⟩:=hI;have hs0:=hE0.size;have hcl:=hM.lo c.c (.inr (.inl rfl));have hvl:∀ q,some q=ve.ownBlock->B<=q∧q<w:=fun q hq=>hM.lo q (.inr (.inr hq))
 have hbyt:=RS.byt hR;refine wp_seq (wp_block (wp_seq (aKw sz e4 hR ?_)));intro a1 w1 p pv s1 E u1 e9 hB1 hE1 hp hR1 d1 hF1;refine u1.c5 sz df e4 e7 e8 e40 e41 fun sz df e4 e7 e8 e40 e41=>?_
 obtain ⟨pA,pc,rfl,-,-,-⟩:=hp.form;have hEl:=hB1.lt;have hEn:E ≠ g∧∀ k,PR k->k ≠ E:=⟨I,fun k hk e=>by have:=hgB.2 k hk;omega⟩;refine wp_seq (aKv sz e4 e9 hR1 hB1 hEn ?_);intro a2 w2 k at_ code s2 s3 s4 u2 hB2 hR2 d2 d3 d4 hk hat hco hF2;refine u2.c6 sz df e4 e7 e8 e9 e40 e41 fun sz df e4 e7 e8 e9 e40 e41=>?_
 refine wp_seq (aKu sz e4 e9 hR2 hB2 hEn ?_);intro a3 w3 f s5 u3 hB3 hR3 d5 hF3;refine u3.c6 sz df e4 e7 e8 e9 e40 e41 fun sz df e4 e7 e8 e9 e40 e41=>?_
 refine wp_seq (aKt sz e4 e9 hR3 hB3 hEn ?_);intro a4 w4 h s6 u4 hB4 hR4 d6 hh hF4;refine u4.c6 sz df e4 e7 e8 e9 e40 e41 fun sz df e4 e7 e8 e9 e40 e41=>?_
 have hF14:=(hF2.trans hF3).trans hF4;have hF:Fr (fun q=>q=g∨q=E) w w4:=(hF1.mono fun q hq=>.inl hq).trans hF14;have hz4:=hF14.size;have hpp:Ints w4 (fun q=>w.heap.size<=q∧q<E) (.slice pA p pc) p:=hp.carry (aB.of_fr hF14 (fun q hq hm=>by rcases hm with h | h <;> omega)) (fun q hq hm=>hm);have hx4:EAt w4 (fun q=>w.heap.size<=q∧q<E) ⟨p,k,at_,code,f,h⟩ pA pc:=⟨hpp,hk,hat,hco,hh⟩;have hpl:p.length<=1000000000:=by have:=aLi hbyt d1;omega
 have hde:=aIf d1 d2 d3 d4 d5 d6;have hM4:=hM.fr hF (fun q hq hq2 hm=>by rcases hm with h | h <;> omega);clear hB1 hB2 hB3 hR1 hR2 hR3 hF1 hF2 hF3 hF4 hF14 hR hp u1 u2 u3 u4 d1 d2 d3 d4 d5 d6;refine wp_seq (aKs (ok:=aL t p) sz e7 e9 hB4 hM4.cor.box (fun W hx=>yZ t p vn _ c.w c.s c.l c.f P _ W (hM4.cor.ext hx).walk (hpp.ext hx) hM4.cor.good hpl) ?_);intro a5 w5 u5 e11 hx5;refine u5.c6 sz df e4 e7 e8 e9 e40 e41 fun sz df e4 e7 e8 e9 e40 e41=>?_
 have hM5:=hM4.ext hx5;obtain ⟨A3,c3,hve,-,-,-⟩:=hM5.cor.ens.form;subst hve;refine wp_seq (aKr sz e7 hM5.cor.box hM5.cor.few ?_);intro a6 u6 e12;refine u6.c7 sz df e4 e7 e8 e9 e11 e40 e41 fun sz df e4 e7 e8 e9 e11 e40 e41=>?_
 refine wp_seq (wp_seq (aKq sz e7 e9 e11 e12 (x:=⟨p,k,at_,code,f,h⟩) (hB4.ext hx5) (hx4.ext hx5) hM5.cor ?_));intro a7 w7 bad u7 e98 hbd hx7;refine u7.c6 sz df e4 e7 e8 e9 e40 e41 fun sz df e4 e7 e8 e9 e40 e41=>?_
 have hx47:=hx5.trans' hx7;have hz7:=hx47.size;have hE7:Ext w0 w7:=(((ar hE0).trans (hF.mono (N:=fun q=>w0.heap.size<=q) (fun q hq=>by rcases hq with h | h <;> omega))).trans (ar hx47)).new_ext (fun _ h=>h);have hnj:n - j=(n - (j+1))+1:=by omega
 rw [hnj] at hlink;cases hb:bad with
 | true =>
  subst hb;refine wp_cond_true e98 (aI3 sz (fun a' q1 q2 q3=>hbad a' w7 (q1.trans df) q2 q3 ?_ hE7));intro y hy;rcases hde with ⟨r',-,hde⟩ | ⟨-,hde⟩
  ·exact aLe hlink hde (fun h=>by have:=hbd.2 h;cases this) hy
  ·rw [aHs hlink hde] at hy;cases hy
 | false =>
  subst hb;refine wp_cond_false e98 (wp_skip ?_);obtain ⟨hw1,hw2,hw3⟩:=hbd.1 rfl
  obtain ⟨r',rfl,hdy⟩:∃ r',s6=some r'∧lW r=some (⟨p,k,at_,code,f,h⟩,r'):=by
   rcases hde with h1 | ⟨h0,-⟩
   ·exact h1
   ·have hw2:1<=h:=hw2
    omega
  have hM7:=hM5.ext hx7
  have hC7:cV t vn b L c (fun q=>P q∨(w<=q∧q<E)) (.slice A3 L c3) w7:=hM7.cor.carry (fun _ _ _=>rfl) (fun q _ hq=>.inl hq) (fun q hq=>by
   rcases hq with hq | hq
   ·exact hM7.cor.excl q hq
   ·exact ⟨I,fun e=>by have:=hvl q e;omega⟩)
  obtain ⟨xs,h0,hr⟩:=hC7.own;have hx7':EAt w7 (fun q=>P q∨(w<=q∧q<E)) ⟨p,k,at_,code,f,h⟩ pA pc:=hx4.carry (aB.of_ext hx47) (fun q _ hq=>.inr hq);refine aKp sz e7 e9 (x:=⟨p,k,at_,code,f,h⟩) (hB4.ext hx47) hC7.box h0 hC7.few (fun e=>by have:=hvl E e;omega) hC7.ne ?_;intro a8 w8 v' u8 ho hG8 hF8 hb8;refine u8.c5 sz df e4 e7 e8 e40 e41 fun sz df e4 e7 e8 e40 e41=>?_
  have hz8:=hF8.size
  have hM8:∀ q,some q=v'.ownBlock->B<=q∧q<w8:=fun q hq=>⟨by
   rcases hb8 with h1 | ⟨q',h1,h2⟩
   ·exact (hvl q (hq.trans h1)).1
   ·rw [h1] at hq;injection hq with hq;omega,ho.block_lt hq.symm⟩
  have hC8:=hC7.snoc hx7' h0 hr ho hF8 hG8 hb8 (fun q hq=>by
   rcases hq with hq | hq
   ·exact (hM7.lo q (.inl hq)).2
   ·omega) hw3 I hpl
  have hE8:Ext w0 w8:=((ar hE7).trans (hF8.mono (N:=fun q=>w0.heap.size<=q) (fun q hq=>by rcases hq with h | h;have:=hvl q h;omega;omega))).new_ext (fun _ h=>h);have hR8:RS g PR (some r') w8:=(hR4.ext hx47).fr hF8 (fun hm=>by rcases hm with h | h;have:=hvl _ h;omega;omega) (fun q hq hm=>by have:=hgB.2 q hq;rcases hm with h | h;have:=hvl _ h;omega;omega);refine rW ?_;refine lv ?_;refine lv ?_;refine lF a8 [4,7,8,40] 41 (v:=.int .i64 ((j:Int)+1)) ?_;intro a9 u9 e41;refine u9.c4 sz df e4 e7 e8 e40 fun sz df e4 e7 e8 e40=>?_
  refine hnext a9 w8 (L ++ [⟨p,k,at_,code,f,h⟩]) r' _ v' ⟨sz,df,e4,e7,e8,e40,by rw [e41];rfl,hj,hR8,⟨hC8,fun q hq=>?_⟩,hE8,by rw [aa,hlen];rfl,fun e he=>?_,aAl hlink hdy,?_⟩
  ·rcases hq with (hq | hq) | rfl | hq
   ·have:=hM.lo q (.inl hq);omega
   ·omega
   ·omega
   ·exact hM8 q hq
  ·rcases ap.1 he with he | he
   ·exact hgood e he
   ·simp only [List.mem_singleton] at he;subst he;exact ⟨hw1,hw2⟩
  ·have:=(vB _ _ _ hbyt hdy).1
   have:=congrArg List.length this;rw [aa] at this;omega
end
def aV6 (l:List Int)(w:World)(e:Ending)(w':World):Prop:=Ext w w'∧match aFx l with
 | some (t,b,L)=>∃ c P ve vn,e=.returned (.tuple #[qp c.c,qz])∧lC t vn b L c P ve w w'
 | none=>e=.returned (.tuple #[.pointer none,.int .i64 2])
theorem cC.le {α}{d:Dec α}{f G x0 x s s'}{N:Nat}(hc:mC d f G)(h:cC d x0 s x s')(hb:∀ l,s=some l->Byt l∧l<=N):∀ l,s'=some l->Byt l∧l<=N:=by
 intro l' e;unfold cC at h;cases s with
 | none=>cases (h.2.symm.trans e)
 | some l =>
  obtain ⟨h1,h2⟩:=hb l rfl;simp only [aj] at h;cases hd:d l with
  | none=>rw [hd] at h;cases (h.2.symm.trans e)
  | some y =>
   rw [hd] at h;obtain rfl:=Option.some.inj (h.2.symm.trans e);have e2:=(hc _ _ _ h1 hd).1;have e3:=congrArg List.length e2;rw [e2,Byt.app] at h1;rw [aa] at e3;exact ⟨h1.2,I⟩
noncomputable abbrev a1c:Code:=.seq (.seq (R34 23) (.cond (.tmp 121) (.seq (R34 24) .ret) .skip)) (.seq (R34 25) .ret)
section
variable {w:World}{Q:Exit->Act->World->Prop}{a:Act}
theorem aD8 {t vn b c g PR P L ve s}(sz:a.tmps.size=123)(df:a.defers=[])(e4:qq a 4 (qp g))(e7:qq a 7 (qp c.c))(hR:RS g PR s w)(hC:cV t vn b L c P ve w)
  (hok:∀ a' w',a'.defers=[]->qq a' 2 (qp c.c)->qq a' 3 qz->s=some []->bC L<=b->Ext w w'->Q .ret a' w')
  (hbad:∀ a' w',a'.defers=[]->qq a' 2 (.pointer none)->qq a' 3 (.int .i64 2)->¬ (s=some []∧bC L<=b)->Ext w w'->Q .ret a' w'):qw a1c Q a w:=by
 refine wp_seq (wp_seq (aKo sz e4 e7 hR hC ?_));intro a1 w1 bb u1 e121 hbb hx;refine u1.c2 sz df e4 e7 fun sz df e4 e7=>?_
 cases bb with
 | true=>exact wp_cond_true e121 (aI3 sz (fun a' q1 q2 q3=>hbad a' w1 (q1.trans df) q2 q3 (fun h=>by have:=hbb.2 h;cases this) hx))
 | false =>
  obtain ⟨q1,q2⟩:=hbb.1 rfl;refine wp_cond_false e121 (wp_skip (rS ?_));iterate 3 refine lv ?_
  refine lF2 a1 [] 2 3 (v:=qp c.c) (v':=qz) ?_;intro a2 u2 e2 e3;exact wp_ret (hok a2 w1 (u2.df.trans df) e2 e3 q1 q2 hx)
theorem aD7 {l T A c0}(hl:l.length<=1000000000)(hb:Byt l)(hs:Sl w T 1 A l (l.map (Value.int .u8))):qg 34 #[.slice A l c0] w (aV6 l w):=by
 refine bW Tryz.func34 b34 rfl O (fun a Q sz df ea hQ=>?_);have e0:=ea 0 (.slice A l c0) rfl;have fin0:∀ a' w',a'.defers=[]->qq a' 2 (.pointer none)->qq a' 3 (.int .i64 2)->Ext w w'->aFx l=none->Q .ret a' w':=fun a' w' q1 q2 q3 q4 q5=>hQ a' w' (.tuple #[.pointer none,.int .i64 2]) q1 (by simp [results,Tryz.results34,go_sem,evT q2,evT q3]) ⟨q4,by rw [q5]⟩
 refine rS ?_;iterate 2 refine lv ?_
 refine lN a [0] ?_;intro a1 u1;refine u1.c1 sz df e0 fun sz df e0=>?_
 refine rS ?_;refine lv ?_;refine lc Tryz.func74 (aMz (c:=c0) I hb hs) ?_;rintro e w1 ⟨g,PR,rfl,hR1,hg,hPg,hx1⟩;refine ⟨_,rfl,?_⟩;refine lv ?_;refine lF a1 [] 4 (v:=qp g) ?_;intro a2 u2 e4;refine u2.c0 sz df fun sz df=>?_
 obtain ⟨hg1,hP1⟩:=hR1.glt;refine wp_seq (aOy sz e4 hR1 (fun l' e=>by injection e with e;subst e;exact hl) ?_);intro a3 w3 x s1 v err B5 u3 e5 e6 hB5 hBl hR3 d1 hx hs1 hT hF3;refine u3.c1 sz df e4 fun sz df e4=>?_
 have hz3:=hF3.size;have hF03:Fr (fun q=>w.heap.size<=q) w w3:=(ar hx1).trans (hF3.mono (fun q hq=>by omega));refine wp_seq (rS ?_);iterate 2 refine lv ?_
 cases hdt:uY x with
 | none =>
  rw [hdt] at hT;have hT:err=2:=hT;subst hT;refine lF a3 [4] 22 (v:=true) ?_;intro a4 u4 e22;refine u4.c0 sz df fun sz df=>?_
  exact wp_cond_true e22 (aI3 sz (fun a' q1 q2 q3=>fin0 a' w3 (q1.trans df) q2 q3 (hF03.new_ext (fun _ h=>h)) (aQp d1 hdt)))
 | some t =>
  rw [hdt] at hT;obtain ⟨rfl,hnd⟩:=hT;refine lF a3 [4,5] 22 (v:=false) ?_;intro a4 u4 e22;refine u4.c2 sz df e4 e5 fun sz df e4 e5=>?_
  refine wp_cond_false e22 (wp_skip ?_);refine wp_seq (aOx sz e4 e5 hB5 hR3 I hnd (fun k hk=>⟨hk.2,I⟩) (aGw hx.2 hx.1 hdt) ?_);intro a5 wq w5 b s2 err p u5 e6 e7 hFq hxq hR5 d2 hor;refine u5.c1 sz df e4 fun sz df e4=>?_
  have hzq:=hFq.size;have hF05:Fr (fun q=>w.heap.size<=q) w w5:=(hF03.trans (hFq.mono (fun q hq=>by omega))).trans (ar hxq);refine wp_seq (rS ?_);iterate 2 refine lv ?_
  rcases hor with ⟨her,hno⟩ | ⟨rfl,hval,hbb,c,P',vn',rfl,hM⟩
  ·refine lF a5 [4] 31 (v:=true) ?_
   intro a6 u6 e31;refine u6.c0 sz df fun sz df=>?_
   exact wp_cond_true e31 (aI3 sz (fun a' q1 q2 q3=>fin0 a' w5 (q1.trans df) q2 q3 (hF05.new_ext (fun _ h=>h)) (aQo d1 hdt d2 hno)))
  refine lF a5 [4,7] 31 (v:=false) ?_;intro a6 u6 e31;refine u6.c2 sz df e4 e7 fun sz df e4 e7=>?_
  refine wp_cond_false e31 (wp_skip (rS ?_));refine lv ?_;refine lc Tryz.func77 (mV hR5) ?_;rintro e w6 ⟨n,s3,v6,rfl,⟨rfl,hn⟩,hR6,d3,hF6⟩;refine ⟨_,rfl,?_⟩;refine lv ?_;refine lF a6 [4,7] 8 (v:=↑n) ?_;intro a7 u7 e8;refine u7.c2 sz df e4 e7 fun sz df e4 e7=>?_
  have hz6:=hF6.size;have hF06:Fr (fun q=>w.heap.size<=q) w w6:=hF05.trans (hF6.mono (fun q hq=>by omega));have hM6:=hM.fr hF6 (fun q hq hq2 hm=>by omega);refine wp_seq (wp_seq (aOw sz e8 ?_));intro a8 u8 e39;refine u8.c3 sz df e4 e7 e8 fun sz df e4 e7 e8=>?_
  by_cases hn2:n<0∨256<n
  ·exact wp_cond_true (e39.trans (by rw [a4e hn2])) (aI3 sz (fun a' q1 q2 q3=>fin0 a' w6 (q1.trans df) q2 q3 (hF06.new_ext (fun _ h=>h)) (aQn d1 hdt hval d2 hbb d3 I)))
  refine wp_cond_false (e39.trans (by rw [a4f hn2])) (wp_skip (wp_seq (rS ?_)));have hdec:=aIh d1 hdt hval d2 hbb d3;simp only [if_pos (show 0<=n∧n<=256 by omega)] at hdec;obtain ⟨m,rfl⟩:∃ m:Nat,n=(m:Int):=⟨n.toNat,I⟩;rw [Int.toNat_natCast] at hdec;iterate 2 refine lv ?_
  refine lF2 a8 [4,7,8] 40 41 (v:=↑(m:Int)) (v':=.int .i64 ((0:Nat):Int)) ?_;intro a9 u9 e40 e41;refine u9.c3 sz df e4 e7 e8 fun sz df e4 e7 e8=>?_
  have hx06:Ext w w6:=hF06.new_ext (fun _ h=>h);have lo:∀ {L:List GE}{P:Nat->Prop}{ve:Value}{W:World},lC t vn' b L c P ve wq W->lC t vn' b L c P ve w W:=fun h=>⟨h.cor,fun k hk=>⟨by have:=(h.lo k hk).1;omega,(h.lo k hk).2⟩⟩
  have hok:∀ {L:List GE}{P:Nat->Prop}{ve:Value}{W:World} (a':Act),aFx l=some (t,b,L)->lC t vn' b L c P ve wq W->a'.defers=[]->qq a' 2 (qp c.c)->qq a' 3 qz->Ext w W->Q .ret a' W:=fun a' q0 q1 q2 q3 q4 q5=>hQ a' _ (.tuple #[qp c.c,qz]) q2 (by simp [results,Tryz.results34,go_sem,evT q3,evT q4]) ⟨q5,by rw [q0];exact ⟨c,_,_,vn',rfl,lo q1⟩⟩
  cases hs3:s3 with
  | none =>
   subst hs3
   have hm0:m=0:=by
    unfold cC at d3;cases hd:s2.bind eD with
    | none=>rw [hd] at d3;have:=d3.1;omega
    | some y=>rw [hd] at d3;cases d3.2
   subst hm0;refine wp_block (wp_loop (fun a' w'=>a'=a9∧w'=w6) (fun _ _=>0) ⟨rfl,rfl⟩ ?_);rintro a' w' ⟨rfl,rfl⟩;refine rS ?_;refine lv ?_;refine lF a' [4,7] 42 (v:=false) ?_;intro a10 u10 e42;refine u10.c2 sz df e4 e7 fun sz df e4 e7=>?_
   refine wp_seq (wp_cond_false e42 (wp_exit ?_));refine aD8 sz df e4 e7 hR6 hM6.cor (fun a' w' _ _ _ q=>by cases q) (fun a' w' q1 q2 q3 _ q5=>fin0 a' w' q1 q2 q3 (hx06.trans' q5) hdec)
  | some l0 =>
   subst hs3;rw [aj] at hdec;refine wp_block (wp_loop (fun a' w'=>∃ j L r P ve,D34 t vn' b c g wq PR m l0 l0 w j a' w' L r P ve) (fun a' _=>m - (intOf (Ev a' (.tmp 41))).toNat) ⟨0,[],l0,P',_,sz,df,e4,e7,e8,e40,e41,af _,hR6,hM6,hx06,rfl,(fun _ h=>by cases h),?_,ab _⟩ ?_)
   ·rw [Nat.sub_zero]
    cases iR lW m l0 <;> simp
   clear e4 e7 e8 e40 e41 sz df hR6 hM6;rintro a' w' ⟨j,L,r,P,ve,hI⟩;have sz:=hI.sz;have e40:=hI.e40;have e41:=hI.e41;refine rS ?_;refine lv ?_;refine lF a' [4,7,8,40,41] 42 (v:=(decide (j<m))) ?_;intro a10 u10 e42;have hI2:D34 t vn' b c g wq PR m l0 l0 w j a10 w' L r P ve:=⟨u10.sz.trans sz,u10.df.trans hI.df,u10.get 4 hI.e4,u10.get 7 hI.e7,u10.get 8 hI.e8,u10.get 40 e40,u10.get 41 e41,hI.jn,hI.rs,hI.mine,hI.ext,hI.len,hI.good,hI.link,hI.rl⟩;by_cases hjm:j<m
   ·refine wp_seq (wp_cond_true (e42.trans (by rw [a4e hjm])) (wp_skip ?_))
    refine aCs hI2 hjm I ?_ ⟨I,fun k hk=>by have:=hP1 k hk;omega⟩ I ?_ ?_
    ·exact (cC.le bU d3 (cC.le bU d2 hs1) l0 rfl).2
    ·intro a3 w3 L' r' P2 ve2 hI3
     refine ⟨⟨j+1,L',r',P2,ve2,hI3⟩,?_⟩;rw [hI3.e41,e41];simp [intOf];omega
    ·intro a3 w3 q1 q2 q3 q4 q5
     refine fin0 a3 w3 q1 q2 q3 q5 ?_;rw [hdec];cases hd:iR lW m l0 with
     | none=>rfl
     | some y =>
      simp only [aj];rw [if_neg (fun h=>q4 y hd h.1)]
   ·refine wp_seq (wp_cond_false (e42.trans (by rw [a4f hjm])) (wp_exit ?_))
    have hlk:=hI.link;have hjn:=hI.jn;obtain rfl:j=m:=by omega
    rw [Nat.sub_self] at hlk;simp only [iR,Option.map_some,List.append_nil] at hlk;rw [hlk] at hdec;simp only [aj] at hdec;refine aD8 hI2.sz hI2.df hI2.e4 hI2.e7 hI2.rs hI2.mine.cor ?_ ?_
    ·intro a3 w3 q1 q2 q3 q4 q5 q6
     injection q4 with q4;rw [if_pos ⟨⟨hI.good,hI.mine.cor.inc,q5⟩,q4⟩] at hdec;exact hok a3 hdec (hI.mine.ext q6) q1 q2 q3 (hI.ext.trans' q6)
    ·intro a3 w3 q1 q2 q3 q4 q5
     rw [if_neg (fun h=>q4 ⟨by rw [h.2],h.1.2.2⟩)] at hdec;exact fin0 a3 w3 q1 q2 q3 (hI.ext.trans' q5) hdec
end
