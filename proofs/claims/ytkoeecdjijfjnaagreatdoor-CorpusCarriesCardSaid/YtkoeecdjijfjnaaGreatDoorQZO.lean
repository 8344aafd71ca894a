/- Contracts and laws. Conditions: none. -/
import Derived.Test.YtkoeecdjijfjnaaGreatDoorQZL
import Derived.Test.YtkoeecdjijfjnaaGreatDoorMF
set_option linter.all false
set_option maxRecDepth 100000
set_option maxHeartbeats 8000000
namespace Go.Proofs.YtkoeecdjijfjnaaGreatDoor
open Go.RowKit
def rM (a s:List GN)(acc:List GE × Nat)(x:GE):List GE × Nat :=
 if (lJ a s x.path).2=0 then (dN acc.1 ⟨(lJ a s x.path).1.1,x.kind,x.at_,x.code,x.fresh,x.hits⟩,acc.2+if (lJ a s x.path).1.2=0 then 1 else 0) else acc
def mV (a s:List GN)(L:List GE):List GE × Nat:=L.foldl (rM a s) ([],0)
section
variable {a s:List GN}{L:List GE}{k:Nat}
theorem wL (hk:k<L):mV a s (L.take (k+1))=rM a s (mV a s (L.take k)) (L.getD k default):=by
 unfold mV;rw [xd default hk,List.foldl_append];rfl
theorem wO:∀ k,k<=L.length->(mV a s (L.take k)).1.length<=k∧(mV a s (L.take k)).2<=k
 | 0,_=>by simp [mV]
 | k+1,h=>by
  have ih:=wO k I;rw [wL I];unfold rM;split
  ·have:(dN (mV a s (L.take k)).1 ⟨(lJ a s (L.getD k default).path).1.1,(L.getD k default).kind,(L.getD k default).at_,(L.getD k default).code,(L.getD k default).fresh,(L.getD k default).hits⟩).length<=(mV a s (L.take k)).1.length+1:=by rw [pB];exact qL _ _
   refine ⟨ae this I,?_⟩;show _+(if _ then 1 else 0)<=_;split <;> omega
  ·omega
theorem yI (hg:aO s s)(p:List Int):(lJ a s p).1.1.length<=256:=by
 unfold lJ;split
 ·simp
 split
 ·simp
 ·have:=rL (a:=a) hg a ((a.length - 1:Nat):Int) ((s.length - 1:Nat):Int) p I I
  have:=(bJ hg (s.length - 1) I).bd;rw [Int.toNat_natCast] at *;show (jG a s a ((a.length - 1:Nat):Int) ((s.length - 1:Nat):Int) p).1.length<=256;omega
end
noncomputable def R9:=RG Tryz.f9
section
variable {Q:Exit->Act->World->Prop}{a:Act}{w:World}{g g':CA}{vn vs u ve:Value}{b:Int}
theorem Cj {G:Nat}{z:Int}{RV:Value->World->Prop}(sz:a.tmps.size=68)(e0:qq a 0 (qp g.c))(e3:qq a 3 (qp G))(c3:qc w G 0 vs)(c2:qc w g.c 2 b)(hcall:Calls Tryz.prog 23 #[.agg #[vs],↑b] w.drew fun e w'=>∃ u,e=.returned (.tuple #[u,↑z])∧RV u w'∧Ext w.drew w')
  (h:∀ a' u w',Ag [0] a a'->qq a' 7 u->qq a' 8 z->RV u w'->Ext w w'->Q .normal a' w'):qw (R9 1) Q a w:=by
 have hx0:Ext w w.drew:=(aq w).drew';refine rD (fun V=>qc V G 0 vs∧qc V g.c 2 b) (fun _=>true) 11 ?_;generalize w.drew=V0 at *;have hS:=And.intro (aA hx0 c3) (aA hx0 c2);clear c3 c2;refine dt 6 [0,1,2,3,4] (hS:=hS) ?_;iterate 5 refine tv ?_
 refine t_e ?_;refine dc (vs:=#[.agg #[vs],↑b]) 5 Tryz.func23 hcall ?_;rintro e w1 ⟨u,rfl,hR,hx1⟩;have hS1:=And.intro (aA hx1 hS.1) (aA hx1 hS.2);refine ⟨_,rfl,fun _=>hS1,?_⟩;refine dt 0 [6,7,8,9,10] (hS:=hS1) ?_;iterate 5 refine tv ?_
 refine t_e ?_;exact Ck (v:=u) (v':=↑z) a [0] 7 8 (fun a' v e7 e8=>h a' u w1 v e7 e8 hR (hx0.trans' hx1))
theorem Hh {A:Option Addr}{n c:Nat}(sz:a.tmps.size=68)(e0:qq a 0 (qp g.c))(c3:qc w g.c 3 (.slice A n c))
  (h:∀ a',Ag [0,7,9] a a'->qq a' 30 (.slice A n c)->qq a' 31 n->qq a' 32 qz->Q .normal a' w):qw (R9 5) Q a w:=by
 refine rW ?_;iterate 6 refine lv ?_
 exact k9 a [0,7,9] 30 31 32 h
theorem I1 {n k:Nat}(sz:a.tmps.size=68)(e31:qq a 31 n)(e32:qq a 32 k)(h:∀ a',Ag [0,7,9,30,31,32] a a'->qq a' 33 (decide ((k:Int)<(n:Int)))->Q .normal a' w):qw (R9 6) Q a w:=by
 refine rW ?_;refine lv ?_;exact lE (v:=(decide ((k:Int)<(n:Int)))) a [0,7,9,30,31,32] 33 h (he:=by simp [*])
theorem EO {bx ox n c k d:Nat}{A:Option Addr}{x:GE}(sz:a.tmps.size=68)(e30:qq a 30 (.slice (qt bx ox) n c))(e32:qq a 32 k)(hk:(k:Int)<(n:Int))(hx:∀ j u,(bC x A d)[j]?=some u->qc w bx (ox+k*6+j) u)
  (h:∀ a' W,Ag [0,7,9,30,31,32] a a'->qq a' 11 (qp w)->Blk W w 80 (bC x A d).toArray->Ext w W->Q .normal a' W):qw (R9 7) Q a w:=by
 have q0:=hx 0 _ rfl;have q1:=hx 1 _ rfl;have q2:=hx 2 _ rfl;have q3:=hx 3 _ rfl;have q4:=hx 4 _ rfl;have q5:=hx 5 _ rfl;rw [Nat.add_zero] at q0;have k0:(0:Int)<=(k:Int):=by omega
 clear hx;refine rW ?_;refine lv (v:=qt bx (ox+k*6)) ?_ (hrun:=by simp [execOp,go_sem, *];try rfl);refine lv (v:=wF x A d) ?_ (hrun:=by simp [execOp,go_sem, *];try rfl);clear q0 q1 q2 q3 q4 q5;refine lv (w1:=w.alloc (qk #[qn,qz,qz,qz,false,qz] 80)) (v:=qp w) ?_ (hrun:=by simp [execOp,go_sem];try rfl);obtain ⟨hB,hX,-⟩:=nw w 80 #[qn,qz,qz,qz,false,qz];generalize w.alloc (qk #[qn,qz,qz,qz,false,qz] 80)=W at *;refine ls (w1:=W.setCells w 0 (bC x A d)) ?_ (hrun:=by simp [execOp,go_sem,hB.cell,hB.frozen,sz];try rfl);exact lE (v:=qp w) a [0,7,9,30,31,32] 11 (fun a' u e=>h a' _ u e (aF (bC x A d) (cs:=[qn,qz,qz,qz,false,qz]) 0 hB je) ((ar (M:=fun _=>False) hX).setCells (bC x A d) 0 (.inr (ab _))).ext) (he:=by simp [*])
theorem Fk {E n d:Nat}{A:Option Addr}{r:(List Int × Nat) × Int}(sz:a.tmps.size=68)(e0:qq a 0 (qp g.c))(e7:qq a 7 (qp g'.c))(e11:qq a 11 (qp E))(c0:qc w g.c 0 vn)(d0:qc w g'.c 0 vs)(cE:qc w E 0 (.slice A n d))
  (hcall:∀ V,Ext w V->qg 11 #[.agg #[vn],.agg #[vs],.slice A n d] V (pe r V))
  (h:∀ a' w' V pv An cn,Ag [0,7,9,11,30,31,32] a a'->qq a' 12 pv->qq a' 13 (.slice An r.1.2 cn)->qq a' 14 (.int .i64 r.2)->Ext w V->bL w' (fun q=>V.heap.size<=q) pv r.1.1->Ext w w'->Q .normal a' w'):qw (R9 8) Q a w:=by
 have hx0:Ext w w.drew:=(aq w).drew';refine rD (fun V=>qc V g.c 0 vn∧qc V g'.c 0 vs∧qc V E 0 (.slice A n d)) (fun _=>true) 18 ?_;generalize w.drew=V0 at *;have hS:=And.intro (aA hx0 c0) (And.intro (aA hx0 d0) (aA hx0 cE));have hc:=hcall V0 hx0;clear c0 d0 cE hcall;refine dt 8 [0,1,2,3,4,5,6,7,8,9] (hS:=hS) ?_;iterate 10 refine tv ?_
 refine t_e ?_;refine dc (vs:=#[.agg #[vn],.agg #[vs],.slice A n d]) 10 Tryz.func11 hc ?_;rintro e w1 ⟨pv,An,cn,rfl,hi,hx1⟩;have hS1:=And.intro (aA hx1 hS.1) (And.intro (aA hx1 hS.2.1) (aA hx1 hS.2.2));refine ⟨_,rfl,fun _=>hS1,?_⟩;refine dt 0 [11,12,13,14,15,16,17] (hS:=hS1) ?_;iterate 7 refine tv ?_
 refine t_e ?_;exact kF av (h _ w1 V0 pv An cn O ba ba ba hx0 hi (hx0.trans' hx1))
theorem IA {z:Int}(sz:a.tmps.size=68)(e14:qq a 14 z)(h:∀ a',Ag [0,7,9,11,12,13,30,31,32] a a'->qq a' 52 (z != 0)->Q .normal a' w):qw (R9 9) Q a w:=by
 refine rW ?_;iterate 2 refine lv ?_
 exact lE (v:=(z != 0)) a [0,7,9,11,12,13,30,31,32] 52 h (he:=by simp [*])
theorem Lp {A:Option Addr}{n c:Nat}(sz:a.tmps.size=68)(e13:qq a 13 (.slice A n c))(h:∀ a',Ag [0,7,9,11,12,30,31,32] a a'->qq a' 55 ((n:Int) == 0)->Q .normal a' w):qw (R9 10) Q a w:=by
 refine rW ?_;iterate 3 refine lv ?_
 exact lE (v:=((n:Int) == 0)) a [0,7,9,11,12,30,31,32] 55 h (he:=by simp [*])
theorem Ko {n:Nat}(sz:a.tmps.size=68)(e9:qq a 9 n)(hn:n<=1000000)(h:∀ a',Ag [0,7,11,12,30,31,32] a a'->qq a' 9 (.int .i64 ((n+1:Nat):Int))->Q .normal a' w):qw (R9 11) Q a w:=by
 have k0:IntKind.i64.wrap ((n:Int)+1)=(n:Int)+1:=IntWalk.i64_in _ I;refine rW ?_;iterate 3 refine lv ?_
 exact lE (v:=.int .i64 ((n+1:Nat):Int)) a [0,7,11,12,30,31,32] 9 h (he:=by simp [*])
theorem yo {k:Nat}(sz:a.tmps.size=68)(e32:qq a 32 k)(hk:k<=1000000)(h:∀ a',Ag [0,7,9,30,31] a a'->qq a' 32 (.int .i64 ((k+1:Nat):Int))->Q .normal a' w):qw (R9 14) Q a w:=by
 have k0:IntKind.i64.wrap ((k:Int)+1)=(k:Int)+1:=IntWalk.i64_in _ I;refine rW ?_;iterate 2 refine lv ?_
 exact lE (v:=.int .i64 ((k+1:Nat):Int)) a [0,7,9,30,31] 32 h (he:=by simp [*])
theorem FJ {E d c:Nat}{A Av:Option Addr}{x:GE}{q:List Int}(sz:a.tmps.size=68)(e12:qq a 12 (.slice Av q c))(e11:qq a 11 (qp E))(hB:Blk w E 80 (bC x A d).toArray)(h:∀ a' w',Ag [0,7,9,11,30,31,32] a a'->Blk w' E 80 (bC ⟨q,x.kind,x.at_,x.code,x.fresh,x.hits⟩ Av c).toArray->Fr (fun k=>k=E) w w'->Q .normal a' w'):qw (R9 12) Q a w:=by
 refine rW ?_;iterate 2 refine lv ?_
 have b0:=hB.cell' (u:=.slice A x.path d) 0 rfl;have bf:=hB.frozen 0;refine ls (w1:=w.setCell (qp E) (.slice Av q c)) ?_ (hrun:=by simp [execOp,go_sem, *];try rfl);refine lN a [0,7,9,11,30,31,32] ?_;intro a' u;exact h a' _ u (by simpa [bC] using hB.set_ 0 (.slice Av q c)) ((au (fun q=>q=E) w).setCell (p:=qp E) (.inl rfl) _)
theorem Il {E d:Nat}{A:Option Addr}{x:GE}{bo:Bool}{R:World->Prop}(sz:a.tmps.size=68)(e7:qq a 7 (qp g'.c))(e11:qq a 11 (qp E))(hB:Blk w E 80 (bC x A d).toArray)(hc:Calls Tryz.prog 28 #[qp g'.c,wF x A d] w fun e w'=>e=.returned bo∧R w')
  (h:∀ a' w',R w'->Ag [0,7,9,30,31,32] a a'->Q .normal a' w'):qw (R9 13) Q a w:=by
 have q0:=hB.cell' (u:=.slice A x.path d) 0 rfl;have q1:=hB.cell' (u:=↑x.kind) 1 rfl;have q2:=hB.cell' (u:=↑x.at_) 2 rfl;have q3:=hB.cell' (u:=↑x.code) 3 rfl;have q4:=hB.cell' (u:=x.fresh) 4 rfl;have q5:=hB.cell' (u:=↑x.hits) 5 rfl;refine rW ?_;refine lv ?_;refine lv (v:=wF x A d) ?_ (hrun:=by simp [execOp,go_sem, *];try rfl);refine lc (vs:=#[qp g'.c,wF x A d]) Tryz.func28 hc ?_;rintro e w' ⟨rfl,hR⟩;exact ⟨_,rfl,lN a [0,7,9,30,31,32] (fun a' u=>h a' w' hR u)⟩
end
noncomputable abbrev cb9:Code:=.seq (.block 1 (.seq (R9 7) (.seq (R9 8) (.seq (.seq (R9 9) (.cond (.tmp 52) (.exit 1) .skip)) (.seq (.seq (R9 10) (.cond (.tmp 55) (R9 11) .skip)) (.seq (R9 12) (R9 13))))))) (R9 14)
noncomputable abbrev c9:Code:=.seq (R9 0) (.seq (R9 1) (.seq (.seq (R9 2) (.cond (.tmp 25) (.seq (R9 3) .ret) .skip)) (.seq (R9 4) (.seq (.seq (R9 5) (.block 0 (.loop (.seq (R9 6) (.seq (.cond (.tmp 33) .skip (.exit 0)) cb9))))) (.seq (R9 15) (.seq (R9 16) .ret))))))
theorem b9:Tryz.f9.body=some c9:=av
def I9 (t s:List GN)(L:List GE)(vn':Value)(b:Int)(g':CA)(B:Nat)(w:World)(a0:Act)(k:Nat)(a':Act)(wr:World):Prop :=
 ∃ P1 v1,Ag [0,7,30,31] a0 a'∧qq a' 32 k∧qq a' 9 (.int .i64 ((mV t s (L.take k)).2:Nat))∧k<=L∧oG s vn' b (mV t s (L.take k)).1 g' P1 v1 B wr∧Ext w wr
section
variable {t s:List GN}{L:List GE}{vn vn' ve:Value}{b:Int}{g g':CA}{P:Nat->Prop}{B k:Nat}{w wr:World}{a0 a':Act}{K:Exit->Act->World->Prop}
theorem La {A:Option Addr}{d:Nat}(hC:dM t vn b L g P (.slice A L d) w)(gt:bE t=0)(gs:bE s=0)(st:iX t)(ss:iX s)(hfew:L.length+1<=100000)(hT:sP w)(hBw:w<=B)(sz:a0.tmps.size=68)(e0:qq a0 0 (qp g.c))(e7:qq a0 7 (qp g'.c))(e30:qq a0 30 (.slice A L d))
  (hI:I9 t s L vn' b g' B w a0 k a' wr)(hk:k<L)(hK:∀ a2 w2,I9 t s L vn' b g' B w a0 (k+1) a2 w2->K .normal a2 w2):qw cb9 K a' wr:=by
 obtain ⟨P1,v1,ag,e32,e9,-,hM,hX⟩:=hI;replace sz:=ag.sz.trans sz;obtain ⟨bx,ox,A1,d1,rfl,-,hx,hcell⟩:=hC.ens.get hk;have hsn:=wL (a:=t) (s:=s) hk;have hln:=wO (a:=t) (s:=s) (L:=L) k I;have hpx:=hC.short _ (aC (d:=default) hk);have hgs:=dH.1 gs;generalize L.getD k default=x at *;generalize mV t s (L.take k)=acc at *;refine wp_seq (wp_block (wp_seq (EO sz (ag.get 30 e30) e32 I (fun j u hu=>aA hX (hcell j u hu)) ?_)));intro a1 W1 u1 e11 hB hx1;have hB1:=hB.lt;have hpl:=yI (a:=t) hgs x.path;refine wp_seq (Fk (r:=lJ t s x.path) (u1.sz.trans sz) (u1.get 0 (ag.get 0 e0)) (u1.get 7 (ag.get 7 e7)) e11 (aA (hX.trans' hx1) (hC.box.cell' 0 rfl)) (aA hx1 (hM.cor.box.cell' 0 rfl)) (hB.cell' 0 rfl) (fun V hV=>zC (P:=fun q=>q<V.heap.size) (P2:=fun q=>q<V.heap.size) (Pp:=fun q=>q<V.heap.size) (fun q hq=>hq) (fun q hq=>hq) (fun q hq=>hq) ((hC.walk.nodes.ext ((hX.trans' hx1).trans' hV)).carry (fun _ _ _=>rfl) (fun q hq _=>hq)) ((hM.cor.walk.nodes.ext (hx1.trans' hV)).carry (fun _ _ _=>rfl) (fun q hq _=>hq)) st ss gt gs ((hx.path.ext ((hX.trans' hx1).trans' hV)).carry (fun _ _ _=>rfl) (fun q hq _=>hq)) hpx (hT.ext ((hX.trans' hx1).trans' hV))) ?_);intro a3 w3 V pv An cn u3 e12 e13 e14 hxV hi hx3;have hn9:=u3.get 9 (u1.get 9 e9);refine wp_seq (wp_seq (IA (u3.sz.trans (u1.sz.trans sz)) e14 ?_));intro a4 u4 e52;have uu:=(u1.trans (u3.mono rfl)).trans (u4.mono rfl);have sz4:=u4.sz.trans (u3.sz.trans (u1.sz.trans sz));unfold rM at hsn;generalize lJ t s x.path=r at *;by_cases hz:r.2=0
 ·refine wp_cond_false (e52.trans (by rw [hz];rfl)) (wp_skip (wp_seq (wp_seq (Lp sz4 (u4.get 13 e13) ?_))))
  intro a5 u5 e55;have sz5:=u5.sz.trans sz4
  have last:∀ (a6:Act) (n:Nat),Ag [0,7,11,12,30,31,32] a4 a6->qq a6 9 (n:Int)->n=acc.2+(if r.1.2=0 then 1 else 0)->qw (.seq (R9 12) (R9 13)) (Exit.inBlock 1 (Exit.then (Code.wp Tryz.prog (R9 14) K) K)) a6 w3:=by
   intro a6 n u6 n6 hn;obtain ⟨Av,cv,rfl,-⟩:=hi.form;refine wp_seq (FJ (u6.sz.trans sz4) (u6.get 12 (u4.get 12 e12)) (u6.get 11 (u4.get 11 (u3.get 11 e11))) (hB.ext hx3) ?_);intro a7 w7 u7 hB7 hF7;have hsV:=hxV.size;have hX7:Ext wr w7:=((ar (M:=fun _=>False) (hx1.trans' hx3)).trans_new (hF7.mono fun q hq=>.inr I)).ext;have hM7:=hM.ext hX7;have hEA:EAt w7 (fun q=>V.heap.size<=q) ⟨r.1.1,x.kind,x.at_,x.code,x.fresh,x.hits⟩ Av cv:=⟨hi.carry (aB.of_fr hF7 (fun q hq e=>by omega)) (fun _ _ h=>h),hx.kind,hx.at_,hx.code,hx.hits⟩;refine Il (R:=iN s vn' b (dN acc.1 ⟨r.1.1,x.kind,x.at_,x.code,x.fresh,x.hits⟩) g' P1 v1 w7) (u7.sz.trans (u6.sz.trans sz4)) (u7.get 7 (u6.get 7 (uu.get 7 (ag.get 7 e7)))) (u7.get 11 (u6.get 11 (u4.get 11 (u3.get 11 e11)))) hB7 (yc s vn' b acc.1 g' P1 _ v1 _ Av cv w7 hM7.cor hEA I (by show r.1.1.length<=_;omega)) ?_;intro a8 w8 hA u8;obtain ⟨P2,v2,hM8,hF8,-,-,-⟩:=hM7.after hA;refine yo (u8.sz.trans (u7.sz.trans (u6.sz.trans sz4))) (u8.get 32 (u7.get 32 (u6.get 32 (uu.get 32 e32)))) I ?_;intro a9 u9 e32';rw [if_pos hz] at hsn;refine hK a9 w8 ⟨P2,v2,ag.trans (((uu.mono rfl).trans (u6.mono rfl)).trans ((u7.mono rfl).trans ((u8.mono rfl).trans (u9.mono rfl)))),e32',?_,hk,by rw [hsn];exact hM8,((ar (hX.trans' hX7)).trans hF8).new_ext (fun q hq=>by omega)⟩;rw [hsn];rw [hn] at n6;exact u9.get 9 (u8.get 9 (u7.get 9 n6))
  have n4:=u4.get 9 hn9;by_cases hn:r.1.2=0
  ·refine wp_cond_true (e55.trans (by rw [hn];rfl)) (Ko sz5 (u5.get 9 n4) I ?_)
   intro a6 u6 e9';exact last a6 (acc.2+1) ((u5.mono rfl).trans u6) e9' (by rw [if_pos hn])
  ·refine wp_cond_false (e55.trans (congrArg Value.bool (aYg I))) (wp_skip ?_)
   exact last a5 acc.2 (u5.mono rfl) (u5.get 9 n4) (by rw [if_neg hn];rfl)
 ·rw [if_neg hz] at hsn
  refine wp_cond_true (e52.trans (congrArg Value.bool (bne_iff_ne.2 hz))) (wp_exit (yo sz4 (uu.get 32 e32) I ?_));intro a9 u9 e32';refine hK a9 w3 ⟨P1,v1,ag.trans ((uu.mono rfl).trans (u9.mono rfl)),e32',?_,hk,by rw [hsn];exact hM.ext (hx1.trans' hx3),(hX.trans' hx1).trans' hx3⟩;rw [hsn];exact u9.get 9 (u4.get 9 hn9)
def Gr (t s:List GN)(b:Int)(L:List GE)(w:World)(e:Ending)(w':World):Prop :=
 ∃ g' P' v' vn',e=.returned (.tuple #[qp g'.c,.int .i64 ((mV t s L).2:Nat),qz])∧oG s vn' b (qZ b (mV t s L).1) g' P' v' w w'∧Ext w w'
theorem Fw {vs:Value}{Ps:Nat->Prop}(hC:dM t vn b L g P ve w)(hPs:∀ q,Ps q->q<w)(hs:Nds w Ps vs s)(gt:bE t=0)(gs:bE s=0)(st:iX t)(ss:∀ x ∈ s,dG x)(hfew:L.length+1<=100000)(hT:sP w) :
  qg 9 #[qp g.c,.agg #[vs]] w (Gr t s b L w):=by
 obtain ⟨As,cs,rfl,-⟩:=hs.form;obtain ⟨xs,hown,-⟩:=hC.own;obtain ⟨A,d,rfl,-,-,-⟩:=Sl.of_own hown;refine gD Tryz.func9 b9 rfl U (fun a Q sz df ea hQ=>?_);have e0:=ea 0 (qp g.c) rfl;have e1:=ea 1 (.agg #[.slice As s cs]) rfl;clear ea;replace sz:a.tmps.size=68:=sz;refine rS ?_;refine lv (w1:=w.alloc (qk #[.slice As s cs] 25)) (v:=qp w) ?_ (hrun:=by simp [execOp,go_sem, *];try rfl);obtain ⟨B1,x1,n1⟩:=nw w 25 #[.slice As s cs];generalize w.alloc (qk #[.slice As s cs] 25)=w1 at *;iterate 3 refine lv ?_
 refine lE (v:=qp w) a [0] 3 ?_ (he:=by simp [*]);intro a1 u1 e3;replace sz:=u1.sz.trans sz;have hxd:Ext w w1.drew:=x1.trans' (aq w1).drew';have hsd:=hxd.size;refine wp_seq (Cj (z:=0) (RV:=fun u w'=>∃ g' P' vn',u=↑(qp g'.c)∧oG s vn' b [] g' P' qn w1.drew w') sz (u1.get 0 e0) e3 (B1.cell' 0 rfl) (aA x1 (hC.box.cell' 2 rfl)) ((mF s Ps _ b w1.drew (fun q hq=>by have:=hPs q hq;omega) (hs.ext hxd) ss gs hC.bI).mono ?_) ?_)
 ·rintro e w' ⟨g',P',vn',rfl,h1,h2⟩
  exact ⟨_,rfl,⟨g',P',vn',rfl,h1⟩,h2⟩
 rintro a2 u w2 u2 e7 e8 ⟨g',P',vn',rfl,hM⟩ hx2;have sz2:=u2.sz.trans sz;generalize w1.drew.heap.size=B at *;refine wp_seq (rS ?_);iterate 2 refine lv ?_
 refine lE (v:=false) a2 [0,7] 25 ?_ (he:=by simp [*]);intro a3 u3 e25;have sz3:=u3.sz.trans sz2;refine wp_cond_false e25 (wp_skip (rS ?_));refine lv ?_;refine lE (v:=qz) a3 [0,7] 9 ?_ (he:=by simp [*]);intro a4 u4 e9;have sz4:=u4.sz.trans sz3;have hx02:=x1.trans' hx2;have E0:=u4.get 0 (u3.get 0 (u2.get 0 (u1.get 0 e0)));have E7:=u4.get 7 (u3.get 7 e7);refine wp_seq (wp_seq (Hh sz4 E0 (aA hx02 (hC.box.cell' 3 rfl)) ?_));intro a5 u5 e30 e31 e32;have sz5:=u5.sz.trans sz4;refine wp_block (wp_loop (fun a' w'=>∃ k,I9 t s L vn' b g' B w a5 k a' w') (fun a' _=>L.length - (intOf (Ev a' (.tmp 32))).toNat) ⟨0,P',↑qn,.rf,e32,(u5.get 9 e9).trans (by simp [mV]),af _,by simpa [mV] using hM,hx02⟩ ?_);rintro a6 w6 ⟨k,hI⟩;obtain ⟨P1,v1,ag,e32',e9',hk,hM6,hX6⟩:=id hI;have sz6:=ag.sz.trans sz5;refine wp_seq (I1 sz6 (ag.get 31 e31) e32' ?_);intro a7 u7 e33;have hI7:I9 t s L vn' b g' B w a5 k a7 w6:=⟨P1,v1,ag.trans (u7.mono rfl),u7.get 32 e32',u7.get 9 e9',hk,hM6,hX6⟩;by_cases hlt:k<L
 ·refine wp_seq (wp_cond_true (e33.trans (congrArg Value.bool (aYi I))) (wp_skip (La hC gt gs st (xU ss) hfew hT hsd sz5 (u5.get 0 E0) (u5.get 7 E7) e30 hI7 hlt ?_)))
  intro a8 w8 h8;refine ⟨⟨k+1,h8⟩,?_⟩;obtain ⟨_,_,-,h32,-⟩:=h8;rw [h32,e32'];show L.length - ((k+1:Nat):Int).toNat<L - ((k:Nat):Int).toNat;omega
 ·refine wp_seq (wp_cond_false (e33.trans (congrArg Value.bool (aYj I))) (wp_exit ?_))
  obtain rfl:k=L:=I;rw [List.take_length] at hM6 e9';have sz7:=u7.sz.trans sz6;have hcut:=CP s vn' b (mV t s L).1 g' P1 v1 w6 hM6.cor;have F7:=u7.get 7 (ag.get 7 (u5.get 7 E7));have F9:=u7.get 9 e9';refine rS ?_;refine lv ?_;refine lc (vs:=#[qp g'.c]) Tryz.func29 hcut ?_;rintro e w8 ⟨rfl,v8,hC8,hv8,hF8⟩;refine ⟨_,rfl,?_⟩;refine lN a7 [7,9] ?_;intro a8 u8;have sz8:=u8.sz.trans sz7;have G7:=u8.get 7 F7;have G9:=u8.get 9 F9;refine rS ?_;iterate 5 refine lv ?_
  refine k9 (v:=qp g'.c) (v':=.int .i64 ((mV t s L).2:Nat)) (v2:=qz) a8 [] 4 5 6 ?_;intro a9 u9 q4 q5 q6;refine wp_ret (hQ a9 w8 (.tuple #[qp g'.c,.int .i64 ((mV t s L).2:Nat),qz]) ?_ (by simp [results,Tryz.results9,go_sem,evT q4,evT q5,evT q6]) ⟨g',P1,v8,vn',rfl,⟨hC8,fun q hq=>?_⟩,((ar hX6).trans (hF8.mono (N:=fun q=>w.heap.size<=q) fun q hq=>by have:=(hM6.lo q (.inr hq)).1;omega)).new_ext (fun _ h=>h)⟩)
  ·exact u9.df.trans (u8.df.trans (u7.df.trans (ag.df.trans (u5.df.trans (u4.df.trans (u3.df.trans (u2.df.trans (u1.df.trans df))))))))
  ·have:P1 q∨g'.M v1 q:=hq.imp id (fun h=>h.imp id (fun h=>by rw [<- hv8];exact h))
   have h9:=hM6.lo q this;have:=hF8.size;omega
theorem zH {vs:Value}{Ps:Nat->Prop}(hC:dM t vn b L g P ve w)(hPs:∀ q,Ps q->q<w)(hs:Nds w Ps vs s)(gs:¬ bE s=0)(ss:iX s) :
  qg 9 #[qp g.c,.agg #[vs]] w (dE (.tuple #[.pointer none,qz,.int .i64 (bE s)]) w):=by
 obtain ⟨As,cs,rfl,-⟩:=hs.form;refine gD Tryz.func9 b9 rfl U (fun a Q sz df ea hQ=>?_);have e0:=ea 0 (qp g.c) rfl;have e1:=ea 1 (.agg #[.slice As s cs]) rfl;clear ea;replace sz:a.tmps.size=68:=sz;refine rS ?_;refine lv (w1:=w.alloc (qk #[.slice As s cs] 25)) (v:=qp w) ?_ (hrun:=by simp [execOp,go_sem, *];try rfl);obtain ⟨B1,x1,n1⟩:=nw w 25 #[.slice As s cs];generalize w.alloc (qk #[.slice As s cs] 25)=w1 at *;iterate 3 refine lv ?_
 refine lE (v:=qp w) a [0] 3 ?_ (he:=by simp [*]);intro a1 u1 e3;replace sz:=u1.sz.trans sz;have hxd:Ext w w1.drew:=x1.trans' (aq w1).drew';have hsd:=hxd.size;refine wp_seq (Cj (z:=bE s) (RV:=fun u w'=>True) sz (u1.get 0 e0) e3 (B1.cell' 0 rfl) (aA x1 (hC.box.cell' 2 rfl)) ((Dh s Ps _ b w1.drew (fun q hq=>by have:=hPs q hq;omega) (hs.ext hxd) ss gs).mono ?_) ?_)
 ·rintro e w' ⟨rfl,h2⟩
  exact ⟨_,rfl,trivial,h2⟩
 rintro a2 u w2 u2 e7 e8 - hx2;have sz2:=u2.sz.trans sz;generalize bE s=z at *;refine wp_seq (rS ?_);iterate 2 refine lv ?_
 refine lE (v:=(z != 0)) a2 [8] 25 ?_ (he:=by simp [*]);intro a3 u3 e25;have sz3:=u3.sz.trans sz2;have E8:=u3.get 8 e8;refine wp_cond_true (e25.trans (congrArg Value.bool (bne_iff_ne.2 gs))) (rS ?_);iterate 4 refine lv ?_
 refine k9 (v:=.pointer none) (v':=qz) (v2:=↑z) a3 [] 4 5 6 ?_;intro a9 u9 q4 q5 q6;exact wp_ret (hQ a9 w2 (.tuple #[.pointer none,qz,↑z]) (u9.df.trans (u3.df.trans (u2.df.trans (u1.df.trans df)))) (by simp [results,Tryz.results9,go_sem,evT q4,evT q5,evT q6]) ⟨rfl,x1.trans' hx2⟩)
end
theorem dcy {ops:Array Oper}{K:Act->World->Prop}{S:World->Prop}{bf:Nat->Bool}{n:Nat}{is:List Nat}{a:Act}{w:World}{o:Oper}{d gd j:Nat}{want b:Bool}{f:FuncId}{xs:Array Operand}{ats:Array TypeId}{fn:Func}{vs:Array Value}{R:Ending->World->Prop}(i:Nat)(hf:Tryz.prog.funcs[f]?=some fn)(hc:qg f vs w R)(h:∀ e w',R e w'->∃ v,e=.returned v∧(bf i=true->S w')∧WD ops K S bf n (i :: is) (Pt a d v) w')
  (hr:Region.ready .any ops (mkL ops.size is)=[i]:=by kernel_rfl)(hi:ops[i]?=some o:=by exact rfl)(hg:o.guard=some (j,want):=by exact rfl)(hj:(ops[j]?).bind (fun x=>x.dst)=some gd:=by exact rfl)(hd:o.dst=some d:=by exact rfl)(hs:gd<a.tmps.size:=by simp [*])(he:Ev a (.tmp gd)=.bool b:=by simp [*];rfl)(hbw:(b == want)=true:=by exact rfl)(hop:o.op=Op.call { callee:=Callee.value (Operand.func f),args:=xs,argTypes:=ats }:=by exact rfl)(hn:(fn.name == "runtime.NumGoroutine")=false:=by rfl) (hb:fn.body.isNone=false:=by rfl) (hv:xs.map (Ev a)=vs:=by simp [*]):WD ops K S bf (n+1) is a w:=Fl i d gd hr hi hg hj hs he hbw hd f xs ats hop fn hf hn hb vs hv (hc.mono h)
noncomputable def R3:=RG Tryz.f3
section
variable {Q:Exit->Act->World->Prop}{a:Act}{w:World}{gt G gc gd mx mw i j n c d:Nat}{b z:Int}{A:Option Addr}{vn vs vl vx u:Value}{R:World->Prop}{RV:Value->World->Prop}
theorem FF (sz:a.tmps.size=181)(e0:qq a 0 vl)(hc:qg 4 #[vl] w (rU w))
  (h:∀ a' A c t w1 W,Ag [1,2,3,4,5,6] a a'->Nds w1 (fun b=>w.heap.size<=b∧b<w1.heap.size) (.slice A t.length c) t->fG t->t.length<=14->Ext w w1->Ext w1 W->Blk W w1 25 #[.slice A t c]->qq a' 15 (qp w1)->Q .normal a' W):qw (R3 1) Q a w:=by
 refine rW ?_;refine lv ?_;refine lc (vs:=#[vl]) Tryz.func4 hc ?_;rintro e w1 ⟨A,c,t,rfl,h1,h2,h3,h4⟩;refine ⟨_,rfl,?_⟩;refine lv (w1:=w1.alloc (qk #[qn] 25)) (v:=qp w1) ?_ (hrun:=by simp [execOp,go_sem];try rfl);obtain ⟨hB,hX,-⟩:=nw w1 25 #[qn];generalize w1.alloc (qk #[qn] 25)=W at *;refine ls (w1:=W.setCell (qp w1) (.slice A t c)) ?_ (hrun:=by simp [execOp,go_sem,hB.cell,hB.frozen,sz];try rfl);exact lE (v:=qp w1) a [1,2,3,4,5,6] 15 (fun a' v e=>h a' A c t w1 _ v h1 h2 h3 h4 (hX.setCell' (p:=qp w1) (ab _) _) (hB.set_ 0 _) e) (he:=by simp [*])
theorem Fu (sz:a.tmps.size=181)(e3:qq a 3 z)(hc:Calls Tryz.prog 5 #[↑z,.int .i64 80] w fun e w'=>e=.returned (↑b)∧w=w')
  (h:∀ a',Ag [1,2,4,5,6,15] a a'->qq a' 16 b->Q .normal a' w):qw (R3 2) Q a w:=by
 refine rW ?_;refine lv ?_;refine lc (vs:=#[↑z,.int .i64 80]) Tryz.func5 hc ?_;rintro e w' ⟨rfl,rfl⟩;refine ⟨_,rfl,?_⟩;refine lv ?_;exact lE (v:=↑b) a [1,2,4,5,6,15] 16 h (he:=by simp [*])
theorem C5 (sz:a.tmps.size=181)(e15:qq a 15 (qp gt))(eb:qq a 16 b)(el:qq a 1 vl)(c15:qc w gt 0 vn)(hc:Calls Tryz.prog 6 #[.agg #[vn],↑b,vl,.int .i64 12] w fun e w'=>∃ u,e=.returned u∧RV u w')
  (h:∀ a' u w',RV u w'->Ag [1,2,4,5,6,15,16] a a'->qq a' 17 u->Q .normal a' w'):qw (R3 3) Q a w:=by
 refine rW ?_;iterate 3 refine lv ?_
 refine lc (vs:=#[.agg #[vn],↑b,vl,.int .i64 12]) Tryz.func6 hc ?_;rintro e w' ⟨u,rfl,hR⟩;refine ⟨_,rfl,?_⟩;refine lv ?_;exact lE (v:=u) a [1,2,4,5,6,15,16] 17 (fun a' v e=>h a' u w' hR v e) (he:=by simp [*])
theorem LJ (sz:a.tmps.size=181)(e15:qq a 15 (qp gt))(eb:qq a 16 b)(el:qq a 1 vl)(c15:qc w gt 0 vn)(hc:Calls Tryz.prog 7 #[.agg #[vn],↑b,vl,.int .i64 12] w fun e w'=>∃ u,e=.returned u∧RV u w')
  (h:∀ a' u w',RV u w'->Ag [2,4,5,6,15,16,17] a a'->qq a' 18 u->Q .normal a' w'):qw (R3 4) Q a w:=by
 refine rW ?_;iterate 3 refine lv ?_
 refine lc (vs:=#[.agg #[vn],↑b,vl,.int .i64 12]) Tryz.func7 hc ?_;rintro e w' ⟨u,rfl,hR⟩;refine ⟨_,rfl,?_⟩;refine lv ?_;exact lE (v:=u) a [2,4,5,6,15,16,17] 18 (fun a' v e=>h a' u w' hR v e) (he:=by simp [*])
theorem Ju (sz:a.tmps.size=181)(e17:qq a 17 (qp gc))(h:∀ a',Ag [2,4,5,6,15,16,17,18] a a'->qq a' 44 false->Q .normal a' w):qw (R3 5) Q a w:=by
 refine rW ?_;iterate 2 refine lv ?_
 exact lE (v:=false) a [2,4,5,6,15,16,17,18] 44 h (he:=by simp [*])
theorem Fh {k1 k2 k3:Int}{t0:List GN}{P:Nat->Prop}(sz:a.tmps.size=181)(e2:qq a 2 vl)(e4:qq a 4 k1)(e5:qq a 5 k2)(e6:qq a 6 k3)(e15:qq a 15 (qp gt))(c15:qc w gt 0 (.slice A n c))(hc1:∀ V,Ext w V->qg 4 #[vl] V (rU V))(hc2:∀ V,Ext w V->qg 8 #[.agg #[.slice A n c],↑k1,↑k2,↑k3] V (rV t0 P V))
  (h:∀ a' W G A1 c1 t1 A2 c2 t2,Ag [15,16,17,18] a a'->qq a' 19 (.slice (qp G) 3 3)->Blk W G 25 #[.slice A1 t1.length c1,.slice A2 t2.length c2,.slice A n c]->Nds W (fun q=>q<W.heap.size) (.slice A1 t1.length c1) t1->(∀ x ∈ t1,dG x)->Nds W (fun q=>q<W.heap.size) (.slice A2 t2.length c2) t2->(∀ x ∈ t2,dG x)->Ext w W->Q .normal a' W):qw (R3 7) Q a w:=by
 have hx0:Ext w w.drew:=(aq w).drew';refine rD (fun V=>qc V gt 0 (.slice A n c)) (fun _=>true) 10 ?_;generalize w.drew=V0 at *;have hS:qc V0 gt 0 (.slice A n c):=aA hx0 c15;clear c15;refine dt 4 [0,2,3,4,5,7] (hS:=hS) ?_;iterate 6 refine tv ?_
 refine t_e ?_;refine dc (vs:=#[vl]) 1 Tryz.func4 (hc1 V0 hx0) ?_;rintro e w1 ⟨A1,c1,t1,rfl,hn1,hg1,-,hx1⟩;have hS1:=aA hx1 hS;refine ⟨_,rfl,fun _=>hS1,?_⟩;refine dc (vs:=#[.agg #[.slice A n c],↑k1,↑k2,↑k3]) 6 Tryz.func8 (hc2 w1 (hx0.trans' hx1)) ?_;rintro e w2 ⟨A2,c2,t2,rfl,hn2,hg2,hx2,-⟩;have hS2:=aA hx2 hS1;refine ⟨_,rfl,fun _=>hS2,?_⟩;have hx3:=(aq w2).alloc' (qk #[.slice A1 t1 c1,.slice A2 t2 c2,.slice A n c] 25);refine dv 8 (w1:=w2.alloc (qk #[.slice A1 t1 c1,.slice A2 t2 c2,.slice A n c] 25)) (v:=.slice (qp w2) 3 3) ?_ (hS:=fun _=>aA hx3 hS2) (hrun:=by simp [execOp,go_sem, *];try rfl);have hB:=aw w2 25 #[.slice A1 t1 c1,.slice A2 t2 c2,.slice A n c];generalize w2.alloc (qk #[.slice A1 t1 c1,.slice A2 t2 c2,.slice A n c] 25)=w3 at *;refine dv 9 (v:=.slice (qp w2) 3 3) ?_ (hS:=fun _=>aA hx3 hS2) (hrun:=by simp [execOp,go_sem, *]);exact kF av (h _ w3 w2 A1 c1 t1 A2 c2 t2 O ba hB (((hn1.ext hx2).ext hx3).carry (fun _ _ _=>rfl) (fun q hq _=>hq)) hg1.small ((hn2.ext hx3).carry (fun _ _ _=>rfl) (fun q hq _=>hq)) hg2 (((hx0.trans' hx1).trans' hx2).trans' hx3))
theorem Im (sz:a.tmps.size=181)(e20:qq a 20 i)(h:∀ a',Ag [15,16,17,18,19,20] a a'->qq a' 55 (decide ((i:Int)<3))->Q .normal a' w):qw (R3 9) Q a w:=by
 refine rW ?_;iterate 2 refine lv ?_
 exact lE (v:=(decide ((i:Int)<3))) a [15,16,17,18,19,20] 55 h (he:=by simp [*])
theorem Bj (sz:a.tmps.size=181)(e20:qq a 20 i)(hi:i<=3)(h:∀ a',Ag [15,16,17,18,19] a a'->qq a' 20 (.int .i64 ((i+1:Nat):Int))->Q .normal a' w):qw (R3 10) Q a w:=by
 have k0:IntKind.i64.wrap ((i:Int)+1)=(i:Int)+1:=IntWalk.i64_in _ I;refine rW ?_;iterate 3 refine lv ?_
 exact lE (v:=.int .i64 ((i+1:Nat):Int)) a [15,16,17,18,19] 20 h (he:=by simp [*])
theorem ud {m:Int}(sz:a.tmps.size=181)(e17:qq a 17 (qp gc))(e19:qq a 19 (.slice (qp G) 3 3))(e20:qq a 20 i)(hi:i<3)(cG:qc w G i vs)(hc:Calls Tryz.prog 9 #[qp gc,.agg #[vs]] w fun e w'=>∃ u,e=.returned (.tuple #[u,↑m,↑z])∧RV u w')
  (h:∀ a' u w',RV u w'->Ag [15,16,17,18,19,20] a a'->qq a' 21 u->qq a' 22 m->qq a' 23 z->Q .normal a' w'):qw (R3 11) Q a w:=by
 have k0:(i:Int)<3:=I;have k1:(0:Int)<=(i:Int):=I;refine rW ?_;iterate 3 refine lv ?_
 refine lv (v:=qt G i) ?_ (hrun:=by simp [execOp,go_sem, *];try rfl);refine lv ?_;refine lc (vs:=#[qp gc,.agg #[vs]]) Tryz.func9 hc ?_;rintro e w' ⟨u,rfl,hR⟩;refine ⟨_,rfl,?_⟩;iterate 7 refine lv ?_
 exact k9 (v:=u) (v':=↑m) (v2:=↑z) a [15,16,17,18,19,20] 21 22 23 (fun a' v q1 q2 q3=>h a' u w' hR v q1 q2 q3)
theorem t8 (sz:a.tmps.size=181)(e19:qq a 19 (.slice (qp G) 3 3))(e20:qq a 20 i)(hi:i<3)(cG:qc w G i vs)(hc:qg 10 #[.agg #[vs]] w (dE (↑z) w))
  (h:∀ a' w',Ext w w'->Ag [15,16,17,18,19,20,21,22,23] a a'->qq a' 73 (z != 0)->Q .normal a' w'):qw (R3 12) Q a w:=by
 have k0:(i:Int)<3:=I;have k1:(0:Int)<=(i:Int):=I;refine rW ?_;iterate 2 refine lv ?_
 refine lv (v:=qt G i) ?_ (hrun:=by simp [execOp,go_sem, *];try rfl);refine lv ?_;refine lc (vs:=#[.agg #[vs]]) Tryz.func10 hc ?_;rintro e w' ⟨rfl,hx⟩;refine ⟨_,rfl,?_⟩;refine lv ?_;exact lE (v:=(z != 0)) a [15,16,17,18,19,20,21,22,23] 73 (fun a' v e=>h a' w' hx v e) (he:=by simp [*])
theorem DR (sz:a.tmps.size=181)(e21:qq a 21 (.pointer none))(e22:qq a 22 qz)(e23:qq a 23 z)(e19:qq a 19 (.slice (qp G) 3 3))(e20:qq a 20 i)(hi:i<3)(cG:qc w G i vs)(hc:qg 10 #[.agg #[vs]] w (dE (↑z) w))
  (h:∀ a' w',Ext w w'->Ag [15,16,17,18,19,20] a a'->qq a' 88 false->Q .normal a' w'):qw (R3 13) Q a w:=by
 have k0:(i:Int)<3:=I;have k1:(0:Int)<=(i:Int):=I;refine rW ?_;iterate 3 refine lv ?_
 iterate 2 refine ly ?_
 iterate 2 refine lv ?_
 iterate 3 refine ly ?_
 refine ly (v:=qt G i) ?_ (hrun:=by simp [execOp,go_sem, *];try rfl);refine ly ?_;refine lcg (vs:=#[.agg #[vs]]) Tryz.func10 hc ?_;rintro e w' ⟨rfl,hx⟩;refine ⟨_,rfl,?_⟩;refine ly ?_;refine lv ?_;exact lE (v:=false) a [15,16,17,18,19,20] 88 (fun a' v e=>h a' w' hx v e) (he:=by simp [*])
theorem Le (sz:a.tmps.size=181)(e21:qq a 21 (qp gd))(e23:qq a 23 qz)(h:∀ a',Ag [15,16,17,18,19,20,21,22] a a'->qq a' 94 false->Q .normal a' w):qw (R3 15) Q a w:=by
 refine rW ?_;iterate 3 refine lv ?_
 iterate 2 refine ly ?_
 refine lv ?_;exact lE (v:=false) a [15,16,17,18,19,20,21,22] 94 h (he:=by simp [*])
theorem Ks (sz:a.tmps.size=181)(e16:qq a 16 b)(e19:qq a 19 (.slice (qp G) 3 3))(e20:qq a 20 i)(hi:i<3)(cG:qc w G i (.slice A n c))
  (h:∀ a' W,Blk W w 40 #[.slice A n c,↑b,qn]->Ext w W->w.heap.size<W->Ag [15,16,17,18,19,20,21,22] a a'->qq a' 24 (qp w)->Q .normal a' W):qw (R3 17) Q a w:=by
 have k0:(i:Int)<3:=I;have k1:(0:Int)<=(i:Int):=I;refine rW ?_;iterate 2 refine lv ?_
 refine lv (v:=qt G i) ?_ (hrun:=by simp [execOp,go_sem, *];try rfl);iterate 2 refine lv ?_
 refine lv (v:=.agg #[.slice A n c,↑b,qn]) ?_ (hrun:=by simp [execOp,go_sem, *];try rfl);refine lv (w1:=w.alloc (qk #[.slice A n c,↑b,qn] 40)) (v:=qp w) ?_ (hrun:=by simp [execOp,go_sem, *];try rfl);obtain ⟨hB,hX,-⟩:=nw w 40 #[.slice A n c,↑b,qn];have hl:=hB.lt;generalize w.alloc (qk #[.slice A n c,↑b,qn] 40)=W at *;refine lv ?_;exact lE (v:=qp w) a [15,16,17,18,19,20,21,22] 24 (fun a' u e=>h a' W hB hX hl u e) (he:=by simp [*])
theorem G6 (sz:a.tmps.size=181)(e26:qq a 26 j)(e18:qq a 18 (qp mx))(c2:qc w mx 2 (.slice A n c))(h:∀ a',Ag [15,16,17,18,19,20,21,22,24,25,26] a a'->qq a' 108 (decide ((j:Int)<(n:Int)))->Q .normal a' w):qw (R3 20) Q a w:=by
 refine rW ?_;iterate 7 refine lv ?_
 exact lE (v:=(decide ((j:Int)<(n:Int)))) a [15,16,17,18,19,20,21,22,24,25,26] 108 h (he:=by simp [*])
theorem AH (sz:a.tmps.size=181)(e26:qq a 26 j)(hj:j<=100000)(h:∀ a',Ag [15,16,17,18,19,20,21,22,24,25] a a'->qq a' 26 (.int .i64 ((j+1:Nat):Int))->Q .normal a' w):qw (R3 21) Q a w:=by
 have k0:IntKind.i64.wrap ((j:Int)+1)=(j:Int)+1:=IntWalk.i64_in _ I;refine rW ?_;iterate 3 refine lv ?_
 exact lE (v:=.int .i64 ((j+1:Nat):Int)) a [15,16,17,18,19,20,21,22,24,25] 26 h (he:=by simp [*])
theorem Kx {bx ox l:Nat}{Ap:Option Addr}{r:(List Int × Nat) × Int}(sz:a.tmps.size=181)(e15:qq a 15 (qp gt))(e19:qq a 19 (.slice (qp G) 3 3))(e20:qq a 20 i)(e18:qq a 18 (qp mx))(e26:qq a 26 j)(hi:i<3)(hj:j<n)(c15:qc w gt 0 vn)(cG:qc w G i vs)(c2:qc w mx 2 (.slice (qt bx ox) n c))(cx:qc w bx (ox+j*6) (.slice Ap l d))
  (hcall:∀ V,Ext w V->qg 11 #[.agg #[vn],.agg #[vs],.slice Ap l d] V (pe r V))
  (h:∀ a' w' V pv An cn,Ag [15,16,17,18,19,20,21,22,24,25,26] a a'->qq a' 27 pv->qq a' 28 (.slice An r.1.2 cn)->qq a' 29 (.int .i64 r.2)->Ext w V->bL w' (fun q=>V.heap.size<=q) pv r.1.1->Ext w w'->Q .normal a' w'):qw (R3 22) Q a w:=by
 have hx0:Ext w w.drew:=(aq w).drew';have k0:(i:Int)<3:=by omega
 have k1:(0:Int)<=(i:Int):=I;have k2:(j:Int)<(n:Int):=I;have k3:(0:Int)<=(j:Int):=I;refine rD (fun V=>qc V gt 0 vn∧qc V G i vs∧qc V mx 2 (.slice (qt bx ox) n c)∧qc V bx (ox+j*6) (.slice Ap l d)) (fun _=>true) 21 ?_;generalize w.drew=V0 at *;have hS:=And.intro (aA hx0 c15) (And.intro (aA hx0 cG) (And.intro (aA hx0 c2) (aA hx0 cx)));have hc:=hcall V0 hx0;clear c15 cG c2 cx hcall;refine dt 8 [0,1,2,3,4,5,6,7,8,9,10,11,12] (hS:=hS) ?_;iterate 3 refine tv ?_
 refine tv (v:=qt G i) ?_ (hy:=by intro w hw;simp [execOp,go_sem, *];try rfl);iterate 6 refine tv ?_
 refine tv (v:=qt bx (ox+j*6)) ?_ (hy:=by intro w hw;simp [execOp,go_sem, *];try rfl);iterate 2 refine tv ?_
 refine t_e ?_;refine dc (vs:=#[.agg #[vn],.agg #[vs],.slice Ap l d]) 13 Tryz.func11 hc ?_;rintro e w1 ⟨pv,An,cn,rfl,hi',hx1⟩;obtain ⟨s1,s2,s3,s4⟩:=hS;have hS1:=And.intro (aA hx1 s1) (And.intro (aA hx1 s2) (And.intro (aA hx1 s3) (aA hx1 s4)));refine ⟨_,rfl,fun _=>hS1,?_⟩;refine dt 0 [14,15,16,17,18,19,20] (hS:=hS1) ?_;iterate 7 refine tv ?_
 refine t_e ?_;exact kF av (h _ w1 V0 pv An cn O ba ba ba hx0 hi' (hx0.trans' hx1))
theorem Kb (sz:a.tmps.size=181)(e29:qq a 29 z)(h:∀ a',Ag [15,16,17,18,19,20,21,22,24,25,26,27,28] a a'->qq a' 130 (z != 0)->Q .normal a' w):qw (R3 23) Q a w:=by
 refine rW ?_;iterate 2 refine lv ?_
 exact lE (v:=(z != 0)) a [15,16,17,18,19,20,21,22,24,25,26,27,28] 130 h (he:=by simp [*])
theorem Mm (sz:a.tmps.size=181)(e28:qq a 28 (.slice A n c))(h:∀ a',Ag [15,16,17,18,19,20,21,22,24,25,26,27] a a'->qq a' 133 ((n:Int) == 0)->Q .normal a' w):qw (R3 24) Q a w:=by
 refine rW ?_;iterate 3 refine lv ?_
 exact lE (v:=((n:Int) == 0)) a [15,16,17,18,19,20,21,22,24,25,26,27] 133 h (he:=by simp [*])
theorem Ei (sz:a.tmps.size=181)(e25:qq a 25 n)(hn:n<=1000000)(h:∀ a',Ag [15,16,17,18,19,20,21,22,24,26,27] a a'->qq a' 25 (.int .i64 ((n+1:Nat):Int))->Q .normal a' w):qw (R3 25) Q a w:=by
 have k0:IntKind.i64.wrap ((n:Int)+1)=(n:Int)+1:=IntWalk.i64_in _ I;refine rW ?_;iterate 3 refine lv ?_
 exact lE (v:=.int .i64 ((n+1:Nat):Int)) a [15,16,17,18,19,20,21,22,24,26,27] 25 h (he:=by simp [*])
theorem JL {bx ox:Nat}{x:GE}(sz:a.tmps.size=181)(e18:qq a 18 (qp mx))(e26:qq a 26 j)(hj:j<n)(c2:qc w mx 2 (.slice (qt bx ox) n c))(hx:∀ k u,(bC x A d)[k]?=some u->qc w bx (ox+j*6+k) u)
  (h:∀ a' W,Ag [15,16,17,18,19,20,21,22,24,25,26,27] a a'->qq a' 30 (qp w)->Blk W w 47 (bC x A d).toArray->Ext w W->Q .normal a' W):qw (R3 26) Q a w:=by
 have q0:=hx 0 _ rfl;have q1:=hx 1 _ rfl;have q2:=hx 2 _ rfl;have q3:=hx 3 _ rfl;have q4:=hx 4 _ rfl;have q5:=hx 5 _ rfl;rw [Nat.add_zero] at q0;have k2:(j:Int)<(n:Int):=by omega
 have k3:(0:Int)<=(j:Int):=I;clear hx;refine rW ?_;iterate 5 refine lv ?_
 refine lv (v:=qt bx (ox+j*6)) ?_ (hrun:=by simp [execOp,go_sem, *];try rfl);refine lv (v:=wF x A d) ?_ (hrun:=by simp [execOp,go_sem, *];try rfl);clear q0 q1 q2 q3 q4 q5;refine lv (w1:=w.alloc (qk #[qn,qz,qz,qz,false,qz] 47)) (v:=qp w) ?_ (hrun:=by simp [execOp,go_sem];try rfl);obtain ⟨hB,hX,-⟩:=nw w 47 #[qn,qz,qz,qz,false,qz];generalize w.alloc (qk #[qn,qz,qz,qz,false,qz] 47)=W at *;refine ls (w1:=W.setCells w 0 (bC x A d)) ?_ (hrun:=by simp [execOp,go_sem,hB.cell,hB.frozen,sz];try rfl);exact lE (v:=qp w) a [15,16,17,18,19,20,21,22,24,25,26,27] 30 (fun a' u e=>h a' _ u e (aF (bC x A d) (cs:=[qn,qz,qz,qz,false,qz]) 0 hB je) ((ar (M:=fun _=>False) hX).setCells (bC x A d) 0 (.inr (ab _))).ext) (he:=by simp [*])
theorem LX {E:Nat}{Av:Option Addr}{x:GE}{q:List Int}(sz:a.tmps.size=181)(e27:qq a 27 (.slice Av q c))(e30:qq a 30 (qp E))(hB:Blk w E 47 (bC x A d).toArray)(h:∀ a' w',Ag [15,16,17,18,19,20,21,22,24,25,26,30] a a'->Blk w' E 47 (bC ⟨q,x.kind,x.at_,x.code,x.fresh,x.hits⟩ Av c).toArray->Fr (fun k=>k=E) w w'->Q .normal a' w'):qw (R3 27) Q a w:=by
 refine rW ?_;iterate 2 refine lv ?_
 have b0:=hB.cell' (u:=.slice A x.path d) 0 rfl;have bf:=hB.frozen 0;refine ls (w1:=w.setCell (qp E) (.slice Av q c)) ?_ (hrun:=by simp [execOp,go_sem, *];try rfl);refine lN a [15,16,17,18,19,20,21,22,24,25,26,30] ?_;intro a' u;exact h a' _ u (by simpa [bC] using hB.set_ 0 (.slice Av q c)) ((au (fun q=>q=E) w).setCell (p:=qp E) (.inl rfl) _)
theorem Fd {E:Nat}{x:GE}{bo:Bool}(sz:a.tmps.size=181)(e24:qq a 24 (qp mw))(e30:qq a 30 (qp E))(hB:Blk w E 47 (bC x A d).toArray)(hc:Calls Tryz.prog 12 #[qp mw,wF x A d] w fun e w'=>e=.returned bo∧R w')
  (h:∀ a' w',R w'->Ag [15,16,17,18,19,20,21,22,24,25,26] a a'->Q .normal a' w'):qw (R3 28) Q a w:=by
 have q0:=hB.cell' (u:=.slice A x.path d) 0 rfl;have q1:=hB.cell' (u:=↑x.kind) 1 rfl;have q2:=hB.cell' (u:=↑x.at_) 2 rfl;have q3:=hB.cell' (u:=↑x.code) 3 rfl;have q4:=hB.cell' (u:=x.fresh) 4 rfl;have q5:=hB.cell' (u:=↑x.hits) 5 rfl;refine rW ?_;refine lv ?_;refine lv (v:=wF x A d) ?_ (hrun:=by simp [execOp,go_sem, *];try rfl);refine lc (vs:=#[qp mw,wF x A d]) Tryz.func12 hc ?_;rintro e w' ⟨rfl,hR⟩;exact ⟨_,rfl,lN a [15,16,17,18,19,20,21,22,24,25,26] (fun a' u=>h a' w' hR u)⟩
theorem LH (sz:a.tmps.size=181)(e24:qq a 24 (qp mw))(hc:Calls Tryz.prog 13 #[qp mw] w fun e w'=>e=.returned (.tuple #[])∧R w')
  (h:∀ a' w',R w'->Ag [15,16,17,18,19,20,21,22,24,25] a a'->Q .normal a' w'):qw (R3 29) Q a w:=by
 refine rW ?_;refine lv ?_;refine lc (vs:=#[qp mw]) Tryz.func13 hc ?_;rintro e w' ⟨rfl,hR⟩;exact ⟨_,rfl,lN a [15,16,17,18,19,20,21,22,24,25] (fun a' u=>h a' w' hR u)⟩
structure E3 (gc mx:Nat)(L:List GE)(vx:Value)(W:World):Prop where
 cx:∀ w',Ext W w'->qc w' mx 2 vx
 ec:∀ w',Ext W w'->qg 15 #[qp gc] w' (zO L w')
 sx:∀ w' P v,Ext W w'->Ens w' P v L->qg 14 #[v,vx] w' (dE true w')
theorem FQ {L M:List GE}{vy:Value}{m by_:Int}(sz:a.tmps.size=181)(e22:qq a 22 m)(e25:qq a 25 m)(e21:qq a 21 (qp gd))(e24:qq a 24 (qp mw))(e17:qq a 17 (qp gc))(e18:qq a 18 (qp mx))(hX:E3 gd mw L vx w)(hY:E3 gc mx M vy w)(h1:∀ V,Ext w V->qg 16 #[qp gd] V (dE (↑by_) V))(h2:∀ V,Ext w V->qg 17 #[qp mw] V (dE (↑by_) V))
  (h:∀ a' w',Ext w w'->Ag [15,16,17,18,19,20] a a'->qq a' 179 false->Q .normal a' w'):qw (R3 30) Q a w:=by
 have hS0:Ext w w.drew:=(aq w).drew';refine rD (fun V=>Ext w V) (fun _=>true) 30 ?_;generalize w.drew=W at *;have hS:=hS0;refine d_t 21 [0,1,2,3,4,6,7,8,9] rfl av hS ?_;iterate 4 refine t_v rfl rfl rfl (fun w hw=>by simp [execOp,go_sem,sz,e22,e25];rfl) ?_
 iterate 5 refine t_y rfl rfl rfl rfl ba cd rfl (fun w hw=>by simp [execOp,go_sem,hX.cx w hw,sz,e21,e24];rfl) ?_
 refine t_e ?_;refine dcy 5 Tryz.func15 (hX.ec W hS) ?_ (hs:=by simp [sz]) (he:=by simp [sz];rfl) (hv:=by simp [sz]);rintro e w3 ⟨Ae,ce,rfl,hEn,hx⟩;have hS:=hS.trans' hx;refine ⟨_,rfl,fun _=>hS,?_⟩;refine dcy 10 Tryz.func14 (hX.sx w3 _ _ hS hEn) ?_ (hs:=by simp [sz]) (he:=by simp [sz];rfl) (hv:=by simp [sz]);rintro e w4 ⟨rfl,hx⟩;have hS:=hS.trans' hx;refine ⟨_,rfl,fun _=>hS,?_⟩;refine d_t 14 [11,12,13,14,16] rfl av hS ?_;iterate 1 refine t_y rfl rfl rfl rfl ba cd rfl (fun w hw=>by simp [execOp,go_sem,sz];rfl) ?_
 iterate 2 refine t_v rfl rfl rfl (fun w hw=>by simp [execOp,go_sem,sz];rfl) ?_
 iterate 2 refine t_y rfl rfl rfl rfl ba cd rfl (fun w hw=>by simp [execOp,go_sem,sz,e21,e24];rfl) ?_
 refine t_e ?_;refine dcy 15 Tryz.func16 (h1 w4 hS) ?_ (hs:=by simp [sz]) (he:=by simp [sz];rfl) (hv:=by simp [sz]);rintro e w5 ⟨rfl,hx⟩;have hS:=hS.trans' hx;refine ⟨_,rfl,fun _=>hS,?_⟩;refine dcy 17 Tryz.func17 (h2 w5 hS) ?_ (hs:=by simp [sz]) (he:=by simp [sz];rfl) (hv:=by simp [sz]);rintro e w6 ⟨rfl,hx⟩;have hS:=hS.trans' hx;refine ⟨_,rfl,fun _=>hS,?_⟩;refine d_t 4 [18,19,20,21,23,24,25,26] rfl av hS ?_;iterate 1 refine t_y rfl rfl rfl rfl ba cd rfl (fun w hw=>by simp [execOp,go_sem,sz];rfl) ?_
 iterate 2 refine t_v rfl rfl rfl (fun w hw=>by simp [execOp,go_sem,sz];rfl) ?_
 iterate 5 refine t_y rfl rfl rfl rfl ba cd rfl (fun w hw=>by simp [execOp,go_sem,hY.cx w hw,sz,e17,e18];rfl) ?_
 refine t_e ?_;refine dcy 22 Tryz.func15 (hY.ec w6 hS) ?_ (hs:=by simp [sz]) (he:=by simp [sz];rfl) (hv:=by simp [sz]);rintro e w7 ⟨Af,cf,rfl,hEm,hx⟩;have hS:=hS.trans' hx;refine ⟨_,rfl,fun _=>hS,?_⟩;refine dcy 27 Tryz.func14 (hY.sx w7 _ _ hS hEm) ?_ (hs:=by simp [sz]) (he:=by simp [sz];rfl) (hv:=by simp [sz]);rintro e w8 ⟨rfl,hx⟩;have hS:=hS.trans' hx;refine ⟨_,rfl,fun _=>hS,?_⟩;refine d_t 0 [28,29] rfl av hS ?_;iterate 1 refine t_y rfl rfl rfl rfl ba cd rfl (fun w hw=>by simp [execOp,go_sem,sz];rfl) ?_
 iterate 1 refine t_v rfl rfl rfl (fun w hw=>by simp [execOp,go_sem,sz];rfl) ?_
 refine t_e ?_;exact kF av (h _ w8 hS O ct)
theorem Gv (sz:a.tmps.size=181)(hc:qg 18 #[] w (dE true w))(h:∀ a' w',Ext w w'->Ag [] a a'->qq a' 14 true->Q .normal a' w'):qw (R3 32) Q a w:=by
 refine rW ?_;refine lc (vs:=#[]) Tryz.func18 hc ?_;rintro e w1 ⟨rfl,hx⟩;refine ⟨_,rfl,?_⟩;refine lv ?_;exact lE (v:=true) a [] 14 (fun a' u e=>h a' w1 hx u e) (he:=by simp [*])
end
