/- Contracts and laws. Conditions: none. -/
import Derived.Test.YtkoeecdjijfjnaaGreatXY
set_option linter.all false
set_option maxRecDepth 100000
set_option maxHeartbeats 8000000
namespace Go.Proofs.YtkoeecdjijfjnaaGreat
open Go.RowKit
abbrev zVl:List Value:=[qz,qz,qe,qn]
section
variable {ops:Array Oper}{Q:Exit->Act->World->Prop}{a:Act}{S w w1:World}{rest:List Oper}{o:Oper}{d g B:Nat}{u0 u v:Value}{l enc:List Int}{P:Nat->Prop}
theorem lcw {f:FuncId}{xs:Array Operand}{ats:Array TypeId}{fn:Func}{vs:Array Value}(a0:Act)(L:List Nat)(hf:Tryz.prog.funcs[f]?=some fn)(hG:WG S g u0 u w)(hc:qg f vs w (aMo g B u l enc w))(h:∀ a' v' w',Ag L a0 a'->WS g B v' (l ++ enc) w'->WG S g u0 v' w'->Q .normal a' w')
  (hg:o.guard=none:=by exact rfl)(hd:o.dst=some d:=by exact rfl)(hop:o.op=Op.call { callee:=Callee.value (Operand.func f),args:=xs,argTypes:=ats }:=by exact rfl)(hn:(fn.name == "runtime.NumGoroutine")=false:=by rfl) (hb:fn.body.isNone=false:=by rfl) (hv:xs.map (Ev a)=vs:=by simp [*]) (hA:∀ v,Ag L a0 (Pt a d v):=by (intro v;(repeat refine .put ?_ rfl);exact .rf)):WL ops Q [o] a w:=by
 refine lc hf hc ?_ hg hd hop hn hb hv;rintro e w1 ⟨rfl,v1,hS1,hG1⟩;exact ⟨_,rfl,bS (h _ v1 w1 (hA _) hS1 (hG.trans hG1))⟩
theorem WG.sep (h:WG S g u v w)(hP:∀ k,P k->k ≠ g∧some k ≠ u.ownBlock)(hl:∀ k,P k->k<S):∀ k,P k->k ≠ g∧some k ≠ v.ownBlock:=fun k hk=>⟨(hP k hk).1,fun e=>by
 rcases h.own with e1 | ⟨b,e1,hb⟩
 ·exact (hP k hk).2 (e.trans e1)
 ·rw [e1] at e;cases e;have:=hl _ hk;omega⟩
theorem WG.keeps (h:WG S g u v w)(hP:∀ k,P k->k ≠ g∧some k ≠ u.ownBlock):aB P S w:=aB.of_fr h.fr fun k hk e=>e.elim (hP k hk).1 (hP k hk).2
theorem WG.blk {k t cs}(h:WG S g u v w)(hb:Blk S k t cs)(hk:k ≠ g)(hk':some k ≠ u.ownBlock):Blk w k t cs:=hb.fr h.fr fun e=>e.elim hk hk'
theorem WS.new (h:WS g B v l w)(o:Obj):w ≠ g∧some w.heap.size ≠ v.ownBlock:=⟨fun e=>by have:=h.box.lt;omega,fun e=>by have:=h.row.block_lt e.symm;omega⟩
end
noncomputable def aJu:=RG Tryz.f166
noncomputable abbrev a2o:Code:=.seq (aJu 0) (.seq (aJu 1) (.seq (aJu 2) (.seq (aJu 3) (.seq (aJu 4) (.seq (aJu 5) (.block 0 (.loop (.seq (aJu 6) (.seq (.cond (.tmp 27) .skip (.exit 0)) (.seq (.block 1 (.seq (aJu 7) (aJu 8))) (aJu 9)))))))))))
theorem a3d:Tryz.f166.body=some a2o:=U
theorem vU:∀ N x A c P g B u0 l w,gsz x<N->VAt w P x A c->(∀ k,P k->k ≠ g∧some k ≠ u0.ownBlock)->(∀ k,P k->k<w)->WS g B u0 l w->l.length+(fQ x)<=100000000000->qg 166 #[qp g,dA x A c] w (aMo g B u0 l (fQ x) w)
 | 0,_,_,_,_,_,_,_,_,_,h,_,_,_,_,_=>by omega
 | N+1,x,A,c,P,g,B,u0,l,w,hN,hx,hP,hPl,hS0,hlen=>by
  have hkid:=fun y hy=>@eY x y hy
  refine nS Tryz.func166 a3d rfl O (fun _ _=>by simp [results,Tryz.results166,go_sem]) (fun a Q sz df ea hQ=>?_);have e0:=ea 0 (qp g) rfl;have e1:=ea 1 (dA x A c) rfl;rw [xW] at hlen;simp only [aa] at hlen;have hns:x.s.size<=(jM x.s):=by unfold jM lJ;rw [aa,hH];omega
  have hll:=cK fQ kN x.kids;have hcap:=hx.cap;refine rS ?_;have hE:Ext w (w.alloc (qk (cellsOf x A c).toArray 85)):=(aq _).alloc' _;have hX:=aw w 85 (cellsOf x A c).toArray;have hnw:=hS0.new (qk #[] 0);refine lv (w1:=w.alloc (qk (cellsOf x A c).toArray 85)) ?_;refine lE a [0] 3 ?_;intro b1 z1 e3;refine z1.c1 sz df e0 fun sz df e0=>?_
  generalize w.alloc (qk (cellsOf x A c).toArray 85)=W at *;have hS:=hS0.ext hE;have hG:=WG.rf W g u0;have hcell:∀ {v2 V2} (hg:WG W g u0 v2 V2) (i:Nat) {y:Value},(cellsOf x A c).toArray[i]?=some y->qc V2 w i y:=fun hg i _ hy=>(hg.blk hX hnw.1 hnw.2).cell' i hy
  have q0:=hcell hG 0 (y:=↑x.kind) rfl;refine rS ?_;iterate 3 refine lv ?_
  refine lcw b1 [0,3] Tryz.func70 hG (iP x.kind hx.kind hS I) ?_;clear q0 hS hG;intro b2 y2 V2 z2 hS hG;refine z2.c2 sz df e0 e3 fun sz df e0 e3=>?_
  have q0:=hcell hG 1 (y:=↑x.n) rfl;refine rS ?_;iterate 3 refine lv ?_
  refine lcw b2 [0,3] Tryz.func70 hG (iP x.n hx.n hS bo) ?_;clear q0 hS hG;intro b3 y3 V3 z3 hS hG;refine z3.c2 sz df e0 e3 fun sz df e0 e3=>?_
  have q0:=hcell hG 2 (y:=x.s) rfl;refine rS ?_;iterate 3 refine lv ?_
  refine lcw b3 [0,3] Tryz.func165 hG (aBy x.s I hS bo) ?_;clear q0 hS hG;intro b4 y4 V4 z4 hS hG;refine z4.c2 sz df e0 e3 fun sz df e0 e3=>?_
  have q0:=hcell hG 3 (y:=.slice A x.kids c) rfl;refine rS ?_;iterate 4 refine lv ?_
  refine lcw b4 [0,3] Tryz.func70 hG (iP x.kids br hS bo) ?_;clear q0 hS hG;intro b5 y5 V5 z5 hS hG;refine z5.c2 sz df e0 e3 fun sz df e0 e3=>?_
  have q0:=hcell hG 3 (y:=.slice A x.kids c) rfl;refine rS ?_;iterate 4 refine lv ?_
  refine lE3 b5 [0,3] 24 25 26 ?_;clear q0;intro b6 z6 e24 e25 e26;refine z6.c2 sz df e0 e3 fun sz df e0 e3=>?_
  refine aAj (f:=fQ) (l:=x.kids) default [0,3,24,25] e26 hS hG bo I ?_ ?_ ?_ ?_
  ·intro R b V v' j u e26 hg hR
   refine u.b1 sz e25 fun sz e25=>?_
   refine rW ?_;refine lv ?_;exact lE b [26,0,3,24,25] 27 hR (he:=by simp [*])
  ·clear hS hG
   intro R b V v' j pre' hj u e26 hS hG hl' hR;refine u.b3 sz e0 e3 e24 fun sz e0 e3 e24=>?_
   obtain ⟨bk,ok,A',d,rfl,-,hv,g0,g1,g2,g3⟩:=((hx.kids.ext hE).carry (Q:=P) (hG.keeps hP) (fun _ _ h=>h)).get hj;have hz:=fA fQ (aD (d:=default) hj);have hgk:=hkid _ (aD (d:=default) hj);generalize x.kids.getD j default=y at *;have hji:(j:Int)<x.kids:=by omega
   refine rS ?_;iterate 2 refine lv ?_
   clear g0 g1 g2 g3 hji;refine aFh 85 zVl (cellsOf y A' d) rfl ?_;intro V1 hX hx1;have hnw:=hS.new (qk #[] 0);replace hS:=hS.ext hx1;replace hG:=hG.ext hx1;refine lE b [26,0,3,24,25] 5 ?_;intro c1 x1 e5;refine x1.b2 sz e0 e3 fun sz e0 e3=>?_
   have p0:=hX.cell' (u:=↑y.kind) 0 rfl;have p1:=hX.cell' (u:=↑y.n) 1 rfl;have p2:=hX.cell' (u:=y.s) 2 rfl;have p3:=hX.cell' (u:=.slice A' y.kids d) 3 rfl;refine rW ?_;iterate 2 refine lv ?_
   exact lcw b [26,0,3,24,25] Tryz.func166 hG (vU N y A' d P g B v' pre' V1 I (hv.ext hx1) (hG.sep hP (fun k hk=>ac (hPl k hk) hE.size)) (fun k hk=>ac (hPl k hk) (ae hE.size hG.fr.size)) hS hl') hR (hA:=fun v=>x1.trans Y)
  ·intro R b V j u e26 hw hR
   replace sz:=u.sz.trans sz;refine rW ?_;iterate 2 refine lv ?_
   exact lE b [0,3,24,25] 26 hR (he:=by simp [*])
  clear e26 hS hG;intro b7 y7 V7 z7 hS hG;refine z7.c2 sz df e0 e3 fun sz df e0 e3=>?_
  exact hQ _ _ df ⟨rfl,_,by rw [xW];simpa only [ah] using hS,WG.pre hE hG⟩
noncomputable def mD:=RG Tryz.f121
noncomputable abbrev a21:Code:=.seq (mD 0) (.seq (mD 1) (.seq (mD 2) (.seq (mD 3) (.seq (mD 4) (.seq (mD 5) (.seq (.seq (mD 6) (.block 0 (.loop (.seq (mD 7) (.seq (.cond (.tmp 37) .skip (.exit 0)) (.seq (.block 1 (.seq (mD 8) (mD 9))) (mD 10))))))) (.seq (mD 11) (.seq (.seq (mD 12) (.block 2 (.loop (.seq (mD 13) (.seq (.cond (.tmp 53) .skip (.exit 2)) (.seq (.block 3 (.seq (mD 14) (mD 15))) (mD 16))))))) (.seq (mD 17) (.seq (.seq (mD 18) (.block 4 (.loop (.seq (mD 19) (.seq (.cond (.tmp 69) .skip (.exit 4)) (.seq (.block 5 (.seq (mD 20) (mD 21))) (mD 22))))))) (.seq (mD 23) (.seq (.seq (mD 24) (.block 6 (.loop (.seq (mD 25) (.seq (.cond (.tmp 85) .skip (.exit 6)) (.seq (.block 7 (.seq (mD 26) (mD 27))) (mD 28))))))) (mD 29)))))))))))))
theorem a3r:Tryz.f121.body=some a21:=U
theorem aP4 (x na P g B u0 l w)(hx:NAt w P x na)(hP:∀ k,P k->k ≠ g∧some k ≠ u0.ownBlock)(hPl:∀ k,P k->k<w)(hS0:WS g B u0 l w)(hlen:l.length+(dS x)<=100000000000):qg 121 #[qp g,fU x na] w (aMo g B u0 l (dS x) w):=by
  refine nS Tryz.func121 a3r rfl O (fun _ _=>by simp [results,Tryz.results121,go_sem]) (fun a Q sz df ea hQ=>?_);have e0:=ea 0 (qp g) rfl;simp only [dS,oS,aa] at hlen;have hns:x.name.size<=(jM x.name):=by unfold jM lJ;rw [aa,hH];omega
  have k1:=cK fE dB x.weights;have k2:=cK jM nD x.labels;have k3:=cK fQ kN x.values;have k4:=cK fE dB x.kids;have hwI:∀ y ∈ x.weights,I64 y:=by obtain ⟨_,_,_,_,_,h,_⟩:=id hx.weights;exact h
  have hkI:∀ y ∈ x.kids,I64 y:=by obtain ⟨_,_,_,_,_,h,_⟩:=id hx.kids;exact h
  refine rS ?_;have hE:Ext w (w.alloc (qk (aK x na).toArray 87)):=(aq _).alloc' _;have hX:=aw w 87 (aK x na).toArray;have hnw:=hS0.new (qk #[] 0);refine lv (w1:=w.alloc (qk (aK x na).toArray 87)) ?_;refine lE a [0] 3 ?_;intro b1 z1 e3;refine z1.c1 sz df e0 fun sz df e0=>?_
  generalize w.alloc (qk (aK x na).toArray 87)=W at *;have hS:=hS0.ext hE;have hG:=WG.rf W g u0;have hcell:∀ {v2 V2} (hg:WG W g u0 v2 V2) (i:Nat) {y:Value},(aK x na).toArray[i]?=some y->qc V2 w i y:=fun hg i _ hy=>(hg.blk hX hnw.1 hnw.2).cell' i hy
  have q0:=hcell hG 0 (y:=↑x.kind) rfl;refine rS ?_;iterate 3 refine lv ?_
  refine lcw b1 [0,3] Tryz.func70 hG (iP x.kind hx.kind hS bo) ?_;clear q0 hS hG;intro b2 y2 V2 z2 hS hG;refine z2.c2 sz df e0 e3 fun sz df e0 e3=>?_
  have q0:=hcell hG 1 (y:=x.name) rfl;refine rS ?_;iterate 3 refine lv ?_
  refine lcw b2 [0,3] Tryz.func165 hG (aBy x.name I hS bo) ?_;clear q0 hS hG;intro b3 y3 V3 z3 hS hG;refine z3.c2 sz df e0 e3 fun sz df e0 e3=>?_
  have q0:=hcell hG 2 (y:=↑x.lo) rfl;refine rS ?_;iterate 3 refine lv ?_
  refine lcw b3 [0,3] Tryz.func70 hG (iP x.lo hx.lo hS bo) ?_;clear q0 hS hG;intro b4 y4 V4 z4 hS hG;refine z4.c2 sz df e0 e3 fun sz df e0 e3=>?_
  have q0:=hcell hG 3 (y:=↑x.hi) rfl;refine rS ?_;iterate 3 refine lv ?_
  refine lcw b4 [0,3] Tryz.func70 hG (iP x.hi hx.hi hS bo) ?_;clear q0 hS hG;intro b5 y5 V5 z5 hS hG;refine z5.c2 sz df e0 e3 fun sz df e0 e3=>?_
  have q0:=hcell hG 4 (y:=.slice na.wA x.weights na.wc) rfl;refine rS ?_;iterate 4 refine lv ?_
  refine lcw b5 [0,3] Tryz.func70 hG (iP x.weights br hS bo) ?_;clear q0 hS hG;intro b6 y6 V6 z6 hS hG;refine z6.c2 sz df e0 e3 fun sz df e0 e3=>?_
  have q0:=hcell hG 4 (y:=.slice na.wA x.weights na.wc) rfl;refine wp_seq (rS ?_);iterate 4 refine lv ?_
  refine lE3 b6 [0,3] 34 35 36 ?_;clear q0;intro b7 z7 e34 e35 e36;refine z7.c2 sz df e0 e3 fun sz df e0 e3=>?_
  refine aAj (f:=fE) (l:=x.weights) 0 [0,3,34,35] e36 hS hG bo I ?_ ?_ ?_ ?_
  ·intro R b V v' j u e36 hg hR
   refine u.b1 sz e35 fun sz e35=>?_
   refine rW ?_;refine lv ?_;exact lE b [36,0,3,34,35] 37 hR (he:=by simp [*])
  ·clear hS hG
   intro R b V v' j pre' hj u e36 hS hG hl' hR;refine u.b3 sz e0 e3 e34 fun sz e0 e3 e34=>?_
   obtain ⟨bk,ok,h1,-,-,g1⟩:=((hx.weights.ext hE).carry (Q:=P) (hG.keeps hP) (fun _ _ h=>h)).get hj;rw [h1] at e34;clear h1;have hy:I64 (x.weights.getD j 0):=hwI _ (aD hj);generalize x.weights.getD j 0=y at *;have hji:(j:Int)<x.weights:=by omega
   refine rS ?_;iterate 3 refine lv ?_
   refine lE b [36,0,3,34,35] 5 ?_;intro c1 x1 e5;refine x1.b2 sz e0 e3 fun sz e0 e3=>?_
   refine rW ?_;iterate 2 refine lv ?_
   exact lcw b [36,0,3,34,35] Tryz.func70 hG (iP y hy hS I) hR (hA:=fun v=>x1.trans Y)
  ·intro R b V j u e36 hw hR
   replace sz:=u.sz.trans sz;refine rW ?_;iterate 2 refine lv ?_
   exact lE b [0,3,34,35] 36 hR (he:=by simp [*])
  clear e36 hS hG;intro b8 y8 V8 z8 hS hG;refine z8.c2 sz df e0 e3 fun sz df e0 e3=>?_
  have q0:=hcell hG 5 (y:=.slice na.lA x.labels na.lc) rfl;refine rS ?_;iterate 4 refine lv ?_
  refine lcw b8 [0,3] Tryz.func70 hG (iP x.labels br hS bo) ?_;clear q0 hS hG;intro b9 y9 V9 z9 hS hG;refine z9.c2 sz df e0 e3 fun sz df e0 e3=>?_
  have q0:=hcell hG 5 (y:=.slice na.lA x.labels na.lc) rfl;refine wp_seq (rS ?_);iterate 4 refine lv ?_
  refine lE3 b9 [0,3] 50 51 52 ?_;clear q0;intro b10 z10 e50 e51 e52;refine z10.c2 sz df e0 e3 fun sz df e0 e3=>?_
  refine aAj (f:=jM) (l:=x.labels) default [0,3,50,51] e52 hS hG bo I ?_ ?_ ?_ ?_
  ·intro R b V v' j u e52 hg hR
   refine u.b1 sz e51 fun sz e51=>?_
   refine rW ?_;refine lv ?_;exact lE b [52,0,3,50,51] 53 hR (he:=by simp [*])
  ·clear hS hG
   intro R b V v' j pre' hj u e52 hS hG hl' hR;refine u.b3 sz e0 e3 e50 fun sz e0 e3 e50=>?_
   obtain ⟨bk,ok,h1,g1⟩:=((hx.labels.ext hE).carry (Q:=P) (hG.keeps hP) (fun _ _ h=>h)).get hj;rw [h1] at e50;clear h1;have hy:(x.labels.getD j default).size<=(jM (x.labels.getD j default)):=by unfold jM lJ;rw [aa,hH];omega
   generalize x.labels.getD j default=y at *;have hji:(j:Int)<x.labels:=by omega
   refine rS ?_;iterate 3 refine lv ?_
   refine lE b [52,0,3,50,51] 7 ?_;intro c1 x1 e7;refine x1.b2 sz e0 e3 fun sz e0 e3=>?_
   refine rW ?_;iterate 2 refine lv ?_
   exact lcw b [52,0,3,50,51] Tryz.func165 hG (aBy y I hS I) hR (hA:=fun v=>x1.trans Y)
  ·intro R b V j u e52 hw hR
   replace sz:=u.sz.trans sz;refine rW ?_;iterate 2 refine lv ?_
   exact lE b [0,3,50,51] 52 hR (he:=by simp [*])
  clear e52 hS hG;intro b11 y11 V11 z11 hS hG;refine z11.c2 sz df e0 e3 fun sz df e0 e3=>?_
  have q0:=hcell hG 6 (y:=.slice na.vA x.values na.vc) rfl;refine rS ?_;iterate 4 refine lv ?_
  refine lcw b11 [0,3] Tryz.func70 hG (iP x.values br hS bo) ?_;clear q0 hS hG;intro b12 y12 V12 z12 hS hG;refine z12.c2 sz df e0 e3 fun sz df e0 e3=>?_
  have q0:=hcell hG 6 (y:=.slice na.vA x.values na.vc) rfl;refine wp_seq (rS ?_);iterate 4 refine lv ?_
  refine lE3 b12 [0,3] 66 67 68 ?_;clear q0;intro b13 z13 e66 e67 e68;refine z13.c2 sz df e0 e3 fun sz df e0 e3=>?_
  refine aAj (f:=fQ) (l:=x.values) default [0,3,66,67] e68 hS hG bo I ?_ ?_ ?_ ?_
  ·intro R b V v' j u e68 hg hR
   refine u.b1 sz e67 fun sz e67=>?_
   refine rW ?_;refine lv ?_;exact lE b [68,0,3,66,67] 69 hR (he:=by simp [*])
  ·clear hS hG
   intro R b V v' j pre' hj u e68 hS hG hl' hR;refine u.b3 sz e0 e3 e66 fun sz e0 e3 e66=>?_
   obtain ⟨bk,ok,A',d,h1,-,hv,g0,g1,g2,g3⟩:=((hx.values.ext hE).carry (Q:=P) (hG.keeps hP) (fun _ _ h=>h)).get hj;rw [h1] at e66;clear h1;generalize x.values.getD j default=y at *;have hji:(j:Int)<x.values:=by omega
   refine rS ?_;iterate 2 refine lv ?_
   clear g0 g1 g2 g3 hji;refine aFh 85 zVl (cellsOf y A' d) rfl ?_;intro V1 hX hx1;have hnw:=hS.new (qk #[] 0);replace hS:=hS.ext hx1;replace hG:=hG.ext hx1;refine lE b [68,0,3,66,67] 9 ?_;intro c1 x1 e9;refine x1.b2 sz e0 e3 fun sz e0 e3=>?_
   have p0:=hX.cell' (u:=↑y.kind) 0 rfl;have p1:=hX.cell' (u:=↑y.n) 1 rfl;have p2:=hX.cell' (u:=y.s) 2 rfl;have p3:=hX.cell' (u:=.slice A' y.kids d) 3 rfl;refine rW ?_;iterate 2 refine lv ?_
   exact lcw b [68,0,3,66,67] Tryz.func166 hG (vU (gsz y+1) y A' d P g B v' pre' V1 I (hv.ext hx1) (hG.sep hP (fun k hk=>ac (hPl k hk) hE.size)) (fun k hk=>ac (hPl k hk) (ae hE.size hG.fr.size)) hS hl') hR (hA:=fun v=>x1.trans Y)
  ·intro R b V j u e68 hw hR
   replace sz:=u.sz.trans sz;refine rW ?_;iterate 2 refine lv ?_
   exact lE b [0,3,66,67] 68 hR (he:=by simp [*])
  clear e68 hS hG;intro b14 y14 V14 z14 hS hG;refine z14.c2 sz df e0 e3 fun sz df e0 e3=>?_
  have q0:=hcell hG 7 (y:=.slice na.kA x.kids na.kc) rfl;refine rS ?_;iterate 4 refine lv ?_
  refine lcw b14 [0,3] Tryz.func70 hG (iP x.kids br hS bo) ?_;clear q0 hS hG;intro b15 y15 V15 z15 hS hG;refine z15.c2 sz df e0 e3 fun sz df e0 e3=>?_
  have q0:=hcell hG 7 (y:=.slice na.kA x.kids na.kc) rfl;refine wp_seq (rS ?_);iterate 4 refine lv ?_
  refine lE3 b15 [0,3] 82 83 84 ?_;clear q0;intro b16 z16 e82 e83 e84;refine z16.c2 sz df e0 e3 fun sz df e0 e3=>?_
  refine aAj (f:=fE) (l:=x.kids) 0 [0,3,82,83] e84 hS hG bo I ?_ ?_ ?_ ?_
  ·intro R b V v' j u e84 hg hR
   refine u.b1 sz e83 fun sz e83=>?_
   refine rW ?_;refine lv ?_;exact lE b [84,0,3,82,83] 85 hR (he:=by simp [*])
  ·clear hS hG
   intro R b V v' j pre' hj u e84 hS hG hl' hR;refine u.b3 sz e0 e3 e82 fun sz e0 e3 e82=>?_
   obtain ⟨bk,ok,h1,-,-,g1⟩:=((hx.kids.ext hE).carry (Q:=P) (hG.keeps hP) (fun _ _ h=>h)).get hj;rw [h1] at e82;clear h1;have hy:I64 (x.kids.getD j 0):=hkI _ (aD hj);generalize x.kids.getD j 0=y at *;have hji:(j:Int)<x.kids:=by omega
   refine rS ?_;iterate 3 refine lv ?_
   refine lE b [84,0,3,82,83] 11 ?_;intro c1 x1 e11;refine x1.b2 sz e0 e3 fun sz e0 e3=>?_
   refine rW ?_;iterate 2 refine lv ?_
   exact lcw b [84,0,3,82,83] Tryz.func70 hG (iP y hy hS I) hR (hA:=fun v=>x1.trans Y)
  ·intro R b V j u e84 hw hR
   replace sz:=u.sz.trans sz;refine rW ?_;iterate 2 refine lv ?_
   exact lE b [0,3,82,83] 84 hR (he:=by simp [*])
  clear e84 hS hG;intro b17 y17 V17 z17 hS hG;refine z17.c2 sz df e0 e3 fun sz df e0 e3=>?_
  have q0:=hcell hG 8 (y:=↑x.value.kind) rfl;have q1:=hcell hG 9 (y:=↑x.value.n) rfl;have q2:=hcell hG 10 (y:=x.value.s) rfl;have q3:=hcell hG 11 (y:=.slice na.xA x.value.kids na.xc) rfl;refine rW ?_;iterate 3 refine lv ?_
  refine lcw b17 [0,3] Tryz.func166 hG (vU (gsz x.value+1) x.value na.xA na.xc P g B _ _ _ I ((hx.value.ext hE).carry (Q:=P) (hG.keeps hP) (fun _ _ h=>h)) (hG.sep hP (fun k hk=>ac (hPl k hk) hE.size)) (fun k hk=>ac (hPl k hk) (ae hE.size hG.fr.size)) hS bo) ?_;clear q0 q1 q2 q3 hS hG;intro b18 y18 V18 z18 hS hG;refine z18.c2 sz df e0 e3 fun sz df e0 e3=>?_
  exact hQ _ _ df ⟨rfl,_,by simpa only [dS,oS,ah] using hS,WG.pre hE hG⟩
theorem WS.mk0 (w:World):WS w w nl [] (w.alloc (qk #[qn] 119)):=⟨aP _ _ _ _,aw w 119 _,fun h=>(nomatch h),O⟩
noncomputable def R69:=RG Tryz.f69
noncomputable abbrev c69:Code:=.seq (R69 0) (.seq (R69 1) (.seq (R69 2) (.seq (.seq (R69 3) (.block 0 (.loop (.seq (R69 4) (.seq (.cond (.tmp 14) .skip (.exit 0)) (.seq (.block 1 (.seq (R69 5) (R69 6))) (R69 7))))))) (.seq (R69 8) .ret))))
theorem b69:Tryz.f69.body=some c69:=U
theorem aLy (t:List GN)(P A c w)(ht:Nds w P (.slice A t c) t)(hPl:∀ k,P k->k<w)(hlen:(oR t).length<=10000000000):qg 69 #[.agg #[.slice A t c]] w (jD (oR t) w):=by
  have hll:=cK dS sR t;have hfl:oR t=fE t.length ++ t.flatMap dS:=rfl;rw [hfl,aa] at hlen;refine bW Tryz.func69 b69 rfl O (fun a Q sz df ea hQ=>?_);have e0:=ea 0 (.agg #[.slice A t c]) rfl;refine rS ?_;have hE0:Ext w (w.alloc (qk #[.slice A t c] 25)):=(aq _).alloc' _;have hX:=aw w 25 #[.slice A t c];have hsz0:(w.alloc (qk #[.slice A t c] 25)).heap.size=w.heap.size+1:=by simp
  iterate 2 refine lv ?_
  refine lE a [] 1 ?_;intro b0 z0 e1;refine z0.c0 sz df fun sz df=>?_
  generalize w.alloc (qk #[.slice A t c] 25)=W0 at *;refine rS ?_;have hS:=WS.mk0 W0;have hE1:Ext W0 (W0.alloc (qk #[qn] 119)):=(aq _).alloc' _;refine lv (w1:=W0.alloc (qk #[qn] 119)) ?_;refine lE b0 [1] 3 ?_;intro b1 z1 e3;refine z1.c1 sz df e1 fun sz df e1=>?_
  generalize W0.alloc (qk #[qn] 119)=W at *;have hG:=WG.rf W W0 nl;have hX1:=hX.ext hE1;have hE:=hE0.trans' hE1;clear hX hE1;have hP:∀ k,P k->k ≠ W0∧some k ≠ nl.ownBlock:=fun k hk=>⟨fun e=>by have:=hPl k hk;omega,fun h=>nomatch h⟩
  have hcell:∀ {v2 V2} (hg:WG W W0 nl v2 V2) (i:Nat) {y:Value},#[Value.slice A t c][i]?=some y->qc V2 w i y:=fun hg i _ hy=>(hg.blk hX1 I (fun h=>nomatch h)).cell' i hy
  have q0:=hcell hG 0 (y:=.slice A t c) rfl;refine rS ?_;iterate 3 refine lv ?_
  refine lcw b1 [1,3] Tryz.func70 hG (iP t br hS bo) ?_;clear q0 hS hG;intro b2 y2 V2 z2 hS hG;refine z2.c2 sz df e1 e3 fun sz df e1 e3=>?_
  have q0:=hcell hG 0 (y:=.slice A t c) rfl;refine wp_seq (rS ?_);iterate 4 refine lv ?_
  refine lE3 b2 [1,3] 11 12 13 ?_;clear q0;intro b3 z3 e11 e12 e13;refine z3.c2 sz df e1 e3 fun sz df e1 e3=>?_
  refine aAj (f:=dS) (l:=t) default [1,3,11,12] e13 hS hG bo I ?_ ?_ ?_ ?_
  ·intro R b V v' j u e13 hg hR
   refine u.b1 sz e12 fun sz e12=>?_
   refine rW ?_;refine lv ?_;exact lE b [13,1,3,11,12] 14 hR (he:=by simp [*])
  ·clear hS hG
   intro R b V v' j pre' hj u e13 hS hG hl' hR;refine u.b3 sz e1 e3 e11 fun sz e1 e3 e11=>?_
   obtain ⟨bk,ok,na,rfl,-,hv,hc⟩:=((ht.ext hE).carry (Q:=P) (hG.keeps hP) (fun _ _ h=>h)).get hj;have q0:=hc.c0;have q1:=hc.c1;have q2:=hc.c2;have q3:=hc.c3;have q4:=hc.c4;have q5:=hc.c5;have q6:=hc.c6;have q7:=hc.c7;have q8:=hc.c8;have q9:=hc.c9;have q10:=hc.c10;have q11:=hc.c11;generalize t.getD j default=y at *;clear hc;have hji:(j:Int)<t:=by omega
   refine rS ?_;iterate 2 refine lv ?_
   clear q0 q1 q2 q3 q4 q5 q6 q7 q8 q9 q10 q11;refine aFh 87 zN (aK y na) rfl ?_;intro V1 hX hx1;replace hS:=hS.ext hx1;replace hG:=hG.ext hx1;refine lE b [13,1,3,11,12] 5 ?_;intro c1 x1 e5;refine x1.b2 sz e1 e3 fun sz e1 e3=>?_
   clear hji;have q0:=hX.cell' (u:=↑y.kind) 0 rfl;have q1:=hX.cell' (u:=y.name) 1 rfl;have q2:=hX.cell' (u:=↑y.lo) 2 rfl;have q3:=hX.cell' (u:=↑y.hi) 3 rfl;have q4:=hX.cell' (u:=.slice na.wA y.weights na.wc) 4 rfl;have q5:=hX.cell' (u:=.slice na.lA y.labels na.lc) 5 rfl;have q6:=hX.cell' (u:=.slice na.vA y.values na.vc) 6 rfl;have q7:=hX.cell' (u:=.slice na.kA y.kids na.kc) 7 rfl;have q8:=hX.cell' (u:=↑y.value.kind) 8 rfl;have q9:=hX.cell' (u:=↑y.value.n) 9 rfl;have q10:=hX.cell' (u:=y.value.s) 10 rfl;have q11:=hX.cell' (u:=.slice na.xA y.value.kids na.xc) 11 rfl;refine rW ?_;iterate 1 refine lv ?_
   exact lcw b [13,1,3,11,12] Tryz.func121 hG (aP4 y na P _ _ v' pre' V1 (hv.ext hx1) (hG.sep hP (fun k hk=>ac (hPl k hk) hE.size)) (fun k hk=>ac (hPl k hk) (ae hE.size hG.fr.size)) hS hl') hR (hA:=fun v=>x1.trans Y)
  ·intro R b V j u e13 hw hR
   replace sz:=u.sz.trans sz;refine rW ?_;iterate 2 refine lv ?_
   exact lE b [1,3,11,12] 13 hR (he:=by simp [*])
  clear e13 hS hG;intro b4 y4 V4 z4 hS hG;refine z4.c2 sz df e1 e3 fun sz df e1 e3=>?_
  refine rS ?_;refine lcE b4 [] Tryz.func73 (aNb hS bo) (hG.old hE (by have:=hE0.size;omega) (fun _ h=>nomatch h)) ?_;intro a2 v2 w2 u2 e2 hO;exact wp_ret (hQ _ _ _ (u2.df.trans df) (by simp [results,Tryz.results69,go_sem,evT e2];try rfl) ⟨v2,rfl,hO⟩)
noncomputable def R33:=RG Tryz.f33
noncomputable abbrev c33:Code:=.seq (R33 0) (.seq (R33 1) (.seq (R33 2) (.seq (R33 3) (.seq (R33 4) (.seq (.seq (R33 5) (.block 0 (.loop (.seq (R33 6) (.seq (.cond (.tmp 29) .skip (.exit 0)) (.seq (.block 1 (.seq (R33 7) (.seq (R33 8) (.seq (R33 9) (.seq (R33 10) (.seq (R33 11) (.seq (R33 12) (R33 13)))))))) (R33 14))))))) (.seq (R33 15) .ret))))))
theorem b33:Tryz.f33.body=some c33:=U
theorem aD1 {t vn b L g0 P ve}(w)(hC:cV t vn b L g0 P ve w)(hPl:∀ k,P k->k<w)(hlen:(qP t b L).length<=1000000000):qg 33 #[qp g0.c] w (jD (qP t b L) w):=by
  have hll:=cK sU aD5 L;simp only [qP,lJ,aa,List.length_nil] at hlen;have htn:=hC.walk.nodes;obtain ⟨A,c,rfl,hA1,hA2,hA3⟩:=htn.form;have hen:=hC.ens;obtain ⟨A1,c1,rfl,hB1,hB2,hB3⟩:=hen.form
  have hP1:∀ k,(P k∨some k=(Value.slice A1 L c1).ownBlock)->k<w:=fun k hk=>hk.elim (hPl k) (fun h=>by
   obtain ⟨xs,h1,-⟩:=hC.own;exact h1.block_lt h.symm)
  have hbI:=hC.bI;refine bW Tryz.func33 b33 rfl O (fun a Q sz df ea hQ=>?_);have e0:=ea 0 (qp g0.c) rfl;refine rS ?_;refine lv ?_;refine lN a [0] ?_;intro b0 z0;refine z0.c1 sz df e0 fun sz df e0=>?_
  refine rS ?_;have hS:=WS.mk0 w;have hE:Ext w (w.alloc (qk #[qn] 119)):=(aq _).alloc' _;refine lv (w1:=w.alloc (qk #[qn] 119)) ?_;refine lE b0 [0] 3 ?_;intro b1 z1 e3;refine z1.c1 sz df e0 fun sz df e0=>?_
  generalize w.alloc (qk #[qn] 119)=W at *;have hG:=WG.rf W w nl;have hX1:=hC.box.ext hE;have hgc:=hC.box.lt;have hP:∀ k,k<w.heap.size->k ≠ w.heap.size∧some k ≠ nl.ownBlock:=fun k hk=>⟨I,fun h=>nomatch h⟩
  have hcell:∀ {v2 V2} (hg:WG W w nl v2 V2) (i:Nat) {y:Value},#[Value.slice A t c,↑(qp g0.w),↑b,.slice A1 L c1][i]?=some y->qc V2 g0.c i y:=fun hg i _ hy=>(hg.blk hX1 I (fun h=>nomatch h)).cell' i hy
  have q0:=hcell hG 0 (y:=.slice A t c) rfl;refine rS ?_;iterate 4 refine lv ?_
  clear q0;refine lc Tryz.func69 (aLy t P A c W (htn.ext hE) (fun k hk=>ac (hPl k hk) hE.size) I) ?_;rintro e w1 ⟨v1,rfl,hO1⟩;refine ⟨_,rfl,?_⟩;obtain ⟨A2,c2,rfl,-,-,hs2⟩:=hO1.sl;have hWs:=hS.box.lt;refine lcw b1 [0,3] Tryz.func68 (hG.ext hO1.ex) (aW9 (c:=c2) (oR t) rfl I hs2 (fun k hk=>⟨by have:=hk.1;omega,fun h=>nomatch h⟩) (hS.ext hO1.ex) O) ?_;clear hS hG;intro b2 y2 V2 z2 hS hG;refine z2.c2 sz df e0 e3 fun sz df e0 e3=>?_
  rw [List.nil_append] at hS;have q0:=hcell hG 2 (y:=↑b) rfl;refine rS ?_;iterate 4 refine lv ?_
  refine lcw b2 [0,3] Tryz.func70 hG (iP b br hS fd) ?_;clear q0 hS hG;intro b3 y3 V3 z3 hS hG;refine z3.c2 sz df e0 e3 fun sz df e0 e3=>?_
  have q0:=hcell hG 3 (y:=.slice A1 L c1) rfl;refine rS ?_;iterate 5 refine lv ?_
  refine lcw b3 [0,3] Tryz.func70 hG (iP L br hS fd) ?_;clear q0 hS hG;intro b4 y4 V4 z4 hS hG;refine z4.c2 sz df e0 e3 fun sz df e0 e3=>?_
  have q0:=hcell hG 3 (y:=.slice A1 L c1) rfl;refine wp_seq (rS ?_);iterate 6 refine lv ?_
  refine lE3 b4 [0,3] 26 27 28 ?_;clear q0;intro b5 z5 e26 e27 e28;refine z5.c1 sz df e3 fun sz df e3=>?_
  refine aAj (f:=sU) (l:=L) default [3,26,27] e28 hS hG fd I ?_ ?_ ?_ ?_
  ·intro R b V v' j u e28 hg hR
   refine u.b1 sz e27 fun sz e27=>?_
   refine rW ?_;refine lv ?_;exact lE b [28,3,26,27] 29 hR (he:=by simp [*])
  ·clear hS hG
   intro R b V v' j pre' hj u e28 hS hG hl' hR;refine u.c2 sz df e3 e26 fun sz df e3 e26=>?_
   obtain ⟨bk,ok,A',d,rfl,-,hv,hc⟩:=((hen.ext hE).carry (Q:=fun k=>k<w.heap.size) (hG.keeps (fun k hk=>hP k (hP1 k hk))) (fun _ _ h=>hP1 _ h)).get hj;have q0:=hc 0 _ rfl;have q1:=hc 1 _ rfl;have q2:=hc 2 _ rfl;have q3:=hc 3 _ rfl;have q4:=hc 4 _ rfl;have q5:=hc 5 _ rfl;rw [Nat.add_zero] at q0;generalize L.getD j default=x at *;clear hc;have hji:(j:Int)<L:=by omega
   refine rS ?_;iterate 2 refine lv ?_
   clear q0 q1 q2 q3 q4 q5 hji;refine aFh 102 zEn (aV x A' d) rfl ?_;intro V1 hX hx1;have hnw:=hS.new (qk #[] 0);replace hS:=hS.ext hx1;have hG0:=hG.ext hx1;have hsV:=hx1.size;have hnl:=hG.sep (P:=fun k=>k<w.heap.size) (fun k hk=>hP k hk) (fun k hk=>ac hk hE.size);have hwV:=ae hE.size hG.fr.size;replace hR:=fun b' v2 V' (h1:Ag [28,3,26,27] b b') (h2:WS w w v2 (pre' ++ sU x) V') (h3:WG V1 w v' v2 V')=>hR b' v2 V' h1 h2 (hG0.trans h3)
   replace hG:=WG.rf V1 w v';have hvp:=hv.path.ext hx1;refine lE b [28,3,26,27] 5 ?_;intro f1 x1 e5;refine x1.c1 sz df e3 fun sz df e3=>?_
   have hcell:∀ {v2 V2} (hg:WG V1 w v' v2 V2) (i:Nat) {y:Value},(aV x A' d).toArray[i]?=some y->qc V2 V i y:=fun hg i _ hy=>(hg.blk hX hnw.1 hnw.2).cell' i hy
   clear hX hnw;simp only [sU,aa,List.length_nil] at hl';have q:=hcell hG 0 (y:=.slice A' x.path d) rfl;refine rS ?_;iterate 2 refine lv ?_
   refine lcw f1 [28,3,26,27,5] Tryz.func71 hG (aU0 (P:=fun k=>k<w.heap.size) x.path ((hvp.carry (hG.keeps hnl) (fun _ _ h=>h))) (hG.sep hnl (fun k hk=>by omega)) hS bo) ?_;clear q hS hG;intro d2 y2 X2 x2 hS hG;refine x2.c2 sz df e3 e5 fun sz df e3 e5=>?_
   have q:=hcell hG 1 (y:=↑x.kind) rfl;refine rS ?_;iterate 3 refine lv ?_
   refine lcw d2 [28,3,26,27,5] Tryz.func70 hG (iP x.kind hv.kind hS bo) ?_;clear q hS hG;intro d3 y3 X3 x3 hS hG;refine x3.c2 sz df e3 e5 fun sz df e3 e5=>?_
   have q:=hcell hG 2 (y:=↑x.at_) rfl;refine rS ?_;iterate 3 refine lv ?_
   refine lcw d3 [28,3,26,27,5] Tryz.func70 hG (iP x.at_ hv.at_ hS bo) ?_;clear q hS hG;intro d4 y4 X4 x4 hS hG;refine x4.c2 sz df e3 e5 fun sz df e3 e5=>?_
   have q:=hcell hG 3 (y:=↑x.code) rfl;refine rS ?_;iterate 3 refine lv ?_
   refine lcw d4 [28,3,26,27,5] Tryz.func70 hG (iP x.code hv.code hS bo) ?_;clear q hS hG;intro d5 y5 X5 x5 hS hG;refine x5.c2 sz df e3 e5 fun sz df e3 e5=>?_
   have q:=hcell hG 4 (y:=x.fresh) rfl;refine rS ?_;iterate 2 refine lv ?_
   refine lcw d5 [28,3,26,27,5] Tryz.func72 hG (aVl x.fresh hS bo) ?_;clear q hS hG;intro d6 y6 X6 x6 hS hG;refine x6.c2 sz df e3 e5 fun sz df e3 e5=>?_
   have q:=hcell hG 5 (y:=↑x.hits) rfl;refine rW ?_;iterate 2 refine lv ?_
   refine lcw d6 [28,3,26,27,5] Tryz.func70 hG (iP x.hits hv.hits hS bo) ?_;clear q hS hG;intro d7 y7 X7 x7 hS hG;exact hR _ _ _ (((((((x1.mono rfl).trans (x2.mono rfl)).trans (x3.mono rfl)).trans (x4.mono rfl)).trans (x5.mono rfl)).trans (x6.mono rfl)).trans (x7.mono rfl)) (by simpa only [sU,ah] using hS) hG
  ·intro R b V j u e28 hw hR
   replace sz:=u.sz.trans sz;refine rW ?_;iterate 2 refine lv ?_
   exact lE b [3,26,27] 28 hR (he:=by simp [*])
  clear e28 hS hG;intro b6 y6 V6 z6 hS hG;refine z6.c1 sz df e3 fun sz df e3=>?_
  refine rS ?_;refine lcE b6 [] Tryz.func73 (aNb hS fd) (hG.old hE (ab _) (fun _ h=>nomatch h)) ?_;intro a2 v2 w2 u2 e2 hO;exact wp_ret (hQ _ _ _ (u2.df.trans df) (by simp [results,Tryz.results33,go_sem,evT e2];try rfl) ⟨v2,rfl,by simpa only [qP,ah] using hO⟩)
theorem By.set {w B G c k}{l:List Int}{y}(h:By B (.slice (qp G) l c) l w):By B (.slice (qp G) l c) (l.set k y) (w.setCell (qt G k) (.int .u8 y)):=by
 obtain ⟨hl,⟨e,_⟩ | ⟨G',cap,cur,e,hb,hB,hn,hm,hs,ht⟩⟩:=h
 ·cases e
 ·injection e with e1 _ e3
  injection e1 with e1;injection e1 with e1;subst e1 e3;unfold By;rw [List.length_set];refine ⟨by simpa using hl,.inr ⟨G,c,cur.setIfInBounds k (.int .u8 y),rfl,hb,Blk.set_ hB k _,hn,hm,by simpa using hs,?_⟩⟩;rw [Array.toList_setIfInBounds,List.take_set,ht,List.map_set]
theorem By.block {w B v l}(h:By B v l w)(h0:0<l.length):∃ G c cur,v=.slice (qp G) l c∧Blk w G 5 cur∧l<=cur.size∧B<=G:=by
 obtain ⟨hl,⟨e,hz⟩ | ⟨G',cap,cur,e,hb,hB,hn,hm,hs,ht⟩⟩:=h
 ·omega
 ·have h1:Blk w G' 5 cur:=hB
  exact ⟨G',cap,cur,e,h1,I,hb⟩
def aBg (w:World)(v:Value)(l:List Int):Prop:=l.length<=1000000000∧Byt l∧∃ A c,v=.slice A l c∧Sl w (fun _=>True) 1 A l (l.map (Value.int .u8))
theorem aBg.ext {w w' v l}(h:aBg w v l)(hx:Ext w w'):aBg w' v l:=by
 obtain ⟨h1,h2,A,c,rfl,h3⟩:=h;exact ⟨h1,h2,A,c,rfl,h3.keep (aB.of_ext hx) (fun _ h=>h)⟩
theorem By.b7 {w B v l}(h:By B v l w)(hl:l.length<=1000000000)(hb:Byt l):aBg w v l:=by
 obtain ⟨A,c,e,h1,h2,h3⟩:=Sl.of_own h;exact ⟨hl,hb,A,c,e,h3 _ (fun _ _=>trivial)⟩
section
variable {Q:Exit->Act->World->Prop}{a:Act}{w:World}{G j:Nat}{v:Value}
theorem aKe (sz:a.tmps.size=208)(e31:qq a 31 (.pointer none))(e32:qq a 32 (.int .i64 2))(hQ:∀ a' w',Ag [29,30] a a'->qq a' 206 false->Ext w w'->Q .normal a' w'):qw (R7 26) Q a w:=by
 have hx0:Ext w w.drew:=(aq w).drew';refine rD (fun _=>True) (fun _=>true) 28 ?_;generalize w.drew=W at *;refine dt 0 [0,1,2,3,4,5,6,7,8,9,10,11,12,13,14,15,16,17,18,19,20,21,22,23,24,25,26,27] (hS:=trivial) ?_;iterate 3 refine tv ?_ (hy:=by (intro w hw;simp [execOp,go_sem, *];try rfl))
 iterate 3 refine t_y (gd:=181) (b:=true) ba ba ba ba av av ba (by (intro w hw;simp [execOp,go_sem, *];try rfl)) ?_
 iterate 2 refine t_y (gd:=184) (b:=false) ba ba ba ba av av ba (by (intro w hw;simp [execOp,go_sem, *];try rfl)) ?_
 refine t_y (gd:=181) (b:=true) (v:=false) ba ba ba ba av av ba (by (intro w hw;simp [execOp,go_sem, *];try rfl)) ?_;iterate 2 refine tv ?_ (v:=false) (hy:=by (intro w hw;simp [execOp,go_sem, *];try rfl))
 iterate 3 refine t_y (gd:=189) (b:=false) ba ba ba ba av av ba (by (intro w hw;simp [execOp,go_sem, *];try rfl)) ?_
 iterate 3 refine t_n (gd:=192) (b:=false) ba ba ba ba av av ba ?_
 iterate 8 refine t_u (gd:=195) ba ba ba ba av av ?_
 refine t_n (gd:=192) (b:=false) ba ba ba ba av av ba ?_;refine t_y (gd:=189) (b:=false) (v:=false) ba ba ba ba av av ba (by (intro w hw;simp [execOp,go_sem, *];try rfl)) ?_;refine tv ?_ (v:=false) (hy:=by (intro w hw;simp [execOp,go_sem, *];try rfl));refine t_e ?_;exact dEv a [29,30] 206 (v:=false) (fun a' u e=>hQ a' W u e hx0) (he:=by simp [*])
theorem aKd {p}(sz:a.tmps.size=208)(e29:qq a 29 (.slice (qp G) 4 4))(e30:qq a 30 (j:Int))(hj:j<4)(e31:qq a 31 (qp p))(e32:qq a 32 qz)(hc:∀ W,Ext w W->qc W G j v)
  (h33:∀ W,Ext w W->Calls Tryz.prog 33 #[qp p] W fun e w'=>∃ x,e=.returned x∧Ext W w'∧∀ V,Ext w' V->qg 35 #[x,v] V (dI true V))
  (hQ:∀ a' w',Ag [29,30] a a'->qq a' 206 false->Ext w w'->Q .normal a' w'):qw (R7 26) Q a w:=by
 have hx0:Ext w w.drew:=(aq w).drew';refine rD (Ext w) (fun _=>true) 28 ?_;generalize w.drew=W at *;refine dt 6 [0,1,2,3,4,5,6,7,8,9,10,11,12,13,14,15,16,17,19,20,21,22] (hS:=hx0) ?_;iterate 3 refine tv ?_ (hy:=by (intro w hw;simp [execOp,go_sem, *];try rfl))
 iterate 3 refine t_n (gd:=181) (b:=false) ba ba ba ba av av ba ?_
 iterate 2 refine t_u (gd:=184) ba ba ba ba av av ?_
 refine t_n (gd:=181) (b:=false) ba ba ba ba av av ba ?_;iterate 2 refine tv ?_ (v:=false) (hy:=by (intro w hw;simp [execOp,go_sem, *];try rfl))
 iterate 3 refine t_y (gd:=189) (b:=false) ba ba ba ba av av ba (by (intro w hw;simp [execOp,go_sem, *];try rfl)) ?_
 iterate 3 refine t_y (gd:=192) (b:=true) ba ba ba ba av av ba (by (intro w hw;simp [execOp,go_sem, *];try rfl)) ?_
 iterate 3 refine t_y (gd:=195) (b:=false) ba ba ba ba av av ba (by (intro w hw;simp [execOp,go_sem, *];try rfl)) ?_
 refine t_y (gd:=195) (b:=false) (v:=qt G j) ba ba ba ba av av ba (by (intro w hw;simp [execOp,go_sem, *];try omega)) ?_;refine t_y (gd:=195) (b:=false) (v:=v) ba ba ba ba av av ba (by (intro w hw;simp [execOp,go_sem,hc w hw, *];try rfl)) ?_;refine t_e ?_;refine dcg 18 Tryz.func33 (h33 W hx0) ?_ (gd:=195) (b:=false) (he:=by simp [*]);rintro e w1 ⟨x,rfl,hx1,h35⟩;refine ⟨_,rfl,fun _=>hx0.trans' hx1,?_⟩;refine dcg 23 Tryz.func35 (h35 w1 (aq _)) ?_ (gd:=195) (b:=false) (he:=by simp [*]);rintro e w2 ⟨rfl,hx2⟩;have hS2:=(hx0.trans' hx1).trans' hx2;refine ⟨_,rfl,fun _=>hS2,?_⟩;refine dt 0 [24,25,26,27] (hS:=hS2) ?_;refine t_y (gd:=195) (b:=false) (v:=false) ba ba ba ba av av ba (by (intro w hw;simp [execOp,go_sem, *];try rfl)) ?_;refine t_y (gd:=192) (b:=true) (v:=false) ba ba ba ba av av ba (by (intro w hw;simp [execOp,go_sem, *];try rfl)) ?_;refine t_y (gd:=189) (b:=false) (v:=false) ba ba ba ba av av ba (by (intro w hw;simp [execOp,go_sem, *];try rfl)) ?_;refine tv ?_ (v:=false) (hy:=by (intro w hw;simp [execOp,go_sem, *];try rfl));refine t_e ?_;exact dEv a [29,30] 206 (v:=false) (fun a' u e=>hQ a' w2 u e hS2) (he:=by simp [*])
noncomputable abbrev a23:Code:=.seq (.seq (R7 23) (.cond (.tmp 168) .skip (.exit 2))) (.seq (.block 3 (.seq (R7 25) (.seq (R7 26) (.cond (.tmp 206) (.seq (R7 27) .ret) .skip)))) (R7 24))
noncomputable abbrev aZ2:Code:=.seq (.seq (R7 22) (.block 2 (.loop a23))) (.seq (R7 28) .ret)
theorem aMj {cs}(sz:a.tmps.size=208)(e29:qq a 29 (.slice (qp G) 4 4))(hB:Blk w G 74 cs)(hv:∀ j,j<4->∃ l v,cs[j]?=some v∧aBg w v l)
  (hQ:∀ a' w',a'.defers=a.defers->qq a' 14 true->Ext w w'->Q .ret a' w'):qw aZ2 Q a w:=by
 refine wp_seq (rS ?_);refine lv ?_;refine lF a [29] 30 (v:=.int .i64 ((0:Nat):Int)) ?_;intro a0 u0 e30;refine wp_block (wp_loop (fun a' w'=>∃ j:Nat,j<=4∧Ag [29] a a'∧qq a' 30 (j:Int)∧Ext w w') (fun a' _=>4 - (intOf (Ev a' (.tmp 30))).toNat) ⟨0,I,u0,e30,aq w⟩ ?_);clear u0 e30;rintro a1 w1 ⟨j,hj,u1,e30,hx1⟩;have z1:=u1.sz.trans sz;have f29:=u1.get 29 e29;refine wp_seq (rS ?_);iterate 2 refine lv ?_
 refine lF a1 [29,30] 168 (v:=(decide (j<4))) ?_ (he:=by simp [*];omega);intro a2 u2 e168;have z2:=u2.sz.trans z1;replace f29:=u2.get 29 f29;have f30:=u2.get 30 e30;by_cases hlt:j<4
 ·refine wp_cond_true (e168.trans (by rw [a4e hlt])) (wp_skip ?_)
  obtain ⟨l,v,hcs,hb7⟩:=hv j hlt;have hcell:∀ W,Ext w W->qc W G j v:=fun W h=>aA h (hB.cell' j hcs)
  obtain ⟨hl,hby,A,c,rfl,hsl⟩:=hb7.ext hx1;refine wp_seq (wp_block (rS ?_));iterate 2 refine lv ?_
  refine lv (v:=qt G j) (w1:=w1) ?_ (hrun:=by simp [execOp,go_sem, *];try omega);refine lv (v:=.slice A l c) (w1:=w1) ?_ (hrun:=by simp [execOp,go_sem, *]);refine lc Tryz.func34 (aD7 (c0:=c) hl hby hsl) ?_;rintro e w3 ⟨hx3,hd⟩;have hx13:=hx1.trans' hx3
  have fin:∀ (QQ:Exit->Act->World->Prop) a5 w5,Ag [29,30] a2 a5->(∀ a6,Ag [29] a a6->qq a6 30 (.int .i64 ((j+1:Nat):Int))->QQ .normal a6 w5)->qw (R7 24) QQ a5 w5:=by
   intro QQ a5 w5 u5 h;have z5:=u5.sz.trans z2;have g30:=u5.get 30 f30;refine rW ?_;iterate 3 refine lv ?_
   refine lF a5 [29] 30 (v:=.int .i64 ((j:Int)+1)) ?_;intro a6 u6 e;exact h a6 (((u1.trans (u2.mono rfl)).trans (u5.mono rfl)).trans u6) e
  have nx:∀ {a6:Act}{w5:World},Ag [29] a a6->qq a6 30 (.int .i64 ((j+1:Nat):Int))->Ext w w5->(∃ j:Nat,j<=4∧Ag [29] a a6∧qq a6 30 (j:Int)∧Ext w w5)∧4 - (intOf (Ev a6 (.tmp 30))).toNat<4 - (intOf (Ev a1 (.tmp 30))).toNat:=by
   intro a6 w5 q1 q2 q3;refine ⟨⟨j+1,hlt,q1,q2,q3⟩,?_⟩;rw [q2,e30];simp [intOf];omega
  cases hdc:aFx l with
  | none =>
   rw [hdc] at hd;subst hd;refine ⟨_,rfl,?_⟩;iterate 5 refine lv ?_
   refine lF2 a2 [29,30] 31 32 (v:=.pointer none) (v':=.int .i64 2) ?_;intro a3 u3 e31 e32;refine wp_seq (aKe (u3.sz.trans z2) e31 e32 ?_);intro a4 w4 u4 e206 hx4;exact wp_cond_false e206 (wp_skip (fin _ a4 w4 (u3.trans u4) (fun a6 q1 q2=>nx q1 q2 (hx13.trans' hx4))))
  | some q =>
   obtain ⟨t,b,L⟩:=q;rw [hdc] at hd;obtain ⟨cc,P,ve,vn,rfl,hM⟩:=hd;have hcan:=(aFw hby hdc).1;refine ⟨_,rfl,?_⟩;iterate 5 refine lv ?_
   refine lF2 a2 [29,30] 31 32 (v:=qp cc.c) (v':=qz) ?_;intro a3 u3 e31 e32;refine wp_seq (aKd (u3.sz.trans z2) (u3.get 29 f29) (u3.get 30 f30) hlt e31 e32 (fun W h=>hcell W (hx13.trans' h)) (fun W h=>(aD1 W (hM.cor.ext h) (fun k hk=>ac (hM.lo k (.inl hk)).2 h.size) (by rw [<- hcan];exact hl)).mono ?_) ?_)
   ·rintro e w' ⟨x,rfl,hO⟩
    refine ⟨x,rfl,hO.ex,fun V hV=>?_⟩;obtain ⟨A2,c2,rfl,-,-,hsl2⟩:=(hO.ext hV).sl;have:=aMy (c:=c2) (c':=c) (qP t b L) l V (by rw [<- hcan];omega) I hsl2 (hsl.keep (aB.of_ext (((hx3.trans' h).trans' hO.ex).trans' hV)) (fun _ h=>h))
    rwa [a4e hcan.symm] at this
   ·intro a4 w4 u4 e206 hx4
    exact wp_cond_false e206 (wp_skip (fin _ a4 w4 (u3.trans u4) (fun a6 q1 q2=>nx q1 q2 (hx13.trans' hx4))))
 ·refine wp_cond_false (e168.trans (by rw [a4f hlt])) (wp_exit (rS ?_))
  refine lc Tryz.func23 (aHj w1) ?_;rintro e w3 ⟨rfl,hx3⟩;refine ⟨_,rfl,?_⟩;refine lv ?_;refine lF a2 [] 14 (v:=true) ?_;intro a3 u3 e14;exact wp_ret (hQ a3 w3 (u3.df.trans (u2.df.trans u1.df)) e14 (hx1.trans' hx3))
theorem Sl.cut {w T A}{l:List Int}(h:Sl w T 1 A l (l.map (Value.int .u8)))(m):Sl w (fun _=>True) 1 A (l.take m) ((l.take m).map (Value.int .u8)):=by
 refine ⟨by rw [List.length_map,Nat.mul_one],fun h0=>?_⟩;obtain ⟨b,off,e,hb,hc⟩:=h.2 (by rw [ak] at h0;omega);refine ⟨b,off,e,trivial,fun j u hu=>hc j u ?_⟩;rw [List.map_take,List.getElem?_take] at hu;split at hu
 ·exact hu
 ·cases hu
noncomputable abbrev tl7:Code:=.seq (R7 19) (.seq (R7 20) (.seq (R7 21) aZ2))
theorem aMi {raw lx:List Int}{y at_:Int}{A Ax c cx T Tx}(sz:a.tmps.size=208)(e4:qq a 4 (.slice A raw c))(e5:qq a 5 at_)(e6:qq a 6 (.int .u8 y))(e19:qq a 19 (.slice Ax lx cx))
  (hr:raw.length<=1000000000000000∧raw<=c∧c<=9223372036854775807)(hs:Sl w T 1 A raw (raw.map (Value.int .u8)))(hbr:Byt raw)(hx:0<lx.length∧lx.length<=900000000∧lx<=cx∧cx<=9223372036854775807)(hsx:Sl w Tx 1 Ax lx (lx.map (Value.int .u8)))(hbx:Byt lx)(hy:0<=y∧y<256)(hat:I64 at_)
  (hQ:∀ a' w',a'.defers=a.defers->qq a' 14 true->Ext w w'->Q .ret a' w'):qw tl7 Q a w:=by
 refine rS ?_;iterate 3 refine lv ?_
 have hc:=aQh (c:=cx) lx lx w ⟨I,I,I⟩ I hsx;rw [List.take_length] at hc;refine lc Tryz.func37 hc ?_;rintro e w1 ⟨vb,rfl,hO⟩;refine ⟨_,rfl,?_⟩;refine lv ?_;refine lF a [4,5,6,19] 28 (v:=vb) ?_;intro a1 u1 e28;refine u1.b4 sz e4 e5 e6 e19 fun sz e4 e5 e6 e19=>?_
 have hx1:=hO.ex;have hrow:=hO.row;obtain ⟨G,c2,cur,rfl,hB,hcl,hG⟩:=By.block hrow hx.1;refine rS ?_;iterate 4 refine lv ?_
 refine lc Tryz.func9 (kZ at_ lx w1 hat I I) ?_;rintro e w' ⟨rfl,rfl⟩;refine ⟨_,rfl,?_⟩;have hk:=kY (n:=at_) (m:=lx.length) I;obtain ⟨k,hke⟩:∃ k:Nat,iC at_ lx.length=(k:Int):=⟨(iC at_ lx).toNat,I⟩;rw [hke] at hk ⊢;have hkl:k<cur.size:=by omega
 have fk:=hB.frozen k;have ck:=hB.cell' (u:=cur[k]) k O;clear hO hc hB hke;refine lv ?_;refine lv (v:=qt G k) (w1:=w1) ?_ (hrun:=by simp [execOp,go_sem, *];try omega);refine ls (w1:=w1.setCell (qt G k) (.int .u8 y)) ?_ (hrun:=by simp [execOp,go_sem, *];try rfl);refine lN a1 [4,6,19,28] ?_;intro a2 u2;refine u2.b4 sz e4 e6 e19 e28 fun sz e4 e6 e19 e28=>?_
 have hrow2:=hrow.set (k:=k) (y:=y);have hx2:Ext w (w1.setCell (qt G k) (.int .u8 y)):=hx1.setCell' (p:=qt G k) hG _;generalize w1.setCell (qt G k) (.int .u8 y)=w2 at *;refine wp_seq (aOg sz e4 e6 e19 e28 hr (hs.keep (aB.of_ext hx2) (fun _ h=>h)) hx (hsx.keep (aB.of_ext hx2) (fun _ h=>h)) ?_);intro a3 w3 v1 v3 G3 u3 e29 hB3 r1 r3 hx3;replace sz:=u3.sz.trans sz;refine aMj sz e29 hB3 (fun j hj=>?_) (fun a' w' q1 q2 q3=>hQ a' w' (q1.trans (u3.df.trans (u2.df.trans u1.df))) q2 ((hx2.trans' hx3).trans' q3));have h4:j=0∨j=1∨j=2∨j=3:=by omega
 rcases h4 with rfl | rfl | rfl | rfl
 ·exact ⟨_,v1,rfl,r1.b7 em (fun x hx=>hbr x (List.mem_of_mem_take hx))⟩
 ·refine ⟨_,_,rfl,By.b7 (World.ownsRow.ext_ hrow2 hx3) (by rw [List.length_set];omega) (fun x hx=>?_)⟩
  rcases List.mem_or_eq_of_mem_set hx with hx | rfl
  ·exact hbx x hx
  ·exact hy
 ·refine ⟨lx.take (lx.length - 1),.slice Ax (lx.length - 1) cx,rfl,em,fun x hx=>hbx x (List.mem_of_mem_take hx),Ax,cx,by rw [ak,Nat.min_eq_left I],Sl.cut (hsx.keep (aB.of_ext (hx2.trans' hx3)) (fun _ h=>h)) _⟩
 ·exact ⟨_,v3,rfl,r3.b7 (by rw [aa,List.length_singleton];omega) (Byt.app.2 ⟨hbx,fun x hx=>by simp only [List.mem_singleton] at hx;subst hx;exact hy⟩)⟩
end
