/- Contracts and laws. Conditions: none. -/
import Derived.Test.YtkoeecdjijfjnaaGreatWU
set_option linter.all false
set_option maxRecDepth 100000
set_option maxHeartbeats 8000000
namespace Go.Proofs.YtkoeecdjijfjnaaGreat
open Go.RowKit
theorem cC.bindD {α β:Type}{d x0 x s s1}(h:cC d x0 s x s1)(bad)(K:α × List Int->Option (β × List Int)):(stD bad s).bind (fun l=>(d l).bind K)=(stD bad s1).bind (fun r=>K (x,r)):=by
 cases bad with
 | true=>rfl
 | false =>
  simp only [stD,Bool.false_eq_true,if_false];cases s with
  | none=>obtain ⟨-,rfl⟩:=h;rfl
  | some l =>
   simp only [cC,aj] at h ⊢;cases hd:d l with
   | none=>rw [hd] at h;obtain ⟨-,rfl⟩:=h;rfl
   | some y=>rw [hd] at h;obtain ⟨rfl,rfl⟩:=h;rfl
theorem cC.mapD {α β:Type}{d x x0 s s1}(h:cC d x0 s x s1)(g:α->β):s.bind (fun l=>(d l).map (fun y=>(g y.1,y.2)))=s1.map (fun r=>(g x,r)):=by
 cases s with
 | none=>obtain ⟨-,rfl⟩:=h;rfl
 | some l =>
  simp only [cC,aj] at h ⊢;cases hd:d l with
  | none=>rw [hd] at h;obtain ⟨-,rfl⟩:=h;rfl
  | some y=>rw [hd] at h;obtain ⟨rfl,rfl⟩:=h;rfl
theorem cC.eqD {α}{d:Dec α}{x s s1}(h:s.bind d=s1.map (fun r=>(x,r))):cC d x s x s1:=by
 unfold cC;rw [h];cases s1 <;> exact ⟨rfl,rfl⟩
def VV (B:Nat)(x:GV)(u:Value)(w':World):Prop:=∃ cs,(∃ (x':GV)(A:Option Addr)(c:Nat),cs=cellsOf x' A c∧u=dA x' A c)∧RV w' (fun k=>B<=k∧k<w'.heap.size) x cs
section
variable {gd g most:Nat}{P:Nat->Prop}{bad:Bool}{sr:Option (List Int)}{w:World}
theorem VV.cells {B x u w'}(h:VV B x u w'):∃ A c,u=dA x A c∧RV w' (fun k=>B<=k∧k<w'.heap.size) x (cellsOf x A c):=by
 obtain ⟨cs,⟨x',A,c,rfl,rfl⟩,hr⟩:=h;obtain ⟨A2,c2,e,hv⟩:=hr.at_;unfold cellsOf at e;simp only [List.cons.injEq,Value.int.injEq,Value.string.injEq,Value.slice.injEq,true_and,and_true] at e;obtain ⟨e1,e2,e3,e4,e5,e6⟩:=e;subst e4;subst e6;refine ⟨A,c,?_,hv.rv⟩;simp only [dA,e1,e2,e3,e5]
noncomputable def a00:=RG Tryz.f196
noncomputable abbrev a2j:Code:=.seq (a00 0) (.seq (a00 1) .ret)
theorem a28:Tryz.f196.body=some a2j:=U
theorem aJ2 {f:Nat}{b2 b3:Nat}{L:Int}(hL:IntKind.i64.wrap (L+1)=L+1)(hD:DS gd g most P bad sr w)(c2:qc w b2 0 (qp gd))(c3:qc w b3 0 L)
  (hc:∀ V,Ext w V->qg 172 #[qp gd,.int .i64 (L+1)] V (aMs gd g most P (uW most f) (VV V) bad sr V)) :
  qg 196 #[qp b2,qp b3] w (aMs gd g most P (uW most f) (VV w) bad sr w):=by
 refine bW Tryz.func196 a28 rfl O (fun a Q sz df ea hQ=>?_);have e0:=ea 0 (qp b2) rfl;have e1:=ea 1 (qp b3) rfl;obtain ⟨hl1,hl2,hl3⟩:=hD.lt;have hx:Ext w (w.alloc (qk #[qz,qz,qe,qn] 85)):=(aq w).alloc' _;have hB:=aw w 85 #[qz,qz,qe,qn];refine rS ?_;refine lv (w1:=w.alloc (qk #[qz,qz,qe,qn] 85)) (v:=qp w) ?_ (hrun:=by simp [execOp,go_sem, *];try rfl);refine lE a [0,1] 2 ?_;intro a1 u1 e2;refine u1.c2 sz df e0 e1 fun sz df e0 e1=>?_
 replace c2:=aA hx c2;replace c3:=aA hx c3;replace hc:=hc _ hx;have hsz:w.heap.size<(w.alloc (qk #[qz,qz,qe,qn] 85)):=O;generalize w.alloc (qk #[qz,qz,qe,qn] 85)=W at *;refine rS ?_;iterate 3 refine lv ?_
 refine lc Tryz.func172 hc ?_;rintro e w1 ⟨x,bad',sr',u,rfl,hv,hD1,hbb,hd,hf⟩;refine ⟨_,rfl,?_⟩;obtain ⟨A,c,rfl,hrv⟩:=hv.cells;have hB1:Blk w1 w 85 #[qz,qz,qe,qn]:=hB.fr hf (fun h=>by omega);refine ls (w1:=w1.setCells w 0 (cellsOf x A c)) ?_ (hrun:=by simp [execOp,go_sem,hB1.cell,hB1.frozen, *];rfl);have hB2:=aG (cellsOf x A c) (cs:=[qz,qz,qe,qn]) 0 hB1 gi;have hf2:Fr (fun k=>k=w.heap.size) w1 (w1.setCells w 0 (cellsOf x A c)):=(au _ w1).setCells _ 0 (.inl rfl);have hs2:=hf2.size;have q0:=hB2.cell' (u:=↑x.kind) 0 rfl;have q1:=hB2.cell' (u:=↑x.n) 1 rfl;have q2:=hB2.cell' (u:=x.s) 2 rfl;have q3:=hB2.cell' (u:=.slice A x.kids c) 3 rfl;refine lE a1 [] 2 ?_;intro a2 u2 e2;generalize w1.setCells w 0 (cellsOf x A c)=w2 at *;exact wp_ret (hQ _ _ (dA x A c) (u2.df.trans df) (by simp [results,Tryz.results196,go_sem,evT e2,q0,q1,q2,q3];try rfl) ⟨x,bad',sr',_,rfl,⟨_,⟨x,A,c,rfl,rfl⟩,RV.carry (aB.of_fr hf2 (fun k hk h=>by have:=hk.1;omega)) (fun k hk h=>by have:=h.1;omega) hrv⟩,hD1.fr hf2 (fun e=>by omega) (fun e=>by omega) (fun k hk e=>by have:=hl3 k hk;omega),hbb,hd,((ar hx).trans hf).trans_new (hf2.mono fun k hk=>.inr I)⟩)
theorem aAz {w' B v l}(h:Lst w' (fun k=>B<=k∧k<w'.heap.size) 4 (RV w' (fun k=>B<=k∧k<w'.heap.size)) v l):bT w' (fun k=>B<=k∧k<w'.heap.size) v l:=nV.2 h
noncomputable def aRc:=RG Tryz.f172
noncomputable abbrev a2l:Code:=.seq (aRc 0) (.seq (.seq (aRc 1) (.cond (.tmp 7) (.seq (aRc 2) (.seq (aRc 3) .ret)) .skip)) (.seq (aRc 4) (.seq (aRc 5) (.seq (aRc 6) .ret))))
theorem a0t:Tryz.f172.body=some a2l:=U
theorem aC5 (hm:most<=100000000000):∀ (f:Nat) bad sr w,f<=131073->DS gd g most P bad sr w->qg 172 #[qp gd,.int .i64 ((131073:Int) - (f:Int))] w (aMs gd g most P (uW most f) (VV w) bad sr w):=by
 intro f
 induction f with
 | zero =>
  intro bad sr w hf0 hD;obtain ⟨hl1,hl2,hl3⟩:=hD.lt;refine bW Tryz.func172 a0t rfl O (fun a Q sz df ea hQ=>?_);refine rS ?_;have x1:Ext w (w.alloc (qk #[qp gd] 179)):=(aq w).alloc' _;have B1:=aw w 179 #[qp gd];have s1:w.heap.size<(w.alloc (qk #[qp gd] 179)):=by simp
  refine lv (w1:=w.alloc (qk #[qp gd] 179)) (v:=qp w) ?_ (hrun:=by simp [execOp,go_sem, *];try rfl);generalize w.alloc (qk #[qp gd] 179)=W1 at *;have x2:Ext W1 (W1.alloc (qk #[.int .i64 131073] 3)):=(aq W1).alloc' _;have B2:=aw W1 3 #[.int .i64 131073];have s2:W1.heap.size<(W1.alloc (qk #[.int .i64 131073] 3)):=by simp
  refine lv (w1:=W1.alloc (qk #[.int .i64 131073] 3)) (v:=qp W1) ?_ (hrun:=by simp [execOp,go_sem, *];try rfl);generalize W1.alloc (qk #[.int .i64 131073] 3)=W2 at *;have x3:Ext W2 (W2.alloc (qk #[qz,qz,qe,qn] 85)):=(aq W2).alloc' _;have B3:=aw W2 85 #[qz,qz,qe,qn];have s3:W2.heap.size<(W2.alloc (qk #[qz,qz,qe,qn] 85)):=by simp
  refine lv (w1:=W2.alloc (qk #[qz,qz,qe,qn] 85)) (v:=qp W2) ?_ (hrun:=by simp [execOp,go_sem, *];try rfl);generalize W2.alloc (qk #[qz,qz,qe,qn] 85)=W at *;refine lE3 a [] 2 3 4 ?_;intro a1 u1 e2 e3 e4;refine u1.c0 sz df fun sz df=>?_
  have hx:=(x1.trans' x2).trans' x3;have hbx:=(B1.ext x2).ext x3;have hb3:=B2.ext x3;have c2:=hbx.cell' (u:=qp gd) 0 rfl;have c3:=hb3.cell' (u:=.int .i64 131073) 0 rfl;replace hD:=hD.ext hx;refine wp_seq (rS ?_);iterate 2 refine lv ?_
  refine lE a1 [2,3,4] 7 ?_;intro a2 u2 e7;refine u2.c3 sz df e2 e3 e4 fun sz df e2 e3 e4=>?_
  refine wp_cond_true (e7.trans O) (rS ?_);have f0:=hD.box.frozen 2;have p2:=hD.box.cell' (u:=bad) 2 rfl;iterate 3 refine lv ?_
  refine ls (w1:=W.setCell (qt gd 2) true) ?_ (hrun:=by simp [execOp,go_sem, *];try rfl);have hD2:=hD.mark;have hF2:Fr (fun k=>k=gd) W (W.setCell (qt gd 2) true):=(au (fun k=>k=gd) W).setCell (p:=qt gd 2) (.inl rfl) _;generalize W.setCell (qt gd 2) true=w5 at *;refine lN a2 [4] ?_;intro a4 u4;refine u4.c1 sz df e4 fun sz df e4=>?_
  have hb45:=B3.fr hF2 (fun h=>by omega);refine rS ?_;refine lv ?_;refine ls (w1:=w5.setCells W2 0 [qz,qz,qe,qn]) ?_ (hrun:=by simp [execOp,go_sem,hb45.cell,hb45.frozen, *];try rfl);have hB6:=aG [qz,qz,qe,qn] (cs:=[qz,qz,qe,qn]) 0 hb45 O;have hF6:Fr (fun k=>k=W2.heap.size) w5 (w5.setCells W2 0 [qz,qz,qe,qn]):=(au _ w5).setCells _ 0 (.inl rfl);have q0:=hB6.cell' (u:=qz) 0 rfl;have q1:=hB6.cell' (u:=qz) 1 rfl;have q2:=hB6.cell' (u:=qe) 2 rfl;have q3:=hB6.cell' (u:=qn) 3 rfl;generalize w5.setCells W2 0 [qz,qz,qe,qn]=w6 at *;refine lN a4 [4] ?_;intro a5 u5;refine u5.c1 sz df e4 fun sz df e4=>?_
  exact wp_ret (hQ _ _ (.agg #[qz,qz,qe,qn]) df (by simp [results,Tryz.results172,go_sem,evT e4,q0,q1,q2,q3];try rfl) ⟨.mk 0 0 ⟨#[]⟩ [],true,sr,_,rfl,⟨_,⟨.mk 0 0 ⟨#[]⟩ [],none,0,rfl,rfl⟩,RV.mk_iff.2 ⟨jE,jE,cq,_,rfl,nV.2 ⟨none,0,[],rfl,ab _,⟨O,cq⟩,⟨O,fun h=>absurd h O⟩,rfl⟩⟩⟩,hD2.fr hF6 (fun h=>by omega) (fun h=>by omega) (fun k hk h=>by have:=hl3 k hk;omega),fun _=>rfl,cC.eqD (by cases bad <;> cases sr <;> rfl),(ar hx).trans_new ((hF2.mono fun k h=>.inl (.inr h)).trans (hF6.mono fun k h=>.inr I))⟩)
 | succ f ih =>
  intro bad sr w hf0 hD;obtain ⟨hl1,hl2,hl3⟩:=hD.lt;have hLv:(131073:Int) - ((f+1:Nat):Int)=131072 - (f:Int):=by omega
  rw [hLv];refine bW Tryz.func172 a0t rfl O (fun a Q sz df ea hQ=>?_);refine rS ?_;have x1:Ext w (w.alloc (qk #[qp gd] 179)):=(aq w).alloc' _;have B1:=aw w 179 #[qp gd];have s1:w.heap.size<(w.alloc (qk #[qp gd] 179)):=by simp
  refine lv (w1:=w.alloc (qk #[qp gd] 179)) (v:=qp w) ?_ (hrun:=by simp [execOp,go_sem, *];try rfl);generalize w.alloc (qk #[qp gd] 179)=W1 at *;have x2:Ext W1 (W1.alloc (qk #[.int .i64 (131072 - (f:Int))] 3)):=(aq W1).alloc' _;have B2:=aw W1 3 #[.int .i64 (131072 - (f:Int))];have s2:W1.heap.size<(W1.alloc (qk #[.int .i64 (131072 - (f:Int))] 3)):=by simp
  refine lv (w1:=W1.alloc (qk #[.int .i64 (131072 - (f:Int))] 3)) (v:=qp W1) ?_ (hrun:=by simp [execOp,go_sem, *];try rfl);generalize W1.alloc (qk #[.int .i64 (131072 - (f:Int))] 3)=W2 at *;have x3:Ext W2 (W2.alloc (qk #[qz,qz,qe,qn] 85)):=(aq W2).alloc' _;have B3:=aw W2 85 #[qz,qz,qe,qn];have s3:W2.heap.size<(W2.alloc (qk #[qz,qz,qe,qn] 85)):=by simp
  refine lv (w1:=W2.alloc (qk #[qz,qz,qe,qn] 85)) (v:=qp W2) ?_ (hrun:=by simp [execOp,go_sem, *];try rfl);generalize W2.alloc (qk #[qz,qz,qe,qn] 85)=W at *;refine lE3 a [] 2 3 4 ?_;intro a1 u1 e2 e3 e4;refine u1.c0 sz df fun sz df=>?_
  have hx:=(x1.trans' x2).trans' x3;have hbx:=(B1.ext x2).ext x3;have hb3:=B2.ext x3;have c2:=hbx.cell' (u:=qp gd) 0 rfl;have c3:=hb3.cell' (u:=.int .i64 (131072 - (f:Int))) 0 rfl;replace hD:=hD.ext hx;refine wp_seq (rS ?_);iterate 2 refine lv ?_
  refine lE a1 [2,3,4] 7 ?_;intro a2 u2 e7;refine u2.c3 sz df e2 e3 e4 fun sz df e2 e3 e4=>?_
  refine wp_cond_false (e7.trans bh) (wp_skip (wp_seq (aKx sz e2 c2 ⟨I,I,I⟩ hD ?_)));intro a3 w3 G k n s t1 t2 t3 u3 e5 hG hGl hD3 hF3 d1 d2 d3 hk hn hs;refine u3.c3 sz df e2 e3 e4 fun sz df e2 e3 e4=>?_
  have hs3:=hF3.size;have hbx3:=hbx.fr hF3 (fun h=>by rcases h with h | h <;> omega);have hb33:=hb3.fr hF3 (fun h=>by rcases h with h | h <;> omega);have hb43:=B3.fr hF3 (fun h=>by rcases h with h | h <;> omega);have c2':=hbx3.cell' (u:=qp gd) 0 rfl
  have hlist:=aFf aL2 (uW most f) _ Tryz.func170 a0u rfl (fun ts w=>by simp [results,Tryz.results170,go_sem]) aUo hD3 hm (F:=.func (.func 196) #[] #[qp w.heap.size,qp W1]) (fun V bad' sr' hfV hDV=>by
   refine ⟨196,#[],_,Tryz.f196,rfl,Tryz.func196,ba,ba,?_⟩;have k2:=(hbx3.fr hfV (fun h=>by rcases h with h | h | h <;> omega)).cell' (u:=qp gd) 0 rfl;have k3:=(hb33.fr hfV (fun h=>by rcases h with h | h | h <;> omega)).cell' (u:=.int .i64 (131072 - (f:Int))) 0 rfl;refine aJ2 (L:=131072 - (f:Int)) (wrI I I) hDV k2 k3 (fun V' hx'=>?_);have:=ih bad' sr' V' I (hDV.ext hx');rw [show (131072:Int) - (f:Int)+1=131073 - (f:Int) by omega];exact this)
  refine rS ?_;iterate 2 refine lv ?_
  refine lc Tryz.func170 hlist ?_;rintro e w4 ⟨kids,bad',sr',v,rfl,hkv,hD4,hbb,hd4,hF4⟩;refine ⟨_,rfl,?_⟩;have hG4:=hG.fr hF4 (fun h=>by rcases h with h | h <;> omega);have hb44:=hb43.fr hF4 (fun h=>by rcases h with h | h <;> omega);have hvals:=aAz hkv;obtain ⟨A,c,rfl,hk1,hk2,hk3⟩:=hkv.form;refine lv ?_;have f3:=hG4.frozen 3;have g3:=hG4.cell' (u:=qn) 3 rfl;refine ls (w1:=w4.setCell (qt G 3) (.slice A kids c)) ?_ (hrun:=by simp [execOp,go_sem, *];try rfl);have hG5:Blk (w4.setCell (qt G 3) (.slice A kids c)) G 85 #[↑k,↑n,.string s,.slice A kids c]:=by simpa using hG4.set_ 3 (.slice A kids c)
  have hF5:Fr (fun k=>k=G) w4 (w4.setCell (qt G 3) (.slice A kids c)):=(au (fun k=>k=G) w4).setCell (p:=qt G 3) (.inl rfl) _;generalize w4.setCell (qt G 3) (.slice A kids c)=w5 at *;refine lN a3 [4,5] ?_;intro a4 u4;refine u4.c2 sz df e4 e5 fun sz df e4 e5=>?_
  have hb45:=hb44.fr hF5 (fun h=>by omega);have q0:=hG5.cell' (u:=.int .i64 k) 0 rfl;have q1:=hG5.cell' (u:=↑n) 1 rfl;have q2:=hG5.cell' (u:=.string s) 2 rfl;have q3:=hG5.cell' (u:=.slice A kids c) 3 rfl;refine rS ?_;refine lv ?_;refine ls (w1:=w5.setCells W2 0 [.int .i64 k,.int .i64 n,.string s,.slice A kids c]) ?_ (hrun:=by simp [execOp,go_sem,hb45.cell,hb45.frozen, *];try rfl);have hB6:=aG [.int .i64 k,.int .i64 n,.string s,.slice A kids c] (cs:=[qz,qz,qe,qn]) 0 hb45 O;have hF6:Fr (fun k=>k=W2.heap.size) w5 (w5.setCells W2 0 [.int .i64 k,.int .i64 n,.string s,.slice A kids c]):=(au _ w5).setCells _ 0 (.inl rfl);clear q0 q1 q2 q3;have q0:=hB6.cell' (u:=.int .i64 k) 0 rfl;have q1:=hB6.cell' (u:=↑n) 1 rfl;have q2:=hB6.cell' (u:=.string s) 2 rfl;have q3:=hB6.cell' (u:=.slice A kids c) 3 rfl;generalize w5.setCells W2 0 [.int .i64 k,.int .i64 n,.string s,.slice A kids c]=w6 at *;refine lN a4 [4] ?_;intro a5 u5;refine u5.c1 sz df e4 fun sz df e4=>?_
  have hs5:=hF5.size;have hs6:=hF6.size;have hG3:=hG.lt;have hF56:Fr (fun k=>k=G∨k=W2.heap.size) w4 w6:=(hF5.mono fun k h=>.inl h).trans (hF6.mono fun k h=>.inr h);refine wp_ret (hQ _ _ (.agg #[.int .i64 k,↑n,.string s,.slice A kids c]) df (by simp [results,Tryz.results172,go_sem,evT e4,q0,q1,q2,q3];try rfl) ⟨.mk k n s kids,bad',sr',_,rfl,⟨_,⟨.mk k n s kids,A,c,rfl,rfl⟩,RV.mk_iff.2 ⟨hk,hn,I,_,rfl,hvals.carry (aB.of_fr hF56 (fun k hk h=>by rcases h with h | h <;> omega)) (fun k _ hk=>by omega)⟩⟩,hD4.fr hF56 (fun h=>by rcases h with h | h <;> omega) (fun h=>by rcases h with h | h <;> omega) (fun k hk h=>by have:=hl3 k hk;rcases h with h | h <;> omega),hbb,cC.eqD ?_,((((ar hx).trans hF3).trans hF4).trans_new (hF56.mono fun k h=>.inr (by rcases h with h | h <;> omega)))⟩);show (stD bad sr).bind (fun l=>(eD l).bind fun k=>(eD k.2).bind fun n=>(yT n.2).bind fun s=>(oC most (uW most f) s.2).map fun c=>(GV.mk k.1 n.1 s.1 c.1,c.2))=_;rw [d1.bindD bad];dsimp only;rw [d2.bindD bad];dsimp only;rw [d3.bindD bad];dsimp only;exact hd4.mapD (fun c=>GV.mk k n s c)
end
theorem cC.bindS {α β:Type}{d x0 x s s1}(h:cC d x0 s x s1)(K:α × List Int->Option (β × List Int)):s.bind (fun l=>(d l).bind K)=s1.bind (fun r=>K (x,r)):=h.bindD false K
theorem cC.toD {α}{d:Dec α}{x0 x s s1}(h:cC d x0 s x s1)(bad):cC d x (stD bad s) x (stD bad s1):=by
 cases bad with
 | true=>exact ⟨rfl,rfl⟩
 | false =>
  show cC d x s x s1;unfold cC at h ⊢;cases hs:s.bind d with
  | none=>rw [hs] at h;exact ⟨rfl,h.2⟩
  | some y=>rw [hs] at h;exact h
def aWt (x:Int)(cs:List Value):Prop:=I64 x∧cs=[.int .i64 x]
theorem aU7:aJl 1 (fun _ _=>aWt):=⟨fun _ _ _ _ h=>by rw [h.2];rfl,fun _ _ _ _ _ _ h _ _=>h⟩
theorem aY4:aJl 1 (fun _ _=>aJt):=⟨fun _ _ _ _ h=>aJt.len _ _ h,fun _ _ _ _ _ _ h _ _=>h⟩
theorem aNy:∀ {l cs},RL aWt l cs->(∀ x ∈ l,I64 x)∧cs=l.map (Value.int .i64)
 | [],cs,h=>⟨fun _ hx=>(List.not_mem_nil hx).elim,h⟩
 | x :: l,cs,⟨c1,c2,e,⟨h1,e1⟩,h2⟩=>by
  obtain ⟨h3,e3⟩:=aNy h2;subst e e1 e3;refine ⟨fun y hy=>?_,rfl⟩;rcases ao.1 hy with rfl | hy
  ·exact h1
  ·exact h3 y hy
theorem aEr {w P v l}(h:Lst w P 1 aWt v l):Ints w P v l:=by
 obtain ⟨A,c,css,rfl,h1,h2,h3,h4⟩:=h;obtain ⟨h5,rfl⟩:=aNy h4;exact ⟨A,c,rfl,h1,h2,h5,h3⟩
def VN (B:Nat)(x:GN)(u:Value)(w':World):Prop:=∃ cs,(∃ (x':GN)(na:NA),cs=aK x' na∧u=fU x' na)∧RN w' (fun k=>B<=k∧k<w'.heap.size) x cs
section
variable {gd g most:Nat}{P:Nat->Prop}{bad:Bool}{sr:Option (List Int)}{w:World}
theorem aVd (hD:DS gd g most P bad sr w):aBf (.func (.func 77) #[qp g] #[]) w (aMs gd g most P eD (fun x u w'=>∃ cs,(∃ x,cs=[.int .i64 x]∧u=.int .i64 x)∧aWt x cs) bad sr w):=by
 refine ⟨77,_,_,Tryz.f77,rfl,Tryz.func77,ba,ba,(mV hD.rd).mono ?_⟩;rintro e w1 ⟨x,s1,v,rfl,⟨rfl,hx⟩,hs,hd,hf⟩;exact ⟨x,bad,s1,_,rfl,⟨_,⟨x,rfl,rfl⟩,hx,rfl⟩,hD.read hf hs,fun h=>h,hd.toD bad,hf.mono fun k hk=>.inl hk⟩
theorem aY7 (hD:DS gd g most P bad sr w):aBf (.func (.func 167) #[qp g] #[]) w (aMs gd g most P yT (fun x u w'=>∃ cs,(∃ x,cs=[.string x]∧u=.string x)∧aJt x cs) bad sr w):=by
 refine ⟨167,_,_,Tryz.f167,rfl,Tryz.func167,ba,ba,(aBx hD.rd).mono ?_⟩;rintro e w1 ⟨x,s1,v,rfl,⟨rfl,hx⟩,hs,hd,hf⟩;exact ⟨x,bad,s1,_,rfl,⟨_,⟨x,rfl,rfl⟩,I,rfl⟩,hD.read hf hs,fun h=>h,hd.toD bad,hf.mono fun k hk=>.inl hk⟩
noncomputable def a01:=RG Tryz.f171
noncomputable abbrev a2m:Code:=.seq (a01 0) (.seq (a01 1) .ret)
theorem a3a:Tryz.f171.body=some a2m:=U
theorem aP2 {b2}(hm:most<=100000000000)(hD:DS gd g most P bad sr w)(c2:qc w b2 0 (qp gd)) :
  qg 171 #[qp b2] w (aMs gd g most P (uW most 131072) (VV w) bad sr w):=by
 refine bW Tryz.func171 a3a rfl O (fun a Q sz df ea hQ=>?_);have e0:=ea 0 (qp b2) rfl;obtain ⟨hl1,hl2,hl3⟩:=hD.lt;have hx:Ext w (w.alloc (qk #[qz,qz,qe,qn] 85)):=(aq w).alloc' _;have hB:=aw w 85 #[qz,qz,qe,qn];refine rS ?_;refine lv (w1:=w.alloc (qk #[qz,qz,qe,qn] 85)) (v:=qp w) ?_ (hrun:=by simp [execOp,go_sem, *];try rfl);refine lE a [0] 1 ?_;intro a1 u1 e1;refine u1.c1 sz df e0 fun sz df e0=>?_
 replace c2:=aA hx c2;have hc:=aC5 hm 131072 bad sr _ I (hD.ext hx);rw [show (131073:Int) - ((131072:Nat):Int)=1 by omega] at hc;have hsz:w.heap.size<(w.alloc (qk #[qz,qz,qe,qn] 85)):=by simp
 generalize w.alloc (qk #[qz,qz,qe,qn] 85)=W at *;refine rS ?_;refine lv ?_;refine lc Tryz.func172 hc ?_;rintro e w1 ⟨x,bad',sr',u,rfl,hv,hD1,hbb,hd,hf⟩;refine ⟨_,rfl,?_⟩;obtain ⟨A,c,rfl,hrv⟩:=hv.cells;have hB1:Blk w1 w 85 #[qz,qz,qe,qn]:=hB.fr hf (fun h=>by omega);refine ls (w1:=w1.setCells w 0 (cellsOf x A c)) ?_ (hrun:=by simp [execOp,go_sem,hB1.cell,hB1.frozen, *];rfl);have hB2:=aG (cellsOf x A c) (cs:=[qz,qz,qe,qn]) 0 hB1 gi;have hf2:Fr (fun k=>k=w.heap.size) w1 (w1.setCells w 0 (cellsOf x A c)):=(au _ w1).setCells _ 0 (.inl rfl);have hs2:=hf2.size;have q0:=hB2.cell' (u:=↑x.kind) 0 rfl;have q1:=hB2.cell' (u:=↑x.n) 1 rfl;have q2:=hB2.cell' (u:=x.s) 2 rfl;have q3:=hB2.cell' (u:=.slice A x.kids c) 3 rfl;refine lE a1 [] 1 ?_;intro a2 u2 e2;generalize w1.setCells w 0 (cellsOf x A c)=w2 at *;exact wp_ret (hQ _ _ (dA x A c) (u2.df.trans df) (by simp [results,Tryz.results171,go_sem,evT e2,q0,q1,q2,q3];try rfl) ⟨x,bad',sr',_,rfl,⟨_,⟨x,A,c,rfl,rfl⟩,RV.carry (aB.of_fr hf2 (fun k hk h=>by have:=hk.1;omega)) (fun k hk h=>by have:=h.1;omega) hrv⟩,hD1.fr hf2 (fun e=>by omega) (fun e=>by omega) (fun k hk e=>by have:=hl3 k hk;omega),hbb,hd,((ar hx).trans hf).trans_new (hf2.mono fun k hk=>.inr I)⟩)
theorem aK2 {Q a bx G u0 u1 u2 u3 u5 u6 u7 u8 u9 u10 u11}(sz:a.tmps.size=57)(eb:qq a 1 (qp bx))(eg:qq a 3 (qp G))(cb:qc w bx 0 (qp gd))(hbx:bx<w∧bx ≠ g∧bx ≠ gd)(hG:G ≠ g∧G ≠ gd∧∀ k,P k->k ≠ G)(hm:most<=100000000000)(hD:DS gd g most P bad sr w)(hX:Blk w G 87 #[u0,u1,u2,u3,qn,u5,u6,u7,u8,u9,u10,u11])
  (hQ:∀ (a':Act)(w':World)(l:List Int)(v:Value)(bad':Bool)(sr':Option (List Int)),Ag [1,2,3] a a'->Blk w' G 87 #[u0,u1,u2,u3,v,u5,u6,u7,u8,u9,u10,u11]->Ints w' (fun k=>w.heap.size<=k∧k<w'.heap.size) v l->DS gd g most P bad' sr' w'->(bad=true->bad'=true)->cC (oC most eD) l (stD bad sr) l (stD bad' sr')->Fr (fun k=>k=g∨k=gd∨k=G) w w'->Q .normal a' w'):qw (RG Tryz.f123 2) Q a w:=by
 obtain ⟨hl1,hl2,hl3⟩:=hD.lt;obtain ⟨hG1,hG2,hG3⟩:=hG;have hx0:Ext w w.drew:=(aq w).drew';have hS:SRd bx gd g w.drew:=⟨aA hx0 cb,aA hx0 (hD.box.cell' (u:=qp g) 0 rfl)⟩;refine rD (SRd bx gd g) (fun q=>q != 8) 9 ?_;replace hD:=hD.ext hx0;replace hX:=hX.ext hx0;have hs0:=hx0.size;have hF0:=ar (M:=fun k=>k=g∨k=gd∨k=G) hx0;generalize w.drew=W at *;refine dt 3 [0,1,2,3,4,5] (hS:=hS) ?_;iterate 6 refine tv ?_ (hy:=by (intro w hw;simp [execOp,go_sem,hw.1,hw.2, *];rfl))
 refine t_e ?_;refine dc 6 Tryz.func168 (aFf aU7 eD _ Tryz.func168 a0v rfl (fun ts w=>by simp [results,Tryz.results168,go_sem]) aUp hD hm (F:=.func (.func 77) #[qp g] #[]) (fun V bad' sr' hfV hDV=>aVd hDV)) ?_;rintro e w1 ⟨l,bad',sr',v,rfl,hv,hD1,hbb,hd,hf⟩;have hS1:SRd bx gd g w1:=⟨(World.cell?_of_block (w:=W) (w':=w1) (hf.block bx I (fun h=>h.elim hbx.2.1 hbx.2.2))).trans hS.1,hD1.box.cell' (u:=qp g) 0 rfl⟩;refine ⟨_,rfl,fun _=>hS1,?_⟩;have hX1:=hX.fr hf (fun h=>h.elim hG1 hG2);obtain ⟨A,c,rfl,hk1,hk2,hk3⟩:=hv.form;have f3:=hX1.frozen 4;have g3:=hX1.cell' (u:=qn) 4 rfl;refine dv 7 ?_ (hS:=fun _=>hS1);refine dq 8 (w1:=w1.setCell (qt G 4) (.slice A l c)) ?_ (hrun:=by simp [execOp,go_sem, *];try rfl);have hX2:Blk (w1.setCell (qt G 4) (.slice A l c)) G 87 #[u0,u1,u2,u3,.slice A l c,u5,u6,u7,u8,u9,u10,u11]:=by simpa using hX1.set_ 4 (.slice A l c)
 have hF2:Fr (fun k=>k=G) w1 (w1.setCell (qt G 4) (.slice A l c)):=(au (fun k=>k=G) w1).setCell (p:=qt G 4) (.inl rfl) _;have hs2:=hF2.size;have hXl:=hX.lt;generalize w1.setCell (qt G 4) (.slice A l c)=w2 at *;refine d_E a [1,2,3] ?_;intro a' u';exact hQ a' w2 l _ bad' sr' u' hX2 ((aEr hv).carry (aB.of_fr hF2 (fun k hk h=>by have:=hk.1;omega)) (fun k hk h=>by have:=h.1;omega)) (hD1.fr hF2 (fun e=>hG1 e.symm) (fun e=>hG2 e.symm) hG3) hbb hd ((hF0.trans (hf.mono fun k h=>h.elim .inl (fun h=>.inr (.inl h)))).trans (hF2.mono fun k h=>.inr (.inr h)))
theorem aK1 {Q a bx G u0 u1 u2 u3 u4 u6 u7 u8 u9 u10 u11}(sz:a.tmps.size=57)(eb:qq a 1 (qp bx))(eg:qq a 3 (qp G))(cb:qc w bx 0 (qp gd))(hbx:bx<w∧bx ≠ g∧bx ≠ gd)(hG:G ≠ g∧G ≠ gd∧∀ k,P k->k ≠ G)(hm:most<=100000000000)(hD:DS gd g most P bad sr w)(hX:Blk w G 87 #[u0,u1,u2,u3,u4,qn,u6,u7,u8,u9,u10,u11])
  (hQ:∀ (a':Act)(w':World)(l:List ByteArray)(v:Value)(bad':Bool)(sr':Option (List Int)),Ag [1,2,3] a a'->Blk w' G 87 #[u0,u1,u2,u3,u4,v,u6,u7,u8,u9,u10,u11]->nW w' (fun k=>w.heap.size<=k∧k<w'.heap.size) v l->DS gd g most P bad' sr' w'->(bad=true->bad'=true)->cC (oC most yT) l (stD bad sr) l (stD bad' sr')->Fr (fun k=>k=g∨k=gd∨k=G) w w'->Q .normal a' w'):qw (RG Tryz.f123 3) Q a w:=by
 obtain ⟨hl1,hl2,hl3⟩:=hD.lt;obtain ⟨hG1,hG2,hG3⟩:=hG;have hx0:Ext w w.drew:=(aq w).drew';have hS:SRd bx gd g w.drew:=⟨aA hx0 cb,aA hx0 (hD.box.cell' (u:=qp g) 0 rfl)⟩;refine rD (SRd bx gd g) (fun q=>q != 8) 9 ?_;replace hD:=hD.ext hx0;replace hX:=hX.ext hx0;have hs0:=hx0.size;have hF0:=ar (M:=fun k=>k=g∨k=gd∨k=G) hx0;generalize w.drew=W at *;refine dt 3 [0,1,2,3,4,5] (hS:=hS) ?_;iterate 6 refine tv ?_ (hy:=by (intro w hw;simp [execOp,go_sem,hw.1,hw.2, *];rfl))
 refine t_e ?_;refine dc 6 Tryz.func169 (aFf aY4 yT _ Tryz.func169 a3b rfl (fun ts w=>by simp [results,Tryz.results169,go_sem]) aYu hD hm (F:=.func (.func 167) #[qp g] #[]) (fun V bad' sr' hfV hDV=>aY7 hDV)) ?_;rintro e w1 ⟨l,bad',sr',v,rfl,hv,hD1,hbb,hd,hf⟩;have hS1:SRd bx gd g w1:=⟨(World.cell?_of_block (w:=W) (w':=w1) (hf.block bx I (fun h=>h.elim hbx.2.1 hbx.2.2))).trans hS.1,hD1.box.cell' (u:=qp g) 0 rfl⟩;refine ⟨_,rfl,fun _=>hS1,?_⟩;have hX1:=hX.fr hf (fun h=>h.elim hG1 hG2);obtain ⟨A,c,rfl,hk1,hk2,hk3⟩:=hv.form;have f3:=hX1.frozen 5;have g3:=hX1.cell' (u:=qn) 5 rfl;refine dv 7 ?_ (hS:=fun _=>hS1);refine dq 8 (w1:=w1.setCell (qt G 5) (.slice A l c)) ?_ (hrun:=by simp [execOp,go_sem, *];try rfl);have hX2:Blk (w1.setCell (qt G 5) (.slice A l c)) G 87 #[u0,u1,u2,u3,u4,.slice A l c,u6,u7,u8,u9,u10,u11]:=by simpa using hX1.set_ 5 (.slice A l c)
 have hF2:Fr (fun k=>k=G) w1 (w1.setCell (qt G 5) (.slice A l c)):=(au (fun k=>k=G) w1).setCell (p:=qt G 5) (.inl rfl) _;have hs2:=hF2.size;have hXl:=hX.lt;generalize w1.setCell (qt G 5) (.slice A l c)=w2 at *;refine d_E a [1,2,3] ?_;intro a' u';exact hQ a' w2 l _ bad' sr' u' hX2 ((show nW _ _ _ _ from hv).carry (aB.of_fr hF2 (fun k hk h=>by have:=hk.1;omega)) (fun k hk h=>by have:=h.1;omega)) (hD1.fr hF2 (fun e=>hG1 e.symm) (fun e=>hG2 e.symm) hG3) hbb hd ((hF0.trans (hf.mono fun k h=>h.elim .inl (fun h=>.inr (.inl h)))).trans (hF2.mono fun k h=>.inr (.inr h)))
theorem aKz {Q a bx G u0 u1 u2 u3 u4 u5 u6 u8 u9 u10 u11}(sz:a.tmps.size=57)(eb:qq a 1 (qp bx))(eg:qq a 3 (qp G))(cb:qc w bx 0 (qp gd))(hbx:bx<w∧bx ≠ g∧bx ≠ gd)(hG:G ≠ g∧G ≠ gd∧∀ k,P k->k ≠ G)(hm:most<=100000000000)(hD:DS gd g most P bad sr w)(hX:Blk w G 87 #[u0,u1,u2,u3,u4,u5,u6,qn,u8,u9,u10,u11])
  (hQ:∀ (a':Act)(w':World)(l:List Int)(v:Value)(bad':Bool)(sr':Option (List Int)),Ag [1,2,3] a a'->Blk w' G 87 #[u0,u1,u2,u3,u4,u5,u6,v,u8,u9,u10,u11]->Ints w' (fun k=>w.heap.size<=k∧k<w'.heap.size) v l->DS gd g most P bad' sr' w'->(bad=true->bad'=true)->cC (oC most eD) l (stD bad sr) l (stD bad' sr')->Fr (fun k=>k=g∨k=gd∨k=G) w w'->Q .normal a' w'):qw (RG Tryz.f123 5) Q a w:=by
 obtain ⟨hl1,hl2,hl3⟩:=hD.lt;obtain ⟨hG1,hG2,hG3⟩:=hG;have hx0:Ext w w.drew:=(aq w).drew';have hS:SRd bx gd g w.drew:=⟨aA hx0 cb,aA hx0 (hD.box.cell' (u:=qp g) 0 rfl)⟩;refine rD (SRd bx gd g) (fun q=>q != 8) 9 ?_;replace hD:=hD.ext hx0;replace hX:=hX.ext hx0;have hs0:=hx0.size;have hF0:=ar (M:=fun k=>k=g∨k=gd∨k=G) hx0;generalize w.drew=W at *;refine dt 3 [0,1,2,3,4,5] (hS:=hS) ?_;iterate 6 refine tv ?_ (hy:=by (intro w hw;simp [execOp,go_sem,hw.1,hw.2, *];rfl))
 refine t_e ?_;refine dc 6 Tryz.func168 (aFf aU7 eD _ Tryz.func168 a0v rfl (fun ts w=>by simp [results,Tryz.results168,go_sem]) aUp hD hm (F:=.func (.func 77) #[qp g] #[]) (fun V bad' sr' hfV hDV=>aVd hDV)) ?_;rintro e w1 ⟨l,bad',sr',v,rfl,hv,hD1,hbb,hd,hf⟩;have hS1:SRd bx gd g w1:=⟨(World.cell?_of_block (w:=W) (w':=w1) (hf.block bx I (fun h=>h.elim hbx.2.1 hbx.2.2))).trans hS.1,hD1.box.cell' (u:=qp g) 0 rfl⟩;refine ⟨_,rfl,fun _=>hS1,?_⟩;have hX1:=hX.fr hf (fun h=>h.elim hG1 hG2);obtain ⟨A,c,rfl,hk1,hk2,hk3⟩:=hv.form;have f3:=hX1.frozen 7;have g3:=hX1.cell' (u:=qn) 7 rfl;refine dv 7 ?_ (hS:=fun _=>hS1);refine dq 8 (w1:=w1.setCell (qt G 7) (.slice A l c)) ?_ (hrun:=by simp [execOp,go_sem, *];try rfl);have hX2:Blk (w1.setCell (qt G 7) (.slice A l c)) G 87 #[u0,u1,u2,u3,u4,u5,u6,.slice A l c,u8,u9,u10,u11]:=by simpa using hX1.set_ 7 (.slice A l c)
 have hF2:Fr (fun k=>k=G) w1 (w1.setCell (qt G 7) (.slice A l c)):=(au (fun k=>k=G) w1).setCell (p:=qt G 7) (.inl rfl) _;have hs2:=hF2.size;have hXl:=hX.lt;generalize w1.setCell (qt G 7) (.slice A l c)=w2 at *;refine d_E a [1,2,3] ?_;intro a' u';exact hQ a' w2 l _ bad' sr' u' hX2 ((aEr hv).carry (aB.of_fr hF2 (fun k hk h=>by have:=hk.1;omega)) (fun k hk h=>by have:=h.1;omega)) (hD1.fr hF2 (fun e=>hG1 e.symm) (fun e=>hG2 e.symm) hG3) hbb hd ((hF0.trans (hf.mono fun k h=>h.elim .inl (fun h=>.inr (.inl h)))).trans (hF2.mono fun k h=>.inr (.inr h)))
end
abbrev zNd:List Value:=[qz,qe,qz,qz,qn,qn,qn,qn,qz,qz,qe,qn]
section
variable {gd g most:Nat}{P:Nat->Prop}{bad:Bool}{sr:Option (List Int)}{w:World}
theorem aK0 {Q a bx G u0 u1 u2 u3 u4 u5 u7 u8 u9 u10 u11}(sz:a.tmps.size=57)(eb:qq a 1 (qp bx))(eg:qq a 3 (qp G))(cb:qc w bx 0 (qp gd))(hbx:bx<w∧bx ≠ g∧bx ≠ gd)(hG:G ≠ g∧G ≠ gd∧∀ k,P k->k ≠ G)(hm:most<=100000000000)(hD:DS gd g most P bad sr w)(hX:Blk w G 87 #[u0,u1,u2,u3,u4,u5,qn,u7,u8,u9,u10,u11])
  (hQ:∀ (a':Act)(w':World)(l:List GV)(v:Value)(bad':Bool)(sr':Option (List Int)),Ag [1,2,3] a a'->Blk w' G 87 #[u0,u1,u2,u3,u4,u5,v,u7,u8,u9,u10,u11]->bT w' (fun k=>w.heap.size<=k∧k<w'.heap.size) v l->DS gd g most P bad' sr' w'->(bad=true->bad'=true)->cC (oC most (uW most 131072)) l (stD bad sr) l (stD bad' sr')->Fr (fun k=>k=g∨k=gd∨k=G) w w'->Q .normal a' w'):qw (RG Tryz.f123 4) Q a w:=by
 obtain ⟨hl1,hl2,hl3⟩:=hD.lt;obtain ⟨hG1,hG2,hG3⟩:=hG;refine rW ?_;iterate 2 refine lv ?_
 refine lc Tryz.func170 (aFf aL2 (uW most 131072) _ Tryz.func170 a0u rfl (fun ts w=>by simp [results,Tryz.results170,go_sem]) aUo hD hm (F:=.func (.func 171) #[] #[qp bx]) (fun V bad' sr' hfV hDV=>⟨171,#[],_,Tryz.f171,rfl,Tryz.func171,ba,ba,aP2 hm hDV ((World.cell?_of_block (w:=w) (w':=V) (hfV.block bx hbx.1 (fun h=>h.elim hbx.2.1 (fun h=>h.elim hbx.2.2 (fun h=>by omega))))).trans cb)⟩)) ?_;rintro e w1 ⟨l,bad',sr',v,rfl,hv,hD1,hbb,hd,hf⟩;refine ⟨_,rfl,?_⟩;have hX1:=hX.fr hf (fun h=>h.elim hG1 hG2);have hvals:=aAz hv;obtain ⟨A,c,rfl,hk1,hk2,hk3⟩:=hv.form;have f3:=hX1.frozen 6;have g3:=hX1.cell' (u:=qn) 6 rfl;refine lv ?_;refine ls (w1:=w1.setCell (qt G 6) (.slice A l c)) ?_ (hrun:=by simp [execOp,go_sem, *];try rfl);have hX2:Blk (w1.setCell (qt G 6) (.slice A l c)) G 87 #[u0,u1,u2,u3,u4,u5,.slice A l c,u7,u8,u9,u10,u11]:=by simpa using hX1.set_ 6 (.slice A l c)
 have hF2:Fr (fun k=>k=G) w1 (w1.setCell (qt G 6) (.slice A l c)):=(au (fun k=>k=G) w1).setCell (p:=qt G 6) (.inl rfl) _;have hs2:=hF2.size;have hXl:=hX.lt;generalize w1.setCell (qt G 6) (.slice A l c)=w2 at *;refine lN a [1,2,3] ?_;intro a' u';exact hQ a' w2 l _ bad' sr' u' hX2 (hvals.carry (aB.of_fr hF2 (fun k hk h=>by have:=hk.1;omega)) (fun k hk h=>by have:=h.1;omega)) (hD1.fr hF2 (fun e=>hG1 e.symm) (fun e=>hG2 e.symm) hG3) hbb hd ((hf.mono fun k h=>h.elim .inl (fun h=>.inr (.inl h))).trans (hF2.mono fun k h=>.inr (.inr h)))
theorem aKy {Q a bx G u0 u1 u2 u3 u4 u5 u6 u7}(sz:a.tmps.size=57)(eb:qq a 1 (qp bx))(eg:qq a 3 (qp G))(cb:qc w bx 0 (qp gd))(hG:G ≠ g∧G ≠ gd∧∀ k,P k->k ≠ G)(hm:most<=100000000000)(hD:DS gd g most P bad sr w)(hX:Blk w G 87 #[u0,u1,u2,u3,u4,u5,u6,u7,qz,qz,qe,qn])
  (hQ:∀ (a':Act)(w':World)(x:GV)(A:Option Addr)(c:Nat)(bad':Bool)(sr':Option (List Int)),Ag [1,2,3] a a'->Blk w' G 87 #[u0,u1,u2,u3,u4,u5,u6,u7,x.kind,x.n,x.s,.slice A x.kids c]->VAt w' (fun k=>w.heap.size<=k∧k<w'.heap.size) x A c->DS gd g most P bad' sr' w'->(bad=true->bad'=true)->cC (uW most 131072) x (stD bad sr) x (stD bad' sr')->Fr (fun k=>k=g∨k=gd∨k=G) w w'->Q .normal a' w'):qw (RG Tryz.f123 6) Q a w:=by
 obtain ⟨hl1,hl2,hl3⟩:=hD.lt;obtain ⟨hG1,hG2,hG3⟩:=hG;have hc:=aC5 hm 131072 bad sr _ I hD;rw [show (131073:Int) - ((131072:Nat):Int)=1 by omega] at hc;refine rW ?_;refine lv ?_;refine lc Tryz.func172 hc ?_;rintro e w1 ⟨x,bad',sr',u,rfl,hv,hD1,hbb,hd,hf⟩;refine ⟨_,rfl,?_⟩;have hX1:=hX.fr hf (fun h=>h.elim hG1 hG2);obtain ⟨A,c,rfl,hrv⟩:=hv.cells;obtain ⟨A2,c2,he,hva⟩:=hrv.at_;unfold cellsOf at he;simp only [List.cons.injEq,Value.slice.injEq,true_and,and_true] at he;obtain ⟨rfl,rfl⟩:=he;refine lv ?_;refine ls (w1:=w1.setCells G 8 (cellsOf x A c)) ?_ (hrun:=by simp [execOp,go_sem,hX1.cell,hX1.frozen, *];rfl);have hX2:=aG (cellsOf x A c) (cs:=[u0,u1,u2,u3,u4,u5,u6,u7,qz,qz,qe,qn]) 8 hX1 gi;have hF2:Fr (fun k=>k=G) w1 (w1.setCells G 8 (cellsOf x A c)):=(au _ w1).setCells _ 8 (.inl rfl);have hs2:=hF2.size;have hXl:=hX.lt;generalize w1.setCells G 8 (cellsOf x A c)=w2 at *;refine lN a [1,2,3] ?_;intro a' u';exact hQ a' w2 x A c bad' sr' u' hX2 (hva.carry (aB.of_fr hF2 (fun k hk h=>by have:=hk.1;omega)) (fun k hk h=>by have:=h.1;omega)) (hD1.fr hF2 (fun e=>hG1 e.symm) (fun e=>hG2 e.symm) hG3) hbb hd ((hf.mono fun k h=>h.elim .inl (fun h=>.inr (.inl h))).trans (hF2.mono fun k h=>.inr (.inr h)))
noncomputable def aNz:=RG Tryz.f123
noncomputable abbrev a20:Code:=.seq (aNz 0) (.seq (aNz 1) (.seq (aNz 2) (.seq (aNz 3) (.seq (aNz 4) (.seq (aNz 5) (.seq (aNz 6) (.seq (aNz 7) .ret)))))))
theorem a3p:Tryz.f123.body=some a20:=U
theorem aP3 (hm:most<=100000000000)(hD:DS gd g most P bad sr w):qg 123 #[qp gd] w (aMs gd g most P (tZ most) (VN w) bad sr w):=by
 refine bW Tryz.func123 a3p rfl O (fun a Q sz df ea hQ=>?_);obtain ⟨hl1,hl2,hl3⟩:=hD.lt;refine rS ?_;have x1:Ext w (w.alloc (qk #[qp gd] 179)):=(aq w).alloc' _;have B1:=aw w 179 #[qp gd];have s1:w.heap.size<(w.alloc (qk #[qp gd] 179)):=by simp
 refine lv (w1:=w.alloc (qk #[qp gd] 179)) (v:=qp w) ?_ (hrun:=by simp [execOp,go_sem, *];try rfl);generalize w.alloc (qk #[qp gd] 179)=W1 at *;have x2:Ext W1 (W1.alloc (qk zNd.toArray 87)):=(aq W1).alloc' _;have B2:=aw W1 87 zNd.toArray;have s2:W1.heap.size<(W1.alloc (qk zNd.toArray 87)):=by simp
 refine lv (w1:=W1.alloc (qk zNd.toArray 87)) (v:=qp W1) ?_ (hrun:=by simp [execOp,go_sem, *];try rfl);generalize W1.alloc (qk zNd.toArray 87)=W at *;refine lE2 a [] 1 2 ?_;intro a1 u1 e1 e2;refine u1.c0 sz df fun sz df=>?_
 have hx:=x1.trans' x2;have hbx:=B1.ext x2;have c1:=hbx.cell' (u:=qp gd) 0 rfl;replace hD:=hD.ext hx;refine wp_seq (aK3 sz e1 c1 ⟨I,I,I⟩ hD ?_);intro a2 w2 G k nm lo hi t1 t2 t3 t4 u2 e3 hX2 hGl hD2 hF2 d1 d2 d3 d4 hk hnm hlo hhi;refine u2.c2 sz df e1 e2 fun sz df e1 e2=>?_
 have hGX:=hX2.lt;have hbx2:=hbx.fr hF2 (fun h=>by rcases h with h | h <;> omega);have hr2:=B2.fr hF2 (fun h=>by rcases h with h | h <;> omega);have hGn:G ≠ g∧G ≠ gd∧∀ k,P k->k ≠ G:=⟨I,I,fun k hk e=>by have:=hl3 k hk;omega⟩;refine wp_seq (aK2 sz e1 e3 (hbx2.cell' 0 rfl) ⟨hbx2.lt,I,I⟩ hGn hm hD2 hX2 ?_);intro a3 w3 ws vw bd3 t5 u3 hX3 hws hD3 hb3 d5 hF3;refine u3.c3 sz df e1 e2 e3 fun sz df e1 e2 e3=>?_
 have z3:=hF3.size;have hbx3:=hbx2.fr hF3 (fun h=>by rcases h with h | h | h <;> omega);have hr3:=hr2.fr hF3 (fun h=>by rcases h with h | h | h <;> omega);refine wp_seq (aK1 sz e1 e3 (hbx3.cell' 0 rfl) ⟨hbx3.lt,I,I⟩ hGn hm hD3 hX3 ?_);intro a4 w4 lbs vl bd4 t6 u4 hX4 hls hD4 hb4 d6 hF4;refine u4.c3 sz df e1 e2 e3 fun sz df e1 e2 e3=>?_
 have z4:=hF4.size;have hbx4:=hbx3.fr hF4 (fun h=>by rcases h with h | h | h <;> omega);have hr4:=hr3.fr hF4 (fun h=>by rcases h with h | h | h <;> omega);refine wp_seq (aK0 sz e1 e3 (hbx4.cell' 0 rfl) ⟨hbx4.lt,I,I⟩ hGn hm hD4 hX4 ?_);intro a5 w5 vs vv bd5 t7 u5 hX5 hvs hD5 hb5 d7 hF5;refine u5.c3 sz df e1 e2 e3 fun sz df e1 e2 e3=>?_
 have z5:=hF5.size;have hbx5:=hbx4.fr hF5 (fun h=>by rcases h with h | h | h <;> omega);have hr5:=hr4.fr hF5 (fun h=>by rcases h with h | h | h <;> omega);refine wp_seq (aKz sz e1 e3 (hbx5.cell' 0 rfl) ⟨hbx5.lt,I,I⟩ hGn hm hD5 hX5 ?_);intro a6 w6 ks vk bd6 t8 u6 hX6 hks hD6 hb6 d8 hF6;refine u6.c3 sz df e1 e2 e3 fun sz df e1 e2 e3=>?_
 have z6:=hF6.size;have hbx6:=hbx5.fr hF6 (fun h=>by rcases h with h | h | h <;> omega);have hr6:=hr5.fr hF6 (fun h=>by rcases h with h | h | h <;> omega);refine wp_seq (aKy sz e1 e3 (hbx6.cell' 0 rfl) hGn hm hD6 hX6 ?_);intro a7 w7 x xA xc bd7 t9 u7 hX7 hxv hD7 hb7 d9 hF7;refine u7.c3 sz df e1 e2 e3 fun sz df e1 e2 e3=>?_
 have z7:=hF7.size;have hr7:=hr6.fr hF7 (fun h=>by rcases h with h | h | h <;> omega);have hF67:=hF7;have hF57:=hF6.trans hF67;have hF47:=hF5.trans hF57;have hF37:=hF4.trans hF47;obtain ⟨wA,wc,rfl,-,-,-⟩:=hws.form;obtain ⟨lA,lc_,rfl,-,-,-⟩:=hls.form;obtain ⟨vA,vc,rfl,-,-,-⟩:=(nV.1 hvs).form;obtain ⟨kA,kc,rfl,-,-,-⟩:=hks.form;have q0:=hX7.cell' (u:=↑k) 0 rfl;have q1:=hX7.cell' (u:=nm) 1 rfl;have q2:=hX7.cell' (u:=↑lo) 2 rfl;have q3:=hX7.cell' (u:=↑hi) 3 rfl;have q4:=hX7.cell' (u:=.slice wA ws wc) 4 rfl;have q5:=hX7.cell' (u:=.slice lA lbs lc_) 5 rfl;have q6:=hX7.cell' (u:=.slice vA vs vc) 6 rfl;have q7:=hX7.cell' (u:=.slice kA ks kc) 7 rfl;have q8:=hX7.cell' (u:=↑x.kind) 8 rfl;have q9:=hX7.cell' (u:=↑x.n) 9 rfl;have q10:=hX7.cell' (u:=x.s) 10 rfl;have q11:=hX7.cell' (u:=.slice xA x.kids xc) 11 rfl
 let na:NA:=⟨wA,wc,lA,lc_,vA,vc,kA,kc,xA,xc⟩
 let nd:GN:=⟨k,nm,lo,hi,ws,lbs,vs,ks,x⟩
 refine rS ?_;refine lv ?_;refine ls (w1:=w7.setCells W1 0 (aK nd na)) ?_ (hrun:=by simp [execOp,go_sem,hr7.cell,hr7.frozen, *];try rfl);have hB8:=aG (aK nd na) (cs:=zNd) 0 hr7 (by simp [aK,zNd]);have hF8:Fr (fun k=>k=W1.heap.size) w7 (w7.setCells W1 0 (aK nd na)):=(au _ w7).setCells _ 0 (.inl rfl);have z8:=hF8.size;have p0:=hB8.cell' (u:=.int .i64 k) 0 rfl;have p1:=hB8.cell' (u:=nm) 1 rfl;have p2:=hB8.cell' (u:=↑lo) 2 rfl;have p3:=hB8.cell' (u:=↑hi) 3 rfl;have p4:=hB8.cell' (u:=.slice wA ws wc) 4 rfl;have p5:=hB8.cell' (u:=.slice lA lbs lc_) 5 rfl;have p6:=hB8.cell' (u:=.slice vA vs vc) 6 rfl;have p7:=hB8.cell' (u:=.slice kA ks kc) 7 rfl;have p8:=hB8.cell' (u:=↑x.kind) 8 rfl;have p9:=hB8.cell' (u:=↑x.n) 9 rfl;have p10:=hB8.cell' (u:=x.s) 10 rfl;have p11:=hB8.cell' (u:=.slice xA x.kids xc) 11 rfl;clear q0 q1 q2 q3 q4 q5 q6 q7 q8 q9 q10 q11;generalize w7.setCells W1 0 (aK nd na)=w8 at *;refine lN a7 [2] ?_;intro a8 u8;refine u8.c1 sz df e2 fun sz df e2=>?_
 have kp:∀ (V:World) (B:Nat),w2<=B->Fr (fun k=>k=g∨k=gd∨k=G) V w7->aB (fun k=>B<=k∧k<V.heap.size) V w8:=fun V B hB hF=>aB.of_fr ((hF.mono (fun k h=>Or.inl h)).trans (hF8.mono (fun k h=>Or.inr h))) (fun k hk h=>by have:=hk.1;rcases h with (h | h | h) | h <;> omega)
 have hN:NAt w8 (fun k=>w.heap.size<=k∧k<w8.heap.size) nd na:=⟨hk,by show nm.size<=_;omega,hlo,hhi,hws.carry (kp _ _ (ab _) hF37) (fun k _ h=>by omega),hls.carry (kp _ _ I hF47) (fun k _ h=>by omega),hvs.carry (kp _ _ I hF57) (fun k _ h=>by omega),hks.carry (kp _ _ I hF67) (fun k _ h=>by omega),hxv.carry (kp _ _ I (au _ _)) (fun k _ h=>by omega)⟩;have hF28:Fr (fun k=>(k=g∨k=gd)∨w.heap.size<=k) w2 w8:=((hF3.trans hF37).mono (fun k h=>by rcases h with h | h | h <;> omega)).trans (hF8.mono fun k h=>by omega);refine wp_ret (hQ _ _ (fU nd na) df (by simp [results,Tryz.results123,go_sem,evT e2,p0,p1,p2,p3,p4,p5,p6,p7,p8,p9,p10,p11];exact ⟨rfl,rfl,rfl,rfl,⟨rfl,rfl,rfl⟩,⟨rfl,rfl,rfl⟩,⟨rfl,rfl,rfl⟩,⟨rfl,rfl,rfl⟩,rfl,rfl,rfl,rfl,rfl,rfl⟩) ⟨nd,bd7,t9,_,rfl,⟨_,⟨nd,na,rfl,rfl⟩,na,rfl,hN⟩,hD7.fr hF8 (fun e=>by omega) (fun e=>by omega) (fun k hk e=>by have:=hl3 k hk;omega),fun h=>hb7 (hb6 (hb5 (hb4 (hb3 h)))),cC.eqD ?_,((ar hx).trans hF2).trans_new hF28⟩);show (stD bad sr).bind (fun l=>(eD l).bind fun k=>(yT k.2).bind fun n=>(eD n.2).bind fun lo=>(eD lo.2).bind fun hi=>(oC most eD hi.2).bind fun ws=>(oC most yT ws.2).bind fun ls=>(oC most (uW most 131072) ls.2).bind fun vs=>(oC most eD vs.2).bind fun ks=>(uW most 131072 ks.2).map fun v=>((⟨k.1,n.1,lo.1,hi.1,ws.1,ls.1,vs.1,ks.1,v.1⟩:GN),v.2))=_;rw [d1.bindD bad];dsimp only;rw [d2.bindD bad];dsimp only;rw [d3.bindD bad];dsimp only;rw [d4.bindD bad];dsimp only;rw [d5.bindS];dsimp only;rw [d6.bindS];dsimp only;rw [d7.bindS];dsimp only;rw [d8.bindS];dsimp only;exact d9.mapD (fun v=>(⟨k,nm,lo,hi,ws,lbs,vs,ks,v⟩:GN))
end
theorem aQm {l:List Int}{t s'}(hd:cC (oC l (tZ l)) t (some l) t s'):uY l=if s'=some [] then some t else none:=by
 unfold uY;unfold cC at hd;simp only [aj] at hd;cases h:oC l (tZ l) l with
 | none=>rw [h] at hd;rw [if_neg (by rw [hd.2];exact fun h=>by cases h)]
 | some y =>
  rw [h] at hd;obtain ⟨y1,y2⟩:=y;obtain ⟨e1,e2⟩:=hd;subst e1;rw [e2];cases y2 with
  | nil=>rw [if_pos rfl]
  | cons z zs=>rw [if_neg (fun h=>by cases h)]
noncomputable def R75:=RG Tryz.f75
noncomputable abbrev c75:Code:=.seq (R75 0) (.seq (R75 1) (.seq (R75 2) (.seq (.seq (R75 3) (.cond (.tmp 28) (.seq (R75 4) .ret) .skip)) (.seq (R75 5) .ret))))
theorem b75:Tryz.f75.body=some c75:=U
def a3u (l:List Int)(w:World)(e:Ending)(w':World):Prop:=Ext w w'∧∃ v err,e=.returned (.tuple #[.agg #[v],.int .i64 err])∧match uY l with
 | some t=>err=0∧Nds w' (fun k=>w.heap.size<=k) v t
 | none=>err=2∧v=↑qn
theorem aOk {Q a w gd g most P bad sr}(sz:a.tmps.size=31)(e4:qq a 4 (qp gd))(hD:DS gd g most P bad sr w)(hQ:∀ a' bb,Ag [2,4,5] a a'->qq a' 28 (.bool bb)->(bb=false ↔ bad=false∧sr=some [])->Q .normal a' w):qw (RG Tryz.f75 3) Q a w:=by
 have c0:=hD.box.cell' (u:=qp g) 0 rfl;have c2:=hD.box.cell' (u:=bad) 2 rfl;refine rW ?_;cases bad with
 | true =>
  iterate 5 refine lv ?_
  iterate 6 refine ln ?_
  refine lv ?_;exact lE a [2,4,5] 28 (fun a' u e=>hQ a' true u e O) (he:=by simp [*])
 | false =>
  iterate 5 refine lv ?_
  iterate 4 refine ly ?_
  refine lcg Tryz.func80 (aU6 hD.rd) ?_;rintro e w1 ⟨r,rfl,hr,rfl⟩;refine ⟨_,rfl,?_⟩;refine ly ?_;refine lv ?_;exact lE a [2,4,5] 28 (v:=(r != 0)) (fun a' u e=>hQ a' _ u e (by simp [<- hr])) (he:=by clear hr hQ;simp [*])
theorem aRt {w T A c l}(hl:l.length<=10000000000)(hb:Byt l)(hs:Sl w T 1 A l (l.map (Value.int .u8))):qg 75 #[.slice A l c] w (a3u l w):=by
 refine bW Tryz.func75 b75 rfl O (fun a Q sz df ea hQ=>?_);have e0:=ea 0 (.slice A l c) rfl;refine rS ?_;have x1:Ext w (w.alloc (qk #[qn] 25)):=(aq w).alloc' _;have B1:=aw w 25 #[qn];have s1:w.heap.size<(w.alloc (qk #[qn] 25)):=by simp
 refine lv (w1:=w.alloc (qk #[qn] 25)) (v:=qp w) ?_ (hrun:=by simp [execOp,go_sem, *];try rfl);replace hs:=hs.ext x1;generalize w.alloc (qk #[qn] 25)=W1 at *;refine lv ?_;refine lE a [0] 2 ?_;intro a1 u1 e2;refine u1.c1 sz df e0 fun sz df e0=>?_
 refine rS ?_;refine lv ?_;refine lc Tryz.func74 (aMz (c:=c) hl hb hs) ?_;rintro e w2 ⟨g,P,rfl,hR,hg,hP,x2⟩;refine ⟨_,rfl,?_⟩;have hlt:=hR.glt;refine lv ?_;refine lv ?_;refine lv ?_;have x3:Ext w2 (w2.alloc (qk #[qp g,↑(l:Int),false] 181)):=(aq w2).alloc' _;have B3:=aw w2 181 #[qp g,↑(l:Int),false];have s3:w2.heap.size<(w2.alloc (qk #[qp g,↑(l:Int),false] 181)):=by simp
 refine lv (w1:=w2.alloc (qk #[qp g,↑(l:Int),false] 181)) (v:=qp w2) ?_ (hrun:=by simp [execOp,go_sem, *];try rfl);have hD:DS w2 g l P false (some l) (w2.alloc (qk #[qp g,↑(l:Int),false] 181)):=⟨B3,hR.ext x3,I,fun k hk e=>by have:=hlt.2 k hk;omega⟩;generalize w2.alloc (qk #[qp g,↑(l:Int),false] 181)=W3 at *;refine lv ?_;refine lE a1 [2] 4 ?_;intro a2 u2 e4;refine u2.c1 sz df e2 fun sz df e2=>?_
 have z1:=x2.size;have hx13:=x2.trans' x3;have B13:=B1.ext hx13;refine rS ?_;iterate 3 refine lv ?_
 refine lc Tryz.func122 (aFf aA0 (tZ l) _ Tryz.func122 a3q rfl (fun ts w=>by simp [results,Tryz.results122,go_sem]) aYv hD I (F:=.func (.func 123) #[qp w2] #[]) (fun V bad' sr' hfV hDV=>⟨123,_,#[],Tryz.f123,rfl,Tryz.func123,ba,ba,aP3 I hDV⟩)) ?_;rintro e w4 ⟨t,bad',sr',v,rfl,hv,hD4,-,hd,hf⟩;refine ⟨_,rfl,?_⟩;have z4:=hf.size;have B14:=B13.fr hf (fun h=>by rcases h with h | h <;> omega);obtain ⟨At,ct,rfl,hk1,hk2,hk3⟩:=hv.form;refine lv ?_;have x5:Ext w4 (w4.alloc (qk #[qn] 25)):=(aq w4).alloc' _;have B5:=aw w4 25 #[qn];refine lv (w1:=w4.alloc (qk #[qn] 25)) (v:=qp w4) ?_ (hrun:=by simp [execOp,go_sem, *];try rfl);generalize w4.alloc (qk #[qn] 25)=W5 at *;have f5:=B5.frozen 0;have g5:=B5.cell' (u:=qn) 0 rfl;refine ls (w1:=W5.setCell (qp w4) (.slice At t ct)) ?_ (hrun:=by simp [execOp,go_sem, *];try rfl);have B6:Blk (W5.setCell (qp w4) (.slice At t ct)) w4 25 #[.slice At t ct]:=by simpa using B5.set_ 0 (.slice At t ct)
 have F6:Fr (fun k=>k=w4.heap.size) W5 (W5.setCell (qp w4) (.slice At t ct)):=(au (fun k=>k=w4.heap.size) W5).setCell (p:=qp w4) (.inl rfl) _;generalize W5.setCell (qp w4) (.slice At t ct)=W6 at *;have B16:=(B14.ext x5).fr F6 (fun h=>by omega);have hD6:=(hD4.ext x5).fr F6 (fun h=>by omega) (fun h=>by omega) (fun k hk h=>by have:=hlt.2 k hk;omega);have x46:Ext w4 W6:=((ar x5).trans F6).new_ext (fun b hb=>Nat.le_of_eq hb.symm);have xw4:Ext w w4:=((ar (x1.trans' (x2.trans' x3))).trans hf).new_ext (fun b hb=>by rcases hb with h | h <;> omega);have xw6:=xw4.trans' x46;have hT:=aQm (l:=l) (t:=t) (s':=stD bad' sr') hd;refine lE a2 [2,4] 5 ?_;intro a3 u3 e5;refine u3.c2 sz df e2 e4 fun sz df e2 e4=>?_
 refine wp_seq (wp_seq (aOk sz e4 hD6 ?_));intro a4 bb u4 e28 hbb;refine u4.c2 sz df e2 e5 fun sz df e2 e5=>?_
 cases bb with
 | true =>
  have hT2:uY l=none:=by
   rw [hT,if_neg];intro h;cases bad' with
   | true=>cases h
   | false=>exact absurd (hbb.2 ⟨rfl,h⟩) cq
  refine wp_cond_true e28 (rS ?_);refine lv ?_;have f1:=B16.frozen 0;have g1:=B16.cell' (u:=qn) 0 rfl;refine ls (w1:=W6.setCell (qp w) qn) ?_ (hrun:=by simp [execOp,go_sem, *];try rfl);have B7:Blk (W6.setCell (qp w) qn) w 25 #[qn]:=by simpa using B16.set_ 0 qn
  have x7:=xw6.setCell' (p:=qp w) (ab _) qn;have q0:=B7.cell' (u:=qn) 0 rfl;generalize W6.setCell (qp w) qn=W7 at *;refine lv ?_;refine lE2 a4 [] 2 3 ?_;intro a5 u5 e2 e3;exact wp_ret (hQ _ _ (.tuple #[.agg #[qn],.int .i64 2]) (u5.df.trans df) (by simp [results,Tryz.results75,go_sem,evT e2,evT e3,q0];try rfl) ⟨x7,_,_,rfl,by rw [hT2];exact ⟨rfl,rfl⟩⟩)
 | false =>
  obtain ⟨rfl,rfl⟩:=hbb.1 rfl;have hT2:uY l=some t:=by rw [hT];exact if_pos rfl
  refine wp_cond_false e28 (wp_skip (rS ?_));have h5:=B6.cell' (u:=.slice At t ct) 0 rfl;have f1:=B16.frozen 0;have g1:=B16.cell' (u:=qn) 0 rfl;refine lv ?_;refine ls (w1:=W6.setCell (qp w) (.slice At t ct)) ?_ (hrun:=by simp [execOp,go_sem, *];try rfl);have B7:Blk (W6.setCell (qp w) (.slice At t ct)) w 25 #[.slice At t ct]:=by simpa using B16.set_ 0 (.slice At t ct)
  have x7:=xw6.setCell' (p:=qp w) (ab _) (.slice At t ct);have F7:Fr (fun k=>k=w.heap.size) W6 (W6.setCell (qp w) (.slice At t ct)):=(au (fun k=>k=w.heap.size) W6).setCell (p:=qp w) (.inl rfl) _;have q0:=B7.cell' (u:=.slice At t ct) 0 rfl;have hv7:Nds (W6.setCell (qp w) (.slice At t ct)) (fun k=>w.heap.size<=k) (.slice At t ct) t:=Nds.carry (Nds.carry hv (aB.of_ext x46) (Q:=fun k=>w.heap.size<k) (fun k _ h=>by have:=h.1;omega)) (aB.of_fr F7 (fun k hk h=>by omega)) (fun k _ h=>Nat.le_of_lt h);generalize W6.setCell (qp w) (.slice At t ct)=W7 at *;refine lv ?_;refine lE2 a4 [] 2 3 ?_;intro a5 u5 e2 e3;exact wp_ret (hQ _ _ (.tuple #[.agg #[.slice At t ct],qz]) (u5.df.trans df) (by simp [results,Tryz.results75,go_sem,evT e2,evT e3,q0];try rfl) ⟨x7,_,_,rfl,by rw [hT2];exact ⟨rfl,hv7⟩⟩)
def aCj (t:List GN)(b:Int)(L:List GE):Prop:=(∀ e ∈ L,aL t e.path=true∧1<=e.hits)∧mB L∧bC L<=b
open Classical in
noncomputable def aFx (l:List Int):Option (List GN × Int × List GE):=(qQ l).bind fun x=>(uY x.1).bind fun t=>if aY t=0 then (eD x.2).bind fun b=>if 0<=b.1∧b.1<=1099511627776 then (eD b.2).bind fun n=>if 0<=n.1∧n.1<=256 then (iR lW n.1.toNat n.2).bind fun y=>if aCj t b.1 y.1∧y.2=[] then some (t,b.1,y.1) else none else none else none else none
theorem aFw {l t b L}(hl:Byt l)(h:aFx l=some (t,b,L)):l=qP t b L∧aY t=0∧(0<=b∧b<=1099511627776)∧L.length<=256∧aCj t b L:=by
 unfold aFx at h;cases h1:qQ l with
 | none=>rw [h1] at h;cases h
 | some x =>
  obtain ⟨tb,r1⟩:=x;obtain ⟨e1,c1⟩:=oY _ _ _ hl h1;rw [h1] at h;simp only [aj] at h;have hl1:Byt r1:=by rw [e1,Byt.app] at hl;exact hl.2
  cases h2:uY tb with
  | none=>rw [h2] at h;cases h
  | some t' =>
   have e2:=uX c1 h2;rw [h2] at h;simp only [aj] at h;by_cases hv:aY t'=0
   ·rw [if_pos hv] at h
    cases h3:eD r1 with
    | none=>rw [h3] at h;cases h
    | some y =>
     obtain ⟨b',r2⟩:=y;obtain ⟨e3,-⟩:=bU _ _ _ hl1 h3;have hl2:Byt r2:=by rw [e3,Byt.app] at hl1;exact hl1.2
     rw [h3] at h;simp only [aj] at h;by_cases hb:0<=b'∧b'<=1099511627776
     ·rw [if_pos hb] at h
      cases h4:eD r2 with
      | none=>rw [h4] at h;cases h
      | some z =>
       obtain ⟨n,r3⟩:=z;obtain ⟨e4,-⟩:=bU _ _ _ hl2 h4;have hl3:Byt r3:=by rw [e4,Byt.app] at hl2;exact hl2.2
       rw [h4] at h;simp only [aj] at h;by_cases hn:0<=n∧n<=256
       ·rw [if_pos hn] at h
        cases h5:iR lW n.toNat r3 with
        | none=>rw [h5] at h;cases h
        | some q =>
         obtain ⟨L',r4⟩:=q;obtain ⟨e5,hlen,-⟩:=kQ vB _ _ _ _ hl3 h5;rw [h5] at h;simp only [aj] at h;by_cases hg:aCj t' b' L'∧r4=[]
         ·rw [if_pos hg] at h
          obtain ⟨rfl,h6⟩:=Prod.mk.inj (Option.some.inj h);obtain ⟨rfl,rfl⟩:=Prod.mk.inj h6;obtain ⟨hg1,rfl⟩:=hg;refine ⟨?_,hv,hb,I,hg1⟩;have hn2:(L':Int)=n:=by omega
          rw [e1,e2,e3,e4,e5,qP,hn2,List.append_nil]
         ·rw [if_neg hg] at h;cases h
       ·rw [if_neg hn] at h;cases h
     ·rw [if_neg hb] at h;cases h
   ·rw [if_neg hv] at h;cases h
theorem aFv {t b L}(ht:∀ x ∈ t,wfN x)(hl:(oR t).length<=1000000000000)(hv:aY t=0)(hb:0<=b∧b<=1099511627776)(hn:L.length<=256)(hE:∀ e ∈ L,wfE e)(hg:aCj t b L):aFx (qP t b L)=some (t,b,L):=by
 unfold aFx qP;rw [uZ I];simp only [aj];rw [aFt ht hl];simp only [aj];rw [if_pos hv,cE I];simp only [aj];rw [if_pos hb,cE I];simp only [aj];rw [if_pos I];have:=kP (d:=lW) (f:=sU) L (fun e he=>aFu (hE e he)) [];rw [List.append_nil] at this;rw [show ((L:Int)).toNat=L by omega,this];simp only [aj];rw [if_pos ⟨hg,rfl⟩]
theorem RS.byt {g P l w}(h:RS g P (some l) w):Byt l:=by
 obtain ⟨A,c,e,l',h1,-,rfl⟩:=h;exact h1.byt
theorem cC.rawLen {s s' x}{N:Nat}(h:cC qQ [] s x s')(hb:∀ l,s=some l->Byt l∧l<=N):x<=N∧(∀ l,s'=some l->Byt l∧l<=N):=by
 unfold cC at h;cases s with
 | none=>obtain ⟨rfl,rfl⟩:=h;exact ⟨af _,fun l h=>by cases h⟩
 | some l =>
  obtain ⟨h1,h2⟩:=hb l rfl;simp only [aj] at h;cases hd:qQ l with
  | none=>rw [hd] at h;obtain ⟨rfl,rfl⟩:=h;exact ⟨af _,fun l h=>by cases h⟩
  | some y =>
   rw [hd] at h;obtain ⟨y1,y2⟩:=y;obtain ⟨rfl,rfl⟩:=h;obtain ⟨e,-⟩:=oY _ _ _ h1 hd;have e2:=congrArg List.length e;simp only [lJ,aa] at e2;refine ⟨I,fun l2 h=>?_⟩;obtain rfl:=Option.some.inj h;rw [e,Byt.app] at h1;exact ⟨h1.2,I⟩
section
variable {g:Nat}{P:Nat->Prop}{s:Option (List Int)}{w:World}{Q:Exit->Act->World->Prop}{a:Act}
theorem aOy (sz:a.tmps.size=123)(e4:qq a 4 (qp g))(hR:RS g P s w)(hN:∀ l,s=some l->l.length<=1000000000)
  (hQ:∀ (a':Act)(w':World)(x:List Int)(s':Option (List Int))(v:Value)(err:Int)(B:Nat),Ag [4] a a'->qq a' 5 (qp B)->qq a' 6 err->Blk w' B 25 #[v]->w<=B->RS g P s' w'->cC qQ [] s x s'->(x.length<=1000000000∧Byt x)->(∀ l,s'=some l->Byt l∧l.length<=1000000000)->(match uY x with
   | some t=>err=0∧Nds w' (fun k=>w.heap.size<=k∧k<w'.heap.size) v t
   | none=>err=2)->Fr (fun k=>k=g) w w'->Q .normal a' w'):qw (RG Tryz.f34 2) Q a w:=by
 refine rW ?_;refine lv ?_;refine lc Tryz.func76 (aW8 hR) ?_;rintro e w1 ⟨x,s1,v1,rfl,⟨A,c,rfl,-,-,-,hbx,hsl⟩,hR1,hd,hf⟩;refine ⟨_,rfl,?_⟩;obtain ⟨hxl,hxs⟩:=hd.rawLen (N:=1000000000) (fun l e=>⟨RS.byt (e ▸ hR),hN l e⟩);refine lc Tryz.func75 (aRt (c:=c) I hbx hsl) ?_;rintro e w2 ⟨x2,v,err,rfl,hT⟩;refine ⟨_,rfl,?_⟩;iterate 3 refine lv ?_
 have x3:Ext w2 (w2.alloc (qk #[qn] 25)):=(aq w2).alloc' _;have B3:=aw w2 25 #[qn];refine lv (w1:=w2.alloc (qk #[qn] 25)) (v:=qp w2) ?_ (hrun:=by simp [execOp,go_sem, *];try rfl);generalize w2.alloc (qk #[qn] 25)=w3 at *;have f3:=B3.frozen 0;have g3:=B3.cell' (u:=qn) 0 rfl
 have hv1:∃ A n c,v=.slice A n c:=by
  cases hT':uY x with
  | none=>rw [hT'] at hT;exact ⟨_,_,_,hT.2⟩
  | some t=>rw [hT'] at hT;obtain ⟨A,c,e,-⟩:=hT.2.form;exact ⟨_,_,_,e⟩
 obtain ⟨Av,nv,cv,rfl⟩:=hv1;refine ls (w1:=w3.setCell (qp w2) (.slice Av nv cv)) ?_ (hrun:=by simp [execOp,go_sem, *];try rfl);have B4:Blk (w3.setCell (qp w2) (.slice Av nv cv)) w2 25 #[.slice Av nv cv]:=by simpa using B3.set_ 0 (.slice Av nv cv)
 have F4:Fr (fun k=>k=w2.heap.size) w3 (w3.setCell (qp w2) (.slice Av nv cv)):=(au (fun k=>k=w2.heap.size) w3).setCell (p:=qp w2) (.inl rfl) _;generalize w3.setCell (qp w2) (.slice Av nv cv)=w4 at *;have x24:Ext w2 w4:=((ar x3).trans F4).new_ext (fun b hb=>Nat.le_of_eq hb.symm);have z1:=hf.size;have z2:=x2.size;have z4:=x24.size;refine lv ?_;refine lE2 a [4] 5 6 ?_;intro a' u e5 e6;refine hQ a' w4 x s1 _ err w2 u e5 e6 B4 I (hR1.ext (x2.trans' x24)) hd ⟨hxl,hbx⟩ hxs ?_ (hf.trans (ar (x2.trans' x24)));cases hT':uY x with
 | none=>rw [hT'] at hT;exact hT.1
 | some t=>rw [hT'] at hT;exact ⟨hT.1,Nds.carry hT.2 (aB.of_ext x24) (fun k hk h=>by omega)⟩
end
theorem aGv {t}(h:(oR t).length<=1000000000):∀ x ∈ t,iD x:=by
 intro x hx
 have h1:(dS x).length<=(oR t):=by
  unfold oR oS;rw [aa];have:=fA dS hx;omega
 unfold dS at h1;simp only [aa] at h1;have hw:=gA fE dB x.weights;have hl:=gA jM nD x.labels;have hv:=gA fQ kN x.values;have hk:=gA fE dB x.kids;have hx:=aCi x.value;refine ⟨I,I,I,I,I,fun u hu=>?_⟩
 have h2:(fQ u).length<=(oS fQ x.values):=by
  unfold oS;rw [aa];have:=fA fQ hu;omega
 have:=aCi u;omega
theorem aGw {x t}(hb:Byt x)(hl:x.length<=1000000000)(h:uY x=some t):∀ n ∈ t,iD n:=aGv (by rw [<- uX hb h];exact hl)
noncomputable def O5:Array Oper:=match RG Tryz.f34 5 with
 | .region _ ops _=>ops
 | _=>#[]
theorem a1z (h:4<O5.size):(O5[4]'h).op=.move (.tmp 27):=rfl
theorem a1y (h:5<O5.size):(O5[5]'h).op=.extract (.tmp 23) 0:=rfl
theorem a1x (h:6<O5.size):(O5[6]'h).op=.extract (.tmp 23) 1:=rfl
theorem a1w (h:7<O5.size):(O5[7]'h).op=.assign (.tmp 28):=rfl
theorem a1v (h:8<O5.size):(O5[8]'h).op=.assign (.tmp 29):=rfl
theorem aOb {K S a0 b w p q}(sz:b.tmps.size=123)(hA:Ag [4] a0 b)(e27:qq b 27 (.tuple #[p,q]))(hS:S w)(h:∀ a',Ag [4] a0 a'->qq a' 6 q->qq a' 7 p->K a' w):WD O5 K S (fun _=>true) 5 [3,2,1,0] b w:=by
 refine dt 0 [4,5,6,7,8] (hS:=hS) ?_;refine tv ?_ (v:=.tuple #[p,q]) (hy:=by (intro w hw;simp [execOp,go_sem,a1z,e27];try rfl));refine tv ?_ (v:=p) (hy:=by (intro w hw;simp [execOp,go_sem,a1y,e27,sz];try rfl));refine tv ?_ (v:=q) (hy:=by (intro w hw;simp [execOp,go_sem,a1x,e27,sz];try rfl));refine tv ?_ (v:=p) (hy:=by (intro w hw;simp [execOp,go_sem,a1w,e27,sz];try rfl));refine tv ?_ (v:=q) (hy:=by (intro w hw;simp [execOp,go_sem,a1v,e27,sz];try rfl));refine t_e ?_;exact jN U (h _ (by (repeat refine .put ?_ rfl);exact hA) ci ci)
section
variable {g:Nat}{P:Nat->Prop}{s:Option (List Int)}{w:World}{Q:Exit->Act->World->Prop}{a:Act}
theorem aOx {PT v t B}(sz:a.tmps.size=123)(e4:qq a 4 (qp g))(e5:qq a 5 (qp B))(hB:Blk w B 25 #[v])(hR:RS g P s w)(hBg:B ≠ g)(hv:Nds w PT v t)(hPT:∀ k,PT k->k<w∧k ≠ g)(hsm:∀ x ∈ t,iD x)
  (hQ:∀ (a':Act)(w1 w':World)(b:Int)(s':Option (List Int))(err:Int)(p:Value),Ag [4] a a'->qq a' 6 err->qq a' 7 p->Fr (fun k=>k=g) w w1->Ext w1 w'->RS g P s' w'->cC eD 0 s b s'->((err ≠ 0∧¬ (aY t=0∧0<=b∧b<=1099511627776))∨(err=0∧aY t=0∧(0<=b∧b<=1099511627776)∧∃ c P' vn',p=↑(qp c.c)∧lC t vn' b [] c P' qn w1 w'))->Q .normal a' w'):qw (RG Tryz.f34 5) Q a w:=by
 have hx0:Ext w w.drew:=(aq w).drew';refine rD (fun W=>qc W B 0 v) (fun _=>true) 9 ?_;have hF0:=ar (M:=fun k=>k=g) hx0;replace hB:=hB.ext hx0;replace hR:=hR.ext hx0;replace hv:=hv.carry (Q:=PT) (aB.of_ext hx0) (fun _ _ h=>h);have z0:=hx0.size;generalize w.drew=W at *;have hS:=hB.cell' (u:=v) 0 rfl;have hPT2:∀ k,PT k->k<W∧k ≠ g:=fun k hk=>⟨by have:=(hPT k hk).1;omega,(hPT k hk).2⟩
 refine dt 7 [0,1] (hS:=hS) ?_;iterate 2 refine tv ?_ (hy:=by (intro w hw;simp [execOp,go_sem, *];try rfl))
 refine t_e ?_;refine dc 2 Tryz.func77 (mV hR) ?_;rintro e w1 ⟨b,s1,u1,rfl,⟨rfl,hb⟩,hR1,hd,hf⟩;have hB1:=hB.fr hf hBg;refine ⟨_,rfl,fun _=>hB1.cell' (u:=v) 0 rfl,?_⟩;have hv1:Nds w1 PT v t:=hv.carry (aB.of_fr hf (fun k hk h=>(hPT k hk).2 h)) (fun _ _ h=>h);have z1:=hf.size;have hP1:∀ k,PT k->k<w1:=fun k hk=>by have:=(hPT2 k hk).1;omega
 have hFr:=hF0.trans hf;by_cases hval:aY t=0
 ·by_cases hbb:0<=b∧b<=1099511627776
  ·refine dc 3 Tryz.func10 (mQ t PT v b w1 hP1 hv1 hsm hval hbb) ?_
   rintro e w2 ⟨c,P',vn',rfl,hM,hx2⟩;have hS2:=(hB1.ext hx2).cell' (u:=v) 0 rfl;refine ⟨_,rfl,fun _=>hS2,?_⟩;exact aOb av Y av hS2 (fun a' u e6 e7=>hQ a' w1 w2 b s1 0 _ u e6 e7 hFr hx2 (hR1.ext hx2) hd (.inr ⟨rfl,hval,hbb,c,P',vn',rfl,hM⟩))
  ·refine dc 3 Tryz.func10 (aFc t PT v b w1 hP1 hv1 (aGy hsm) hval I) ?_
   rintro e w2 ⟨rfl,hx2⟩;have hS2:=(hB1.ext hx2).cell' (u:=v) 0 rfl;refine ⟨_,rfl,fun _=>hS2,?_⟩;exact aOb (p:=.pointer none) av Y av hS2 (fun a' u e6 e7=>hQ a' w1 w2 b s1 1 _ u e6 e7 hFr hx2 (hR1.ext hx2) hd (.inl ⟨cq,fun h=>hbb h.2⟩))
 ·refine dc 3 Tryz.func10 (aFb t PT v b w1 hP1 hv1 (aGy hsm) hval) ?_
  rintro e w2 ⟨rfl,hx2⟩;have hS2:=(hB1.ext hx2).cell' (u:=v) 0 rfl;refine ⟨_,rfl,fun _=>hS2,?_⟩;exact aOb (p:=.pointer none) av Y av hS2 (fun a' u e6 e7=>hQ a' w1 w2 b s1 _ _ u e6 e7 hFr hx2 (hR1.ext hx2) hd (.inl ⟨hval,fun h=>hval h.1⟩))
end
section
variable {g:Nat}{P:Nat->Prop}{s:Option (List Int)}{w:World}{Q:Exit->Act->World->Prop}{a:Act}
theorem aKw (sz:a.tmps.size=123)(e4:qq a 4 (qp g))(hR:RS g P s w)
  (hQ:∀ (a':Act)(w':World)(p:List Int)(v:Value)(s':Option (List Int))(E:Nat),Ag [4,7,8,40,41] a a'->qq a' 9 (qp E)->Blk w' E 102 #[v,qz,qz,qz,false,qz]->w<=E->Ints w' (fun k=>w.heap.size<=k∧k<E) v p->RS g P s' w'->cC kC [] s p s'->Fr (fun k=>k=g) w w'->Q .normal a' w'):qw (RG Tryz.f34 13) Q a w:=by
 refine rW ?_;refine lv ?_;refine lc Tryz.func78 (aUz hR) ?_;rintro e w1 ⟨p,s1,v,rfl,hp,hR1,hd,hf⟩;refine ⟨_,rfl,?_⟩;obtain ⟨A,c,rfl,-,-,-⟩:=hp.form;refine lv ?_;have x3:Ext w1 (w1.alloc (qk #[qn,qz,qz,qz,false,qz] 102)):=(aq w1).alloc' _;have B3:=aw w1 102 #[qn,qz,qz,qz,false,qz];refine lv (w1:=w1.alloc (qk #[qn,qz,qz,qz,false,qz] 102)) (v:=qp w1) ?_ (hrun:=by simp [execOp,go_sem, *];try rfl);generalize w1.alloc (qk #[qn,qz,qz,qz,false,qz] 102)=w3 at *;refine ls (w1:=w3.setCells w1 0 [.slice A p c,qz,qz,qz,false,qz]) ?_ (hrun:=by simp [execOp,go_sem,B3.cell,B3.frozen, *];try rfl);have B4:=aG [.slice A p c,qz,qz,qz,false,qz] (cs:=[qn,qz,qz,qz,false,qz]) 0 B3 O;have F4:Fr (fun k=>k=w1.heap.size) w3 (w3.setCells w1 0 [.slice A p c,qz,qz,qz,false,qz]):=(au _ w3).setCells _ 0 (.inl rfl);generalize w3.setCells w1 0 [.slice A p c,qz,qz,qz,false,qz]=w4 at *;have x14:Ext w1 w4:=((ar x3).trans F4).new_ext (fun b hb=>Nat.le_of_eq hb.symm);have z1:=hf.size;refine lE a [4,7,8,40,41] 9 ?_;intro a' u e9;exact hQ a' w4 p _ s1 w1 u e9 B4 z1 (hp.carry (aB.of_ext x14) (fun k hk h=>by omega)) (hR1.ext x14) hd (hf.trans (ar x14))
theorem aKv {E v u4 u5}(sz:a.tmps.size=123)(e4:qq a 4 (qp g))(e9:qq a 9 (qp E))(hR:RS g P s w)(hB:Blk w E 102 #[v,qz,qz,qz,u4,u5])(hE:E ≠ g∧∀ k,P k->k ≠ E)
  (hQ:∀ (a':Act)(w':World)(k at_ code:Int)(s1 s2 s3:Option (List Int)),Ag [4,7,8,9,40,41] a a'->Blk w' E 102 #[v,.int .i64 k,↑at_,↑code,u4,u5]->RS g P s3 w'->cC eD 0 s k s1->cC eD 0 s1 at_ s2->cC eD 0 s2 code s3->I64 k->I64 at_->I64 code->Fr (fun k=>k=g∨k=E) w w'->Q .normal a' w'):qw (RG Tryz.f34 14) Q a w:=by
 refine rW ?_;refine lv ?_;refine lc Tryz.func77 (mV hR) ?_;rintro e w1 ⟨k,s1,v1,rfl,⟨rfl,hk⟩,hR1,hd1,hf1⟩;refine ⟨_,rfl,?_⟩;refine lv ?_;refine lc Tryz.func77 (mV hR1) ?_;rintro e w2 ⟨at_,s2,v2,rfl,⟨rfl,hat⟩,hR2,hd2,hf2⟩;refine ⟨_,rfl,?_⟩;refine lv ?_;refine lc Tryz.func77 (mV hR2) ?_;rintro e w3 ⟨code,s3,v3,rfl,⟨rfl,hcode⟩,hR3,hd3,hf3⟩;refine ⟨_,rfl,?_⟩;have hF:=(hf1.trans hf2).trans hf3;have B3:=hB.fr hF hE.1;refine lv ?_;refine lv ?_;refine ls (w1:=w3.setCells E 1 [.int .i64 k,.int .i64 at_,.int .i64 code]) ?_ (hrun:=by simp [execOp,go_sem,B3.cell,B3.frozen, *];try rfl);have B4:=aG [.int .i64 k,.int .i64 at_,.int .i64 code] (cs:=[v,qz,qz,qz,u4,u5]) 1 B3 O;have F4:Fr (fun k=>k=E) w3 (w3.setCells E 1 [.int .i64 k,.int .i64 at_,.int .i64 code]):=(au _ w3).setCells _ 1 (.inl rfl);generalize w3.setCells E 1 [.int .i64 k,.int .i64 at_,.int .i64 code]=w4 at *;refine lN a [4,7,8,9,40,41] ?_;intro a' u;exact hQ a' w4 k at_ code s1 s2 s3 u B4 (hR3.fr F4 (fun e=>hE.1 e.symm) hE.2) hd1 hd2 hd3 hk hat hcode ((hF.mono fun k h=>.inl h).trans (F4.mono fun k h=>.inr h))
theorem aKu {E u0 u1 u2 u3 u5}(sz:a.tmps.size=123)(e4:qq a 4 (qp g))(e9:qq a 9 (qp E))(hR:RS g P s w)(hB:Blk w E 102 #[u0,u1,u2,u3,false,u5])(hE:E ≠ g∧∀ k,P k->k ≠ E)
  (hQ:∀ (a':Act)(w':World)(f:Bool)(s1:Option (List Int)),Ag [4,7,8,9,40,41] a a'->Blk w' E 102 #[u0,u1,u2,u3,f,u5]->RS g P s1 w'->cC aGf false s f s1->Fr (fun k=>k=g∨k=E) w w'->Q .normal a' w'):qw (RG Tryz.f34 15) Q a w:=by
 refine rW ?_;refine lv ?_;refine lc Tryz.func79 (aVk hR) ?_;rintro e w1 ⟨f,s1,v1,rfl,rfl,hR1,hd1,hf1⟩;refine ⟨_,rfl,?_⟩;have B3:=hB.fr hf1 hE.1;have f3:=B3.frozen 4;have g3:=B3.cell' (u:=false) 4 rfl;refine lv ?_;refine ls (w1:=w1.setCell (qt E 4) f) ?_ (hrun:=by simp [execOp,go_sem, *];try rfl);have B4:Blk (w1.setCell (qt E 4) f) E 102 #[u0,u1,u2,u3,f,u5]:=by simpa using B3.set_ 4 f
 have F4:Fr (fun k=>k=E) w1 (w1.setCell (qt E 4) f):=(au (fun k=>k=E) w1).setCell (p:=qt E 4) (.inl rfl) _;generalize w1.setCell (qt E 4) f=w4 at *;refine lN a [4,7,8,9,40,41] ?_;intro a' u;exact hQ a' w4 f s1 u B4 (hR1.fr F4 (fun e=>hE.1 e.symm) hE.2) hd1 ((hf1.mono fun k h=>.inl h).trans (F4.mono fun k h=>.inr h))
theorem aKt {E u0 u1 u2 u3 u4}(sz:a.tmps.size=123)(e4:qq a 4 (qp g))(e9:qq a 9 (qp E))(hR:RS g P s w)(hB:Blk w E 102 #[u0,u1,u2,u3,u4,qz])(hE:E ≠ g∧∀ k,P k->k ≠ E)
  (hQ:∀ (a':Act)(w':World)(h:Int)(s1:Option (List Int)),Ag [4,7,8,9,40,41] a a'->Blk w' E 102 #[u0,u1,u2,u3,u4,↑h]->RS g P s1 w'->cC eD 0 s h s1->I64 h->Fr (fun k=>k=g∨k=E) w w'->Q .normal a' w'):qw (RG Tryz.f34 16) Q a w:=by
 refine rW ?_;refine lv ?_;refine lc Tryz.func77 (mV hR) ?_;rintro e w1 ⟨h,s1,v1,rfl,⟨rfl,hh⟩,hR1,hd1,hf1⟩;refine ⟨_,rfl,?_⟩;have B3:=hB.fr hf1 hE.1;have f3:=B3.frozen 5;have g3:=B3.cell' (u:=qz) 5 rfl;refine lv ?_;refine ls (w1:=w1.setCell (qt E 5) (↑h)) ?_ (hrun:=by simp [execOp,go_sem, *];try rfl);have B4:Blk (w1.setCell (qt E 5) (↑h)) E 102 #[u0,u1,u2,u3,u4,↑h]:=by simpa using B3.set_ 5 (↑h)
 have F4:Fr (fun k=>k=E) w1 (w1.setCell (qt E 5) (.int .i64 h)):=(au (fun k=>k=E) w1).setCell (p:=qt E 5) (.inl rfl) _;generalize w1.setCell (qt E 5) (.int .i64 h)=w4 at *;refine lN a [4,7,8,9,40,41] ?_;intro a' u;exact hQ a' w4 h s1 u B4 (hR1.fr F4 (fun e=>hE.1 e.symm) hE.2) hd1 hh ((hf1.mono fun k h=>.inl h).trans (F4.mono fun k h=>.inr h))
end
