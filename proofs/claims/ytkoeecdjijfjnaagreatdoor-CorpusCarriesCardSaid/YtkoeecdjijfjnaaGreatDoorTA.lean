/- Contracts and laws. Conditions: none. -/
import Derived.Test.YtkoeecdjijfjnaaGreatDoorR1
set_option linter.all false
set_option maxRecDepth 100000
set_option maxHeartbeats 8000000
namespace Go.Proofs.YtkoeecdjijfjnaaGreatDoor
open Go.RowKit
def ro (v:Value)(k:Nat)(A:Option Addr)(c:Nat):Prop:=∀ (ρ:Operand->Value)(o:Oper)(w:World)(x y:Operand),o.op=.slice 38 x none (some y) none->ρ x=v->ρ y=↑(k:Int)->(execOp ρ o).run Tryz.prog w=.ok (.value (.slice A k c)) w
def sd (v:Value)(k m:Nat)(A:Option Addr)(c:Nat):Prop:=∀ (ρ:Operand->Value)(o:Oper)(w:World)(x y:Operand),o.op=.slice 38 x (some y) none none->ρ x=v->ρ y=↑(k:Int)->(execOp ρ o).run Tryz.prog w=.ok (.value (.slice A m c)) w
theorem AI {w:World}{base n k:Nat}{v:Value}{xs:List Value}(h:w.ownsRow base 47 6 v n xs)(hk:k<=n)(hn:n<=100000):∃ A c,ro v k A c∧Sl w (fun b=>some b=v.ownBlock) 6 A k (xs.take (k*6)):=by
 obtain ⟨A,c,e,h1,h2,h3⟩:=Sl.of_own h;subst e;have h4:=(h3 (fun b=>some b=(Value.slice A n c).ownBlock) (fun b hb=>hb.symm)).take hk;rcases h.2 with ⟨e,e2⟩ | ⟨g,cap,cur,e,-⟩
 ·injection e with e1 _ e3
  subst e1 e2 e3;obtain rfl:k=0:=by omega
  refine ⟨none,0,?_,h4⟩;intro ρ o w x y ho hx hy;simp [execOp,ho,hx,hy,go_sem]
 ·injection e with e1 _ e3
  subst e1 e3;refine ⟨_,c,?_,h4⟩;intro ρ o w x y ho hx hy;have h5:(k:Int)<=(c:Int):=by omega
  simp [execOp,ho,hx,hy,go_sem,h5]
theorem tu {w:World}{base n k:Nat}{v:Value}{xs:List Value}(h:w.ownsRow base 47 6 v n xs)(hk:k<=n)(hn:n<=100000):∃ A c,sd v k (n - k) A c∧Sl w (fun b=>some b=v.ownBlock) 6 A (n - k) (xs.drop (k*6)):=by
 obtain ⟨A,c,e,h1,h2,h3⟩:=Sl.of_own h;subst e;have h4:=h3 (fun b=>some b=(Value.slice A n c).ownBlock) (fun b hb=>hb.symm);have h0:Sl w (fun b=>some b=(Value.slice A n c).ownBlock) 6 A 0 []:=⟨rfl,fun h=>absurd h I⟩;rcases h.2 with ⟨e,e2⟩ | ⟨g,cap,cur,e,-⟩
 ·injection e with e1 _ e3
  subst e1 e2 e3;obtain rfl:k=0:=by omega
  refine ⟨none,0,?_,by simpa using h4⟩;intro ρ o w x y ho hx hy;simp [execOp,ho,hx,hy,go_sem]
 ·injection e with e1 _ e3
  subst e1 e3;have h5:(k:Int)<=(n:Int):=by omega
  by_cases hc:c=k
  ·obtain rfl:n=k:=by omega
   subst hc;refine ⟨some ↑(qp g),0,?_,?_⟩
   ·intro ρ o w x y ho hx hy
    simp [execOp,ho,hx,hy,go_sem]
   ·rw [Nat.sub_self,show xs.drop (c*6)=[] from List.drop_eq_nil_of_le (by rw [h.1];exact ab _)]
    exact h0
  ·refine ⟨some ↑(qt g (k*6)),c - k,?_,?_⟩
   ·intro ρ o w x y ho hx hy
    simp [execOp,ho,hx,hy,go_sem,h5];try omega
   ·have h8:=h4.drop hk
    rwa [Nat.zero_add] at h8
section
variable {t:List GN}{vn:Value}{b:Int}{L L':List GE}{m:Nat}{P:Nat->Prop}{ve v':Value}{w W:World}{xs':List Value}
theorem REn.one:∀ {l:List GE}{xs:List Value},RL (REn w P) l xs->∀ u ∈ xs,u.oneCell'=true
 | [],xs,h,u,hu=>by simp only [RL] at h;subst h;simp at hu
 | e :: es,xs,h,u,hu=>by
  obtain ⟨c1,c2,rfl,⟨A,c,rfl,-⟩,h2⟩:=h;rcases ap.1 hu with hu | hu
  ·simp only [bC,ao,List.not_mem_nil,or_false] at hu
   rcases hu with rfl | rfl | rfl | rfl | rfl | rfl <;> rfl
  ·exact REn.one h2 u hu
theorem MAt.replace (h:MAt t vn b L m P ve w)(hx:Ext w W)(ho:W.ownsRow w 47 6 v' L' xs')(hr:RL (REn W P) L' xs')(hinc:xB L')(hfew:L'.length<=100000)(hsh:∀ e ∈ L',e.path.length<=1000000000):dC t vn b L' m P ve w (W.setCell (qt m 2) v'):=by
 have hm:=h.box.lt;have hbox:=(h.box.ext hx).set_ 2 v';have hfr:∀ k,k ≠ m->(W.setCell (qt m 2) v').heap[k]?=W.heap[k]?:=fun k hk=>Below.heap_setCell _ _ _ _ (fun e=>hk e)
 have hF:Fr (mM m ve) w (W.setCell (qt m 2) v'):=(ar hx).setCell (p:=qt m 2) (.inl (.inl rfl)) v';have hge:∀ k,v'.ownBlock=some k->w<=k:=fun k hk=>ho.block_ge hk
 have hne:some m ≠ v'.ownBlock:=fun e=>by have:=hge m e.symm;omega
 have hkP:aB P W (W.setCell (qt m 2) v'):=fun k _ hp=>hfr k (h.excl k hp).1
 have ho':(W.setCell (qt m 2) v').ownsRow 0 47 6 v' L' xs':=by
  refine ⟨ho.1,?_⟩;rcases ho.2 with h3 | ⟨G,cap,cur,h4,h5,h6,h7⟩
  ·exact .inl h3
  ·exact .inr ⟨G,cap,cur,h4,af _,(hfr G (fun e=>hne (by rw [h4,<- e];rfl))).trans h6,h7⟩
 have hsz:=hF.size;generalize W.setCell (qt m 2) v'=W3 at *;refine ⟨v',⟨hbox,(h.tree.ext hx).carry hkP (fun _ _ h=>h),⟨xs',ho',hr.move fF hkP (fun _ _ h=>h)⟩,?_,hne,hinc,h.bI,hfew,hsh,fun k hk=>ac (h.lt k hk) hsz⟩,hF,?_⟩
 ·intro k hk
  exact ⟨(h.excl k hk).1,fun e=>by have:=hge k e.symm;have:=h.lt k hk;omega⟩
 ·exact fun k hk=>.inr (hge k hk)
theorem MAt.touch (x:GE)(hh:hU x.path L=true)(h:MAt t vn b L m P ve w) :
  ∃ G cap,ve=.slice (qp G) L cap∧bO x.path L<L∧m ≠ G∧∃ A c,EAt w P (L.getD (bO x.path L) default) A c ∧
   (∀ j u,(bC (L.getD (bO x.path L) default) A c)[j]?=some u->qc w G (bO x.path L*6+j) u)∧(∀ j,w.frozen? (qt G j)=false) ∧
   MAt t vn b (dN L x) m P ve ((w.setCell (qt G (bO x.path L*6+5)) (.int .i64 (aY (L.getD (bO x.path L) default) x).hits)).setCell (qt G (bO x.path L*6+4)) (.bool (aY (L.getD (bO x.path L) default) x).fresh)):=by
 obtain ⟨xs,h1,h2⟩:=h.own;have hJ:dN L x=L.set (bO x.path L) (aY (L.getD (bO x.path L) default) x):=by unfold dN;rw [if_pos hh]
 have hf:bO x.path L<L:=by
  unfold hU at hh;simp only [Bool.and_eq_true,decide_eq_true_eq] at hh;exact hh.1
 have hinc:=h.inc.join x;rw [hJ] at hinc ⊢;generalize bO x.path L=f at *;rcases h1 with ⟨hxl,⟨rfl,h4⟩ | ⟨G,cap,cur,rfl,-,hB,h4,h5,h6,h7⟩⟩
 ·omega
 have hBb:Blk w G 47 cur:=hB;obtain ⟨A,c,hec,hE⟩:=RL.get (fF.len w P) h2 default hf
 have hcell:∀ j u,(bC (L.getD f default) A c)[j]?=some u->qc w G (f*6+j) u:=fun j u hu=>by
  rw [<- hec,List.getElem?_take,List.getElem?_drop,<- h7,List.getElem?_take] at hu;split at hu
  ·split at hu
   ·exact hBb.cell' _ fy
   ·cases hu
  ·cases hu
 have hgc:m ≠ G:=fun e=>h.ne gj
 refine ⟨G,cap,rfl,hf,hgc,A,c,hE,hcell,hBb.frozen,?_⟩;have hmem:L.getD f default ∈ L:=aC hf;generalize L.getD f default=y at *;have hB2:=(hBb.set_ (f*6+5) (.int .i64 (aY y x).hits)).set_ (f*6+4) (.bool (aY y x).fresh)
 have hfr:∀ k,k ≠ G->((w.setCell (qt G (f*6+5)) (.int .i64 (aY y x).hits)).setCell (qt G (f*6+4)) (.bool (aY y x).fresh)).heap[k]?=w.heap[k]?:=fun k hk=>by
  rw [Below.heap_setCell _ _ _ _ (fun e=>hk e),Below.heap_setCell _ _ _ _ (fun e=>hk e)]
 have hsz:w.heap.size<=((w.setCell (qt G (f*6+5)) (.int .i64 (aY y x).hits)).setCell (qt G (f*6+4)) (.bool (aY y x).fresh)):=ic;generalize (w.setCell (qt G (f*6+5)) (.int .i64 (aY y x).hits)).setCell (qt G (f*6+4)) (.bool (aY y x).fresh)=W at *;have hkP:aB P w W:=fun k _ hp=>hfr k (fun e=>(h.excl k hp).2 gj)
 have hxs:xs=xs.take (f*6) ++ bC y A c ++ xs.drop ((f+1)*6):=by
  rw [<- hec,show (f+1)*6=f*6+6 by omega,<- List.drop_drop,ah,List.take_append_drop,List.take_append_drop]
 have hset:(xs.set (f*6+5) (.int .i64 (aY y x).hits)).set (f*6+4) (.bool (aY y x).fresh)=xs.take (f*6) ++ bC (aY y x) A c ++ xs.drop ((f+1)*6):=by
  rw [show xs.set (f*6+5) (.int .i64 (aY y x).hits)=(xs.take (f*6) ++ bC y A c ++ xs.drop ((f+1)*6)).set (f*6+5) (.int .i64 (aY y x).hits) by rw [<- hxs]];rw [uO _ _ _ _ _ je I,uO _ _ _ _ _ je I];rfl
 refine ⟨(hfr _ hgc).trans h.box,h.tree.carry hkP (fun _ _ h=>h),⟨_,⟨?_,.inr ⟨G,cap,_,by rw [List.length_set],af _,hB2,by rw [List.length_set];exact h4,h5,j4,rfl⟩⟩,?_⟩,h.excl,h.ne,hinc,h.bI,by rw [List.length_set];exact h.few,?_,fun k hk=>ac (h.lt k hk) hsz⟩
 ·simp only [ak,Array.length_toList,Array.size_setIfInBounds,List.length_set]
  have:=Nat.mul_le_mul_right 6 h4;omega
 ·have e1:((cur.setIfInBounds (f*6+5) (.int .i64 (aY y x).hits)).setIfInBounds (f*6+4) (.bool (aY y x).fresh)).toList.take ((L.set f (aY y x))*6)=xs.take (f*6) ++ bC (aY y x) A c ++ xs.drop ((f+1)*6):=by
   rw [List.length_set,Array.toList_setIfInBounds,Array.toList_setIfInBounds,List.take_set,List.take_set,h7,hset]
  rw [e1];exact RL.set (fF.len W P) (h2.move fF hkP (fun _ _ h=>h)) (show REn W P (aY y x) (bC (aY y x) A c) from ⟨A,c,rfl,⟨(hE.carry hkP (fun _ _ h=>h)).path,hE.kind,hE.at_,hE.code,oT _⟩⟩) hf
 ·intro e he
  rcases List.mem_or_eq_of_mem_set he with he | rfl
  ·exact h.short e he
  ·exact h.short y hmem
end
noncomputable def tx:=RG Tryz.f12 0
noncomputable def B8:=RG Tryz.f12 1
noncomputable def zu:=RG Tryz.f12 2
noncomputable def Cr:=RG Tryz.f12 3
noncomputable def AN:=RG Tryz.f12 4
noncomputable def Kw:=RG Tryz.f12 5
noncomputable def Fs:=RG Tryz.f12 6
noncomputable def qr:=RG Tryz.f12 7
noncomputable def AE:=RG Tryz.f12 8
noncomputable def DE:=RG Tryz.f12 9
noncomputable def yg:=RG Tryz.f12 10
noncomputable def yy:=RG Tryz.f12 11
noncomputable def BV:=RG Tryz.f12 12
noncomputable def Ho:=RG Tryz.f12 13
section
variable {Q:Exit->Act->World->Prop}{a:Act}{w:World}{m gx f k:Nat}{x:GE}{Ax:Option Addr}{cx:Nat}{G n c:Nat}{vn:Value}{b:Int}
theorem Jh (hsz:a.tmps.size=97)(e1:qq a 1 (.agg #[.slice Ax x.path cx,x.kind,x.at_,x.code,x.fresh,x.hits]))
  (h:∀ a',Ag [0] a a'->qq a' 3 (qp w)->Q .normal a' (w.alloc (qk #[.slice Ax x.path cx,x.kind,x.at_,x.code,x.fresh,x.hits] 47))):qw tx Q a w:=by
 refine rW ?_;iterate 2 refine lV ?_
 exact aV (h _ O ba)
theorem I3 {v1:Value}{z:Int}(hsz:a.tmps.size=97)(e0:qq a 0 (qp m))(e3:qq a 3 (qp gx))(hx0:qc w gx 0 v1)(hc:qg 38 #[qp m,v1] w (dE (↑z) w))
  (h:∀ a' w',Ext w w'->Ag [0,3] a a'->qq a' 5 z->Q .normal a' w'):qw B8 Q a w:=by
 refine rW ?_;iterate 3 refine lV ?_
 refine l_c rfl rfl rfl Tryz.func38 dd dd hc ba ?_;rintro e w' ⟨rfl,hx⟩;refine ⟨_,rfl,?_⟩;iterate 1 refine lV ?_
 exact aV (h _ _ hx O ba)
theorem Lg {z:Int}(hsz:a.tmps.size=97)(e5:qq a 5 z)(h:∀ a',Ag [0,3,5] a a'->qq a' 13 (decide (0<=z))->Q .normal a' w):qw zu Q a w:=by
 refine rW ?_;iterate 2 refine lV ?_
 exact aV (h _ O ba)
theorem Ln {yh xh:Int}(hsz:a.tmps.size=97)(e0:qq a 0 (qp m))(e3:qq a 3 (qp gx))(e5:qq a 5 (f:Int))(hf:(f:Int)<(n:Int))
  (h1:qc w m 2 (.slice (qp G) n c))(h2:qc w G (f*6+5) yh)(h3:qc w gx 5 xh)(hz:w.frozen? (qt G (f*6+5))=false)
  (h:∀ a',Ag [0,3,5] a a'->Q .normal a' (w.drew.setCell (qt G (f*6+5)) (.int .i64 (wrap64 (yh+xh))))):qw Cr Q a w:=by
 conv=>arg 2;whnf
 have hS:qc w.drew m 2 (.slice (qp G) n c)∧qc w.drew G (f*6+5) yh∧qc w.drew gx 5 xh:=⟨h1,h2,h3⟩;have hz':w.drew.frozen? (qt G (f*6+5))=false:=hz;refine fR (fun w'=>qc w' m 2 (.slice (qp G) n c)∧qc w' G (f*6+5) yh∧qc w' gx 5 xh) (fun q=>q != 18) 19 av av ?_;generalize w.drew=W at *;clear h1 h2 h3 hz;refine d_t 3 [0,1,2,3,4,5,6,7,8,9,10,11,12,13,14,15] rfl av hS ?_;iterate 16 refine t_v rfl rfl rfl (fun w hw=>by simp [execOp,go_sem,IntWalk.i64_left,hw, *];rfl) ?_
 refine t_e ?_;refine d_1 16 av rfl rfl rfl (by simp [execOp,go_sem, *];rfl) (fun _=>hS) ?_;refine d_1 17 av rfl rfl rfl (by simp [execOp,go_sem, *];rfl) (fun _=>hS) ?_;refine d_s 18 av rfl rfl rfl (by simp [execOp,go_sem, *];rfl) (fun h=>by simp at h) ?_;exact kF av (h _ O)
theorem Ig {yf xf:Bool}(hsz:a.tmps.size=97)(e0:qq a 0 (qp m))(e3:qq a 3 (qp gx))(e5:qq a 5 (f:Int))(hf:(f:Int)<(n:Int))
  (h1:qc w m 2 (.slice (qp G) n c))(h2:qc w G (f*6+4) yf)(h3:qc w gx 4 xf)(hz:w.frozen? (qt G (f*6+4))=false)
  (h:∀ a',Ag [0,3,5] a a'->Q .normal a' (w.drew.setCell (qt G (f*6+4)) (yf || xf))):qw AN Q a w:=by
 conv=>arg 2;whnf
 have hS:qc w.drew m 2 (.slice (qp G) n c)∧qc w.drew G (f*6+4) yf∧qc w.drew gx 4 xf:=⟨h1,h2,h3⟩;have hz':w.drew.frozen? (qt G (f*6+4))=false:=hz;refine fR (fun w'=>qc w' m 2 (.slice (qp G) n c)∧qc w' G (f*6+4) yf∧qc w' gx 4 xf) (fun q=>q != 19) 20 av av ?_;generalize w.drew=W at *;clear h1 h2 h3 hz;cases yf
 ·refine d_t 3 [0,1,2,3,4,5,6,7,8,9,10,11,12,13,14,15,16] rfl av hS ?_
  iterate 14 refine t_v rfl rfl rfl (fun w hw=>by simp [execOp,go_sem,hw, *];rfl) ?_
  iterate 2 refine t_y rfl rfl rfl rfl ba cd rfl (fun w hw=>by simp [execOp,go_sem,hw, *];rfl) ?_
  iterate 1 refine t_v rfl rfl rfl (fun w hw=>by simp [execOp,go_sem,hw, *];rfl) ?_
  refine t_e ?_;refine d_1 17 av rfl rfl rfl (by simp [execOp,go_sem, *];rfl) (fun _=>hS) ?_;refine d_1 18 av rfl rfl rfl (by simp [execOp,go_sem, *];rfl) (fun _=>hS) ?_;refine d_s 19 av rfl rfl rfl (by simp [execOp,go_sem, *];rfl) (fun h=>by simp at h) ?_;exact kF av (h _ O)
 ·refine d_t 3 [0,1,2,3,4,5,6,7,8,9,10,11,12,13,14,15,16] rfl av hS ?_
  iterate 14 refine t_v rfl rfl rfl (fun w hw=>by simp [execOp,go_sem,hw, *];rfl) ?_
  iterate 2 refine t_n rfl rfl rfl rfl ba cd rfl ?_
  iterate 1 refine t_v rfl rfl rfl (fun w hw=>by simp [execOp,go_sem,hw, *];rfl) ?_
  refine t_e ?_;refine d_1 17 av rfl rfl rfl (by simp [execOp,go_sem, *];rfl) (fun _=>hS) ?_;refine d_1 18 av rfl rfl rfl (by simp [execOp,go_sem, *];rfl) (fun _=>hS) ?_;refine d_s 19 av rfl rfl rfl (by simp [execOp,go_sem, *];rfl) (fun h=>by simp at h) ?_;exact kF av (h _ O)
theorem KK {Al:Option Addr}(hsz:a.tmps.size=97)(e0:qq a 0 (qp m))(e6:qq a 6 (k:Int))(h1:∀ w',Ext w w'->qc w' m 2 (.slice Al n c))(hk:¬ k<n)
  (h:∀ a' w',Ext w w'->Ag [0,3,6] a a'->qq a' 71 false->Q .normal a' w'):qw qr Q a w:=by
 conv=>arg 2;whnf
 refine cU (fun w'=>Ext w w') av av (aq w).drew' ?_;iterate 8 refine q_v rfl rfl (fun w hw=>by simp [execOp,go_sem, *];rfl) ?_
 iterate 12 refine q_n rfl rfl rfl ba cd rfl ?_
 iterate 1 refine q_v rfl rfl (fun w hw=>by simp [execOp,go_sem, *];rfl) ?_
 exact l6 (fun w' hw=>h _ w' hw O ba)
theorem Fi {v1 v2:Value}{z:Int}(hsz:a.tmps.size=97)(e0:qq a 0 (qp m))(e3:qq a 3 (qp gx))(e6:qq a 6 (k:Int))(hk:k<n)(h1:∀ w',Ext w w'->qc w' m 2 (.slice (qp G) n c)∧qc w' G (k*6) v1∧qc w' gx 0 v2)
  (hc:∀ w1,Ext w w1->Calls Tryz.prog 39 #[v1,v2] w1 fun e w'=>e=.returned (↑z)∧Ext w w')
  (h:∀ a' w',Ext w w'->Ag [0,3,6] a a'->qq a' 71 (decide (z<0))->Q .normal a' w'):qw qr Q a w:=by
 conv=>arg 2;whnf
 refine cU (fun w'=>Ext w w') av av (aq w).drew' ?_;iterate 8 refine q_v rfl rfl (fun w hw=>by simp [execOp,go_sem,h1 w hw, *];rfl) ?_
 iterate 10 refine q_y rfl rfl rfl ba cd rfl (fun w hw=>by simp [execOp,go_sem,h1 w hw, *];rfl) ?_
 refine nh rfl rfl rfl ba cd rfl rfl Tryz.func39 dd dd hc ba ?_;iterate 1 refine q_y rfl rfl rfl ba cd rfl (fun w hw=>by simp [execOp,go_sem, *];rfl) ?_
 iterate 1 refine q_v rfl rfl (fun w hw=>by simp [execOp,go_sem, *];rfl) ?_
 exact l6 (fun w' hw=>h _ w' hw O ba)
theorem Dr (hsz:a.tmps.size=97)(e6:qq a 6 (k:Int))(hw:IntKind.i64.wrap ((k:Int)+1)=(k:Int)+1)
  (h:∀ a',Ag [0,3] a a'->qq a' 6 (.int .i64 ((k+1:Nat):Int))->Q .normal a' w):qw AE Q a w:=by
 refine rW ?_;iterate 3 refine lV ?_
 exact aV (h _ O ba)
theorem KX {A1:Option Addr}{c1:Nat}{ve:Value}{xs:List Value}{S:Nat->Prop}(hsz:a.tmps.size=97)(e0:qq a 0 (qp m))(e6:qq a 6 (k:Int))(e7:qq a 7 qn)(hk:k<=100000)(h1:qc w m 2 ve)(hc:ro ve k A1 c1)(hs:Sl w S 6 A1 k xs)(hone:∀ u ∈ xs,u.oneCell'=true)
  (h:∀ a' v5 w5,w5.ownsRow w 47 6 v5 k xs->Ext w w5->Ag [0,3,6] a a'->qq a' 7 v5->Q .normal a' w5):qw yg Q a w:=by
 refine rW ?_;iterate 6 refine lV ?_
 refine l_v rfl rfl (hc _ _ _ _ _ rfl ba ba) ?_;refine l_a rfl rfl rfl Tryz.underlying38 Tryz.info47 rfl I (aT w w 47 6) hs ba cd hone I I (ab _) ?_;intro v5 w5 ho hf hb;iterate 1 refine lV ?_
 exact aV (h _ v5 w5 (by simpa using ho) (Fr.none_ext hf) O ba)
theorem Ic {base:Nat}{v7:Value}{xs:List Value}(hsz:a.tmps.size=97)(e3:qq a 3 (qp gx))(e7:qq a 7 v7)(hk:k<=100000)(hB:base<=w)(hx:Blk w gx 47 #[.slice Ax x.path cx,x.kind,x.at_,x.code,x.fresh,x.hits])(hown:w.ownsRow base 47 6 v7 k xs)
  (h:∀ a' v5 w5,w5.ownsRow base 47 6 v5 (k+1) (xs ++ bC x Ax cx)->Fr (fun b=>base<=b) w w5->Ag [0,6] a a'->qq a' 7 v5->Q .normal a' w5):qw yy Q a w:=by
 obtain ⟨c0,c1,c2,c3,c4,c5⟩:=cF hx;refine rW ?_;iterate 3 refine lV ?_
 refine l_a rfl rfl rfl Tryz.underlying38 Tryz.info47 rfl I (hown.alloc _) (Sl.new w (bC x Ax cx) 47 1 6 rfl) ba cd (by simp [bC,Value.oneCell']) I I bh ?_;intro v5 w5 ho hf hb;iterate 1 refine lV ?_
 exact aV (h _ v5 w5 ho ((ar ((aq w).alloc' _)).trans (hf.mono (fun b hb=>hown.block_ge hb.symm))) O ba)
theorem GW {A1:Option Addr}{c1 p n base:Nat}{v7 ve:Value}{xs ys:List Value}{S:Nat->Prop}(hsz:a.tmps.size=97)(e0:qq a 0 (qp m))(e6:qq a 6 (k:Int))(e7:qq a 7 v7)(hp:p<=100001)(hn:n<=100000)(hB:base<=w)(hm:m<base)(hb0:Blk w m 40 #[vn,↑b,ve])(hc:sd ve k n A1 c1)(hs:Sl w S 6 A1 n ys)(hone:∀ u ∈ ys,u.oneCell'=true)(hown:w.ownsRow base 47 6 v7 p xs)
  (h:∀ a' v5 w5,w5.ownsRow base 47 6 v5 (p+n) (xs ++ ys)->Fr (fun b=>base<=b) w w5->Ag [] a a'->Q .normal a' (w5.setCell (qt m 2) v5)):qw BV Q a w:=by
 have h1:=hb0.cell' (u:=ve) 2 rfl;refine rW ?_;iterate 7 refine lV ?_
 refine l_v rfl rfl (hc _ _ _ _ _ rfl ba ba) ?_;refine l_a rfl rfl rfl Tryz.underlying38 Tryz.info47 rfl I hown hs ba cd hone I I hB ?_;intro v5 w5 ho hf hb5;have hF:Fr (fun b=>base<=b) w w5:=hf.mono (fun b hb=>hown.block_ge hb.symm);have hb6:=hb0.fr hF I;have q2:=hb6.cell' (u:=ve) 2 rfl;have f2:=hb6.frozen 2;obtain ⟨A5,c5,rfl,-,-,-⟩:=Sl.of_own ho;iterate 2 refine lV ?_
 refine l_s rfl rfl (by simp [execOp,go_sem, *];rfl) ?_;exact aV (h _ _ w5 ho hF O)
end
noncomputable abbrev zd:Code:=.seq (.seq qr (.cond (.tmp 71) .skip (.exit 0))) (.block 1 AE)
noncomputable abbrev xm:Code:=.seq Fs (.seq (.block 0 (.loop zd)) (.seq DE (.seq yg (.seq yy (.seq BV (.seq Ho .ret))))))
noncomputable abbrev BA:Code:=.seq tx (.seq B8 (.seq (.seq zu (.cond (.tmp 13) (.seq Cr (.seq AN (.seq Kw .ret))) .skip)) xm))
theorem Ld:Tryz.f12.body=some BA:=av
section
variable {t:List GN}{vn:Value}{b:Int}{L:List GE}{m gx:Nat}{P:Nat->Prop}{ve:Value}{a:Act}{w ws:World}{R:Exit->Act->World->Prop}{x:GE}{Ax:Option Addr}{cx:Nat}
def I51 (L:List GE)(p:List Int)(a0:Act)(ws:World)(k:Nat)(a:Act)(w:World):Prop:=Ag [0,3] a0 a∧k<=L∧qq a 6 (k:Int)∧Ext ws w∧∀ j,j<k->iA (L.getD j default).path p<0
theorem IN {a0:Act}(hsz:a0.tmps.size=97)(e0:qq a0 0 (qp m))(e3:qq a0 3 (qp gx))(h:MAt t vn b L m P ve ws)(hx:EAt ws P x Ax cx)(hbx:Blk ws gx 47 #[.slice Ax x.path cx,x.kind,x.at_,x.code,x.fresh,x.hits])(hI:I51 L x.path a0 ws 0 a w)
  (hR:∀ a' w',I51 L x.path a0 ws (bO x.path L) a' w'->R .normal a' w'):qw (.block 0 (.loop zd)) R a w:=by
 have hfew:=h.few;refine wp_block (wp_loop (fun a' w'=>∃ k,I51 L x.path a0 ws k a' w') (fun a' _=>L.length - (intOf (Ev a' (.tmp 6))).toNat) ⟨0,hI⟩ ?_);clear hI;rintro a w ⟨k,hG,hk,e6,hE,hlo⟩;obtain ⟨Al,cl,rfl,-,-⟩:=Lst.form h.ens;have c2:=aA hE h.cell2;have z1:a.tmps.size=97:=hG.sz.trans hsz;have f0:=hG.get 0 e0;have f3:=hG.get 3 e3;by_cases hlt:k<L
 ·obtain ⟨b1,o1,A1,d1,eA,-,hv1,hgc⟩:=(h.ens.ext hE).get hlt
  obtain ⟨xs,ho,-⟩:=h.own
  have ho0:o1=0:=by
   rcases ho.2 with ⟨e,e2⟩ | ⟨G,cap,cur,e,-⟩
   ·omega
   ·rw [eA] at e
    injection e with e;injection e with e;injection e with e1 e2 e3
  subst eA ho0;have g0:=hgc 0 _ rfl;rw [Nat.zero_add,Nat.add_zero] at g0;refine wp_seq (wp_seq (Fi (z:=iA (L.getD k default).path x.path) z1 f0 f3 e6 hlt (fun w' hw=>⟨aA hw c2,aA hw g0,aA hw (aA hE (hbx.cell' 0 rfl))⟩) ?_ ?_))
  ·intro w1 hx1
   refine (sJ _ _ _ _ _ _ w1 (hv1.ext hx1).path (hx.ext (hE.trans' hx1)).path).mono ?_;rintro e w' ⟨rfl,n,rfl⟩;exact ⟨rfl,hx1.drewN' n⟩
  ·intro a2 w2 hx2 g2 e71
   by_cases hc:iA (L.getD k default).path x.path<0
   ·refine wp_cond_true (e71.trans (by rw [aYi hc])) (wp_skip ?_)
    refine wp_block (Dr (g2.sz.trans z1) (g2.get 6 e6) (xD I) ?_);intro a3 g3 e6';refine ⟨⟨k+1,(hG.trans (g2.mono rfl)).trans g3,hlt,e6',hE.trans' hx2,fun j hj=>?_⟩,?_⟩
    ·rcases Nat.lt_or_ge j k with h1 | h1
     ·exact hlo j h1
     ·obtain rfl:j=k:=by omega
      exact hc
    ·rw [e6',e6]
     simp [intOf];omega
   ·refine wp_cond_false (e71.trans (by rw [aYj hc])) (wp_exit ?_)
    have hf:k=bO x.path L:=nN h.inc hk hlo (fun j hj hj' hcj=>hc (vP h.inc x.path hj hj' hcj));exact hR _ _ ⟨hG.trans (g2.mono rfl),I,by rw [<- hf];exact g2.get 6 e6,hE.trans' hx2,by rw [<- hf];exact hlo⟩
 ·refine wp_seq (wp_seq (KK z1 f0 e6 (fun w' hw=>aA hw c2) hlt ?_))
  intro a2 w2 hx2 g2 e71;refine wp_cond_false e71 (wp_exit ?_);have hf:k=bO x.path L:=nN h.inc hk hlo (fun j hj hj'=>by omega);exact hR _ _ ⟨hG.trans (g2.mono rfl),I,by rw [<- hf];exact g2.get 6 e6,hE.trans' hx2,by rw [<- hf];exact hlo⟩
theorem LS (h:MAt t vn b L m P ve w)(hx:EAt w P x Ax cx)(hbx:Blk w gx 47 #[.slice Ax x.path cx,x.kind,x.at_,x.code,x.fresh,x.hits])(hsz:a.tmps.size=97)(e0:qq a 0 (qp m))(e3:qq a 3 (qp gx))(hno:hU x.path L=false)(hfew:L.length+1<=100000)(hpl:x.path.length<=1000000000)
  (hQ:∀ a' w',a'.defers=a.defers->qq a' 4 true->dC t vn b (dN L x) m P ve w w'->R .ret a' w'):qw xm R a w:=by
 have hJ:dN L x=L.take (bO x.path L) ++ x :: L.drop (bO x.path L):=by unfold dN;rw [if_neg (by rw [hno];simp)]
 have hinc:=h.inc.join x;have hle:=mP x.path L;rw [hJ] at hinc hQ;refine wp_seq ?_;refine rW ?_;iterate 1 refine l_v rfl rfl (by simp [execOp,go_sem,hsz];exact ⟨rfl,rfl⟩) ?_
 refine aV ?_;refine wp_seq (IN (a0:=a) hsz e0 e3 h hx hbx ⟨O,af _,gn,aq _,fun j hj=>by omega⟩ ?_);rintro a1 w1 ⟨g1,-,e6,hE1,-⟩;generalize bO x.path L=f at *;have z1:a1.tmps.size=97:=g1.sz.trans hsz;have f0:=g1.get 0 e0;have f3:=g1.get 3 e3;have h1:=h.ext hE1;obtain ⟨xs,ho,hr⟩:=h1.own;have hone:=REn.one hr;obtain ⟨A1,c1,hc1,hs1⟩:=AI ho hle h.few;obtain ⟨A2,c2,hc2,hs2⟩:=tu ho hle h.few;refine wp_seq ?_;refine rW ?_;iterate 1 refine l_v rfl rfl (by simp [execOp,go_sem,z1];exact ⟨rfl,rfl⟩) ?_
 refine aV ?_;refine wp_seq (KX (by simp [z1]) (by simp [f0]) (by simp [e6]) (by simp [z1]) I h1.cell2 hc1 hs1 (fun u hu=>hone u (List.mem_of_mem_take hu)) ?_);intro a5 v5 w5 ho5 hx5 g5 e7;have k5:Ag [0,3,6] a1 a5:=Ag.trans O g5;refine wp_seq (Ic (g5.sz.trans (by simp [z1])) (k5.get 3 f3) e7 I hx5.size (hbx.ext (hE1.trans' hx5)) ho5 ?_);intro a6 v6 w6 ho6 hf6 g6 e7';have hE6:Ext w1 w6:=((ar hx5).trans hf6).new_ext (fun _ hb=>hb);refine wp_seq (GW (g6.sz.trans (k5.sz.trans z1)) (g6.get 0 (k5.get 0 f0)) (g6.get 6 (k5.get 6 e6)) e7' I I hE6.size h1.box.lt (h1.box.ext hE6) hc2 (hs2.ext hE6) (fun u hu=>hone u (List.mem_of_mem_drop hu)) ho6 ?_);intro a7 v7 w7 ho7 hf7 g7;have hE7:Ext w1 w7:=((ar hE6).trans hf7).new_ext (fun _ hb=>hb);have z7:a7.tmps.size=97:=g7.sz.trans (g6.sz.trans (k5.sz.trans z1));refine wp_seq ?_;refine rW ?_;iterate 1 refine l_v rfl rfl (by simp [execOp,go_sem,z7];exact ⟨rfl,rfl⟩) ?_
 refine aV ?_;refine wp_ret (hQ _ _ (g7.df.trans (g6.df.trans (k5.df.trans g1.df))) (by simp [z7]) ?_);have hll:(L.take f ++ x :: L.drop f).length=f+1+(L.length - f):=by simp only [aa,ak,ai,am];omega
 refine dC.of_ext hE1 (h1.replace hE7 (ho7.len_cast hll.symm rfl) (RL.ins (fF.len w7 P) (hr.move fF (aB.of_ext hE7) (fun _ _ h=>h)) ⟨Ax,cx,rfl,hx.ext (hE1.trans' hE7)⟩ f) hinc (by rw [hll];omega) ?_);intro e he;rcases ap.1 he with he | he
 ·exact h.short e (List.mem_of_mem_take he)
 ·rcases ao.1 he with rfl | he
  ·exact hpl
  ·exact h.short e (List.mem_of_mem_drop he)
theorem Lz (h:MAt t vn b L m P ve w)(hx:EAt w P x Ax cx)(hsz:a.tmps.size=97)(e0:qq a 0 (qp m))(e1:qq a 1 (wF x Ax cx))(hfew:L.length+1<=100000)(hpl:x.path.length<=1000000000)
  (hQ:∀ a' w',a'.defers=a.defers->qq a' 4 (!hU x.path L)->dC t vn b (dN L x) m P ve w w'->R .ret a' w'):qw BA R a w:=by
 refine wp_seq (Jh hsz e1 ?_);intro a1 g1 e3;have hx1:Ext w (w.alloc (qk #[.slice Ax x.path cx,x.kind,x.at_,x.code,x.fresh,x.hits] 47)):=(aq w).alloc' _;have hbx:=aw w 47 #[.slice Ax x.path cx,x.kind,x.at_,x.code,x.fresh,x.hits];refine wp_seq ?_;generalize w.alloc (qk #[.slice Ax x.path cx,x.kind,x.at_,x.code,x.fresh,x.hits] 47)=W at *;have z1:a1.tmps.size=97:=g1.sz.trans hsz;refine I3 z1 (g1.get 0 e0) e3 (hbx.cell' 0 rfl) (Cp (h.ext hx1) (hx.ext hx1).path) ?_;intro a2 w2 hx2 g2 e5;have hE2:=hx1.trans' hx2;have hb2:=hbx.ext hx2;have h2:=h.ext hE2;have hp:=yY (path:=x.path) (L:=L);have z2:a2.tmps.size=97:=g2.sz.trans z1;refine wp_seq (wp_seq (Lg z2 e5 ?_));intro a3 g3 e13;rw [hp] at e13;have z3:a3.tmps.size=97:=g3.sz.trans z2;have q0:=g3.get 0 (g2.get 0 (g1.get 0 e0));have q3:=g3.get 3 (g2.get 3 e3);have d3:a3.defers=a.defers:=g3.df.trans (g2.df.trans g1.df);cases hh:hU x.path L with
 | false =>
  rw [hh] at e13 hQ;refine wp_cond_false e13 (wp_skip ?_);refine LS h2 (hx.ext hE2) hb2 z3 q0 q3 hh hfew hpl ?_;intro a' w' r1 r2 r3;exact hQ a' w' (r1.trans d3) r2 (dC.of_ext hE2 r3)
 | true =>
  rw [hh] at e13 hQ;obtain ⟨G,cap,rfl,hf,hmG,A1,d1,-,hcell,hfz,hT⟩:=h2.touch x hh;have hfm:vZ x.path L=(bO x.path L:Int):=by unfold vZ;rw [if_pos hh]
  have hGw:G<w:=by
   obtain ⟨xs,ho,-⟩:=h.own;exact Au ho rfl
  rw [hfm] at e5;generalize bO x.path L=f at *;generalize L.getD f default=y at *;refine wp_cond_true e13 (wp_seq (Ln z3 q0 q3 (g3.get 5 e5) I h2.cell2 (hcell 5 _ rfl) (hb2.cell' 5 rfl) (hfz _) ?_));intro a4 g4;have k1:(w2.drew.setCell (qt G (f*6+5)) (.int .i64 (wrap64 (y.hits+x.hits)))).cell? (qt m 2)=some (.slice (qp G) L cap):=(World.cell?_setCell_far w2.drew (qt G (f*6+5)) (qt m 2) _ (fun e=>hmG e.symm)).trans h2.cell2;have k2:(w2.drew.setCell (qt G (f*6+5)) (.int .i64 (wrap64 (y.hits+x.hits)))).cell? (qt w 4)=some ↑x.fresh:=(World.cell?_setCell_far w2.drew (qt G (f*6+5)) (qt w 4) _ (fun e=>by have e:G=w:=e;omega)).trans (hb2.cell' 4 rfl);have k3:(w2.drew.setCell (qt G (f*6+5)) (.int .i64 (wrap64 (y.hits+x.hits)))).cell? (qt G (f*6+4))=some ↑y.fresh:=(World.cell?_setCell_other w2.drew (qt G (f*6+5)) (qt G (f*6+4)) _ (fun e=>by have:=congrArg Addr.off e;simp at this)).trans (hcell 4 _ rfl);have k4:(w2.drew.setCell (qt G (f*6+5)) (.int .i64 (wrap64 (y.hits+x.hits)))).frozen? (qt G (f*6+4))=false:=by simpa using hfz (f*6+4)
  have hF:Fr (mM m (.slice (qp G) L cap)) w ((w2.drew.setCell (qt G (f*6+5)) (.int .i64 (wrap64 (y.hits+x.hits)))).drew.setCell (qt G (f*6+4)) (y.fresh || x.fresh)):=((((ar hE2).drew).setCell (p:=qt G (f*6+5)) (.inl (.inr rfl)) _).drew).setCell (p:=qt G (f*6+4)) (.inl (.inr rfl)) _;have hT':MAt t vn b (dN L x) m P (.slice (qp G) L cap) ((w2.drew.setCell (qt G (f*6+5)) (.int .i64 (wrap64 (y.hits+x.hits)))).drew.setCell (qt G (f*6+4)) (y.fresh || x.fresh)):=(hT.ext (aq _).drew').ext (aq _).drew';have hQ':=fun a' r1 r2=>hQ a' _ r1 r2 ⟨_,hT',hF,fun _ h=>.inl h⟩
  generalize w2.drew.setCell (qt G (f*6+5)) (.int .i64 (wrap64 (y.hits+x.hits)))=W3 at *;have z4:a4.tmps.size=97:=g4.sz.trans z3;refine wp_seq (Ig z4 (g4.get 0 q0) (g4.get 3 q3) (g4.get 5 (g3.get 5 e5)) I k1 k3 k2 k4 ?_);intro a5 g5;have z5:a5.tmps.size=97:=g5.sz.trans z4;refine wp_seq ?_;refine rW ?_;iterate 1 refine l_v rfl rfl (by simp [execOp,go_sem,z5];exact ⟨rfl,rfl⟩) ?_
  exact aV (wp_ret (hQ' _ (g5.df.trans (g4.df.trans d3)) (by simp [z5])))
theorem Bf (h:MAt t vn b L m P ve w)(hx:EAt w P x Ax cx)(hfew:L.length+1<=100000)(hpl:x.path.length<=1000000000) :
  Calls Tryz.prog 12 #[qp m,wF x Ax cx] w fun e w'=>e=.returned (!hU x.path L)∧dC t vn b (dN L x) m P ve w w':=by
 refine calls_of_wp Tryz.func12 Ld (Lz h hx ?_ ?_ ?_ hfew hpl ?_)
 ·simp [Tryz.ntmps12]
 ·simp [Ev,Act.eval]
 ·simp [Ev,Act.eval]
 ·intro a' w' h1 h2 h3
  refine bodyPost_ret (v:=(!hU x.path L)) ?_ h1 ⟨rfl,h3⟩;have h5:a'.tmps[4]?.getD undef=.bool (!hU x.path L):=by rw [<- h2];simp [Ev,Act.eval]
  simp [results,Tryz.results12,go_sem,h5]
end
