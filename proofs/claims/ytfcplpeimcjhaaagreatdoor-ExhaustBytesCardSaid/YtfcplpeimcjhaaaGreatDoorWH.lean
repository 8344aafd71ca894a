/- Wire. Conditions: none. -/
import Derived.Test.YtfcplpeimcjhaaaGreatDoorVA
import Derived.Test.YtfcplpeimcjhaaaGreatDoorWE
namespace Go.Proofs.YtfcplpeimcjhaaaGreatDoor
open Go.RowKit
section
variable {l:List Nat}{a a':Act}{s:Nat}
theorem Ag.tl (h:Ag (s :: l) a a'):Ag l a a':=⟨h.sz,h.df,fun t ht=>h.ev t (List.mem_cons_of_mem _ ht)⟩
theorem Ag.hd {v:Value}(h:Ag (s :: l) a a')(e:Ev a (.tmp s)=v):Ev a' (.tmp s)=v:=(h.ev s (List.mem_cons_self ..)).trans e
end
set_option maxHeartbeats 1000000 in
theorem loopOut {α:Type}{f:α→List Int}{l:List α}(d:α){S w:World}{u v:Value}{B:Nat}{pre:List Int}{s t bl bb:Nat}{rT rB rC:Code}{a:Act}{Q:Exit→Act→World→Prop}(K:List Nat)
    (h0:Ev a (.tmp s)=.int .i64 0)(h3:Ev a (.tmp 3)=v)(hO:Ou S u B v pre w)(hlen:pre.length+(l.flatMap f).length≤1000000000000)(hll:l.length≤1000000000000)
    (hT:∀ R b V v' (j:Nat),Ag K a b→Ev b (.tmp s)=.int .i64 (j:Int)→Grow S u v' V→(∀ b',Ag (3 :: s :: K) b b'→Ev b' (.tmp t)=.bool (decide (j<l.length))→R .normal b' V)→Code.wp Tryz.prog rT R b V)
    (hB:∀ R b V v' (j:Nat) pre',j<l.length→Ag K a b→Ev b (.tmp s)=.int .i64 (j:Int)→Ev b (.tmp 3)=v'→Ou S u B v' pre' V→pre'.length+(f (l.getD j d)).length≤1000000000000→(∀ b' v2 V',Ag (s :: K) b b'→Ev b' (.tmp 3)=v2→Ou S u B v2 (pre' ++ f (l.getD j d)) V'→R .normal b' V')→Code.wp Tryz.prog rB R b V)
    (hC:∀ R b V (j:Nat),Ag K a b→Ev b (.tmp s)=.int .i64 (j:Int)→IntKind.i64.wrap ((j:Int)+1)=(j:Int)+1→(∀ b',Ag (3 :: K) b b'→Ev b' (.tmp s)=.int .i64 ((j:Int)+1)→R .normal b' V)→Code.wp Tryz.prog rC R b V)
    (hQ:∀ b v' V,Ag K a b→Ev b (.tmp 3)=v'→Ou S u B v' (pre ++ l.flatMap f) V→Q .normal b V):Code.wp Tryz.prog (.block bl (.loop (.seq (.seq rT (.cond (.tmp t) .skip (.exit bl))) (.seq (.block bb rB) rC)))) Q a w:=by
  refine wp_block (wp_loop (fun a' V=>∃ (j:Nat) (v:Value),Ag K a a'∧Ev a' (.tmp s)=.int .i64 (j:Int)∧Ev a' (.tmp 3)=v∧Ou S u B v (pre ++ (l.take j).flatMap f) V∧j≤l.length) (fun a' _=>(l.length - intOf (Ev a' (.tmp s))).toNat) ⟨0,_,.rf,h0,h3,by simpa using hO,Nat.zero_le _⟩ ?_)
  rintro b V ⟨j,v',u0,es,e3,hO',hj⟩
  refine wp_seq (wp_seq (hT _ b V v' j u0 es hO'.gr (fun b1 u1 et=>?_)))
  have es1:=u1.tl.hd es
  have e31:=u1.hd e3
  have k1:=u0.trans u1.tl.tl
  by_cases hlt:j<l.length
  · have htk:=flat_take f d hlt
    have htl:=flat_le f l (j+1)
    rw [htk,List.length_append] at htl
    refine wp_cond_true (et.trans (by simp [hlt])) (wp_skip (wp_seq (wp_block (hB _ b1 V v' j _ hlt k1 es1 e31 hO' (by rw [List.length_append];omega) (fun b2 v2 V2 u2 e32 hO2=>?_)))))
    have k2:=k1.trans u2.tl
    refine hC _ b2 V2 j k2 (u2.hd es1) (wrI (by omega) (by omega)) (fun b3 u3 es3=>?_)
    refine ⟨⟨j+1,v2,k2.trans u3.tl,es3.trans (by simp),u3.hd e32,by rw [htk,← List.append_assoc];exact hO2,hlt⟩,?_⟩
    rw [es3,es]
    simp only [intOf]
    omega
  · refine wp_cond_false (et.trans (by simp [hlt])) (wp_exit ?_)
    rw [List.take_of_length_le (by omega)] at hO'
    simpa [Exit.then,Exit.inBlock] using hQ b1 v' V k1 e31 hO'
theorem l_box {ops:Array Oper}{Q:Exit→Act→World→Prop}{a:Act}{w:World}{rest:List Oper}{o1 o2:Oper}{d:Nat}(t:TypeId)(zs us:List Value)(hl:us.length=zs.length)(h:∀ w',Blk w' w.heap.size t us.toArray→Ext w w'→WL ops Q rest (Pt a d (.pointer (some ⟨w.heap.size,0,none⟩))) w')
    (hg1:o1.guard=none:=by exact rfl)(hd1:o1.dst=some d:=by exact rfl)(hr1:(execOp (Ev a) o1).run Tryz.prog w=.ok (.value (.pointer (some ⟨w.heap.size,0,none⟩))) (w.alloc (.cells zs.toArray t)):=by (simp [execOp,go_sem, *];try first | rfl | exact ⟨rfl,rfl⟩))(hg2:o2.guard=none:=by exact rfl)(hd2:o2.dst=none:=by exact rfl)
    (hr2:∀ W,Blk W w.heap.size t zs.toArray→(execOp (Ev (Pt a d (.pointer (some ⟨w.heap.size,0,none⟩)))) o2).run Tryz.prog W=.ok .skip (W.setCells w.heap.size 0 us):=by (intro W hB;simp [execOp,go_sem,hB.cell,hB.frozen, *];try rfl)):WL ops Q (o1 :: o2 :: rest) a w:=by
  have hB:=Blk.new w t zs.toArray
  have hX:Ext w (w.alloc (.cells zs.toArray t)):=(Ext.refl w).alloc' _
  refine l_v hg1 hd1 hr1 (l_s hg2 hd2 (hr2 _ hB) (h _ ?_ ((Fr.of_ext (M:=fun _=>False) hX).setCells us 0 (.inr (Nat.le_refl _))).ext))
  have:=setCells_blk us 0 hB (by omega)
  simpa [hl] using this
theorem Sl.u8 {w:World}{T:Nat→Prop}{A:Option Addr}{l:List Int}{j:Nat}(h:Sl w T 1 A l.length (l.map (Value.int .u8)))(hj:j<l.length):∃ b off,A=some ⟨b,off,none⟩∧T b∧w.cell? ⟨b,off+j,none⟩=some (.int .u8 (l.getD j 0)):=by
  obtain ⟨b,off,e,hb,hc⟩:=h.2 (by omega)
  exact ⟨b,off,e,hb,hc j _ (by simp [hj])⟩
theorem d_E1 {ops:Array Oper}{K:Act→World→Prop}{S:World→Prop}{bf:Nat→Bool}{n:Nat}{is:List Nat}{a:Act}{w:World}{v:Value}(a0:Act)(L:List Nat)(d:Nat)(h:∀ a',Ag L a0 a'→Ev a' (.tmp d)=v→K a' w)(hr:Region.ready .any ops (mkL ops.size is)=[]:=by kernel_rfl)(hA:Ag L a0 a:=by (repeat refine .put ?_ rfl);exact .rf)(he:Ev a (.tmp d)=v:=by simp [*];rfl):WD ops K S bf n is a w:=d_nil hr (h a hA he)
noncomputable def R35:=RG Tryz.f12
noncomputable abbrev c35:Code:=.seq (R35 0) (.seq (.seq (R35 1) (.cond (.tmp 10) (.seq (R35 2) .ret) .skip)) (.seq (.seq (R35 3) (.block 0 (.loop (.seq (.seq (R35 4) (.cond (.tmp 14) .skip (.exit 0))) (.seq (.block 1 (.seq (R35 6) (.cond (.tmp 25) (.seq (R35 7) .ret) .skip))) (R35 5)))))) (.seq (R35 8) .ret)))
theorem b35:Tryz.f12.body=some c35:=by kernel_rfl
set_option maxHeartbeats 1000000 in
theorem same35 {T T':Nat→Prop}{A A':Option Addr}{c c':Nat}(l l':List Int)(w:World)(hl:l.length≤1000000000000)(_:l'.length≤1000000000000)(h:Sl w T 1 A l.length (l.map (Value.int .u8)))(h':Sl w T' 1 A' l'.length (l'.map (Value.int .u8))):Calls Tryz.prog 12 #[.slice A l.length c,.slice A' l'.length c'] w (RetE (.bool (decide (l=l'))) w):=by
  refine callsV Tryz.func12 b35 rfl (by simp) (fun a Q sz df ea hQ=>?_)
  have e0:=ea 0 (.slice A l.length c) rfl
  have e1:=ea 1 (.slice A' l'.length c') rfl
  refine wp_seq (rW ?_)
  refine lv ?_
  refine lN a [0,1] ?_
  intro a1 u1
  replace sz:=u1.sz.trans sz
  replace df:=u1.df.trans df
  replace e0:=u1.get 0 e0
  replace e1:=u1.get 1 e1
  refine wp_seq (wp_seq (rW ?_))
  iterate 5 refine lv ?_
  refine lE a1 [0,1] 10 ?_
  intro a2 u2 e10
  replace sz:=u2.sz.trans sz
  replace df:=u2.df.trans df
  replace e0:=u2.get 0 e0
  replace e1:=u2.get 1 e1
  by_cases hn:l'.length=l.length
  · refine wp_cond_false (e10.trans (by simp [hn])) (wp_skip (wp_seq (wp_seq (rW ?_))))
    refine lv ?_
    refine lE a2 [0,1] 5 ?_
    intro a3 u3 e5
    replace sz:=u3.sz.trans sz
    replace df:=u3.df.trans df
    replace e0:=u3.get 0 e0
    replace e1:=u3.get 1 e1
    refine wp_block (wp_loop (fun a' V=>∃ j:Nat,Ag [0,1] a3 a'∧Ev a' (.tmp 5)=.int .i64 (j:Int)∧j≤l.length∧l.take j=l'.take j∧Ext w V) (fun a' _=>(l.length - intOf (Ev a' (.tmp 5))).toNat) ⟨0,.rf,e5,Nat.zero_le _,rfl,Ext.refl _⟩ ?_)
    clear e5
    rintro a4 V ⟨j,u4,e5,hj,hp,hx⟩
    replace sz:=u4.sz.trans sz
    replace df:=u4.df.trans df
    replace e0:=u4.get 0 e0
    replace e1:=u4.get 1 e1
    have m5:=e5
    refine wp_seq (wp_seq (rW ?_))
    iterate 4 refine lv ?_
    refine lE a4 [0,1,5] 14 ?_
    intro a5 u5 e14
    replace sz:=u5.sz.trans sz
    replace df:=u5.df.trans df
    replace e0:=u5.get 0 e0
    replace e1:=u5.get 1 e1
    replace e5:=u5.get 5 e5
    by_cases hlt:j<l.length
    · refine wp_cond_true (e14.trans (by simp [hlt])) (wp_skip (wp_seq (wp_block (wp_seq ?_))))
      obtain ⟨b,off,rfl,-,hc⟩:=h.u8 hlt
      obtain ⟨b',off',rfl,-,hc'⟩:=h'.u8 (j:=j) (by omega)
      have t1:=take_get 0 hlt
      have t2:=take_get (l:=l') (k:=j) 0 (by omega)
      have hx1:=hx.drew'
      have hyy:l=l'→l.getD j 0=l'.getD j 0:=fun h=>by rw [h]
      generalize l.getD j 0=y at *
      generalize l'.getD j 0=y' at *
      have hji:(j:Int)<l.length:=by omega
      have hji':(j:Int)<l'.length:=by omega
      refine rD (fun w'=>Ext w w') (fun _=>true) 9 ?_
      generalize V.drew=V1 at *
      have hS:=hx1
      refine dt 0 [0,1,2,3,4,5,6,7,8] ?_
      iterate 3 refine tv ?_
      refine tv ?_ (hy:=by intro w' hw;have:=cell_ext hw hc;simp [execOp,go_sem, *];rfl)
      iterate 3 refine tv ?_
      refine tv ?_ (hy:=by intro w' hw;have:=cell_ext hw hc';simp [execOp,go_sem, *];rfl)
      refine tv ?_
      refine t_e ?_
      refine d_E1 a5 [0,1,5] 25 ?_
      intro a6 u6 e25
      replace sz:=u6.sz.trans sz
      replace df:=u6.df.trans df
      replace e0:=u6.get 0 e0
      replace e1:=u6.get 1 e1
      replace e5:=u6.get 5 e5
      by_cases he:y=y'
      · refine wp_cond_false (e25.trans (by simp [he])) (wp_skip (rW ?_))
        iterate 3 refine lv ?_
        refine lE a6 [0,1] 5 ?_
        clear e5
        intro b7 u7 e5
        refine ⟨⟨j+1,((u4.trans (u5.mono rfl)).trans (u6.mono rfl)).trans u7,e5.trans (by simp),hlt,by rw [t1,t2,hp,he],hx1⟩,?_⟩
        rw [e5,m5]
        simp only [intOf]
        omega
      · refine wp_cond_true (e25.trans (by simpa using he)) (wp_seq (rW ?_))
        refine lv ?_
        refine lE a6 [] 4 ?_
        intro b7 u7 e4
        exact wp_ret (hQ _ _ _ (u7.df.trans df) (by simp [results,Tryz.results12,go_sem,evT e4];try rfl) ⟨by rw [decide_eq_false (fun h=>he (hyy h))],hx1⟩)
    · refine wp_cond_false (e14.trans (by simp [hlt])) (wp_exit (wp_seq (rW ?_)))
      refine lv ?_
      refine lE a5 [] 4 ?_
      intro b7 u7 e4
      rw [List.take_of_length_le (by omega),List.take_of_length_le (by omega)] at hp
      exact wp_ret (hQ _ _ _ (u7.df.trans df) (by simp [results,Tryz.results12,go_sem,evT e4];try rfl) ⟨by rw [decide_eq_true hp],hx⟩)
  · refine wp_cond_true (e10.trans (by simp;omega)) (wp_seq (rW ?_))
    refine lv ?_
    refine lE a2 [] 4 ?_
    intro a3 u3 e4
    exact wp_ret (hQ _ _ _ (u3.df.trans df) (by simp [results,Tryz.results12,go_sem,evT e4];try rfl) ⟨by rw [decide_eq_false (fun h=>hn (by rw [h]))],Ext.refl _⟩)
noncomputable def R37:=RG Tryz.f18
noncomputable abbrev c37:Code:=.seq (R37 0) (.seq (R37 1) (.seq (R37 2) .ret))
theorem b37:Tryz.f18.body=some c37:=by kernel_rfl
set_option maxHeartbeats 1000000 in
theorem few37 {T:Nat→Prop}{A:Option Addr}{c:Nat}(l:List Int)(most:Nat)(w:World)(hl:l.length≤1000000000000000∧l.length≤c∧c≤9223372036854775807)(hm:most≤1000000000)(h:Sl w T 1 A l.length (l.map (Value.int .u8))):Calls Tryz.prog 18 #[.slice A l.length c,.int .i64 (most:Int)] w (RetBy (l.take most) w):=by
  refine callsV Tryz.func18 b37 rfl (by simp) (fun a Q sz df ea hQ=>?_)
  have e0:=ea 0 (.slice A l.length c) rfl
  have e1:=ea 1 (.int .i64 (most:Int)) rfl
  refine wp_seq (rW ?_)
  refine lv ?_
  refine lN a [0,1] ?_
  intro a1 u1
  replace sz:=u1.sz.trans sz
  replace df:=u1.df.trans df
  replace e0:=u1.get 0 e0
  replace e1:=u1.get 1 e1
  refine wp_seq (rW ?_)
  refine lv ?_
  refine lE a1 [0,1] 5 ?_
  intro a2 u2 e5
  replace sz:=u2.sz.trans sz
  replace df:=u2.df.trans df
  replace e0:=u2.get 0 e0
  replace e1:=u2.get 1 e1
  refine wp_seq (rW ?_)
  obtain ⟨k,hk⟩:∃ k:Nat,(l.take most).length=k:=⟨_,rfl⟩
  have hkl':=hk
  rw [List.length_take] at hk
  have hk2:(if most<l.length then (most:Int) else l.length)=(k:Int):=by split <;> omega
  have hkc:k≤c:=by omega
  have hkl:k≤l.length:=by omega
  iterate 6 refine lv ?_
  refine lv ?_
  have hsl:Sl w T 1 A k ((l.take most).map (Value.int .u8)):=by
    refine ⟨by rw [List.length_map,hkl',Nat.mul_one],fun h0=>?_⟩
    obtain ⟨b,off,e,hb,hc⟩:=h.2 (by omega)
    refine ⟨b,off,e,hb,fun j u hu=>hc j u ?_⟩
    rw [List.map_take,List.getElem?_take] at hu
    split at hu
    · exact hu
    · cases hu
  refine lap (c:=c) (Ou.none w) hsl hkl'.symm (by rw [hkl',List.length_nil];omega) ?_
  intro v' w' hO
  refine lv ?_
  refine lE a2 [] 4 ?_
  intro a3 u3 e4
  exact wp_ret (hQ _ _ _ (u3.df.trans df) (by simp [results,Tryz.results18,go_sem,evT e4];try rfl) ⟨v',rfl,hO⟩)
end Go.Proofs.YtfcplpeimcjhaaaGreatDoor
