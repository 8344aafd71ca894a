/- Regions that draw their order: acts. Conditions: none. Entries of a map literal, put in in whatever order. Conditions: none. Regions that draw their order: the whole. Conditions: none. -/
import Derived.Test.YtfcplpeimcjhaaaGreatDoorKW
namespace Go.Ke
open Go.RowKit
section
variable {P : Program} {ih : Ev} {ops : Array Oper} {wm : T Nat} {g0 : Nat → Option Value} {n m : Nat} {ρ0 ρ : Rho} {W0 W : AW} {w0 w : World} {a0 a : Act} {D : Nat} {tm tm' : T Value} {ow : Nat → Option Nat} {listed : Array Bool} {ds : List DD} {o : Oper} {i : Nat} {v : Value} {F : Fence} {Q : Exit → Act → World → Prop}
/-- an act, done by both -/
theorem eff_inv (hs : Sta P ops.toList wm) (hi : ops.toList[i]? = some o) (hI : Inv P ops wm g0 n ρ0 W0 w0 a0 D tm W ow ρ listed a w) (hD : D.testBit i = false) (hdep : ∀ e ∈ o.after.toList, Region.binds .any e = true → listed.getD e.on false = true)
    {ρ' : Rho} {W' : AW} {w' : World} {v v' : Value} (ho : (o.dst = none ∧ tm' = tm) ∨ ∃ t, o.dst = some t ∧ t < n ∧ ∀ j, tm'.get j = if j = t then some v else tm.get j) (hv : VR ρ' v v') (hWR : WR ρ' W' w') (hup : Up ρ W w ρ' W' w')
    (hld : ∀ k o2, ops.toList[k]? = some o2 → D.testBit k = true → listed.getD k false = false → kind P o2.op = 1 → ∀ v, (∀ g, Agr (uses ops.toList o2) g (gU ops.toList wm g0 tm k) → o_load P g W o2.op = .ok v) → (∀ g, Agr (uses ops.toList o2) g (gU ops.toList wm g0 tm k) → wantV ops.toList g o2.guard = .ok true) → DV o2 tm n v → ∃ v', (∀ g, Agr (uses ops.toList o2) g (gU ops.toList wm g0 tm k) → o_load P g W' o2.op = .ok v') ∧ DV o2 tm n v') :
    Inv P ops wm g0 n ρ0 W0 w0 a0 (Nat.lor D (Nat.pow 2 i)) tm' W' ow ρ' (listed.setIfInBounds i true) (a.put o.dst v') w' := by
  have hlt : i < listed.size := by
    rw [hI.lsz]
    have := (List.getElem?_eq_some_iff.1 hi).1
    simpa using this
  have hnb : ∀ k, D.testBit k = true → ¬ Bf ops.toList k i := fun k hk h => by
    have := clo_tb hI.dcl h hk
    rw [hD] at this; cases this
  have hne : ∀ k, D.testBit k = true → k ≠ i := fun k hk e => by rw [e, hD] at hk; cases hk
  refine ⟨by simpa using hI.lsz, ?_, ?_, ?_, ?_, ?_, ?_, ?_, by rw [put_defers]; exact hI.df, hWR, hI.up.trans hup, ?_⟩
  · intro k hk
    rw [getD_set hlt, Bool.or_eq_true, decide_eq_true_iff] at hk
    rw [bit_add, Bool.or_eq_true, decide_eq_true_iff]
    rcases hk with rfl | hk
    · exact .inr rfl
    · exact .inl (hI.sub k hk)
  · intro k o2 hk h e he hb
    rw [getD_set hlt, Bool.or_eq_true, decide_eq_true_iff] at h ⊢
    rcases h with rfl | h
    · rw [hi] at hk; cases hk
      exact .inr (hdep e he hb)
    · exact .inr (hI.lcl k o2 hk h e he hb)
  · intro k o2 hk h e he hb
    simp only [bit_add, Bool.or_eq_true, decide_eq_true_iff] at h ⊢
    rcases h with h | rfl
    · exact .inl (hI.dcl k o2 hk h e he hb)
    · rw [hi] at hk; cases hk
      exact .inl (hI.sub _ (hdep e he hb))
  · intro k h
    rw [bit_add, Bool.or_eq_true, decide_eq_true_iff] at h
    rcases h with h | rfl
    · exact hI.dlt k h
    · rw [← hI.lsz]; exact hlt
  · intro k o2 hk h h3
    rw [bit_add, Bool.or_eq_true, decide_eq_true_iff] at h
    rw [getD_set hlt, Bool.or_eq_true, decide_eq_true_iff]
    rcases h with h | rfl
    · exact .inr (hI.eff k o2 hk h h3)
    · exact .inl rfl
  · intro t ht
    have h1 : wm.get t ≠ some i := fun h => by
      have := ht i h
      rw [bit_add] at this
      simp at this
    rw [put_other hs hi ho h1]
    refine hI.abs t fun j hj => ?_
    have := ht j hj
    rw [bit_add, Bool.or_eq_false_iff] at this
    exact this.1
  · have hoth : ∀ t, wm.get t ≠ some i → gL wm g0 (Nat.lor D (Nat.pow 2 i)) (fun j => (listed.setIfInBounds i true).getD j false) tm' t = gL wm g0 D (fun j => listed.getD j false) tm t := by
      intro t ht
      have h1 := put_other hs hi ho ht
      unfold gL
      cases hw : wm.get t with
      | none => exact h1
      | some j =>
        have hji : j ≠ i := fun e => ht (by rw [hw, e])
        simp only [getD_set hlt, bit_add, h1, decide_eq_false hji, decide_eq_false (Ne.symm hji), Bool.or_false, Bool.false_or]
    refine TR.put (v := v) (hI.tr.mono hup.le) hv ?_
    rcases ho with ⟨h1, h2⟩ | ⟨d, h1, h2, h3⟩
    · refine .inl ⟨h1, funext fun t => hoth t fun h => ?_⟩
      obtain ⟨o2, q1, q2⟩ := hs.conv t i h
      rw [hi] at q1; cases q1
      rw [h1] at q2; cases q2
    · refine .inr ⟨d, h1, h2, fun t => ?_⟩
      by_cases htd : t = d
      · subst htd
        rw [if_pos rfl]
        unfold gL
        rw [hs.wr i o hi t h1]
        simp only [getD_set hlt, decide_true, Bool.true_or]
        rw [if_neg (fun h => by cases h.2), h3, if_pos rfl]
      · rw [if_neg htd]
        refine hoth t fun h => ?_
        obtain ⟨o2, q1, q2⟩ := hs.conv t i h
        rw [hi] at q1; cases q1
        rw [h1] at q2; cases q2
        exact htd rfl
  · intro k o2 hk h hLk
    rw [getD_set hlt, Bool.or_eq_false_iff, decide_eq_false_iff_not] at hLk
    rw [bit_add, Bool.or_eq_true, decide_eq_true_iff] at h
    have h : D.testBit k = true := h.resolve_right (Ne.symm hLk.1)
    refine (hI.pend k o2 hk h hLk.2).mono (gU_put hs hi ho (.inr (hnb k h))) (fun d hd => put_other hs hi ho (by rw [hs.wr k o2 hk d hd]; intro e; cases e; exact hLk.1 rfl)) (fun hk1 v hv hw hd => hld k o2 hk h hLk.2 hk1 v hv hw hd) fun blk cs h1 h2 h3 _ h5 => ?_
    obtain ⟨q1, q2⟩ := hup.out blk h5 h2
    exact ⟨h1, q1, q2 _ h3, Nat.lt_of_lt_of_le h5 hup.next⟩
/-- what is ready is done, in whatever order -/
theorem inner_ok (hs : Sta P ops.toList wm) (hF : ∀ f, F.fn f)
    (hfin : ∀ ρ listed a w, Inv P ops wm g0 n ρ0 W0 w0 a0 D tm W ow ρ listed a w → (∀ i, i < ops.size → listed.getD i false = true) → Q .normal a w)
    (heff : ∀ ρ listed a w fuel i o, Inv P ops wm g0 n ρ0 W0 w0 a0 D tm W ow ρ listed a w → ops.toList[i]? = some o → D.testBit i = false → (∀ e ∈ o.after.toList, Region.binds .any e = true → listed.getD e.on false = true) → unl (listed.setIfInBounds i true) ops.size ≤ fuel → wpOpIn F m P ops Q i (wpAnyIn F m P .any ops Q fuel (listed.setIfInBounds i true)) a w) :
    ∀ (fuel : Nat) (ρ : Rho) (listed : Array Bool) (a : Act) (w : World), Inv P ops wm g0 n ρ0 W0 w0 a0 D tm W ow ρ listed a w → unl listed ops.size ≤ fuel → wpAnyIn F m P .any ops Q fuel listed a w
  | 0, ρ, listed, a, w, hI, hu => by
    have hall := unl_all ops.size (Nat.le_zero.1 hu)
    refine ⟨List.eq_nil_iff_forall_not_mem.2 fun i hi => ?_, hfin ρ listed a w hI hall⟩
    obtain ⟨h1, o, h2, _⟩ := (ready_mem hI.lsz).1 hi
    have hlt : i < ops.size := by simpa using (List.getElem?_eq_some_iff.1 h2).1
    rw [hall i hlt] at h1; cases h1
  | fuel + 1, ρ, listed, a, w, hI, hu => by
    refine ⟨fun hr => hfin ρ listed a w hI ?_, fun i hi => ?_⟩
    · intro i
      induction i using Nat.strongRecOn with
      | _ i ihi =>
        intro hlt
        cases hc : listed.getD i false with
        | true => rfl
        | false =>
          exfalso
          have h2 : ops.toList[i]? = some ops.toList[i] := List.getElem?_eq_getElem (by simpa using hlt)
          have : i ∈ Region.ready .any ops listed := (ready_mem hI.lsz).2 ⟨hc, _, h2, fun e he hb => ihi e.on (hs.back i _ h2 e he hb) (Nat.lt_trans (hs.back i _ h2 e he hb) hlt)⟩
          rw [hr] at this; cases this
    · obtain ⟨h1, o, h2, h3⟩ := (ready_mem hI.lsz).1 hi
      have hlt : i < ops.size := by simpa using (List.getElem?_eq_some_iff.1 h2).1
      have hun := unl_set (listed := listed) (i := i) (by rw [hI.lsz]; exact hlt) h1 ops.size
      rw [if_pos hlt] at hun
      have hun : unl (listed.setIfInBounds i true) ops.size ≤ fuel := by omega
      by_cases hD : D.testBit i = true
      · exact pend_run hs h2 hF hI hD h1 h3 _ fun ρ' a' w' hI' => inner_ok hs hF hfin heff fuel ρ' _ a' w' hI' hun
      · exact heff ρ listed a w fuel i o hI h2 (bit_none hD) h3 hun
end
end Go.Ke
namespace Go.Ke
open Go.RowKit
theorem VR.mapb {ρ : Rho} {b : Nat} {v : Value} (h : VR ρ (.map (some b)) v) : ∃ c, ρ b = some c := by
  cases h with
  | flat h => simp [Ke.flat] at h
  | map h => exact ⟨_, h⟩
theorem set_ok {α : Type} (n : Nat) (t : T α) (i : Nat) (x : α) : ∃ t', t.set n i x = .ok t' := by
  obtain ⟨t2, h1, _⟩ := put_ok' (x := x) (pth i) t E.ok
  exact ⟨t2, h1⟩
theorem insO_ok {o : Oper} (h : insO o = true) : o.dst = none ∧ o.guard = none ∧ ∃ t m k v, o.op = .insert t m k v := by
  have hs : insO o = @Option.rec (TypeId × Operand × Operand × Operand) (fun _ => Bool) false (fun _ => @Option.rec (Nat × Bool) (fun _ => Bool) (@Option.rec Tmp (fun _ => Bool) true (fun _ => false) o.dst) (fun _ => false) o.guard) (insOf o.op) := rfl
  rw [hs] at h
  cases hi : insOf o.op with
  | none => rw [hi] at h; cases h
  | some q =>
    rw [hi] at h
    cases hg : o.guard with
    | some p => rw [hg] at h; cases h
    | none =>
      rw [hg] at h
      cases hd : o.dst with
      | some d => rw [hd] at h; cases h
      | none =>
        refine ⟨rfl, rfl, ?_⟩
        unfold insOf at hi
        split at hi
        · rename_i t m k v ho; exact ⟨t, m, k, v, ho⟩
        · cases hi
theorem insAll_ok : ∀ {g : List (Nat × Oper)}, insAll g = true → ∀ p ∈ g, insO p.2 = true
  | [], _, p, hp => by cases hp
  | q :: g, h, p, hp => by
    obtain ⟨h1, h2⟩ := bl_and (a := insO q.2) (b := insAll g) h
    rcases List.mem_cons.1 hp with rfl | hp
    · exact h1
    · exact insAll_ok h2 p hp
theorem noLook_ok {P : Program} {D : Nat} : ∀ {l : List (Nat × Oper)}, noLook P l D = true → ∀ p ∈ l, D.testBit p.1 = true → plainL P p.2.op = true
  | [], _, p, hp, _ => by cases hp
  | q :: l, h, p, hp, hD => by
    change bl (tb D q.1) (bl (plainL P q.2.op) (noLook P l D) false) (noLook P l D) = true at h
    cases h1 : tb D q.1 with
    | true =>
      rw [h1] at h
      obtain ⟨h2, h3⟩ := bl_and (a := plainL P q.2.op) (b := noLook P l D) h
      rcases List.mem_cons.1 hp with rfl | hp
      · exact h2
      · exact noLook_ok h3 p hp hD
    | false =>
      rw [h1] at h
      rcases List.mem_cons.1 hp with rfl | hp
      · rw [tb_eq, hD] at h1; cases h1
      · exact noLook_ok h p hp hD
theorem plainL_ok {P : Program} {o : Op} (h : plainL P o = true) (hk : kind P o = 1) : ∃ t x, o = .load t x := by
  unfold plainL at h
  split at h
  · exact ⟨_, _, rfl⟩
  · rw [hk] at h; cases h
theorem maskOf_bit {D j : Nat} : ∀ {g : List (Nat × Oper)}, (maskOf g D).testBit j = true ↔ D.testBit j = true ∨ ∃ p ∈ g, p.1 = j
  | [] => by
    show D.testBit j = true ↔ _
    simp
  | q :: g => by
    show (Nat.lor (maskOf g D) (Nat.pow 2 q.1)).testBit j = true ↔ _
    rw [bit_add, Bool.or_eq_true, maskOf_bit (g := g), decide_eq_true_iff]
    constructor
    · rintro ((h | ⟨p, hp, h⟩) | h)
      · exact .inl h
      · exact .inr ⟨p, List.mem_cons_of_mem _ hp, h⟩
      · exact .inr ⟨q, List.mem_cons_self .., h⟩
    · rintro (h | ⟨p, hp, h⟩)
      · exact .inl (.inl h)
      · rcases List.mem_cons.1 hp with rfl | hp
        · exact .inr h
        · exact .inl (.inr ⟨p, hp, h⟩)
def allIn (full : Nat) (l : List (Nat × Oper)) : Prop := ∀ p ∈ l, tb full p.1 = true
theorem subs_ok {l : List (Nat × Oper)} {full : Nat} : ∀ {g : List (Nat × Oper)} {D0 : Nat}, subs l full g D0 = true → ∀ D, (∀ j, D0.testBit j = true → D.testBit j = true) → (∀ j, D.testBit j = true → D0.testBit j = true ∨ ∃ p ∈ g, p.1 = j) → D = full ∨ allIn full (opens l D)
  | [], D0, h, D, h1, h2 => by
    have hDD : D = D0 := Nat.eq_of_testBit_eq fun j => by
      cases hj : D.testBit j with
      | true =>
        rcases h2 j hj with h3 | ⟨p, hp, _⟩
        · rw [h3]
        · cases hp
      | false =>
        cases hj0 : D0.testBit j with
        | false => rfl
        | true => rw [h1 j hj0] at hj; cases hj
    subst hDD
    have h : bl (Nat.beq D full) true (@List.rec (Nat × Oper) (fun _ => Bool) true (fun p _ r => bl (tb full p.1) r false) (opens l D)) = true := h
    cases hb : Nat.beq D full with
    | true => exact .inl (Nat.eq_of_beq_eq_true hb)
    | false =>
      rw [hb] at h
      refine .inr ?_
      change @List.rec (Nat × Oper) (fun _ => Bool) true (fun p _ r => bl (tb full p.1) r false) (opens l D) = true at h
      generalize opens l D = ol at h
      induction ol with
      | nil => intro p hp; cases hp
      | cons q ol ih =>
        obtain ⟨h3, h4⟩ := bl_and h
        intro p hp
        rcases List.mem_cons.1 hp with rfl | hp
        · exact h3
        · exact ih h4 p hp
  | q :: g, D0, h, D, h1, h2 => by
    obtain ⟨h3, h4⟩ := bl_and (a := subs l full g D0) (b := subs l full g (Nat.lor D0 (Nat.pow 2 q.1))) h
    cases hq : D.testBit q.1 with
    | true =>
      refine subs_ok h4 D (fun j hj => ?_) (fun j hj => ?_)
      · rw [bit_add, Bool.or_eq_true, decide_eq_true_iff] at hj
        rcases hj with hj | rfl
        · exact h1 j hj
        · exact hq
      · rw [bit_add, Bool.or_eq_true, decide_eq_true_iff]
        rcases h2 j hj with h5 | ⟨p, hp, h5⟩
        · exact .inl (.inl h5)
        · rcases List.mem_cons.1 hp with rfl | hp
          · exact .inl (.inr h5)
          · exact .inr ⟨p, hp, h5⟩
    | false =>
      refine subs_ok h3 D h1 (fun j hj => ?_)
      rcases h2 j hj with h5 | ⟨p, hp, h5⟩
      · exact .inl h5
      · rcases List.mem_cons.1 hp with rfl | hp
        · rw [h5, hj] at hq; cases hq
        · exact .inr ⟨p, hp, h5⟩
theorem idx_lt : ∀ {l : List Oper} {k : Nat} {p : Nat × Oper}, p ∈ idx l k → k ≤ p.1
  | [], k, p, h => by cases h
  | o :: l, k, p, h => by
    have h : p ∈ (k, o) :: idx l (k + 1) := h
    rcases List.mem_cons.1 h with rfl | h
    · exact Nat.le_refl _
    · have := idx_lt h; omega
theorem idx_nodup : ∀ {l : List Oper} {k : Nat}, (idx l k).Nodup
  | [], k => List.nodup_nil
  | o :: l, k => by
    show ((k, o) :: idx l (k + 1)).Nodup
    rw [List.nodup_cons]
    exact ⟨fun h => by have := idx_lt h; dsimp only at this; omega, idx_nodup⟩
theorem opens_sub {D : Nat} : ∀ {l : List (Nat × Oper)}, (opens l D).Sublist l
  | [] => .slnil
  | q :: l => by
    have hs : opens (q :: l) D = bl (tb D q.1) (opens l D) (bl (sub (dm q.2) D) (q :: opens l D) (opens l D)) := rfl
    rw [hs]
    cases tb D q.1 with
    | true => exact opens_sub.cons _
    | false =>
      cases sub (dm q.2) D with
      | true => exact opens_sub.cons_cons _
      | false => exact opens_sub.cons _
theorem opens_nodup {l : List Oper} {D k : Nat} : (opens (idx l k) D).Nodup := idx_nodup.sublist opens_sub
/-! ### what is put in -/
noncomputable def entOf (g : Nat → Option Value) (p : Nat × Oper) : Value × Value := match insV g p.2.op with
  | .ok q => (q.2.2.1, q.2.2.2)
  | .er _ => (.nilIface, .nilIface)
section
variable {P : Program} {g : Nat → Option Value} {t kt : TypeId} {b : Nat}
theorem keyT_ok (h : keyT P t = .ok kt) : ∃ e, P.underlying t = some (.map kt e) ∧ under P t = .ok (.map kt e) := by
  obtain ⟨u, h1, e1⟩ := bd_ok h
  obtain ⟨q, h2, e2⟩ := bd_ok e1
  cases e2
  have h3 := mapT_ok h2
  exact ⟨q.2, by rw [under_ok h1, h3], by rw [h1, h3]⟩
theorem insE_ok (hkt : keyT P t = .ok kt) : ∀ {l : List (Nat × Oper)} {es : List (Value × Value)}, insE P g t b l = .ok es → es = l.map (entOf g) ∧ ∀ p ∈ l, insV g p.2.op = .ok (t, .map (some b), entOf g p) ∧ keyE P kt (entOf g p).1 = .ok ()
  | [], es, e => by cases e; exact ⟨rfl, fun p hp => by cases hp⟩
  | p :: l, es, e => by
    obtain ⟨q, h1, e1⟩ := bd_ok (x := insV g p.2.op) e
    rcases bl_ok e1 with ⟨h2, e2⟩ | ⟨_, e2⟩
    · obtain ⟨c, h3, e3⟩ := bd_ok e2
      cases c with
      | none => cases e3
      | some c =>
        rcases bl_ok (c := Nat.beq c b) e3 with ⟨h4, e4⟩ | ⟨_, e4⟩
        · obtain ⟨kt', h5, e5⟩ := bd_ok e4
          rw [hkt] at h5; cases h5
          obtain ⟨_, h6, e6⟩ := bd_ok e5
          obtain ⟨es', h7, e7⟩ := bd_ok (x := insE P g t b l) e6
          cases e7
          obtain ⟨h8, h9⟩ := insE_ok hkt h7
          have hent : entOf g p = (q.2.2.1, q.2.2.2) := by unfold entOf; rw [h1]
          have h2 := Nat.eq_of_beq_eq_true h2
          have h4 := Nat.eq_of_beq_eq_true h4
          have h10 : insV g p.2.op = .ok (t, .map (some b), entOf g p) := by
            rw [h1, hent]
            obtain ⟨q1, q2, q3, q4⟩ := q
            have := asM_ok h3
            dsimp only at this h2 ⊢
            rw [this, h2, h4]
          refine ⟨by rw [List.map_cons, h8, hent], fun p' hp' => ?_⟩
          rcases List.mem_cons.1 hp' with rfl | hp'
          · exact ⟨h10, by rw [hent]; exact h6⟩
          · exact h9 p' hp'
        · cases e4
    · cases e2
def Far (P : Program) (kt : TypeId) (x y : Value × Value) : Prop := keq P kt x.1 y.1 = .ok false ∧ keq P kt y.1 x.1 = .ok false
theorem apart1_ok {k : Value} : ∀ {es : List (Value × Value)} {r r' : Bool}, apart1 P kt k es r = .ok r' → ∀ p ∈ es, keq P kt k p.1 = .ok false ∧ keq P kt p.1 k = .ok false
  | [], r, r', e, p, hp => by cases hp
  | q :: es, r, r', e, p, hp => by
    obtain ⟨x, h1, e1⟩ := bd_ok (x := keq P kt k q.1) e
    obtain ⟨y, h2, e2⟩ := bd_ok (x := keq P kt q.1 k) e1
    rcases bl_ok e2 with ⟨_, e3⟩ | ⟨rfl, e3⟩
    · cases e3
    · rcases bl_ok e3 with ⟨_, e4⟩ | ⟨rfl, e4⟩
      · cases e4
      · rcases List.mem_cons.1 hp with rfl | hp
        · exact ⟨h1, h2⟩
        · exact apart1_ok (r := r) (r' := r') e4 p hp
theorem apart_ok : ∀ {es : List (Value × Value)} {r : Bool}, apart P kt es = .ok r → es.Pairwise (Far P kt)
  | [], r, e => .nil
  | p :: es, r, e => by
    obtain ⟨x, h1, e1⟩ := bd_ok (x := apart P kt es) e
    exact .cons (fun q hq => apart1_ok e1 q hq) (apart_ok h1)
theorem pw_all {α : Type} {R : α → α → Prop} (hs : ∀ a b, R a b → R b a) : ∀ {l : List α}, l.Pairwise R → ∀ a ∈ l, ∀ b ∈ l, a ≠ b → R a b
  | [], _, a, ha, _, _, _ => by cases ha
  | x :: l, h, a, ha, b, hb, hne => by
    rw [List.pairwise_cons] at h
    rcases List.mem_cons.1 ha with h1 | h1 <;> rcases List.mem_cons.1 hb with h2 | h2
    · exact absurd (h1.trans h2.symm) hne
    · rw [h1]; exact h.1 b h2
    · rw [h2]; exact hs _ _ (h.1 a h1)
    · exact pw_all hs h.2 a h1 b h2 hne
theorem mfind_none {k : Value} : ∀ {es : List (Value × Value)}, (∀ p ∈ es, keq P kt k p.1 = .ok false) → mfind P kt k es = .ok none
  | [], _ => rfl
  | p :: es, h => by
    have ih := mfind_none (es := es) fun q hq => h q (List.mem_cons_of_mem _ hq)
    show (keq P kt k p.1).bd _ = _
    rw [h p (List.mem_cons_self ..)]
    show (mfind P kt k es).bd _ = _
    rw [ih]; rfl
/-- the whole of what a group of entries says -/
theorem insW_ok {W W2 : AW} {l : List (Nat × Oper)} (e : insW P g W l = .ok W2) : ∃ t kt b, keyT P t = .ok kt ∧ (∀ p ∈ l, insV g p.2.op = .ok (t, .map (some b), entOf g p) ∧ keyE P kt (entOf g p).1 = .ok ()) ∧ (l.map (entOf g)).Pairwise (Far P kt) ∧ W.es b = .ok [] ∧ W2.next = W.next ∧ ∀ x, W2.heap.get x = if x = b then some (.map (l.map (entOf g))) else W.heap.get x := by
  cases l with
  | nil => cases e
  | cons p l =>
    obtain ⟨q, h1, e1⟩ := bd_ok (x := insV g p.2.op) e
    obtain ⟨c, h2, e2⟩ := bd_ok e1
    cases c with
    | none => cases e2
    | some b =>
      obtain ⟨es, h3, e3⟩ := bd_ok (x := insE P g q.1 b (p :: l)) e2
      obtain ⟨kt, h4, e4⟩ := bd_ok e3
      obtain ⟨r, h5, e5⟩ := bd_ok e4
      obtain ⟨es0, h6, e6⟩ := bd_ok e5
      cases es0 with
      | cons x y => cases e6
      | nil =>
        obtain ⟨H, h7, e7⟩ := bd_ok (x := W.heap.set 40 b (.map es)) e6
        cases e7
        obtain ⟨rfl, h9⟩ := insE_ok h4 h3
        exact ⟨q.1, kt, b, h4, h9, apart_ok h5, h6, rfl, fun x => set_get 40 h7 x⟩
end
theorem MR.perm {ρ : Rho} {es es' : List (Value × Value)} {E : List MapEntry} (hp : es.Perm es') (h : MR ρ es E) : MR ρ es' E :=
  ⟨by rw [← hp.length_eq]; exact h.sz, (hp.map _).nodup_iff.1 h.nd, h.ne, fun k v hm => h.to k v (hp.mem_iff.2 hm), fun e he => let ⟨v, h1, h2⟩ := h.fr e he; ⟨v, hp.mem_iff.1 h1, h2⟩⟩
section
variable {P : Program} {ih : Ev} {ops : Array Oper} {wm : T Nat} {g0 : Nat → Option Value} {n m : Nat} {ρ0 ρ : Rho} {W0 W : AW} {w0 w : World} {a0 a : Act} {D : Nat} {tm tm' : T Value} {ow : Nat → Option Nat} {listed : Array Bool} {ds : List DD} {o : Oper} {i : Nat} {v : Value} {F : Fence} {Q : Exit → Act → World → Prop}
/-- the order of a map's entries does not count -/
theorem WR.perm {W W2 : AW} {b : Nat} {es es' : List (Value × Value)} (h : WR ρ W w) (hp : es.Perm es') (hb : W.heap.get b = some (.map es)) (hnx : W2.next = W.next) (hg : ∀ x, W2.heap.get x = if x = b then some (.map es') else W.heap.get x) : WR ρ W2 w := by
  refine ⟨?_, ?_, ?_, ?_, ?_⟩
  · intro b1 c1 n1 h1
    obtain ⟨k1, ao1, o1, k2, k3, k4⟩ := h.dom b1 c1 n1 h1
    refine ⟨by rw [hnx]; exact k1, ?_⟩
    by_cases hbb : b1 = b
    · subst hbb
      rw [hb] at k2; cases k2
      refine ⟨_, o1, by rw [hg, if_pos rfl], k3, ?_⟩
      cases o1 <;> simp only [OR] at k4 ⊢
      exact k4.perm hp
    · exact ⟨ao1, o1, by rw [hg, if_neg hbb]; exact k2, k3, k4⟩
  · intro b1 b2 c1 n1 n2 al cs h1 h2 hne h3
    rw [hg] at h3
    by_cases hbb : b2 = b
    · rw [if_pos hbb] at h3; cases h3
    · rw [if_neg hbb] at h3
      have old := h.al b1 b2 c1 n1 n2 al cs h1 h2 hne h3
      have : b1 ≠ b := fun e => by
        rcases old with hd | ⟨_, cs', hs, _⟩
        · rw [e, hb] at hd; cases hd
        · rw [e, hb] at hs; cases hs
      rw [hg, if_neg this]; exact old
  · intro b1 p al cs h1 h2 x hx
    rw [hg] at h2
    by_cases hbb : b1 = b
    · rw [if_pos hbb] at h2; cases h2
    · rw [if_neg hbb] at h2
      exact h.ald b1 p al cs h1 h2 x hx
  · intro b1 b2 c1 n1 n2 ao2 h1 h2 h3 hC
    rw [hg] at h3
    by_cases hbb : b2 = b
    · subst hbb
      exact h.inj b1 b2 c1 n1 n2 _ h1 h2 hb rfl
    · rw [if_neg hbb] at h3
      exact h.inj b1 b2 c1 n1 n2 ao2 h1 h2 h3 hC
  · intro b1 h1
    rw [hnx] at h1
    by_cases hbb : b1 = b
    · rw [hbb] at h1; rw [h.top b h1] at hb; cases hb
    · rw [hg, if_neg hbb]; exact h.top b1 h1
theorem cs_map {W W2 : AW} {b x : Nat} {es es' : List (Value × Value)} {cs : List Value} (hb : W.heap.get b = some (.map es)) (hg : ∀ x, W2.heap.get x = if x = b then some (.map es') else W.heap.get x) (h : W.cs x = .ok cs) : W2.cs x = .ok cs := by
  obtain ⟨ao, h1, h2⟩ := bd_ok h
  have h1 := of_ok h1
  have : x ≠ b := fun e => by
    rw [e, hb] at h1; cases h1; cases h2
  show (E.of "no block" (W2.heap.get x)).bd AO.cs = _
  rw [hg, if_neg this]
  exact h
theorem load_map {W W2 : AW} {b : Nat} {es es' : List (Value × Value)} {g : Nat → Option Value} {t : TypeId} {x : Operand} {v : Value} (hb : W.heap.get b = some (.map es)) (hg : ∀ x, W2.heap.get x = if x = b then some (.map es') else W.heap.get x) (h : o_load P g W (.load t x) = .ok v) : o_load P g W2 (.load t x) = .ok v := by
  have h : (val g x).bd (loadV P W t) = .ok v := h
  obtain ⟨xv, h1, h2⟩ := bd_ok h
  show (val g x).bd (loadV P W2 t) = .ok v
  rw [h1]
  exact loadV_keep (fun _ _ h => cs_map hb hg h) h2
theorem inv_perm {W2 : AW} {b : Nat} {es es' : List (Value × Value)} {c : Nat × Nat} (hI : Inv P ops wm g0 n ρ0 W0 w0 a0 D tm W ow ρ listed a w) (hp : es.Perm es') (hb : W.heap.get b = some (.map es)) (hbr : ρ b = some c) (hnx : W2.next = W.next) (hg : ∀ x, W2.heap.get x = if x = b then some (.map es') else W.heap.get x)
    (hld : ∀ k o2, ops.toList[k]? = some o2 → D.testBit k = true → kind P o2.op = 1 → ∃ t x, o2.op = .load t x) : Inv P ops wm g0 n ρ0 W0 w0 a0 D tm W2 ow ρ listed a w := by
  refine ⟨hI.lsz, hI.sub, hI.lcl, hI.dcl, hI.dlt, hI.eff, hI.abs, hI.tr, hI.df, hI.wr.perm hp hb hnx hg, ⟨hI.up.le, by rw [hnx]; exact hI.up.next, fun x hx hn => ?_, hI.up.size, hI.up.same, hI.up.img, hI.up.env, hI.up.ty⟩, fun k o2 hk hD hL => ?_⟩
  · obtain ⟨h1, h2⟩ := hI.up.out x hx hn
    have : x ≠ b := fun e => by rw [e, hbr] at h1; cases h1
    exact ⟨h1, fun ao e9 => by rw [hg, if_neg this]; exact h2 ao e9⟩
  · refine (hI.pend k o2 hk hD hL).mono (fun _ => rfl) (fun _ _ => rfl) (fun hk1 v hv _ hd => ⟨v, fun g hag => ?_, hd⟩) fun blk ao h1 h2 h3 _ h5 => ?_
    · obtain ⟨t, x, ho⟩ := hld k o2 hk hD hk1
      have := hv g hag
      rw [ho] at this ⊢
      exact load_map hb hg this
    · have : blk ≠ b := fun e => by rw [e, hbr] at h2; cases h2
      exact ⟨h1, h2, by rw [hg, if_neg this]; exact h3, by rw [hnx]; exact h5⟩
theorem insV_congr {g g' : Nat → Option Value} {o : Op} (h : ∀ t, .tmp t ∈ o.operands.toList → g t = g' t) : insV g o = insV g' o := by
  have hv : ∀ x, x ∈ o.operands.toList → val g x = val g' x := fun x hx => val_congr fun t e => h t (e ▸ hx)
  unfold insV
  cases o <;> first | rfl | skip
  rename_i t m k v
  show (val g m).bd _ = (val g' m).bd _
  rw [hv _ (by simp [Op.operands]), hv _ (by simp [Op.operands]), hv _ (by simp [Op.operands])]
theorem eq_bits {a b : Nat} (h : ∀ j, a.testBit j = true ↔ b.testBit j = true) : a = b := Nat.eq_of_testBit_eq fun j => Bool.eq_iff_iff.2 (h j)
/-- one entry is put in by the model, whichever it is -/
theorem ins_step (hs : Sta P ops.toList wm) (hF : ∀ f, F.fn f) {G : List (Nat × Oper)} {D1 : Nat} {W' : AW} {t kt el b : Nat} (hG : ∀ p ∈ G, ops.toList[p.1]? = some p.2 ∧ D1.testBit p.1 = false ∧ insO p.2 = true) (hnd : G.Nodup)
    (hsub : subs (idx ops.toList 0) (maskOf G D1) G D1 = true) (hnl : noLook P (idx ops.toList 0) D1 = true) (hu : under P t = .ok (.map kt el)) (hent : ∀ p ∈ G, insV tm.get p.2.op = .ok (t, .map (some b), entOf tm.get p) ∧ keyE P kt (entOf tm.get p).1 = .ok ())
    (hpw : (G.map (entOf tm.get)).Pairwise (Far P kt)) (huniq : ∀ p ∈ G, ∀ q ∈ G, p.1 = q.1 → p = q)
    {S R : List (Nat × Oper)} {D : Nat} {W : AW} (hR : R ≠ []) (hp : (S ++ R).Perm G) (hD : ∀ j, D.testBit j = true ↔ D1.testBit j = true ∨ ∃ p ∈ S, p.1 = j) (hnW : W.next = W'.next) (hb : W.heap.get b = some (.map (S.map (entOf tm.get)))) (hx : ∀ x, x ≠ b → W.heap.get x = W'.heap.get x)
    (hnext : ∀ p W3 ρ' listed' a' w' fuel', p ∈ R → W3.next = W'.next → W3.heap.get b = some (.map ((S ++ [p]).map (entOf tm.get))) → (∀ x, x ≠ b → W3.heap.get x = W'.heap.get x) → (∃ c, ρ' b = some c) → (∀ j, (Nat.lor D (Nat.pow 2 p.1)).testBit j = true ↔ D1.testBit j = true ∨ ∃ q ∈ S ++ [p], q.1 = j) → Inv P ops wm g0 n ρ0 W0 w0 a0 (Nat.lor D (Nat.pow 2 p.1)) tm W3 ow ρ' listed' a' w' → unl listed' ops.size ≤ fuel' → wpAnyIn F m P .any ops Q fuel' listed' a' w')
    (fuel : Nat) (ρ : Rho) (listed : Array Bool) (a : Act) (w : World) (hI : Inv P ops wm g0 n ρ0 W0 w0 a0 D tm W ow ρ listed a w) (hfu : unl listed ops.size ≤ fuel) : wpAnyIn F m P .any ops Q fuel listed a w := by
  have hmem : ∀ p, p ∈ S ++ R ↔ p ∈ G := fun p => hp.mem_iff
  have hnd2 : (S ++ R).Nodup := hp.nodup_iff.2 hnd
  have hSR : ∀ p ∈ S, ∀ q ∈ R, p ≠ q := (List.nodup_append.1 hnd2).2.2
  have hDR : ∀ r ∈ R, D.testBit r.1 = false := fun r hr => bit_none fun h => by
    have hrG := (hmem r).1 (List.mem_append_right _ hr)
    rcases (hD r.1).1 h with h1 | ⟨p, hpS, h1⟩
    · rw [(hG r hrG).2.1] at h1; cases h1
    · exact hSR p hpS r hr (huniq p ((hmem p).1 (List.mem_append_left _ hpS)) r hrG h1)
  have hlk : ∀ k o2, ops.toList[k]? = some o2 → D.testBit k = true → kind P o2.op = 1 → ∃ t x, o2.op = .load t x := by
    intro k o2 h1 h2 h3
    rcases (hD k).1 h2 with h4 | ⟨p, hpS, rfl⟩
    · exact plainL_ok (noLook_ok hnl (k, o2) (mem_idx.2 h1) h4) h3
    · obtain ⟨q1, _, q3⟩ := hG p ((hmem p).1 (List.mem_append_left _ hpS))
      rw [q1] at h1; cases h1
      obtain ⟨_, _, t', m', k', v', q4⟩ := insO_ok q3
      rw [q4] at h3; cases h3
  obtain ⟨r0, hr0⟩ := List.exists_mem_of_ne_nil R hR
  refine inner_ok hs hF ?_ ?_ fuel ρ listed a w hI hfu
  · intro ρ' listed' a' w' hI' hall
    exfalso
    have hlt : r0.1 < ops.size := by
      have := (List.getElem?_eq_some_iff.1 (hG r0 ((hmem r0).1 (List.mem_append_right _ hr0))).1).1
      simpa using this
    have := hI'.sub r0.1 (hall r0.1 hlt)
    rw [hDR r0 hr0] at this; cases this
  · intro ρ listed a w fuel i o hI' h7 h8 h9 h10
    have hio : (i, o) ∈ opens (idx ops.toList 0) D := opens_mem.2 ⟨mem_idx.2 h7, h8, (sub_iff _ _).2 fun j hj => by
      obtain ⟨e, he, hb, rfl⟩ := dm_bit.1 hj
      exact hI'.sub _ (h9 e he hb)⟩
    have hpR : (i, o) ∈ R := by
      rcases subs_ok hsub D (fun j hj => (hD j).2 (.inl hj)) (fun j hj => by
        rcases (hD j).1 hj with h1 | ⟨p, hpS, h1⟩
        · exact .inl h1
        · exact .inr ⟨p, (hmem p).1 (List.mem_append_left _ hpS), h1⟩) with hDf | hall
      · exfalso
        have := hDR r0 hr0
        rw [hDf] at this
        rw [maskOf_bit.2 (.inr ⟨r0, (hmem r0).1 (List.mem_append_right _ hr0), rfl⟩)] at this
        cases this
      · have h1 := hall _ hio
        rw [tb_eq] at h1
        rcases maskOf_bit.1 h1 with h2 | ⟨p, hpG, h2⟩
        · rw [(hD i).2 (.inl h2)] at h8; cases h8
        · have h3 := (hG p hpG).1
          rw [h2, h7] at h3
          have h4 : p = (i, o) := by
            obtain ⟨p1, p2⟩ := p
            dsimp only at h2 h3
            cases h3; rw [h2]
          rw [← h4]
          rcases List.mem_append.1 ((hmem p).2 hpG) with h5 | h5
          · rw [(hD i).2 (.inr ⟨p, h5, h2⟩)] at h8; cases h8
          · exact h5
    have hpG := (hmem _).1 (List.mem_append_right S hpR)
    obtain ⟨hd, hgd, t', m', k', v', hop⟩ := insO_ok (hG _ hpG).2.2
    dsimp only at hd hgd hop
    have hag := agr_eff hs h7 hI' h8 h9
    have hi2 : ops[i]? = some o := by simpa using h7
    obtain ⟨hV, hK⟩ := hent _ hpG
    have hV2 : insV (gL wm g0 D (fun i => listed.getD i false) tm) o.op = .ok (t, .map (some b), entOf tm.get (i, o)) := (insV_congr fun t ht => hag t (mem_uses.2 (.inl ht))).trans hV
    rw [hop] at hV2
    obtain ⟨q, e1, e2⟩ := bd_ok (x := E.of "insert" (insOf (.insert t' m' k' v'))) hV2
    cases e1
    obtain ⟨mv, e3, e4⟩ := bd_ok e2
    obtain ⟨kv, e5, e6⟩ := bd_ok e4
    obtain ⟨vv, e7, e8⟩ := bd_ok e6
    have e9 : (t', mv, kv, vv) = (t, Value.map (some b), entOf tm.get (i, o)) := E.ok.inj e8
    have q1 : t' = t := congrArg Prod.fst e9
    have q2 : mv = .map (some b) := congrArg (fun x => x.2.1) e9
    have q3 : entOf tm.get (i, o) = (kv, vv) := (congrArg (fun x => x.2.2) e9).symm
    subst q1 q2
    have hm := val_ok hI'.tr e3
    have hk := val_ok hI'.tr e5
    have hv := val_ok hI'.tr e7
    rw [q3] at hK
    obtain ⟨H, hH⟩ := set_ok 40 W.heap b (.map (S.map (entOf tm.get) ++ [(kv, vv)]))
    have hes : W.es b = .ok (S.map (entOf tm.get)) := by
      show (E.of "no block" (W.heap.get b)).bd AO.es = _
      rw [hb]; rfl
    have hfar : ∀ p ∈ S, Far P kt (kv, vv) (entOf tm.get p) := fun p hpS => by
      have hpw2 : G.Pairwise fun x y => Far P kt (entOf tm.get x) (entOf tm.get y) := List.pairwise_map.1 hpw
      have := pw_all (fun a b h => ⟨h.2, h.1⟩) hpw2 (i, o) hpG p ((hmem p).1 (List.mem_append_left _ hpS)) (fun e => hSR p hpS (i, o) hpR e.symm)
      rw [q3] at this
      exact this
    have hmf : mfind P kt kv (S.map (entOf tm.get)) = .ok none := mfind_none fun x hx => by
      obtain ⟨p, hpS, rfl⟩ := List.mem_map.1 hx
      exact (hfar p hpS).1
    have hput : mputV P W t' (.map (some b)) kv vv = .ok ⟨H, W.next⟩ := by
      unfold mputV
      rw [hu]
      show (keyE P kt kv).bd _ = _
      rw [hK]
      show (W.es b).bd _ = _
      rw [hes]
      show (mfind P kt kv (S.map (entOf tm.get))).bd _ = _
      rw [hmf]
      show (W.heap.set 40 b (.map (S.map (entOf tm.get) ++ [(kv, vv)]))).bd _ = _
      rw [hH]; rfl
    obtain ⟨w', r1, r2, r3⟩ := mput_ok hput hm hk hv hI'.wr
    have hg3 : ∀ x, H.get x = if x = b then some (.map (S.map (entOf tm.get) ++ [(kv, vv)])) else W.heap.get x := fun x => set_get 40 hH x
    unfold wpOpIn
    rw [hi2]
    simp only
    have hwant : Region.wanted o (yielded ops a.tmps) = true := by
      unfold Region.wanted
      rw [hgd]
    rw [hwant]
    simp only [if_true]
    refine ⟨fun f _ => hF f, ?_⟩
    rw [Oper.semAt_eq _ _ _ (fun c hc => by rw [hop] at hc; cases hc)]
    have hrun : (execOp a.eval o).run P w = .ok .skip w' := by simp [execOp, hop, r1]
    rw [hrun]
    have hI3 := eff_inv (v := undef) (v' := undef) hs h7 hI' h8 h9 (.inl ⟨hd, rfl⟩) VR.undef r2 r3 (fun k o2 g1 g2 _ g4 u g5 _ g7 => ⟨u, fun g hg => by
      obtain ⟨tt, xx, ho⟩ := hlk k o2 g1 g2 g4
      have := g5 g hg
      rw [ho] at this ⊢
      exact load_map hb hg3 this, g7⟩)
    refine hnext (i, o) ⟨H, W.next⟩ ρ _ _ w' fuel hpR hnW ?_ (fun x hxb => ?_) ?_ ?_ hI3 h10
    · show H.get b = _
      rw [hg3, if_pos rfl, List.map_append]
      show _ = some (AO.map (S.map (entOf tm.get) ++ [entOf tm.get (i, o)]))
      rw [q3]
    · show H.get x = _
      rw [hg3, if_neg hxb]; exact hx x hxb
    · exact hm.mapb
    · intro j
      rw [bit_add, Bool.or_eq_true, decide_eq_true_iff, hD]
      constructor
      · rintro ((h | ⟨p, hpS, h⟩) | h)
        · exact .inl h
        · exact .inr ⟨p, List.mem_append_left _ hpS, h⟩
        · exact .inr ⟨(i, o), List.mem_append_right _ (List.mem_singleton.2 rfl), h⟩
      · rintro (h | ⟨p, hpS, h⟩)
        · exact .inl (.inl h)
        · rcases List.mem_append.1 hpS with h1 | h1
          · exact .inl (.inr ⟨p, h1, h⟩)
          · rw [List.mem_singleton.1 h1] at h
            exact .inr h
/-- the entries are put in, in whatever order -/
theorem ins_ok (hs : Sta P ops.toList wm) (hF : ∀ f, F.fn f) {G : List (Nat × Oper)} {D1 : Nat} {W' W2 : AW} {t kt b : Nat} (hG : ∀ p ∈ G, ops.toList[p.1]? = some p.2 ∧ D1.testBit p.1 = false ∧ insO p.2 = true) (hnd : G.Nodup)
    (hsub : subs (idx ops.toList 0) (maskOf G D1) G D1 = true) (hnl : noLook P (idx ops.toList 0) D1 = true) (hkt : keyT P t = .ok kt) (hent : ∀ p ∈ G, insV tm.get p.2.op = .ok (t, .map (some b), entOf tm.get p) ∧ keyE P kt (entOf tm.get p).1 = .ok ())
    (hpw : (G.map (entOf tm.get)).Pairwise (Far P kt)) (hnx : W2.next = W'.next) (hg2 : ∀ x, W2.heap.get x = if x = b then some (.map (G.map (entOf tm.get))) else W'.heap.get x)
    (hrest : ∀ ρ listed a w fuel, Inv P ops wm g0 n ρ0 W0 w0 a0 (maskOf G D1) tm W2 ow ρ listed a w → unl listed ops.size ≤ fuel → wpAnyIn F m P .any ops Q fuel listed a w) :
    ∀ (k : Nat) (S R : List (Nat × Oper)) (D : Nat) (W : AW), R.length = k + 1 → (S ++ R).Perm G → (∀ j, D.testBit j = true ↔ D1.testBit j = true ∨ ∃ p ∈ S, p.1 = j) → W.next = W'.next → W.heap.get b = some (.map (S.map (entOf tm.get))) → (∀ x, x ≠ b → W.heap.get x = W'.heap.get x) →
      ∀ (fuel : Nat) (ρ : Rho) (listed : Array Bool) (a : Act) (w : World), Inv P ops wm g0 n ρ0 W0 w0 a0 D tm W ow ρ listed a w → unl listed ops.size ≤ fuel → wpAnyIn F m P .any ops Q fuel listed a w := by
  have huniq : ∀ p ∈ G, ∀ q ∈ G, p.1 = q.1 → p = q := fun p hp q hq e => by
    have h1 := (hG p hp).1
    have h2 := (hG q hq).1
    rw [e, h2] at h1
    obtain ⟨p1, p2⟩ := p
    obtain ⟨q1, q2⟩ := q
    dsimp only at e h1 h2
    cases h1
    rw [e]
  obtain ⟨el, hu1, hu2⟩ := keyT_ok hkt
  intro k
  induction k with
  | zero =>
    intro S R D W hR hp hD hnW hb hx
    refine fun fuel ρ listed a w hI hfu => ins_step hs hF hG hnd hsub hnl hu2 hent hpw huniq (fun h => by rw [h] at hR; cases hR) hp hD hnW hb hx (fun p W3 ρ' listed' a' w' fuel' hpR h1 h2 h3 h4 h5 h6 h7 => ?_) fuel ρ listed a w hI hfu
    obtain ⟨r, rfl⟩ := List.length_eq_one_iff.1 hR
    have : p = r := List.mem_singleton.1 hpR
    subst this
    obtain ⟨c, h4⟩ := h4
    have hDe : Nat.lor D (Nat.pow 2 p.1) = maskOf G D1 := eq_bits fun j => by
      rw [h5, maskOf_bit]
      constructor
      · rintro (h | ⟨q, hq, h⟩)
        · exact .inl h
        · exact .inr ⟨q, hp.mem_iff.1 hq, h⟩
      · rintro (h | ⟨q, hq, h⟩)
        · exact .inl h
        · exact .inr ⟨q, hp.mem_iff.2 hq, h⟩
    rw [hDe] at h6
    refine hrest ρ' listed' a' w' fuel' (inv_perm (W2 := W2) h6 (hp.map _) h2 h4 (hnx.trans h1.symm) (fun x => ?_) fun k o2 g1 g2 g3 => ?_) h7
    · rw [hg2]
      by_cases hxb : x = b
      · rw [if_pos hxb, if_pos hxb]
      · rw [if_neg hxb, if_neg hxb, h3 x hxb]
    · rcases maskOf_bit.1 g2 with h | ⟨q, hq, rfl⟩
      · exact plainL_ok (noLook_ok hnl (k, o2) (mem_idx.2 g1) h) g3
      · obtain ⟨q1, _, q3⟩ := hG q hq
        rw [q1] at g1; cases g1
        obtain ⟨_, _, t', m', k', v', q4⟩ := insO_ok q3
        rw [q4] at g3; cases g3
  | succ k ih =>
    intro S R D W hR hp hD hnW hb hx
    refine fun fuel ρ listed a w hI hfu => ins_step hs hF hG hnd hsub hnl hu2 hent hpw huniq (fun h => by rw [h] at hR; cases hR) hp hD hnW hb hx (fun p W3 ρ' listed' a' w' fuel' hpR h1 h2 h3 h4 h5 h6 h7 => ?_) fuel ρ listed a w hI hfu
    obtain ⟨s, t, rfl⟩ := List.append_of_mem hpR
    refine ih (S ++ [p]) (s ++ t) _ W3 ?_ ?_ h5 h1 h2 h3 fuel' ρ' listed' a' w' h6 h7
    · simp at hR ⊢; omega
    · refine List.Perm.trans ?_ hp
      rw [List.append_assoc]
      exact (List.perm_middle (a := p) (l₁ := s) (l₂ := t)).symm.append_left S
end
end Go.Ke
namespace Go.Ke
open Go.RowKit
section
variable {P : Program} {ih : Ev} {ops : Array Oper} {wm : T Nat} {g0 : Nat → Option Value} {n m : Nat} {ρ0 ρ : Rho} {W0 W : AW} {w0 w : World} {a0 a : Act} {D : Nat} {tm tm' : T Value} {ow : Nat → Option Nat} {listed : Array Bool} {ds : List DD} {o : Oper} {i : Nat} {v : Value} {F : Fence} {Q : Exit → Act → World → Prop}
theorem plan_ok (hi : Snd P ih) {rd : Option Nat} (hs : Sta P ops.toList wm) (hF : FF ρ0 rd F) (hd : DR ρ0 ds a0.defers) {rr : CR} (hQ : ∀ tm' W' a' w', rr = .nrm tm' ds W' → Res ρ0 W0 w0 n tm' ds W' a' w' → Q .normal a' w') :
    ∀ (N D : Nat) (pl : List PI) (tm : T Value) (W : AW) (ow : Nat → Option Nat), plan P (idx ops.toList 0) (bms ops.toList []) (Nat.sub (Nat.pow 2 ops.toList.length) 1) N D = .ok pl → okR (runP P ih n ops.toList ds pl tm W) → rr = runP P ih n ops.toList ds pl tm W →
      ∀ (ρ : Rho) (listed : Array Bool) (a : Act) (w : World) (fuel : Nat), Inv P ops wm g0 n ρ0 W0 w0 a0 D tm W ow ρ listed a w → unl listed ops.size ≤ fuel → wpAnyIn F m P .any ops Q fuel listed a w
  | 0, D, pl, tm, W, ow, hp, _, _ => by cases hp
  | N + 1, D, pl, tm, W, ow, hp, hok, hrr => by
    intro ρ listed a w fuel hI hu
    have hseq : Seq P (idx ops.toList 0) D (calms P (idx ops.toList 0) D).2 (calms P (idx ops.toList 0) D).1 := calms_seq fun p hp => hp
    have hpl : plan P (idx ops.toList 0) (bms ops.toList []) (Nat.sub (Nat.pow 2 ops.toList.length) 1) (N + 1) D = @Prod.rec Nat (List (Nat × Oper)) (fun _ => E (List PI)) (fun D1 r => @List.rec (Nat × Oper) (fun _ => E (List PI)) (bl (Nat.beq D1 (Nat.sub (Nat.pow 2 ops.toList.length) 1)) (.ok (mkC r [])) (.er "plan: left over")) (fun p t _ => @List.rec (Nat × Oper) (fun _ => E (List PI)) (bl (Nat.beq (kind P p.2.op) 3) ((plan P (idx ops.toList 0) (bms ops.toList []) (Nat.sub (Nat.pow 2 ops.toList.length) 1) N (Nat.lor D1 (Nat.pow 2 p.1))).bd fun rest => .ok (mkC r (.eff p.1 p.2 (floats P (idx ops.toList 0) D1 ((nth (bms ops.toList []) p.1).getD 0)) :: rest))) (.er "plan: open")) (fun _ _ _ => bl (insAll (p :: t)) (bl (noLook P (idx ops.toList 0) D1) (bl (subs (idx ops.toList 0) (maskOf (p :: t) D1) (p :: t) D1) ((plan P (idx ops.toList 0) (bms ops.toList []) (Nat.sub (Nat.pow 2 ops.toList.length) 1) N (maskOf (p :: t) D1)).bd fun rest => .ok (mkC r (.ins (p :: t) :: rest))) (.er "plan: two act, and more")) (.er "plan: two act, and a look")) (.er "plan: two act")) t) (opens (idx ops.toList 0) D1)) (calms P (idx ops.toList 0) D) := rfl
    rw [hpl] at hp
    generalize calms P (idx ops.toList 0) D = cr at hp hseq
    obtain ⟨D1, r⟩ := cr
    dsimp only at hp hseq
    cases hop : opens (idx ops.toList 0) D1 with
    | nil =>
      rw [hop] at hp
      rcases bl_ok (c := Nat.beq D1 (Nat.sub (Nat.pow 2 ops.toList.length) 1)) hp with ⟨h1, h2⟩ | ⟨_, h2⟩
      · cases h2
        obtain ⟨tm', W', ow', h3, h4⟩ := calm_ok hs hseq hok hI
        refine inner_ok hs hF.fn ?_ ?_ fuel ρ listed a w h4 hu
        · intro ρ' listed' a' w' hI' hall
          refine hQ tm' W' a' w' (hrr.trans h3) ⟨ρ', ?_, by rw [hI'.df]; exact hd.mono hI'.up.le, hI'.wr, hI'.up⟩
          have : ∀ t, gL wm g0 D1 (fun i => listed'.getD i false) tm' t = tm'.get t := by
            intro t
            unfold gL
            cases hw : wm.get t with
            | none => rfl
            | some j =>
              obtain ⟨o2, q1, _⟩ := hs.conv t j hw
              have hlt : j < ops.size := by simpa using (List.getElem?_eq_some_iff.1 q1).1
              simp only
              rw [if_neg (fun h => by rw [hall j hlt] at h; cases h.2)]
          exact ⟨hI'.tr.1, fun t u hu => hI'.tr.2 t u ((this t).trans hu), hI'.tr.3⟩
        · intro ρ' listed' a' w' fuel' i o hI' h5 h6
          exfalso
          have hlt : i < ops.toList.length := (List.getElem?_eq_some_iff.1 h5).1
          have h7 : D1 = 2 ^ ops.toList.length - 1 := Nat.eq_of_beq_eq_true h1
          rw [h7, Nat.testBit_two_pow_sub_one] at h6
          simp only [decide_eq_false_iff_not] at h6
          exact h6 hlt
      · cases h2
    | cons p t =>
      rw [hop] at hp
      cases t with
      | cons q t =>
        generalize hGe : p :: q :: t = G at hop hp
        have hp : bl (insAll G) (bl (noLook P (idx ops.toList 0) D1) (bl (subs (idx ops.toList 0) (maskOf G D1) G D1) ((plan P (idx ops.toList 0) (bms ops.toList []) (Nat.sub (Nat.pow 2 ops.toList.length) 1) N (maskOf G D1)).bd fun rest => .ok (mkC r (.ins G :: rest))) (.er "plan: two act, and more")) (.er "plan: two act, and a look")) (.er "plan: two act") = .ok pl := by
          subst hGe; exact hp
        rcases bl_ok hp with ⟨g1, hp1⟩ | ⟨_, hp1⟩
        · rcases bl_ok hp1 with ⟨g2, hp2⟩ | ⟨_, hp2⟩
          · rcases bl_ok hp2 with ⟨g3, hp3⟩ | ⟨_, hp3⟩
            · obtain ⟨rest, h3, h4⟩ := bd_ok hp3
              cases h4
              obtain ⟨tm', W', ow', h5, h6⟩ := calm_ok hs hseq hok hI
              rw [h5] at hok
              have hrr := hrr.trans h5
              have heq : runP P ih n ops.toList ds (.ins G :: rest) tm' W' = (insW P tm'.get W' G).th (runP P ih n ops.toList ds rest tm') := rfl
              rw [heq] at hok hrr
              obtain ⟨W2, g4, hok2⟩ := Eth_ok hok
              have hrr2 : rr = runP P ih n ops.toList ds rest tm' W2 := by rw [hrr, g4]; rfl
              obtain ⟨tt, kt, b, g5, g6, g7, g8, g9, g10⟩ := insW_ok g4
              have hmemG : ∀ p ∈ G, p ∈ opens (idx ops.toList 0) D1 := fun p hp => by rw [hop]; exact hp
              have hGG : ∀ p ∈ G, ops.toList[p.1]? = some p.2 ∧ D1.testBit p.1 = false ∧ insO p.2 = true := fun p hp => by
                have := opens_mem.1 (hmemG p hp)
                exact ⟨mem_idx.1 this.1, this.2.1, insAll_ok g1 p hp⟩
              have hnd : G.Nodup := by rw [← hop]; exact opens_nodup
              have hb0 : W'.heap.get b = some (.map []) := by
                obtain ⟨ao, j1, j2⟩ := bd_ok g8
                have j1 := of_ok j1
                rw [j1]
                cases ao <;> cases j2
                rfl
              refine ins_ok hs hF.fn hGG hnd g3 g2 g5 g6 g7 g9 g10 (fun ρ2 listed2 a2 w2 fuel2 k1 k2 => plan_ok hi hs hF hd hQ N _ rest tm' W2 ow' h3 hok2 hrr2 ρ2 listed2 a2 w2 fuel2 k1 k2) (G.length - 1) [] G D1 W' ?_ (List.Perm.refl _) (fun j => by simp) rfl hb0 (fun _ _ => rfl) fuel ρ listed a w h6 hu
              rw [← hGe]; simp
            · cases hp3
          · cases hp2
        · cases hp1
      | nil =>
        rcases bl_ok (c := Nat.beq (kind P p.2.op) 3) hp with ⟨h1, h2⟩ | ⟨_, h2⟩
        · obtain ⟨rest, h3, h4⟩ := bd_ok h2
          cases h4
          have hk3 := Nat.eq_of_beq_eq_true h1
          obtain ⟨tm', W', ow', h5, h6⟩ := calm_ok hs hseq hok hI
          rw [h5] at hok
          have hrr := hrr.trans h5
          have hpo : p ∈ opens (idx ops.toList 0) D1 := by rw [hop]; exact List.mem_cons_self ..
          have hpo := opens_mem.1 hpo
          have hpi := mem_idx.1 hpo.1
          refine inner_ok hs hF.fn ?_ ?_ fuel ρ listed a w h6 hu
          · intro ρ' listed' a' w' hI' hall
            exfalso
            have hlt : p.1 < ops.size := by simpa using (List.getElem?_eq_some_iff.1 hpi).1
            have := hI'.sub p.1 (hall p.1 hlt)
            rw [hpo.2.1] at this; cases this
          · intro ρ' listed' a' w' fuel' i o hI' h7 h8 h9 h10
            have hio : (i, o) ∈ opens (idx ops.toList 0) D1 := opens_mem.2 ⟨mem_idx.2 h7, h8, (sub_iff _ _).2 fun j hj => by
              obtain ⟨e, he, hb, rfl⟩ := dm_bit.1 hj
              exact hI'.sub _ (h9 e he hb)⟩
            rw [hop, List.mem_singleton] at hio
            subst hio
            dsimp only at hok hrr h3 hk3
            have hi2 : ops[i]? = some o := by simpa using h7
            have hag := agr_eff hs h7 hI' h8 h9
            have heq : runP P ih n ops.toList ds (.eff i o (floats P (idx ops.toList 0) D1 ((nth (bms ops.toList []) i).getD 0)) :: rest) tm' W' = (wantV ops.toList tm'.get o.guard).th fun b => @Bool.rec (fun _ => CR) (putD n o.dst tm' undef fun tm => runP P ih n ops.toList ds rest tm W') (exec P ih n o tm' W' fun tm W => chkD P ops.toList tm W (runP P ih n ops.toList ds rest tm W) (floats P (idx ops.toList 0) D1 ((nth (bms ops.toList []) i).getD 0))) b := rfl
            rw [heq] at hok hrr
            obtain ⟨b, hb, e1⟩ := Eth_ok hok
            have hrr : rr = @Bool.rec (fun _ => CR) (putD n o.dst tm' undef fun tm => runP P ih n ops.toList ds rest tm W') (exec P ih n o tm' W' fun tm W => chkD P ops.toList tm W (runP P ih n ops.toList ds rest tm W) (floats P (idx ops.toList 0) D1 ((nth (bms ops.toList []) i).getD 0))) b := by
              rw [hrr, hb]; rfl
            have hw := wantV_ok (a := a') ((want_congr hag).trans hb) hI'.tr
            unfold wpOpIn
            rw [hi2]
            simp only
            rw [hw]
            cases b with
            | false =>
              obtain ⟨tm2, g1, g2, g3⟩ := putD_ok (k := fun tm => runP P ih n ops.toList ds rest tm W') e1
              refine ⟨fun f _ => hF.fn f, ?_⟩
              exact plan_ok hi hs hF hd hQ N _ rest tm2 W' ow' h3 g2 (hrr.trans g1) ρ' _ _ w' fuel' (eff_inv hs h7 hI' h8 h9 g3 VR.undef hI'.wr (.rfl ρ' W' w') fun k o2 _ _ _ _ v hv _ hdv => ⟨v, hv, hdv⟩) h10
            | true =>
              simp only [if_true]
              obtain ⟨r2, h11, e2⟩ := Eth_ok (x := oper P tm'.get W' o.op) e1
              have h12 : oper P (gL wm g0 D1 (fun i => listed'.getD i false) tm') W' o.op = .ok r2 := (oper_congr fun t ht => hag t (mem_uses.2 (.inl ht))).trans h11
              refine exec_gen hi (hF.mono hI'.up.le) h12 e2 hI'.tr hI'.wr _ fun tm2 W2 w2 ρ2 v v' k1 k2 k3 k4 k5 k6 => ?_
              obtain ⟨k7, k8⟩ := chk_ok k2
              have hrr2 : rr = runP P ih n ops.toList ds rest tm2 W2 := ((hrr.trans (exec_eq h11)).trans k1).trans k7
              refine plan_ok hi hs hF hd hQ N _ rest tm2 W2 ow' h3 (by rw [← k7]; exact k2) hrr2 ρ2 _ _ w2 fuel' (eff_inv hs h7 hI' h8 h9 k4 k3 k5 k6 ?_) h10
              intro k o2 q1 q2 q3 q4 u q5 q6 q7
              have hki : k ≠ i := fun e => by rw [e, h8] at q2; cases q2
              have hcl : Clo ops.toList (fun j => listed'.getD j false = true ∨ j = i) := by
                intro j o3 hj hj2 e he hb
                rcases hj2 with h | rfl
                · exact .inl (hI'.lcl j o3 hj h e he hb)
                · rw [h7] at hj; cases hj
                  exact .inl (h9 e he hb)
              have hnB : tb ((nth (bms ops.toList []) i).getD 0) k = false := by
                refine Bool.eq_false_iff.2 fun h => ?_
                rcases clo_tb hcl h (.inr rfl) with h | h
                · rw [q3] at h; cases h
                · exact hki h
              obtain ⟨b2, r1, r2'⟩ := k8 o2 (floats_mem (p := (k, o2)) (mem_idx.2 q1) q2 q4 hnB)
              have hagk : Agr (uses ops.toList o2) tm2.get (gU ops.toList wm g0 tm' k) := by
                intro t ht
                unfold gU
                cases hw2 : wm.get t with
                | none => exact (put_other hs h7 k4 (by rw [hw2]; simp)).trans (hI'.abs t fun j hj => by rw [hw2] at hj; cases hj)
                | some j =>
                  obtain ⟨s1, s2⟩ := hs.str k o2 q1 q4 t ht j hw2
                  simp only
                  rw [if_pos ⟨s2, s1⟩]
                  refine put_other hs h7 k4 ?_
                  rw [hw2]
                  intro e
                  cases e
                  have := clo_tb hI'.dcl s2 q2
                  rw [h8] at this; cases this
              have := q6 _ hagk
              rw [r1] at this; cases this
              obtain ⟨u2, r3, r4⟩ := r2' rfl
              refine ⟨u2, fun g hg => ?_, fun d hd2 => ?_⟩
              · rw [← r3]
                exact o_load_congr fun t ht => (hg t (mem_uses.2 (.inl ht))).trans (hagk t (mem_uses.2 (.inl ht))).symm
              · refine ⟨(q7 d hd2).1, ?_⟩
                rw [← put_other hs h7 k4 (t := d) (by rw [hs.wr k o2 q1 d hd2]; intro e; cases e; exact hki rfl)]
                exact r4 d hd2
        · cases h2
/-- a region that draws its order -/
theorem drawn_ok (hi : Snd P ih) (hm : P.follows .mixedOrders = true) {cx : Cx} {id : Nat} (hF : FF ρ cx.rd F) (e : okR (regionE P ih cx ops.toList true tm ds W)) (hT : TR ρ cx.n tm.get a.tmps) (hD : DR ρ ds a.defers) (hW : WR ρ W w)
    (hQ : ∀ tm' a' w' W', regionE P ih cx ops.toList true tm ds W = .nrm tm' ds W' → Res ρ W w cx.n tm' ds W' a' w' → Q .normal a' w') : (Code.region id ops true).wpIn F m P Q a w := by
  refine wpIn_region_any hm ?_
  obtain ⟨pl, h1, e1⟩ := Eth_ok (x := planOf P ops.toList) e
  obtain ⟨wm, h2, h3⟩ := bd_ok h1
  rcases bl_ok h3 with ⟨h4, h5⟩ | ⟨_, h5⟩
  · have hs := sta_ok h2 h4
    have hrr : regionE P ih cx ops.toList true tm ds W = runP P ih cx.n ops.toList ds pl tm W := by
      show (planOf P ops.toList).th _ = _
      rw [h1]; rfl
    have hz : ∀ i, (0 : Nat).testBit i = false := fun i => Nat.zero_testBit i
    have hr : ∀ i, (Array.replicate ops.size false).getD i false = false := fun i => by
      simp only [Array.getD_eq_getD_getElem?, Array.getElem?_replicate]
      split <;> rfl
    refine plan_ok (g0 := tm.get) (W0 := W) (w0 := w) (a0 := a) hi hs hF hD (fun tm' W' a' w' h hR => hQ tm' a' w' W' h hR) _ 0 pl tm W (fun _ => none) h5 e1 hrr ρ _ a _ _ ?_ (unl_start _ _)
    refine ⟨by simp, fun i h => (by rw [hr] at h; cases h), fun i o _ h => (by simp only [hr] at h; cases h), fun i o _ h => (by simp only [hz] at h; cases h), fun i h => (by rw [hz] at h; cases h), fun i o _ h => (by rw [hz] at h; cases h), fun t _ => rfl, ?_, rfl, hW.heap rfl, Up.heap (.rfl ρ W w) rfl ⟨rfl, rfl, rfl⟩, fun i o _ h => (by rw [hz] at h; cases h)⟩
    refine ⟨hT.1, fun t u hu => hT.2 t u ?_, hT.3⟩
    rw [← hu]
    unfold gL
    cases wm.get t with
    | none => rfl
    | some j => simp only [hz]; rw [if_neg (fun h => by cases h.1)]
  · cases h5
end
end Go.Ke
