/- Regions that draw their order: whatever the order, the values are those of the plan. Conditions: none. -/
import Derived.Test.YtfcplpeimcjhaaaGreatDoorKR
namespace Go.Ke
open Go.RowKit
/-! ### bits -/
theorem tb_eq (D i : Nat) : tb D i = D.testBit i := by
  unfold tb
  rw [Nat.testBit_eq_decide_div_mod_eq]
  have h : Nat.land (Nat.shiftRight D i) 1 = D / 2 ^ i % 2 := by
    show (D >>> i) &&& 1 = _
    rw [Nat.and_one_is_mod, Nat.shiftRight_eq_div_pow]
  rw [h, Bool.eq_iff_iff, decide_eq_true_iff]
  exact ⟨Nat.eq_of_beq_eq_true, fun e => by rw [e]; rfl⟩
theorem sub_iff (m D : Nat) : sub m D = true ↔ ∀ i, m.testBit i = true → D.testBit i = true := by
  unfold sub
  constructor
  · intro h i hi
    have h1 : m &&& D = m := Nat.eq_of_beq_eq_true h
    rw [← h1, Nat.testBit_and] at hi
    simp at hi
    exact hi.2
  · intro h
    have h1 : m &&& D = m := by
      apply Nat.eq_of_testBit_eq
      intro i
      rw [Nat.testBit_and]
      cases hm : m.testBit i with
      | false => rfl
      | true => rw [h i hm]; rfl
    show Nat.beq (m &&& D) m = true
    rw [h1]
    exact Nat.beq_refl m
theorem lor_bit (a b i : Nat) : (Nat.lor a b).testBit i = (a.testBit i || b.testBit i) := Nat.testBit_or a b i
theorem pow_bit (k i : Nat) : (Nat.pow 2 k).testBit i = decide (k = i) := by
  show (2 ^ k).testBit i = _
  rw [Nat.testBit_two_pow]
theorem dm_bit {o : Oper} {i : Nat} : (dm o).testBit i = true ↔ ∃ e ∈ o.after.toList, Region.binds .any e = true ∧ e.on = i := by
  unfold dm
  generalize o.after.toList = l
  induction l with
  | nil => simp
  | cons e l ih =>
    show (bl (Region.binds .any e) (Nat.lor _ (Nat.pow 2 e.on)) _).testBit i = true ↔ _
    cases hb : Region.binds .any e with
    | false =>
      simp only [List.mem_cons, exists_eq_or_imp, hb, Bool.false_eq_true, false_and, false_or]
      exact ih
    | true =>
      simp only [List.mem_cons, exists_eq_or_imp, hb, true_and]
      show (Nat.lor _ (Nat.pow 2 e.on)).testBit i = true ↔ _
      rw [lor_bit, pow_bit, Bool.or_eq_true, ih, decide_eq_true_iff]
      exact Or.comm
theorem bm_bit {o : Oper} {acc : List Nat} {i : Nat} : (bm acc o).testBit i = true ↔ ∃ e ∈ o.after.toList, Region.binds .any e = true ∧ (e.on = i ∨ ((acc[e.on]?).getD 0).testBit i = true) := by
  unfold bm
  generalize o.after.toList = l
  induction l with
  | nil => simp
  | cons e l ih =>
    show (bl (Region.binds .any e) (Nat.lor (Nat.lor _ (Nat.pow 2 e.on)) ((nth acc e.on).getD 0)) _).testBit i = true ↔ _
    cases hb : Region.binds .any e with
    | false =>
      simp only [List.mem_cons, exists_eq_or_imp, hb, Bool.false_eq_true, false_and, false_or]
      exact ih
    | true =>
      simp only [List.mem_cons, exists_eq_or_imp, hb, true_and]
      show (Nat.lor (Nat.lor _ (Nat.pow 2 e.on)) ((nth acc e.on).getD 0)).testBit i = true ↔ _
      rw [lor_bit, lor_bit, pow_bit, nth_eq, Bool.or_eq_true, Bool.or_eq_true, ih, decide_eq_true_iff]
      constructor
      · rintro ((h | h) | h)
        · exact .inr h
        · exact .inl (.inl h)
        · exact .inl (.inr h)
      · rintro ((h | h) | h)
        · exact .inl (.inr h)
        · exact .inr h
        · exact .inl (.inl h)
theorem bms_pre : ∀ (l : List Oper) (acc : List Nat) (i : Nat), i < acc.length → (bms l acc)[i]? = acc[i]?
  | [], acc, i, h => rfl
  | o :: l, acc, i, h => by
    show (bms l (acc ++ [bm acc o]))[i]? = _
    rw [bms_pre l _ i (by simp; omega), List.getElem?_append_left h]
theorem bms_at : ∀ (l : List Oper) (acc : List Nat) (i : Nat) (b : Nat), acc.length ≤ i → (bms l acc)[i]? = some b → ∃ o, l[i - acc.length]? = some o ∧ b = bm ((bms l acc).take i) o
  | [], acc, i, b, h, hb => by
    have : (bms [] acc)[i]? = none := List.getElem?_eq_none (by exact h)
    rw [this] at hb; cases hb
  | o :: l, acc, i, b, h, hb => by
    change (bms l (acc ++ [bm acc o]))[i]? = some b at hb
    show ∃ o', (o :: l)[i - acc.length]? = some o' ∧ b = bm ((bms l (acc ++ [bm acc o])).take i) o'
    by_cases he : i = acc.length
    · subst he
      rw [bms_pre l _ _ (by simp)] at hb
      rw [List.getElem?_append_right (Nat.le_refl _)] at hb
      simp at hb
      refine ⟨o, by simp, ?_⟩
      rw [← hb]
      congr 1
      apply List.ext_getElem?
      intro j
      rw [List.getElem?_take]
      by_cases hj : j < acc.length
      · rw [if_pos hj, bms_pre l _ j (by simp; omega), List.getElem?_append_left hj]
      · rw [if_neg hj, List.getElem?_eq_none (by omega)]
    · obtain ⟨o', h1, h2⟩ := bms_at l (acc ++ [bm acc o]) i b (by simp; omega) hb
      refine ⟨o', ?_, h2⟩
      have : i - acc.length = (i - (acc ++ [bm acc o]).length) + 1 := by simp; omega
      rw [this]
      simpa using h1
/-- a set of operations that has with each what it comes behind -/
def Clo (ops : List Oper) (L : Nat → Prop) : Prop := ∀ i o, ops[i]? = some o → L i → ∀ e ∈ o.after.toList, Region.binds .any e = true → L e.on
theorem clo_B {ops : List Oper} {L : Nat → Prop} (h : Clo ops L) : ∀ (i b : Nat), (bms ops [])[i]? = some b → L i → ∀ j, b.testBit j = true → L j := by
  intro i
  induction i using Nat.strongRecOn with
  | _ i ih =>
    intro b hb hi j hj
    obtain ⟨o, h1, h2⟩ := bms_at ops [] i b (Nat.zero_le _) hb
    have h1 : ops[i]? = some o := by simpa using h1
    rw [h2, bm_bit] at hj
    obtain ⟨e, h3, h4, h5⟩ := hj
    have h6 := h i o h1 hi e h3 h4
    rcases h5 with rfl | h5
    · exact h6
    · rw [List.getElem?_take] at h5
      split at h5
      · rename_i hlt
        cases hq : (bms ops [])[e.on]? with
        | none => rw [hq] at h5; simp at h5
        | some b' =>
          rw [hq] at h5
          exact ih e.on hlt b' hq h6 j h5
      · simp at h5
theorem clo_tb {ops : List Oper} {L : Nat → Prop} (h : Clo ops L) {i j : Nat} (hj : tb ((nth (bms ops []) i).getD 0) j = true) (hi : L i) : L j := by
  rw [tb_eq, nth_eq] at hj
  cases hq : (bms ops [])[i]? with
  | none => rw [hq] at hj; simp at hj
  | some b => rw [hq] at hj; exact clo_B h i b hq hi j hj
theorem idx_mem : ∀ {l : List Oper} {k i : Nat} {o : Oper}, (i, o) ∈ idx l k ↔ k ≤ i ∧ l[i - k]? = some o
  | [], k, i, o => by simp [idx]
  | x :: l, k, i, o => by
    show (i, o) ∈ (k, x) :: idx l (k + 1) ↔ _
    rw [List.mem_cons, idx_mem (l := l)]
    constructor
    · rintro (h | ⟨h1, h2⟩)
      · cases h; simp
      · refine ⟨by omega, ?_⟩
        have : i - k = (i - (k + 1)) + 1 := by omega
        rw [this]; simpa using h2
    · rintro ⟨h1, h2⟩
      by_cases h3 : i = k
      · subst h3; simp at h2; exact .inl (by rw [h2])
      · have : i - k = (i - (k + 1)) + 1 := by omega
        rw [this] at h2
        exact .inr ⟨by omega, by simpa using h2⟩
theorem mem_idx {ops : List Oper} {i : Nat} {o : Oper} : (i, o) ∈ idx ops 0 ↔ ops[i]? = some o := by
  rw [idx_mem]; simp
/-! ### what the plan's checks say -/
theorem writers_ok : ∀ {l : List (Nat × Oper)} {t wm : T Nat}, writers l t = .ok wm → (∀ d j, t.get d = some j → wm.get d = some j) ∧ ∀ p ∈ l, ∀ d, p.2.dst = some d → wm.get d = some p.1
  | [], t, wm, e => by cases e; exact ⟨fun _ _ h => h, fun p hp => by cases hp⟩
  | p :: l, t, wm, e => by
    cases hd : p.2.dst with
    | none =>
      have e : writers l t = .ok wm := by
        have : writers (p :: l) t = @Option.rec Tmp (fun _ => E (T Nat)) (writers l t) (fun d => @Option.rec Nat (fun _ => E (T Nat)) ((t.set 20 d p.1).bd (writers l)) (fun _ => .er "written twice") (t.get d)) p.2.dst := rfl
        rw [this, hd] at e; exact e
      obtain ⟨h1, h2⟩ := writers_ok e
      refine ⟨h1, fun q hq d hqd => ?_⟩
      rcases List.mem_cons.1 hq with rfl | hq
      · rw [hd] at hqd; cases hqd
      · exact h2 q hq d hqd
    | some d =>
      have e : @Option.rec Nat (fun _ => E (T Nat)) ((t.set 20 d p.1).bd (writers l)) (fun _ => .er "written twice") (t.get d) = .ok wm := by
        have : writers (p :: l) t = @Option.rec Tmp (fun _ => E (T Nat)) (writers l t) (fun d => @Option.rec Nat (fun _ => E (T Nat)) ((t.set 20 d p.1).bd (writers l)) (fun _ => .er "written twice") (t.get d)) p.2.dst := rfl
        rw [this, hd] at e; exact e
      cases ht : t.get d with
      | some j => rw [ht] at e; cases e
      | none =>
        rw [ht] at e
        obtain ⟨t1, h1, h2⟩ := bd_ok (x := t.set 20 d p.1) e
        obtain ⟨h3, h4⟩ := writers_ok h2
        have h5 := set_get 20 h1
        refine ⟨fun d' j hj => h3 d' j (by rw [h5, if_neg (fun e => by rw [e, ht] at hj; cases hj)]; exact hj), fun q hq d' hqd => ?_⟩
        rcases List.mem_cons.1 hq with rfl | hq
        · rw [hd] at hqd; cases hqd
          exact h3 _ _ (by rw [h5, if_pos rfl])
        · exact h4 q hq d' hqd
/-- j comes before i, or i before j -/
def Bf (ops : List Oper) (i j : Nat) : Prop := tb ((nth (bms ops []) i).getD 0) j = true
theorem cmpU_ok {wm : T Nat} {ops : List Oper} {i : Nat} : ∀ {us : List Nat}, cmpU wm (bms ops []) i us = true → ∀ t ∈ us, ∀ j, wm.get t = some j → j = i ∨ Bf ops i j ∨ Bf ops j i
  | [], h, t, ht => by cases ht
  | u :: us, h, t, ht => by
    have hs : cmpU wm (bms ops []) i (u :: us) = @Option.rec Nat (fun _ => Bool) (cmpU wm (bms ops []) i us) (fun j => bl (Nat.beq j i) (cmpU wm (bms ops []) i us) (bl (tb ((nth (bms ops []) i).getD 0) j) (cmpU wm (bms ops []) i us) (bl (tb ((nth (bms ops []) j).getD 0) i) (cmpU wm (bms ops []) i us) false))) (wm.get u) := rfl
    rw [hs] at h
    have key : cmpU wm (bms ops []) i us = true ∧ ∀ j, wm.get u = some j → j = i ∨ Bf ops i j ∨ Bf ops j i := by
      cases hw : wm.get u with
      | none => rw [hw] at h; exact ⟨h, fun j hj => by cases hj⟩
      | some j =>
        rw [hw] at h
        change bl (Nat.beq j i) _ (bl (tb ((nth (bms ops []) i).getD 0) j) _ (bl (tb ((nth (bms ops []) j).getD 0) i) _ false)) = true at h
        cases h1 : Nat.beq j i with
        | true => rw [h1] at h; exact ⟨h, fun k hk => by cases hk; exact .inl (Nat.eq_of_beq_eq_true h1)⟩
        | false =>
          rw [h1] at h
          cases h2 : tb ((nth (bms ops []) i).getD 0) j with
          | true => rw [h2] at h; exact ⟨h, fun k hk => by cases hk; exact .inr (.inl h2)⟩
          | false =>
            rw [h2] at h
            cases h3 : tb ((nth (bms ops []) j).getD 0) i with
            | true => rw [h3] at h; exact ⟨h, fun k hk => by cases hk; exact .inr (.inr h3)⟩
            | false => rw [h3] at h; cases h
    rcases List.mem_cons.1 ht with rfl | ht
    · exact key.2
    · exact cmpU_ok key.1 t ht
theorem strU_ok {wm : T Nat} {ops : List Oper} {i : Nat} : ∀ {us : List Nat}, strU wm (bms ops []) i us = true → ∀ t ∈ us, ∀ j, wm.get t = some j → j ≠ i ∧ Bf ops i j
  | [], h, t, ht => by cases ht
  | u :: us, h, t, ht => by
    have hs : strU wm (bms ops []) i (u :: us) = @Option.rec Nat (fun _ => Bool) (strU wm (bms ops []) i us) (fun j => bl (Nat.beq j i) false (bl (tb ((nth (bms ops []) i).getD 0) j) (strU wm (bms ops []) i us) false)) (wm.get u) := rfl
    rw [hs] at h
    have key : strU wm (bms ops []) i us = true ∧ ∀ j, wm.get u = some j → j ≠ i ∧ Bf ops i j := by
      cases hw : wm.get u with
      | none => rw [hw] at h; exact ⟨h, fun j hj => by cases hj⟩
      | some j =>
        rw [hw] at h
        change bl (Nat.beq j i) false (bl (tb ((nth (bms ops []) i).getD 0) j) _ false) = true at h
        cases h1 : Nat.beq j i with
        | true => rw [h1] at h; cases h
        | false =>
          rw [h1] at h
          cases h2 : tb ((nth (bms ops []) i).getD 0) j with
          | true => rw [h2] at h; exact ⟨h, fun k hk => by cases hk; exact ⟨Nat.ne_of_beq_eq_false h1, h2⟩⟩
          | false => rw [h2] at h; cases h
    rcases List.mem_cons.1 ht with rfl | ht
    · exact key.2
    · exact strU_ok key.1 t ht
theorem back_ok {o : Oper} {i : Nat} (h : back o i = true) : ∀ e ∈ o.after.toList, Region.binds .any e = true → e.on < i := by
  unfold back at h
  generalize o.after.toList = l at h
  induction l with
  | nil => intro e he; cases he
  | cons x l ih =>
    intro e he hb
    change bl (Region.binds .any x) (bl (Nat.blt x.on i) _ false) _ = true at h
    cases hx : Region.binds .any x with
    | false =>
      rw [hx] at h
      rcases List.mem_cons.1 he with rfl | he
      · rw [hx] at hb; cases hb
      · exact ih h e he hb
    | true =>
      rw [hx] at h
      change bl (Nat.blt x.on i) _ false = true at h
      cases h1 : Nat.blt x.on i with
      | false => rw [h1] at h; cases h
      | true =>
        rw [h1] at h
        rcases List.mem_cons.1 he with rfl | he
        · rwa [Nat.blt_eq] at h1
        · exact ih h e he hb
theorem okU_ok {P : Program} {wm : T Nat} {ops : List Oper} : ∀ {l : List (Nat × Oper)}, okU P wm (bms ops []) ops l = true → ∀ p ∈ l, (∀ e ∈ p.2.after.toList, Region.binds .any e = true → e.on < p.1) ∧ (∀ t ∈ uses ops p.2, ∀ j, wm.get t = some j → j = p.1 ∨ Bf ops p.1 j ∨ Bf ops j p.1) ∧ (kind P p.2.op = 1 → ∀ t ∈ uses ops p.2, ∀ j, wm.get t = some j → j ≠ p.1 ∧ Bf ops p.1 j)
  | [], h, p, hp => by cases hp
  | q :: l, h, p, hp => by
    change bl (back q.2 q.1) (bl (bl (Nat.beq (kind P q.2.op) 1) (strU wm (bms ops []) q.1 (uses ops q.2)) (cmpU wm (bms ops []) q.1 (uses ops q.2))) (okU P wm (bms ops []) ops l) false) false = true at h
    cases h1 : back q.2 q.1 with
    | false => rw [h1] at h; cases h
    | true =>
      rw [h1] at h
      change bl (bl (Nat.beq (kind P q.2.op) 1) _ _) (okU P wm (bms ops []) ops l) false = true at h
      cases h2 : bl (Nat.beq (kind P q.2.op) 1) (strU wm (bms ops []) q.1 (uses ops q.2)) (cmpU wm (bms ops []) q.1 (uses ops q.2)) with
      | false => rw [h2] at h; cases h
      | true =>
        rw [h2] at h
        rcases List.mem_cons.1 hp with rfl | hp
        · refine ⟨back_ok h1, ?_⟩
          cases hk : Nat.beq (kind P p.2.op) 1 with
          | true =>
            rw [hk] at h2
            have h3 := strU_ok (ops := ops) h2
            exact ⟨fun t ht j hj => .inr (.inl (h3 t ht j hj).2), fun _ => h3⟩
          | false =>
            rw [hk] at h2
            have h3 := cmpU_ok (ops := ops) h2
            exact ⟨h3, fun hk1 => by rw [hk1] at hk; cases hk⟩
        · exact okU_ok (l := l) h p hp
end Go.Ke
