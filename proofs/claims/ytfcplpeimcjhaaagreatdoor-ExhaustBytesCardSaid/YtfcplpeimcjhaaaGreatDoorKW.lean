/- Regions that draw their order: whatever the order, the values are those of the plan. Conditions: none. Regions that draw their order: the laws. Conditions: none. -/
import Derived.Test.YtfcplpeimcjhaaaGreatDoorKU
namespace Go.Ke
open Go.RowKit
/-- what operation i sees -/
noncomputable def gU (ops : List Oper) (wm : T Nat) (g0 : Nat → Option Value) (tm : T Value) (i : Nat) (t : Nat) : Option Value := match wm.get t with
  | some j => if tb ((nth (bms ops []) i).getD 0) j = true ∧ j ≠ i then tm.get t else g0 t
  | none => g0 t
/-- what the temporaries hold when those of L are done, and the evaluator has done those of D -/
noncomputable def gL (wm : T Nat) (g0 : Nat → Option Value) (D : Nat) (L : Nat → Bool) (tm : T Value) (t : Nat) : Option Value := match wm.get t with
  | some j => if D.testBit j = true ∧ L j = false then g0 t else tm.get t
  | none => tm.get t
def Agr (us : List Nat) (g g' : Nat → Option Value) : Prop := ∀ t ∈ us, g t = g' t
def DV (o : Oper) (tm : T Value) (n : Nat) (v : Value) : Prop := ∀ d, o.dst = some d → d < n ∧ tm.get d = some v
/-- the evaluator has done it, the model not yet -/
def Pend (P : Program) (ops : List Oper) (wm : T Nat) (g0 : Nat → Option Value) (n : Nat) (N0 : Nat) (ow : Nat → Option Nat) (i : Nat) (o : Oper) (tm : T Value) (W : AW) (ρ : Rho) : Prop :=
  ∃ b, (∀ g, Agr (uses ops o) g (gU ops wm g0 tm i) → wantV ops g o.guard = .ok b) ∧ (b = false → DV o tm n undef) ∧ (b = true →
    (kind P o.op = 0 ∧ ∃ v, (∀ g, Agr (uses ops o) g (gU ops wm g0 tm i) → o_pure P g o.op = .ok v) ∧ DV o tm n v) ∨
    (kind P o.op = 1 ∧ ∃ v, (∀ g, Agr (uses ops o) g (gU ops wm g0 tm i) → o_load P g W o.op = .ok v) ∧ DV o tm n v) ∨
    (kind P o.op = 2 ∧ ∃ p blk, (∀ g, Agr (uses ops o) g (gU ops wm g0 tm i) → o_alloc P g o.op = .ok p) ∧ DV o tm n (mkV p.2 blk) ∧ ow blk = some i ∧ ρ blk = none ∧ W.heap.get blk = some (aoC p) ∧ N0 ≤ blk ∧ blk < W.next))
structure Sta (P : Program) (ops : List Oper) (wm : T Nat) : Prop where
  conv : ∀ t i, wm.get t = some i → ∃ o, ops[i]? = some o ∧ o.dst = some t
  wr : ∀ i o, ops[i]? = some o → ∀ d, o.dst = some d → wm.get d = some i
  back : ∀ i o, ops[i]? = some o → ∀ e ∈ o.after.toList, Region.binds .any e = true → e.on < i
  cmp : ∀ i o, ops[i]? = some o → ∀ t ∈ uses ops o, ∀ j, wm.get t = some j → j = i ∨ Bf ops i j ∨ Bf ops j i
  str : ∀ i o, ops[i]? = some o → kind P o.op = 1 → ∀ t ∈ uses ops o, ∀ j, wm.get t = some j → j ≠ i ∧ Bf ops i j
theorem writers_conv : ∀ {l : List (Nat × Oper)} {t wm : T Nat}, writers l t = .ok wm → ∀ d j, wm.get d = some j → t.get d = some j ∨ ∃ p ∈ l, p.1 = j ∧ p.2.dst = some d
  | [], t, wm, e, d, j, h => by cases e; exact .inl h
  | p :: l, t, wm, e, d, j, h => by
    have hs : writers (p :: l) t = @Option.rec Tmp (fun _ => E (T Nat)) (writers l t) (fun d => @Option.rec Nat (fun _ => E (T Nat)) ((t.set 20 d p.1).bd (writers l)) (fun _ => .er "written twice") (t.get d)) p.2.dst := rfl
    rw [hs] at e
    cases hd : p.2.dst with
    | none =>
      rw [hd] at e
      rcases writers_conv (l := l) e d j h with h1 | ⟨q, h1, h2⟩
      · exact .inl h1
      · exact .inr ⟨q, List.mem_cons_of_mem _ h1, h2⟩
    | some u =>
      rw [hd] at e
      change @Option.rec Nat (fun _ => E (T Nat)) ((t.set 20 u p.1).bd (writers l)) (fun _ => .er "written twice") (t.get u) = .ok wm at e
      cases ht : t.get u with
      | some k => rw [ht] at e; cases e
      | none =>
        rw [ht] at e
        obtain ⟨t1, h1, h2⟩ := bd_ok (x := t.set 20 u p.1) e
        rcases writers_conv h2 d j h with h3 | ⟨q, h3, h4⟩
        · rw [set_get 20 h1] at h3
          by_cases hdu : d = u
          · rw [if_pos hdu] at h3
            exact .inr ⟨p, List.mem_cons_self .., by cases h3; rfl, by rw [hd, hdu]⟩
          · rw [if_neg hdu] at h3
            exact .inl h3
        · exact .inr ⟨q, List.mem_cons_of_mem _ h3, h4⟩
theorem sta_ok {P : Program} {ops : List Oper} {wm : T Nat} (h1 : writers (idx ops 0) .nil = .ok wm) (h2 : okU P wm (bms ops []) ops (idx ops 0) = true) : Sta P ops wm :=
  ⟨fun t i h => by
    rcases writers_conv h1 t i h with h3 | ⟨p, h3, rfl, h4⟩
    · rw [get_nil] at h3; cases h3
    · exact ⟨p.2, mem_idx.1 h3, h4⟩, fun i o h d hd => (writers_ok h1).2 (i, o) (mem_idx.2 h) d hd, fun i o h => (okU_ok h2 (i, o) (mem_idx.2 h)).1, fun i o h => (okU_ok h2 (i, o) (mem_idx.2 h)).2.1, fun i o h hk => (okU_ok h2 (i, o) (mem_idx.2 h)).2.2 hk⟩
structure Inv (P : Program) (ops : Array Oper) (wm : T Nat) (g0 : Nat → Option Value) (n : Nat) (ρ0 : Rho) (W0 : AW) (w0 : World) (a0 : Act) (D : Nat) (tm : T Value) (W : AW) (ow : Nat → Option Nat) (ρ : Rho) (listed : Array Bool) (a : Act) (w : World) : Prop where
  lsz : listed.size = ops.size
  sub : ∀ i, listed.getD i false = true → D.testBit i = true
  lcl : Clo ops.toList (fun i => listed.getD i false = true)
  dcl : Clo ops.toList (fun i => D.testBit i = true)
  dlt : ∀ i, D.testBit i = true → i < ops.size
  eff : ∀ i o, ops.toList[i]? = some o → D.testBit i = true → kind P o.op = 3 → listed.getD i false = true
  abs : ∀ t, (∀ j, wm.get t = some j → D.testBit j = false) → tm.get t = g0 t
  tr : TR ρ n (gL wm g0 D (fun i => listed.getD i false) tm) a.tmps
  df : a.defers = a0.defers
  wr : WR ρ W w
  up : Up ρ0 W0 w0 ρ W w
  pend : ∀ i o, ops.toList[i]? = some o → D.testBit i = true → listed.getD i false = false → Pend P ops.toList wm g0 n W0.next ow i o tm W ρ
section
variable {P : Program} {ih : Ev} {ops : Array Oper} {wm : T Nat} {g0 : Nat → Option Value} {n : Nat} {ρ0 ρ : Rho} {W0 W : AW} {w0 w : World} {a0 a : Act} {D : Nat} {tm tm' : T Value} {ow : Nat → Option Nat} {listed : Array Bool} {ds : List DD} {o : Oper} {i : Nat} {v : Value}
theorem bit_add (D i j : Nat) : (Nat.lor D (Nat.pow 2 i)).testBit j = (D.testBit j || decide (i = j)) := by rw [lor_bit, pow_bit]
theorem bit_none {D i : Nat} (h : ¬ D.testBit i = true) : D.testBit i = false := by cases e : D.testBit i <;> simp_all
/-- the slot's fact behind a write -/
theorem DV_put (ho : (o.dst = none ∧ tm' = tm) ∨ ∃ t, o.dst = some t ∧ t < n ∧ ∀ j, tm'.get j = if j = t then some v else tm.get j) : DV o tm' n v := by
  intro d hd
  rcases ho with ⟨h, _⟩ | ⟨t, h1, h2, h3⟩
  · rw [h] at hd; cases hd
  · rw [h1] at hd; cases hd
    exact ⟨h2, by rw [h3, if_pos rfl]⟩
/-- another slot is as it was -/
theorem put_other (hs : Sta P ops.toList wm) (hi : ops.toList[i]? = some o) (ho : (o.dst = none ∧ tm' = tm) ∨ ∃ t, o.dst = some t ∧ t < n ∧ ∀ j, tm'.get j = if j = t then some v else tm.get j) {t : Nat} (ht : wm.get t ≠ some i) : tm'.get t = tm.get t := by
  rcases ho with ⟨_, h⟩ | ⟨d, h1, h2, h3⟩
  · rw [h]
  · rw [h3, if_neg]
    rintro rfl
    exact ht (hs.wr i o hi _ h1)
theorem gU_put (hs : Sta P ops.toList wm) (hi : ops.toList[i]? = some o) (ho : (o.dst = none ∧ tm' = tm) ∨ ∃ t, o.dst = some t ∧ t < n ∧ ∀ j, tm'.get j = if j = t then some v else tm.get j) {k : Nat} (hk : k = i ∨ ¬ Bf ops.toList k i) (t : Nat) : gU ops.toList wm g0 tm' k t = gU ops.toList wm g0 tm k t := by
  unfold gU
  cases hw : wm.get t with
  | none => rfl
  | some j =>
    simp only
    by_cases hc : tb ((nth (bms ops.toList []) k).getD 0) j = true ∧ j ≠ k
    · rw [if_pos hc, if_pos hc]
      refine put_other hs hi ho ?_
      rw [hw]
      intro e
      cases e
      rcases hk with rfl | hk
      · exact hc.2 rfl
      · exact hk hc.1
    · rw [if_neg hc, if_neg hc]
theorem Pend.mono {k : Nat} {o2 : Oper} {W' : AW} {ρ' : Rho} {ow' : Nat → Option Nat} {N0 : Nat} (h : Pend P ops.toList wm g0 n N0 ow k o2 tm W ρ) (hg : ∀ t, gU ops.toList wm g0 tm' k t = gU ops.toList wm g0 tm k t) (hd : ∀ d, o2.dst = some d → tm'.get d = tm.get d)
    (hl : kind P o2.op = 1 → ∀ v, (∀ g, Agr (uses ops.toList o2) g (gU ops.toList wm g0 tm k) → o_load P g W o2.op = .ok v) → (∀ g, Agr (uses ops.toList o2) g (gU ops.toList wm g0 tm k) → wantV ops.toList g o2.guard = .ok true) → DV o2 tm n v → ∃ v', (∀ g, Agr (uses ops.toList o2) g (gU ops.toList wm g0 tm k) → o_load P g W' o2.op = .ok v') ∧ DV o2 tm n v')
    (ha : ∀ blk ao, ow blk = some k → ρ blk = none → W.heap.get blk = some ao → N0 ≤ blk → blk < W.next → ow' blk = some k ∧ ρ' blk = none ∧ W'.heap.get blk = some ao ∧ blk < W'.next) : Pend P ops.toList wm g0 n N0 ow' k o2 tm' W' ρ' := by
  obtain ⟨b, h1, h2, h3⟩ := h
  have hA : ∀ g, Agr (uses ops.toList o2) g (gU ops.toList wm g0 tm' k) → Agr (uses ops.toList o2) g (gU ops.toList wm g0 tm k) := fun g hg2 t ht => (hg2 t ht).trans (hg t)
  have hV : ∀ v, DV o2 tm n v → DV o2 tm' n v := fun v hv d hd2 => ⟨(hv d hd2).1, (hd d hd2).trans (hv d hd2).2⟩
  refine ⟨b, fun g hg2 => h1 g (hA g hg2), fun hb => hV _ (h2 hb), fun hb => ?_⟩
  rcases h3 hb with ⟨k0, v, h4, h5⟩ | ⟨k0, v, h4, h5⟩ | ⟨k0, p, blk, h4, h5, h6, h7, h8, h9, h10⟩
  · exact .inl ⟨k0, v, fun g hg2 => h4 g (hA g hg2), hV v h5⟩
  · obtain ⟨v', q1, q2⟩ := hl k0 v h4 (fun g hg2 => hb ▸ h1 g hg2) h5
    exact .inr (.inl ⟨k0, v', fun g hg2 => q1 g (hA g hg2), hV v' q2⟩)
  · obtain ⟨q1, q2, q3, q4⟩ := ha blk _ h6 h7 h8 h9 h10
    exact .inr (.inr ⟨k0, p, blk, fun g hg2 => h4 g (hA g hg2), hV _ h5, q1, q2, q3, h9, q4⟩)
/-- at the time of its turn an operation sees what it should -/
theorem agr_now (hs : Sta P ops.toList wm) (hi : ops.toList[i]? = some o) (hI : Inv P ops wm g0 n ρ0 W0 w0 a0 D tm W ow ρ listed a w) (hD : D.testBit i = false) : Agr (uses ops.toList o) tm.get (gU ops.toList wm g0 tm i) := by
  intro t ht
  unfold gU
  cases hw : wm.get t with
  | none => exact hI.abs t (fun j hj => by rw [hw] at hj; cases hj)
  | some j =>
    simp only
    by_cases hc : tb ((nth (bms ops.toList []) i).getD 0) j = true ∧ j ≠ i
    · rw [if_pos hc]
    · rw [if_neg hc]
      refine hI.abs t fun k hk => ?_
      rw [hw] at hk; cases hk
      rcases hs.cmp i o hi t ht j hw with rfl | h | h
      · exact hD
      · by_cases hji : j = i
        · rw [hji]; exact hD
        · exact absurd ⟨h, hji⟩ hc
      · exact bit_none fun hj => by
          have := clo_tb hI.dcl h hj
          rw [hD] at this; cases this
/-- what is pending sees what it should when those that it comes behind are listed -/
theorem agr_L (hs : Sta P ops.toList wm) (hi : ops.toList[i]? = some o) (hI : Inv P ops wm g0 n ρ0 W0 w0 a0 D tm W ow ρ listed a w) (hL : listed.getD i false = false) (hdep : ∀ e ∈ o.after.toList, Region.binds .any e = true → listed.getD e.on false = true) : Agr (uses ops.toList o) (gL wm g0 D (fun i => listed.getD i false) tm) (gU ops.toList wm g0 tm i) := by
  have hcl : Clo ops.toList (fun k => listed.getD k false = true ∨ k = i) := by
    intro k o2 hk hk2 e he hb
    rcases hk2 with h | rfl
    · exact .inl (hI.lcl k o2 hk h e he hb)
    · rw [hi] at hk; cases hk
      exact .inl (hdep e he hb)
  intro t ht
  unfold gU gL
  cases hw : wm.get t with
  | none => exact hI.abs t (fun j hj => by rw [hw] at hj; cases hj)
  | some j =>
    simp only
    by_cases hc : tb ((nth (bms ops.toList []) i).getD 0) j = true ∧ j ≠ i
    · rw [if_pos hc]
      have : listed.getD j false = true := by
        rcases clo_tb hcl hc.1 (.inr rfl) with h | h
        · exact h
        · exact absurd h hc.2
      rw [if_neg (fun h => by rw [this] at h; cases h.2)]
    · rw [if_neg hc]
      by_cases hDj : D.testBit j = true
      · refine if_pos ⟨hDj, ?_⟩
        refine Bool.eq_false_iff.2 fun hLj => ?_
        rcases hs.cmp i o hi t ht j hw with rfl | h | h
        · rw [hL] at hLj; cases hLj
        · by_cases hji : j = i
          · rw [hji, hL] at hLj; cases hLj
          · exact hc ⟨h, hji⟩
        · have := clo_tb hI.lcl h hLj
          rw [hL] at this; cases this
      · rw [if_neg (fun h => hDj h.1)]
        exact hI.abs t fun k hk => by rw [hw] at hk; cases hk; exact bit_none hDj
/-- the same for an operation that the evaluator has not done either -/
theorem agr_eff (hs : Sta P ops.toList wm) (hi : ops.toList[i]? = some o) (hI : Inv P ops wm g0 n ρ0 W0 w0 a0 D tm W ow ρ listed a w) (hD : D.testBit i = false) (hdep : ∀ e ∈ o.after.toList, Region.binds .any e = true → listed.getD e.on false = true) : Agr (uses ops.toList o) (gL wm g0 D (fun i => listed.getD i false) tm) tm.get := by
  have hcl : Clo ops.toList (fun k => listed.getD k false = true ∨ k = i) := by
    intro k o2 hk hk2 e he hb
    rcases hk2 with h | rfl
    · exact .inl (hI.lcl k o2 hk h e he hb)
    · rw [hi] at hk; cases hk
      exact .inl (hdep e he hb)
  intro t ht
  unfold gL
  cases hw : wm.get t with
  | none => rfl
  | some j =>
    simp only
    rw [if_neg]
    rintro ⟨hDj, hLj⟩
    rcases hs.cmp i o hi t ht j hw with rfl | h | h
    · rw [hD] at hDj; cases hDj
    · rcases clo_tb hcl h (.inr rfl) with h2 | h2
      · rw [hLj] at h2; cases h2
      · rw [h2, hD] at hDj; cases hDj
    · have := clo_tb hI.dcl h hDj
      rw [hD] at this; cases this
/-! ### the calm operations of a stage -/
inductive Seq (P : Program) (l : List (Nat × Oper)) : Nat → List (Nat × Oper) → Nat → Prop
  | nil (D : Nat) : Seq P l D [] D
  | cons {D D1 : Nat} {p : Nat × Oper} {r : List (Nat × Oper)} (hp : p ∈ l) (h1 : D.testBit p.1 = false) (h2 : kind P p.2.op < 3) (h3 : sub (dm p.2) D = true) (t : Seq P l (Nat.lor D (Nat.pow 2 p.1)) r D1) : Seq P l D (p :: r) D1
theorem calms_seq {l : List (Nat × Oper)} : ∀ {l' : List (Nat × Oper)} {D : Nat}, (∀ p ∈ l', p ∈ l) → Seq P l D (calms P l' D).2 (calms P l' D).1
  | [], D, _ => .nil D
  | p :: l', D, h => by
    have ht : ∀ q ∈ l', q ∈ l := fun q hq => h q (List.mem_cons_of_mem _ hq)
    have hs : calms P (p :: l') D = bl (tb D p.1) (calms P l' D) (bl (Nat.blt (kind P p.2.op) 3) (bl (sub (dm p.2) D) (@Prod.rec Nat (List (Nat × Oper)) (fun _ => Nat × List (Nat × Oper)) (fun D' r => (D', p :: r)) (calms P l' (Nat.lor D (Nat.pow 2 p.1)))) (calms P l' D)) (calms P l' D)) := rfl
    rw [hs]
    cases h1 : tb D p.1 with
    | true => exact calms_seq ht
    | false =>
      cases h2 : Nat.blt (kind P p.2.op) 3 with
      | false => exact calms_seq ht
      | true =>
        cases h3 : sub (dm p.2) D with
        | false => exact calms_seq ht
        | true =>
          rw [tb_eq] at h1
          rw [Nat.blt_eq] at h2
          exact .cons (h p (List.mem_cons_self ..)) h1 h2 h3 (calms_seq ht)
theorem Seq.le {l : List (Nat × Oper)} {r : List (Nat × Oper)} {D D1 : Nat} (h : Seq P l D r D1) : ∀ i, D.testBit i = true → D1.testBit i = true := by
  induction h with
  | nil => exact fun i h => h
  | cons _ _ _ _ _ ih => exact fun i h => ih i (by rw [bit_add, h]; rfl)
/-- one more is done by the evaluator -/
theorem calm_inv (hs : Sta P ops.toList wm) (hi : ops.toList[i]? = some o) (hI : Inv P ops wm g0 n ρ0 W0 w0 a0 D tm W ow ρ listed a w) (hD : D.testBit i = false) (hk : kind P o.op < 3) (hdm : Ke.sub (dm o) D = true) {W' : AW} {ow' : Nat → Option Nat}
    (ho : (o.dst = none ∧ tm' = tm) ∨ ∃ t, o.dst = some t ∧ t < n ∧ ∀ j, tm'.get j = if j = t then some v else tm.get j) (hWR : WR ρ W' w) (hnx : W.next ≤ W'.next) (hW : ∀ b ao, W.heap.get b = some ao → W'.heap.get b = some ao) (hW2 : ∀ b, b < W.next → W'.heap.get b = W.heap.get b)
    (hload : ∀ g o v, o_load P g W o = .ok v → o_load P g W' o = .ok v) (how : ∀ b k, b < W.next → ow b = some k → ow' b = some k) (hp : Pend P ops.toList wm g0 n W0.next ow' i o tm' W' ρ) : Inv P ops wm g0 n ρ0 W0 w0 a0 (Nat.lor D (Nat.pow 2 i)) tm' W' ow' ρ listed a w := by
  have hL : listed.getD i false = false := Bool.eq_false_iff.2 fun h => by rw [hI.sub i h] at hD; cases hD
  have hnb : ∀ k, D.testBit k = true → ¬ Bf ops.toList k i := fun k hk h => by
    have := clo_tb hI.dcl h hk
    rw [hD] at this; cases this
  refine ⟨hI.lsz, fun k hk => by rw [bit_add, hI.sub k hk]; rfl, hI.lcl, ?_, ?_, ?_, ?_, ?_, hI.df, hWR, ?_, ?_⟩
  · intro k o2 hk h e he hb
    simp only [bit_add, Bool.or_eq_true, decide_eq_true_iff] at h ⊢
    rcases h with h | rfl
    · exact .inl (hI.dcl k o2 hk h e he hb)
    · rw [hi] at hk; cases hk
      exact .inl ((sub_iff _ _).1 hdm _ (dm_bit.2 ⟨e, he, hb, rfl⟩))
  · intro k h
    rw [bit_add, Bool.or_eq_true, decide_eq_true_iff] at h
    rcases h with h | rfl
    · exact hI.dlt k h
    · have := (List.getElem?_eq_some_iff.1 hi).1
      simpa using this
  · intro k o2 hk h h3
    rw [bit_add, Bool.or_eq_true, decide_eq_true_iff] at h
    rcases h with h | rfl
    · exact hI.eff k o2 hk h h3
    · rw [hi] at hk; cases hk
      omega
  · intro t ht
    have h1 : wm.get t ≠ some i := fun h => by
      have := ht i h
      rw [bit_add] at this
      simp at this
    rw [put_other hs hi ho h1]
    refine hI.abs t fun j hj => ?_
    have := ht j hj
    rw [bit_add, Bool.or_eq_false_iff] at this
    exact this.1
  · have hsame : ∀ t, gL wm g0 (Nat.lor D (Nat.pow 2 i)) (fun i => listed.getD i false) tm' t = gL wm g0 D (fun i => listed.getD i false) tm t := by
      intro t
      unfold gL
      cases hw : wm.get t with
      | none => exact put_other hs hi ho (by rw [hw]; simp)
      | some j =>
        simp only
        by_cases hji : j = i
        · subst hji
          rw [if_pos ⟨by rw [bit_add]; simp, hL⟩, if_neg (fun h => by rw [hD] at h; cases h.1)]
          exact (hI.abs t fun k hk => by rw [hw] at hk; cases hk; exact hD).symm
        · have h1 : tm'.get t = tm.get t := put_other hs hi ho (by rw [hw]; intro h; cases h; exact hji rfl)
          have h2 : (Nat.lor D (Nat.pow 2 i)).testBit j = D.testBit j := by rw [bit_add]; simp [Ne.symm hji]
          rw [h1, h2]
    exact ⟨hI.tr.1, fun t u hu => hI.tr.2 t u ((hsame t).symm.trans hu), hI.tr.3⟩
  · refine ⟨hI.up.le, Nat.le_trans hI.up.next hnx, fun b hb hn => ?_, hI.up.size, hI.up.same, hI.up.img, hI.up.env, hI.up.ty⟩
    obtain ⟨h1, h2⟩ := hI.up.out b hb hn
    exact ⟨h1, fun ao e9 => (hW2 b (Nat.lt_of_lt_of_le hb hI.up.next)).trans (h2 ao e9)⟩
  · intro k o2 hk h hLk
    by_cases hki : k = i
    · subst hki
      rw [hi] at hk; cases hk
      exact hp
    · rw [bit_add, Bool.or_eq_true, decide_eq_true_iff] at h
      have h : D.testBit k = true := h.resolve_right (Ne.symm hki)
      refine (hI.pend k o2 hk h hLk).mono (gU_put hs hi ho (.inr (hnb k h))) (fun d hd => put_other hs hi ho (by rw [hs.wr k o2 hk d hd]; intro e; cases e; exact hki rfl)) (fun _ v hv _ hd => ⟨v, fun g hg => hload g o2.op v (hv g hg), hd⟩) fun blk cs h1 h2 h3 _ h5 => ⟨how blk k h5 h1, h2, hW blk _ h3, Nat.lt_of_lt_of_le h5 hnx⟩
theorem calm_ok (hs : Sta P ops.toList wm) {pl : List PI} {r : List (Nat × Oper)} {D1 : Nat} (hq : Seq P (idx ops.toList 0) D r D1) : ∀ {tm : T Value} {W : AW} {ow : Nat → Option Nat}, okR (runP P ih n ops.toList ds (mkC r pl) tm W) → Inv P ops wm g0 n ρ0 W0 w0 a0 D tm W ow ρ listed a w →
    ∃ tm' W' ow', runP P ih n ops.toList ds (mkC r pl) tm W = runP P ih n ops.toList ds pl tm' W' ∧ Inv P ops wm g0 n ρ0 W0 w0 a0 D1 tm' W' ow' ρ listed a w := by
  induction hq with
  | nil => exact fun {tm W ow} e hI => ⟨tm, W, ow, rfl, hI⟩
  | cons hp h1 h2 h3 ht iht =>
    rename_i D D1 p r
    intro tm W ow e hI
    obtain ⟨i, o⟩ := p
    have hi := mem_idx.1 hp
    have heq : runP P ih n ops.toList ds (mkC ((i, o) :: r) pl) tm W = calmD P n ops.toList o tm W (runP P ih n ops.toList ds (mkC r pl)) := rfl
    rw [heq] at e ⊢
    obtain ⟨b, hb, e1⟩ := Eth_ok e
    have hnow := agr_now hs hi hI h1
    have heq1 : calmD P n ops.toList o tm W (runP P ih n ops.toList ds (mkC r pl)) = @Bool.rec (fun _ => CR) (putD n o.dst tm undef fun tm => runP P ih n ops.toList ds (mkC r pl) tm W) ((oper P tm.get W o.op).th (execC n o.dst tm (runP P ih n ops.toList ds (mkC r pl)))) b := by
      show (wantV ops.toList tm.get o.guard).th _ = _
      rw [hb]; rfl
    have hfromU : ∀ tm' v, ((o.dst = none ∧ tm' = tm) ∨ ∃ t, o.dst = some t ∧ t < n ∧ ∀ j, tm'.get j = if j = t then some v else tm.get j) → ∀ g, Agr (uses ops.toList o) g (gU ops.toList wm g0 tm' i) → Agr (uses ops.toList o) g tm.get := fun tm' v ho g hg t ht => ((hg t ht).trans (gU_put hs hi ho (.inl rfl) t)).trans (hnow t ht).symm
    have hops : ∀ g : Nat → Option Value, Agr (uses ops.toList o) g tm.get → ∀ t, .tmp t ∈ o.op.operands.toList → g t = tm.get t := fun g hg t ht => hg t (mem_uses.2 (.inl ht))
    cases b with
    | false =>
      obtain ⟨tm', g1, g2, g3⟩ := putD_ok (k := fun tm => runP P ih n ops.toList ds (mkC r pl) tm W) e1
      obtain ⟨tm2, W2, ow2, q1, q2⟩ := iht (ow := ow) g2 (calm_inv hs hi hI h1 h2 h3 g3 hI.wr (Nat.le_refl _) (fun _ _ h => h) (fun _ _ => rfl) (fun _ _ _ h => h) (fun _ _ _ h => h)
        ⟨false, fun g hg => by rw [want_congr (hfromU tm' _ g3 g hg)]; exact hb, fun _ => DV_put g3, fun h => by cases h⟩)
      exact ⟨tm2, W2, ow2, (heq1.trans g1).trans q1, q2⟩
    | true =>
      obtain ⟨rr, h4, e2⟩ := Eth_ok (x := oper P tm.get W o.op) e1
      have heq2 : calmD P n ops.toList o tm W (runP P ih n ops.toList ds (mkC r pl)) = execC n o.dst tm (runP P ih n ops.toList ds (mkC r pl)) rr := by
        rw [heq1]
        show (oper P tm.get W o.op).th _ = _
        rw [h4]; rfl
      unfold oper at h4
      have hkk : kind P o.op = 0 ∨ kind P o.op = 1 ∨ kind P o.op = 2 := by
        have := h2
        dsimp only at this
        omega
      rcases hkk with hk | hk | hk <;> rw [hk] at h4
      · obtain ⟨v, h5, h6⟩ := bd_ok (x := o_pure P tm.get o.op) h4
        cases h6
        obtain ⟨tm', g1, g2, g3⟩ := putD_ok (k := fun tm => runP P ih n ops.toList ds (mkC r pl) tm W) e2
        obtain ⟨tm2, W2, ow2, q1, q2⟩ := iht (ow := ow) g2 (calm_inv hs hi hI h1 h2 h3 g3 hI.wr (Nat.le_refl _) (fun _ _ h => h) (fun _ _ => rfl) (fun _ _ _ h => h) (fun _ _ _ h => h)
          ⟨true, fun g hg => by rw [want_congr (hfromU tm' _ g3 g hg)]; exact hb, fun h => by (cases h), fun _ => .inl ⟨hk, v, fun g hg => by rw [o_pure_congr (hops g (hfromU tm' _ g3 g hg))]; exact h5, DV_put g3⟩⟩)
        exact ⟨tm2, W2, ow2, (heq2.trans g1).trans q1, q2⟩
      · obtain ⟨v, h5, h6⟩ := bd_ok (x := o_load P tm.get W o.op) h4
        cases h6
        obtain ⟨tm', g1, g2, g3⟩ := putD_ok (k := fun tm => runP P ih n ops.toList ds (mkC r pl) tm W) e2
        obtain ⟨tm2, W2, ow2, q1, q2⟩ := iht (ow := ow) g2 (calm_inv hs hi hI h1 h2 h3 g3 hI.wr (Nat.le_refl _) (fun _ _ h => h) (fun _ _ => rfl) (fun _ _ _ h => h) (fun _ _ _ h => h)
          ⟨true, fun g hg => by rw [want_congr (hfromU tm' _ g3 g hg)]; exact hb, fun h => by (cases h), fun _ => .inr (.inl ⟨hk, v, fun g hg => by rw [o_load_congr (hops g (hfromU tm' _ g3 g hg))]; exact h5, DV_put g3⟩)⟩)
        exact ⟨tm2, W2, ow2, (heq2.trans g1).trans q1, q2⟩
      · obtain ⟨p, h5, h6⟩ := bd_ok (x := o_alloc P tm.get o.op) h4
        obtain ⟨H, h7, h8⟩ := newK_ok h6
        cases h8
        have hget : ∀ x, H.get x = if x = W.next then some (aoC p) else W.heap.get x := fun x => set_get 40 h7 x
        obtain ⟨tm', g1, g2, g3⟩ := putD_ok (k := fun tm => runP P ih n ops.toList ds (mkC r pl) tm ⟨H, W.next + 1⟩) e2
        have htop := hI.wr.top W.next (Nat.le_refl _)
        obtain ⟨tm2, W2, ow2, q1, q2⟩ := iht (ow := fun x => if x = W.next then some i else ow x) g2 (calm_inv hs hi hI h1 h2 h3 g3 (hI.wr.grow h7) (Nat.le_succ _)
          (fun b ao hb2 => by show H.get b = _; rw [hget, if_neg (fun e => by rw [e, htop] at hb2; cases hb2)]; exact hb2)
          (fun b hb2 => by show H.get b = _; rw [hget, if_neg (by omega)])
          (fun g o v hv => load_new htop h7 hv) (fun b k hb2 hk2 => by show (if b = W.next then some i else ow b) = _; rw [if_neg (by omega)]; exact hk2)
          ⟨true, fun g hg => by rw [want_congr (hfromU tm' _ g3 g hg)]; exact hb, fun h => by (cases h), fun _ => .inr (.inr ⟨hk, p, W.next, fun g hg => by rw [o_alloc_congr (hops g (hfromU tm' _ g3 g hg))]; exact h5, DV_put g3, by simp, hI.wr.fresh, by show H.get _ = _; rw [hget, if_pos rfl], hI.up.next, Nat.lt_succ_self _⟩)⟩)
        exact ⟨tm2, W2, ow2, (heq2.trans g1).trans q1, q2⟩
end
end Go.Ke
namespace Go.Ke
open Go.RowKit
theorem ready_mem {ops : Array Oper} {listed : Array Bool} (hsz : listed.size = ops.size) {i : Nat} : i ∈ Region.ready .any ops listed ↔ listed.getD i false = false ∧ ∃ o, ops.toList[i]? = some o ∧ ∀ e ∈ o.after.toList, Region.binds .any e = true → listed.getD e.on false = true := by
  unfold Region.ready
  rw [List.mem_filter, List.mem_range]
  constructor
  · rintro ⟨h1, h2⟩
    rw [Bool.and_eq_true] at h2
    have h3 : ops[i]? = some ops[i] := Array.getElem?_eq_getElem h1
    refine ⟨?_, ops[i], by simp, fun e he hb => ?_⟩
    · have := h2.1
      simp only [Array.getD_eq_getD_getElem?] at this ⊢
      rw [Array.getElem?_eq_getElem (by omega)] at this ⊢
      simpa using this
    · have h4 := h2.2
      rw [h3, Option.map_some, Option.getD_some, Array.all_eq_true_iff_forall_mem] at h4
      have := h4 e (by simpa using he)
      rw [hb] at this
      simpa using this
  · rintro ⟨h1, o, h2, h3⟩
    have hlt : i < ops.size := by simpa using (List.getElem?_eq_some_iff.1 h2).1
    have h4 : ops[i]? = some o := by simpa using h2
    refine ⟨hlt, ?_⟩
    rw [Bool.and_eq_true]
    refine ⟨?_, ?_⟩
    · simp only [Array.getD_eq_getD_getElem?] at h1 ⊢
      rw [Array.getElem?_eq_getElem (by omega)] at h1 ⊢
      simpa using h1
    · rw [h4, Option.map_some, Option.getD_some, Array.all_eq_true_iff_forall_mem]
      intro e he
      cases hb : Region.binds .any e with
      | false => rfl
      | true => simpa using h3 e (by simpa using he) hb
theorem getD_set {listed : Array Bool} {i k : Nat} (hi : i < listed.size) : (listed.setIfInBounds i true).getD k false = (decide (k = i) || listed.getD k false) := by
  simp only [Array.getD_eq_getD_getElem?, Array.getElem?_setIfInBounds]
  by_cases h : i = k
  · subst h; simp [hi]
  · simp [h, Ne.symm h]
def unl (listed : Array Bool) : Nat → Nat
  | 0 => 0
  | n + 1 => unl listed n + (if listed.getD n false = true then 0 else 1)
theorem unl_set {listed : Array Bool} {i : Nat} (hi : i < listed.size) (hf : listed.getD i false = false) : ∀ n, unl (listed.setIfInBounds i true) n + (if i < n then 1 else 0) = unl listed n
  | 0 => by simp [unl]
  | n + 1 => by
    have ih := unl_set hi hf n
    simp only [unl, getD_set hi]
    by_cases h : n = i
    · subst h
      have : ¬ n < n := by omega
      simp [hf] at ih ⊢
      omega
    · have h1 : (i < n + 1) = (i < n) := by rw [eq_iff_iff]; omega
      simp only [h1, h, decide_false, Bool.false_or]
      omega
theorem unl_all {listed : Array Bool} : ∀ n, unl listed n = 0 → ∀ i, i < n → listed.getD i false = true
  | 0, _, i, hi => by omega
  | n + 1, h, i, hi => by
    simp only [unl] at h
    by_cases h1 : i = n
    · subst h1
      by_cases h2 : listed.getD i false = true
      · exact h2
      · rw [if_neg h2] at h; omega
    · exact unl_all n (by omega) i (by omega)
theorem unl_start (n k : Nat) : unl (Array.replicate n false) k ≤ k := by
  induction k with
  | zero => simp [unl]
  | succ k ih => simp only [unl]; split <;> omega
theorem opens_mem {D : Nat} : ∀ {l : List (Nat × Oper)} {p : Nat × Oper}, p ∈ opens l D ↔ p ∈ l ∧ D.testBit p.1 = false ∧ sub (dm p.2) D = true
  | [], p => by simp [opens]
  | q :: l, p => by
    have hs : opens (q :: l) D = bl (tb D q.1) (opens l D) (bl (sub (dm q.2) D) (q :: opens l D) (opens l D)) := rfl
    rw [hs]
    have ih := opens_mem (D := D) (l := l) (p := p)
    cases h1 : tb D q.1 with
    | true =>
      rw [tb_eq] at h1
      show p ∈ opens l D ↔ _
      rw [ih, List.mem_cons]
      exact ⟨fun ⟨a, b⟩ => ⟨.inr a, b⟩, fun ⟨a, b⟩ => ⟨a.resolve_left (fun e => by rw [e, h1] at b; cases b.1), b⟩⟩
    | false =>
      rw [tb_eq] at h1
      cases h2 : sub (dm q.2) D with
      | true =>
        show p ∈ q :: opens l D ↔ _
        rw [List.mem_cons, ih, List.mem_cons]
        constructor
        · rintro (rfl | ⟨a, b⟩)
          · exact ⟨.inl rfl, h1, h2⟩
          · exact ⟨.inr a, b⟩
        · rintro ⟨rfl | a, b⟩
          · exact .inl rfl
          · exact .inr ⟨a, b⟩
      | false =>
        show p ∈ opens l D ↔ _
        rw [ih, List.mem_cons]
        exact ⟨fun ⟨a, b⟩ => ⟨.inr a, b⟩, fun ⟨a, b⟩ => ⟨a.resolve_left (fun e => by rw [e, h2] at b; cases b.2), b⟩⟩
theorem floats_mem {P : Program} {D B : Nat} : ∀ {l : List (Nat × Oper)} {p : Nat × Oper}, p ∈ l → D.testBit p.1 = true → kind P p.2.op = 1 → tb B p.1 = false → p.2 ∈ floats P l D B
  | [], p, h, _, _, _ => by cases h
  | q :: l, p, h, h1, h2, h3 => by
    have hs : floats P (q :: l) D B = bl (tb D q.1) (bl (Nat.beq (kind P q.2.op) 1) (bl (tb B q.1) (floats P l D B) (q.2 :: floats P l D B)) (floats P l D B)) (floats P l D B) := rfl
    rw [hs]
    rcases List.mem_cons.1 h with rfl | h
    · rw [tb_eq, h1, h2, h3]
      exact List.mem_cons_self ..
    · have ih := floats_mem h h1 h2 h3
      cases tb D q.1 with
      | false => exact ih
      | true =>
        cases Nat.beq (kind P q.2.op) 1 with
        | false => exact ih
        | true =>
          cases tb B q.1 with
          | true => exact ih
          | false => exact List.mem_cons_of_mem _ ih
section
variable {P : Program} {ih : Ev} {ops : Array Oper} {wm : T Nat} {g0 : Nat → Option Value} {n m : Nat} {ρ0 ρ : Rho} {W0 W : AW} {w0 w : World} {a0 a : Act} {D : Nat} {tm tm' : T Value} {ow : Nat → Option Nat} {listed : Array Bool} {ds : List DD} {o : Oper} {i : Nat} {v : Value} {F : Fence} {Q : Exit → Act → World → Prop}
noncomputable def chkO (tm : T Value) (K : CR) (v : Value) (d : Option Tmp) : CR := @Option.rec Tmp (fun _ => CR) K (fun d => (E.of "chk" (tm.get d)).th fun u => @Bool.rec (fun _ => CR) (.er "a load that hangs on the order") K (veq v u)) d
theorem chkO_ok {K : CR} {d : Option Tmp} (e : okR (chkO tm K v d)) : chkO tm K v d = K ∧ ∀ d', d = some d' → tm.get d' = some v := by
  cases d with
  | none => exact ⟨rfl, fun d' h => by cases h⟩
  | some d =>
    obtain ⟨u, h5, e3⟩ := Eth_ok (x := E.of "chk" (tm.get d)) e
    cases hv : veq v u with
    | false => rw [hv] at e3; exact absurd rfl (e3 _)
    | true =>
      refine ⟨?_, fun d' h => by cases h; rw [of_ok h5, veq_ok hv]⟩
      show (E.of "chk" (tm.get d)).th _ = _
      rw [h5]
      show @Bool.rec (fun _ => CR) _ _ (veq v u) = _
      rw [hv]
theorem chk_ok {k : CR} : ∀ {chk : List Oper}, okR (chkD P ops.toList tm W k chk) → chkD P ops.toList tm W k chk = k ∧ ∀ o ∈ chk, ∃ b, wantV ops.toList tm.get o.guard = .ok b ∧ (b = true → ∃ v, o_load P tm.get W o.op = .ok v ∧ ∀ d, o.dst = some d → tm.get d = some v)
  | [], e => ⟨rfl, fun o h => by cases h⟩
  | o :: chk, e => by
    have hs : chkD P ops.toList tm W k (o :: chk) = (wantV ops.toList tm.get o.guard).th fun b => @Bool.rec (fun _ => CR) (chkD P ops.toList tm W k chk) ((o_load P tm.get W o.op).th fun v => chkO tm (chkD P ops.toList tm W k chk) v o.dst) b := rfl
    rw [hs] at e
    obtain ⟨b, h1, e1⟩ := Eth_ok e
    have key : ∀ r, okR r → r = chkD P ops.toList tm W k chk → (b = true → ∃ v, o_load P tm.get W o.op = .ok v ∧ ∀ d, o.dst = some d → tm.get d = some v) → r = k ∧ ∀ o2 ∈ o :: chk, ∃ b, wantV ops.toList tm.get o2.guard = .ok b ∧ (b = true → ∃ v, o_load P tm.get W o2.op = .ok v ∧ ∀ d, o2.dst = some d → tm.get d = some v) := by
      intro r hr hr2 hb
      rw [hr2] at hr
      obtain ⟨h2, h3⟩ := chk_ok hr
      refine ⟨hr2.trans h2, fun o2 ho2 => ?_⟩
      rcases List.mem_cons.1 ho2 with rfl | ho2
      · exact ⟨b, h1, hb⟩
      · exact h3 o2 ho2
    cases b with
    | false =>
      have hq : chkD P ops.toList tm W k (o :: chk) = chkD P ops.toList tm W k chk := by rw [hs, h1]; rfl
      rw [hq]
      exact key _ e1 rfl (fun h => by cases h)
    | true =>
      obtain ⟨v, h4, e2⟩ := Eth_ok (x := o_load P tm.get W o.op) e1
      have hq : chkD P ops.toList tm W k (o :: chk) = chkO tm (chkD P ops.toList tm W k chk) v o.dst := by
        rw [hs, h1]
        show (o_load P tm.get W o.op).th _ = _
        rw [h4]; rfl
      obtain ⟨q1, q2⟩ := chkO_ok e2
      rw [hq]
      exact key _ e2 q1 (fun _ => ⟨v, h4, q2⟩)
/-- what is pending is done by the model -/
theorem list_inv (hs : Sta P ops.toList wm) (hi : ops.toList[i]? = some o) (hI : Inv P ops wm g0 n ρ0 W0 w0 a0 D tm W ow ρ listed a w) (hD : D.testBit i = true) (hL : listed.getD i false = false) (hdep : ∀ e ∈ o.after.toList, Region.binds .any e = true → listed.getD e.on false = true)
    {ρ' : Rho} {w' : World} {v v' : Value} (hle : Le ρ ρ') (hv : VR ρ' v v') (hdv : DV o tm n v) (hWR : WR ρ' W w') (hup : Up ρ0 W0 w0 ρ' W w') (hno : ∀ k blk, k ≠ i → ow blk = some k → ρ blk = none → ρ' blk = none) : Inv P ops wm g0 n ρ0 W0 w0 a0 D tm W ow ρ' (listed.setIfInBounds i true) (a.put o.dst v') w' := by
  have hlt : i < listed.size := by rw [hI.lsz]; exact hI.dlt i hD
  refine ⟨by simpa using hI.lsz, ?_, ?_, hI.dcl, hI.dlt, ?_, hI.abs, ?_, by rw [put_defers]; exact hI.df, hWR, hup, ?_⟩
  · intro k hk
    rw [getD_set hlt, Bool.or_eq_true, decide_eq_true_iff] at hk
    rcases hk with rfl | hk
    · exact hD
    · exact hI.sub k hk
  · intro k o2 hk h e he hb
    rw [getD_set hlt, Bool.or_eq_true, decide_eq_true_iff] at h ⊢
    rcases h with rfl | h
    · rw [hi] at hk; cases hk
      exact .inr (hdep e he hb)
    · exact .inr (hI.lcl k o2 hk h e he hb)
  · intro k o2 hk h h3
    rw [getD_set hlt, hI.eff k o2 hk h h3]; simp
  · have hT := hI.tr.mono hle
    have hgL : ∀ t, gL wm g0 D (fun j => (listed.setIfInBounds i true).getD j false) tm t = if wm.get t = some i then tm.get t else gL wm g0 D (fun j => listed.getD j false) tm t := by
      intro t
      unfold gL
      cases hw : wm.get t with
      | none => rw [if_neg (by simp)]
      | some j =>
        simp only [getD_set hlt, Option.some.injEq]
        by_cases hji : j = i
        · subst hji; simp
        · simp [hji]
    refine ⟨by cases hd : o.dst <;> simp [Act.put, hT.1], fun t u hu => ?_, hT.3⟩
    rw [hgL] at hu
    by_cases hw : wm.get t = some i
    · rw [if_pos hw] at hu
      obtain ⟨o2, h1, h2⟩ := hs.conv t i hw
      rw [hi] at h1; cases h1
      obtain ⟨h3, h4⟩ := hdv t h2
      rw [h4] at hu; cases hu
      exact ⟨v', by rw [h2]; simp [Act.put, hT.1, h3], hv⟩
    · rw [if_neg hw] at hu
      obtain ⟨u', h1, h2⟩ := hT.2 t u hu
      refine ⟨u', ?_, h2⟩
      cases hd : o.dst with
      | none => exact h1
      | some d =>
        have hdt : d ≠ t := fun e => hw (by rw [← e]; exact hs.wr i o hi d hd)
        show (a.tmps.setIfInBounds d v')[t]? = _
        rw [Array.getElem?_setIfInBounds_ne hdt]; exact h1
  · intro k o2 hk h hLk
    rw [getD_set hlt, Bool.or_eq_false_iff, decide_eq_false_iff_not] at hLk
    exact (hI.pend k o2 hk h hLk.2).mono (fun _ => rfl) (fun _ _ => rfl) (fun _ v hv _ hd => ⟨v, hv, hd⟩) fun blk cs h1 h2 h3 _ h5 => ⟨h1, hno k blk hLk.1 h1 h2, h3, h5⟩
theorem pend_run (hs : Sta P ops.toList wm) (hi : ops.toList[i]? = some o) (hF : ∀ f, F.fn f) (hI : Inv P ops wm g0 n ρ0 W0 w0 a0 D tm W ow ρ listed a w) (hD : D.testBit i = true) (hL : listed.getD i false = false) (hdep : ∀ e ∈ o.after.toList, Region.binds .any e = true → listed.getD e.on false = true)
    (K : Act → World → Prop) (hK : ∀ ρ' a' w', Inv P ops wm g0 n ρ0 W0 w0 a0 D tm W ow ρ' (listed.setIfInBounds i true) a' w' → K a' w') : wpOpIn F m P ops Q i K a w := by
  obtain ⟨b, h1, h2, h3⟩ := hI.pend i o hi hD hL
  have hag := agr_L hs hi hI hL hdep
  have hw := wantV_ok (a := a) (h1 _ hag) hI.tr
  have hi2 : ops[i]? = some o := by simpa using hi
  unfold wpOpIn
  rw [hi2]
  simp only
  rw [hw]
  cases b with
  | false =>
    exact ⟨fun f _ => hF f, hK ρ _ _ (list_inv hs hi hI hD hL hdep (.rfl ρ) VR.undef (h2 rfl) hI.wr hI.up (fun _ _ _ _ h => h))⟩
  | true =>
    simp only [if_true]
    have hnd : ∀ c, o.op ≠ .defer c := fun c hc => by
      rcases h3 rfl with ⟨_, v, h4, _⟩ | ⟨h5, _⟩ | ⟨h5, _⟩
      · have := h4 _ hag
        rw [hc] at this; cases this
      · rw [hc] at h5; cases h5
      · rw [hc] at h5; cases h5
    refine ⟨fun f _ => hF f, ?_⟩
    rw [Oper.semAt_eq _ _ _ hnd]
    rcases h3 rfl with ⟨_, v, h4, h5⟩ | ⟨_, v, h4, h5⟩ | ⟨_, p, blk, h4, h5, h6, h7, h8, h9, h10⟩
    · obtain ⟨v', h6, h7⟩ := pure_ok (P := P) (a := a) o (h4 _ hag) hI.tr
      rw [h7 w]
      exact hK ρ _ _ (list_inv hs hi hI hD hL hdep (.rfl ρ) h6 h5 hI.wr hI.up (fun _ _ _ _ h => h))
    · obtain ⟨v', h6, h7⟩ := load_ok (P := P) (a := a) o (h4 _ hag) hI.tr hI.wr
      rw [h7]
      exact hK ρ _ _ (list_inv hs hi hI hD hL hdep (.rfl ρ) h6 h5 hI.wr hI.up (fun _ _ _ _ h => h))
    · obtain ⟨ob, nn, v', w', g1, g2, g3, g5⟩ := alloc_ok (P := P) (a := a) o (h4 _ hag) hI.tr w
      rw [g1]
      have gp := g2
      replace g2 := gp.1
      have hle : Le ρ (upd ρ blk w.heap.size nn) := fun x p hx => by
        have : x ≠ blk := fun e => by rw [e, h7] at hx; cases hx
        simp [upd, this, hx]
      have hWR := hI.wr.late (w' := w') (m := nn) (ob := ob) h7 h10 h8 (fun _ _ h => aoC_al h) g3 g2
      refine hK _ _ _ (list_inv hs hi hI hD hL hdep hle (g5 _ _ upd_self) h5 hWR ?_ ?_)
      · refine ⟨hI.up.le.trans hle, hI.up.next, fun b hb hn => ?_, ?_, fun c hc hn => ?_, fun b c k e => ?_, ⟨gp.2.1.trans hI.up.env.1, gp.2.2.1.trans hI.up.env.2.1, gp.2.2.2.trans hI.up.env.2.2⟩, fun c C t fz hc => ?_⟩
        · obtain ⟨q1, q2⟩ := hI.up.out b hb hn
          exact ⟨by simp [upd, show b ≠ blk by omega, q1], q2⟩
        · rw [g2]; simp; have := hI.up.size; omega
        · have q := hI.up.same c hc hn
          rw [g2, Array.getElem?_push, if_neg (by have := hI.up.size; omega)]; exact q
        · by_cases hb : b = blk
          · simp [upd, hb] at e
            exact .inr (by rw [← e.1]; exact hI.up.size)
          · simp [upd, hb] at e
            exact hI.up.img b c k e
        · obtain ⟨C1, q1, q2⟩ := hI.up.ty c C t fz hc
          exact ⟨C1, by rw [g2, Array.getElem?_push, if_neg (by have := (Array.getElem?_eq_some_iff.1 q1).1; omega)]; exact q1, q2⟩
      · intro k blk2 hk hok2 hn
        have : blk2 ≠ blk := fun e => by rw [e, h6] at hok2; cases hok2; exact hk rfl
        simp [upd, this, hn]
end
end Go.Ke
