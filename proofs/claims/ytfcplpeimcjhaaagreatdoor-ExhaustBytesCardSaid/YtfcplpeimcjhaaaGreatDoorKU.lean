/- What an operation looks at; a block that is made late. Conditions: none. -/
import Derived.Test.YtfcplpeimcjhaaaGreatDoorKS
import Derived.OrdersIn
namespace Go.Ke
open Go.RowKit
section
variable {P : Program} {g g' : Nat → Option Value} {W W' : AW} {w w' : World} {ρ : Rho}
/-! ### what an operation looks at -/
theorem val_congr {x : Operand} (h : ∀ t, x = .tmp t → g t = g' t) : val g x = val g' x := by
  cases x with
  | tmp t => show E.of "tmp" (g t) = E.of "tmp" (g' t); rw [h t rfl]
  | const v => rfl
  | global g => rfl
  | func f => rfl
theorem vals_congr : ∀ {l : List Operand}, (∀ t, .tmp t ∈ l → g t = g' t) → vals g l = vals g' l
  | [], _ => rfl
  | x :: l, h => by
    show (val g x).bd (fun v => (vals g l).bd fun r => .ok (v :: r)) = (val g' x).bd (fun v => (vals g' l).bd fun r => .ok (v :: r))
    rw [val_congr (fun t e => h t (by rw [e]; exact List.mem_cons_self ..)), vals_congr (fun t e => h t (List.mem_cons_of_mem _ e))]
theorem pvals_congr : ∀ {l : List (Nat × Operand)}, (∀ t, .tmp t ∈ l.map (·.2) → g t = g' t) → pvals g l = pvals g' l
  | [], _ => rfl
  | x :: l, h => by
    show (val g x.2).bd (fun v => (pvals g l).bd fun r => .ok ((x.1, v) :: r)) = (val g' x.2).bd (fun v => (pvals g' l).bd fun r => .ok ((x.1, v) :: r))
    rw [val_congr (fun t e => h t (by simp [e])), pvals_congr (fun t e => h t (by simp only [List.map_cons, List.mem_cons]; exact .inr e))]
theorem optV_congr {x : Option Operand} (h : ∀ t, .tmp t ∈ x.toList → g t = g' t) : optV g x = optV g' x := by
  cases x with
  | none => rfl
  | some x =>
    show (val g x).bd _ = (val g' x).bd _
    rw [val_congr (fun t e => h t (by simp [e]))]
theorem o_pure_congr {o : Op} (h : ∀ t, .tmp t ∈ o.operands.toList → g t = g' t) : o_pure P g o = o_pure P g' o := by
  rw [o_pure_eq, o_pure_eq]
  have hv : ∀ x, x ∈ o.operands.toList → val g x = val g' x := fun x hx => val_congr fun t e => h t (e ▸ hx)
  cases o <;> simp only [o_pureM] <;> first | rfl | skip
  · rw [hv _ (by simp [Op.operands])]
  · rw [hv _ (by simp [Op.operands])]
  · simp only [o_pick]
    rw [hv _ (by simp [Op.operands]), hv _ (by simp [Op.operands]), hv _ (by simp [Op.operands])]
  · rw [pvals_congr]
    intro t ht
    exact h t (by simpa [Op.operands] using ht)
  · rw [hv _ (by simp [Op.operands])]
  · simp only [o_bin]
    rw [hv _ (by simp [Op.operands]), hv _ (by simp [Op.operands])]
  · rw [hv _ (by simp [Op.operands])]
  · simp only [o_conv]
    rw [hv _ (by simp [Op.operands])]
  · simp only [o_iface]
    rw [hv _ (by simp [Op.operands])]
  · rename_i f x y
    simp only [o_func]
    rw [vals_congr (l := x.toList) (g' := g') (fun t ht => h t (by simp only [Op.operands, Array.toList_append, List.mem_append]; exact .inl ht)), vals_congr (l := y.toList) (g' := g') (fun t ht => h t (by simp only [Op.operands, Array.toList_append, List.mem_append]; exact .inr ht))]
  · rename_i t x lo hi mx
    simp only [o_slice]
    rw [hv x (by simp [Op.operands]), optV_congr (x := lo) (g' := g') (fun t ht => h t (by simp only [Op.operands, Array.toList_append, List.mem_append]; exact .inl (.inl (.inr (by simpa using ht))))), optV_congr (x := hi) (g' := g') (fun t ht => h t (by simp only [Op.operands, Array.toList_append, List.mem_append]; exact .inl (.inr (by simpa using ht))))]
  · rw [hv _ (by simp [Op.operands])]
  · rw [hv _ (by simp [Op.operands])]
  · rw [hv _ (by simp [Op.operands]), hv _ (by simp [Op.operands])]
  · rw [hv _ (by simp [Op.operands]), hv _ (by simp [Op.operands])]
  · rw [hv _ (by simp [Op.operands])]
  · rename_i c
    simp only [o_len]
    rw [vals_congr (l := c.args.toList) (g' := g') (fun t ht => h t (by simp only [Op.operands, Call.operands, Array.toList_append, List.mem_append]; exact .inr ht))]
theorem o_load_congr {o : Op} (h : ∀ t, .tmp t ∈ o.operands.toList → g t = g' t) : o_load P g W o = o_load P g' W o := by
  rw [o_load_eq, o_load_eq]
  have hv : ∀ x, x ∈ o.operands.toList → val g x = val g' x := fun x hx => val_congr fun t e => h t (e ▸ hx)
  cases o <;> simp only [o_loadM] <;> first | rfl | skip
  · rw [hv _ (by simp [Op.operands])]
  · rw [hv _ (by simp [Op.operands])]
  · rw [hv _ (by simp [Op.operands]), hv _ (by simp [Op.operands])]
  · rename_i c
    simp only [o_mlen]
    rw [vals_congr (l := c.args.toList) (g' := g') (fun t ht => h t (by simp only [Op.operands, Call.operands, Array.toList_append, List.mem_append]; exact .inr ht))]
theorem o_alloc_congr {o : Op} (h : ∀ t, .tmp t ∈ o.operands.toList → g t = g' t) : o_alloc P g o = o_alloc P g' o := by
  rw [o_alloc_eq, o_alloc_eq]
  have hv : ∀ x, x ∈ o.operands.toList → val g x = val g' x := fun x hx => val_congr fun t e => h t (e ▸ hx)
  cases o <;> simp only [o_allocM] <;> first | rfl | skip
  · rw [hv _ (by simp [Op.operands])]
  · rw [pvals_congr]
    intro t ht
    exact h t (by simpa [Op.operands] using ht)
  · rw [hv _ (by simp [Op.operands])]
  · rw [optV_congr (g' := g') (fun t ht => h t (by simpa [Op.operands] using ht))]
  · rw [hv _ (by simp [Op.operands]), hv _ (by simp [Op.operands])]
theorem o_eff_congr {o : Op} (h : ∀ t, .tmp t ∈ o.operands.toList → g t = g' t) : o_eff P g W o = o_eff P g' W o := by
  rw [o_eff_eq, o_eff_eq]
  have hv : ∀ x, x ∈ o.operands.toList → val g x = val g' x := fun x hx => val_congr fun t e => h t (e ▸ hx)
  cases o <;> simp only [o_effM] <;> first | rfl | skip
  · rw [hv _ (by simp [Op.operands]), hv _ (by simp [Op.operands]), hv _ (by simp [Op.operands])]
  · rw [hv _ (by simp [Op.operands]), hv _ (by simp [Op.operands])]
  · rw [hv _ (by simp [Op.operands]), hv _ (by simp [Op.operands]), hv _ (by simp [Op.operands])]
  · rename_i c
    simp only [o_call]
    rw [vals_congr (l := c.args.toList) (g' := g') (fun t ht => h t (by simp only [Op.operands, Call.operands, Array.toList_append, List.mem_append]; exact .inr ht))]
    cases hc : c.callee with
    | value f =>
      simp only
      rw [hv f (by simp [Op.operands, Call.operands, hc])]
    | builtin b => rfl
    | invoke r m => rfl
theorem oper_congr {o : Op} (h : ∀ t, .tmp t ∈ o.operands.toList → g t = g' t) : oper P g W o = oper P g' W o := by
  unfold oper byKind
  generalize kind P o = k
  rcases k with _ | _ | _ | k
  · show pv W (o_pure P g o) = pv W (o_pure P g' o)
    rw [o_pure_congr h]
  · show pv W (o_load P g W o) = pv W (o_load P g' W o)
    rw [o_load_congr h]
  · show (o_alloc P g o).bd (newA W) = (o_alloc P g' o).bd (newA W)
    rw [o_alloc_congr h]
  · exact o_eff_congr h
theorem mem_uses {ops : List Oper} {o : Oper} {t : Nat} : t ∈ uses ops o ↔ .tmp t ∈ o.op.operands.toList ∨ ∃ q op, o.guard = some q ∧ ops[q.1]? = some op ∧ op.dst = some t := by
  unfold uses
  generalize o.op.operands.toList = l
  induction l with
  | nil =>
    show t ∈ (@Option.rec (Nat × Bool) (fun _ => List Nat) [] (fun q => ((nth ops q.1).bind Oper.dst).toList) o.guard) ↔ _
    cases hg : o.guard with
    | none => simp
    | some q =>
      show t ∈ ((nth ops q.1).bind Oper.dst).toList ↔ _
      rw [nth_eq]
      simp only [List.not_mem_nil, false_or, Option.mem_toList, Option.some.injEq]
      constructor
      · intro h
        obtain ⟨op, h1, h2⟩ := Option.bind_eq_some_iff.1 h
        exact ⟨q, op, rfl, h1, h2⟩
      · rintro ⟨q', op, rfl, h1, h2⟩
        exact Option.bind_eq_some_iff.2 ⟨op, h1, h2⟩
  | cons x l ih =>
    show t ∈ opnd x _ ↔ _
    cases x with
    | tmp u =>
      show t ∈ u :: _ ↔ _
      rw [List.mem_cons, List.mem_cons, ih]
      constructor
      · rintro (rfl | h | h)
        · exact .inl (.inl rfl)
        · exact .inl (.inr h)
        · exact .inr h
      · rintro ((h | h) | h)
        · cases h; exact .inl rfl
        · exact .inr (.inl h)
        · exact .inr (.inr h)
    | const v => show t ∈ _ ↔ _; rw [List.mem_cons]; simp only [reduceCtorEq, false_or]; exact ih
    | global v => show t ∈ _ ↔ _; rw [List.mem_cons]; simp only [reduceCtorEq, false_or]; exact ih
    | func v => show t ∈ _ ↔ _; rw [List.mem_cons]; simp only [reduceCtorEq, false_or]; exact ih
theorem want_congr {ops : List Oper} {o : Oper} (h : ∀ t ∈ uses ops o, g t = g' t) : wantV ops g o.guard = wantV ops g' o.guard := by
  cases hg : o.guard with
  | none => rfl
  | some q =>
    show wantG ops g q.1 q.2 = wantG ops g' q.1 q.2
    unfold wantG
    cases hq : nth ops q.1 with
    | none => rfl
    | some op =>
      show @Option.rec Tmp (fun _ => E Bool) (.ok false) _ op.dst = @Option.rec Tmp (fun _ => E Bool) (.ok false) _ op.dst
      cases hd : op.dst with
      | none => rfl
      | some d =>
        have : g d = g' d := h d (mem_uses.2 (.inr ⟨q, op, hg, by rw [← nth_eq]; exact hq, hd⟩))
        show (E.of "guard" (g d)).bd _ = (E.of "guard" (g' d)).bd _
        rw [this]
/-! ### new blocks -/
theorem cs_new {ao : AO} {H : T AO} {b : Nat} {cs : List Value} (ht : W.heap.get W.next = none) (e : W.heap.set 40 W.next ao = .ok H) (h : W.cs b = .ok cs) : (⟨H, W.next + 1⟩ : AW).cs b = .ok cs := by
  obtain ⟨ao', h1, h2⟩ := bd_ok h
  have h1' := of_ok h1
  have hne : b ≠ W.next := fun e => by rw [e, ht] at h1'; cases h1'
  show (E.of "no block" (H.get b)).bd AO.cs = _
  rw [set_get 40 e, if_neg hne]
  exact h
theorem es_new {ao : AO} {H : T AO} {b : Nat} {es : List (Value × Value)} (ht : W.heap.get W.next = none) (e : W.heap.set 40 W.next ao = .ok H) (h : W.es b = .ok es) : (⟨H, W.next + 1⟩ : AW).es b = .ok es := by
  obtain ⟨ao', h1, h2⟩ := bd_ok h
  have h1' := of_ok h1
  have hne : b ≠ W.next := fun e => by rw [e, ht] at h1'; cases h1'
  show (E.of "no block" (H.get b)).bd AO.es = _
  rw [set_get 40 e, if_neg hne]
  exact h
theorem loadN_keep {W2 : AW} (hcs : ∀ b cs, W.cs b = .ok cs → W2.cs b = .ok cs) {a : Addr} {n : Nat} {l : List Value} (h : W.loadN a n = .ok l) : W2.loadN a n = .ok l := by
  obtain ⟨cs, h13, h14⟩ := bd_ok h
  unfold AW.loadN
  rw [hcs _ _ h13]
  exact h14
theorem loadV_keep {W2 : AW} (hcs : ∀ b cs, W.cs b = .ok cs → W2.cs b = .ok cs) {t : TypeId} {x v : Value} (h2 : loadV P W t x = .ok v) : loadV P W2 t x = .ok v := by
  obtain ⟨a, h3, h4⟩ := bd_ok h2
  obtain ⟨u, h5, h6⟩ := bd_ok h4
  unfold loadV
  rw [h3]
  show (under P t).bd _ = _
  rw [h5]
  show bl (agg? u) _ _ = _
  rcases bl_ok h6 with ⟨h7, h8⟩ | ⟨h7, h8⟩ <;> rw [h7]
  · obtain ⟨n, h9, h10⟩ := bd_ok h8
    obtain ⟨l, h11, h12⟩ := bd_ok h10
    show (size P t).bd _ = _
    rw [h9]
    show (W2.loadN a n).bd _ = _
    rw [loadN_keep hcs h11]
    exact h12
  · obtain ⟨cs, h13, h14⟩ := bd_ok h8
    show W2.load1 a = _
    unfold AW.load1
    rw [hcs _ _ h13]
    exact h14
theorem load_keep {W2 : AW} {o : Op} {v : Value} (hcs : ∀ b cs, W.cs b = .ok cs → W2.cs b = .ok cs) (hes : ∀ b es, W.es b = .ok es → W2.es b = .ok es) (h : o_load P g W o = .ok v) : o_load P g W2 o = .ok v := by
  rw [o_load_eq] at h ⊢
  cases o <;> simp only [o_loadM] at h ⊢ <;> first | (cases h; done) | skip
  · rename_i t x
    obtain ⟨xv, h1, h2⟩ := bd_ok h
    rw [h1]
    exact loadV_keep hcs h2
  · rename_i s d x
    obtain ⟨xv, h1, h2⟩ := bd_ok h
    rw [h1]
    obtain ⟨el, h3, h4⟩ := bd_ok h2
    obtain ⟨u, h5, h6⟩ := bd_ok h4
    show convS P W2 s d xv = _
    unfold convS
    rw [h3]
    show (strT P d).bd _ = _
    rw [h5]
    show strS W2 xv = _
    unfold strS at h6 ⊢
    split at h6
    · exact h6
    · rename_i a n k
      show bl (Nat.beq n 0) _ _ = _
      rcases bl_ok h6 with ⟨h7, h8⟩ | ⟨h7, h8⟩ <;> rw [h7]
      · exact h8
      · obtain ⟨l, h9, h10⟩ := bd_ok h8
        show (W2.loadN a n).bd _ = _
        rw [loadN_keep hcs h9]
        exact h10
    · exact h6
  · rename_i t x i b
    obtain ⟨xv, h1, h2⟩ := bd_ok h
    obtain ⟨iv, h3, h4⟩ := bd_ok h2
    rw [h1]
    show (val g i).bd _ = _
    rw [h3]
    obtain ⟨u, h5, h6⟩ := bd_ok h4
    obtain ⟨q, h7, h8⟩ := bd_ok h6
    obtain ⟨r, h9, h10⟩ := bd_ok h8
    obtain ⟨mb, h11, h12⟩ := bd_ok h10
    show mgetV P W2 t xv iv b = _
    unfold mgetV
    rw [h5]
    show (mapT u).bd _ = _
    rw [h7]
    show (keyE P q.1 iv).bd _ = _
    rw [h9]
    show (asM xv).bd _ = _
    rw [h11]
    cases mb with
    | none => exact h12
    | some mb =>
      obtain ⟨es, h13, h14⟩ := bd_ok (x := W.es mb) h12
      show (W2.es mb).bd _ = _
      rw [hes _ _ h13]
      exact h14
  · rename_i c
    unfold o_mlen at h ⊢
    obtain ⟨xs, h1, h2⟩ := bd_ok h
    rw [h1]
    cases hc : c.callee with
    | value f => rw [hc] at h2; cases h2
    | invoke f m => rw [hc] at h2; cases h2
    | builtin b =>
      rw [hc] at h2
      cases b <;> first | (cases h2; done) | skip
      change mlen P W c.argTypes.toList xs = _ at h2
      show mlen P W2 c.argTypes.toList xs = _
      unfold mlen at h2 ⊢
      split at h2
      · obtain ⟨u, h5, h6⟩ := bd_ok h2
        obtain ⟨q, h7, h8⟩ := bd_ok h6
        obtain ⟨mb, h11, h12⟩ := bd_ok h8
        rename_i tt xx hts
        rw [h5]
        show (mapT u).bd _ = _
        rw [h7]
        show (asM _).bd _ = _
        rw [h11]
        cases mb with
        | none => exact h12
        | some mb =>
          obtain ⟨es, h13, h14⟩ := bd_ok (x := W.es mb) h12
          show (W2.es mb).bd _ = _
          rw [hes _ _ h13]
          exact h14
      · cases h2
theorem load_new {o : Op} {v : Value} {ao : AO} {H : T AO} (ht : W.heap.get W.next = none) (e : W.heap.set 40 W.next ao = .ok H) (h : o_load P g W o = .ok v) : o_load P g ⟨H, W.next + 1⟩ o = .ok v :=
  load_keep (fun _ _ h => cs_new ht e h) (fun _ _ h => es_new ht e h) h
/-- the evaluator's world has a block more, the model's not yet -/
theorem WR.grow {ao : AO} {H : T AO} (h : WR ρ W w) (e : W.heap.set 40 W.next ao = .ok H) : WR ρ ⟨H, W.next + 1⟩ w := by
  have hget : ∀ x, H.get x = if x = W.next then some ao else W.heap.get x := fun x => set_get 40 e x
  have hne : ∀ b p, ρ b = some p → b ≠ W.next := fun b p hb e => by rw [e, h.fresh] at hb; cases hb
  refine ⟨?_, ?_, ?_, ?_, ?_⟩
  · intro b c n hb
    obtain ⟨k1, ao1, o1, k2, k3, k4⟩ := h.dom b c n hb
    exact ⟨Nat.lt_succ_of_lt k1, ao1, o1, by show H.get b = _; rw [hget, if_neg (hne b _ hb)]; exact k2, k3, k4⟩
  · intro b1 b2 c n1 n2 al cs h1 h2 h3 h4
    have h4 : H.get b2 = _ := h4
    rw [hget, if_neg (hne b2 _ h2)] at h4
    show H.get b1 = some .dead ∨ (_ ∧ ∃ cs', H.get b1 = _ ∧ _)
    rw [hget, if_neg (hne b1 _ h1)]
    exact h.al b1 b2 c n1 n2 al cs h1 h2 h3 h4
  · intro b p al cs h1 h2 x hx
    have h2 : H.get b = _ := h2
    rw [hget, if_neg (hne b _ h1)] at h2
    exact h.ald b p al cs h1 h2 x hx
  · intro b1 b2 c n1 n2 ao2 h1 h2 h3 h4
    have h3 : H.get b2 = _ := h3
    rw [hget, if_neg (hne b2 _ h2)] at h3
    exact h.inj b1 b2 c n1 n2 ao2 h1 h2 h3 h4
  · intro b hb
    show H.get b = none
    have hb : W.next + 1 ≤ b := hb
    rw [hget, if_neg (by omega), h.top b (by omega)]
/-- the model's block comes late -/
theorem WR.late {b m : Nat} {ao : AO} {ob : Obj} (h : WR ρ W w) (hb : ρ b = none) (hlt : b < W.next) (e : W.heap.get b = some ao) (hal : ∀ al cs, ao = .live al cs → al = []) (hO : OR ρ m ao ob) (hw : w'.heap = w.heap.push ob) : WR (upd ρ b w.heap.size m) W w' := by
  have hle : Le ρ (upd ρ b w.heap.size m) := fun x p hx => by
    have : x ≠ b := fun e => by rw [e, hb] at hx; cases hx
    simp [upd, this, hx]
  have hu : ∀ b1 c1 n1, upd ρ b w.heap.size m b1 = some (c1, n1) → (b1 = b ∧ c1 = w.heap.size ∧ n1 = m) ∨ (b1 ≠ b ∧ ρ b1 = some (c1, n1) ∧ c1 < w.heap.size) := by
    intro b1 c1 n1 e1
    by_cases hb1 : b1 = b
    · simp [upd, hb1] at e1; exact .inl ⟨hb1, e1.1.symm, e1.2.symm⟩
    · simp [upd, hb1] at e1; exact .inr ⟨hb1, e1, h.lt e1⟩
  have hold : ∀ c1, c1 < w.heap.size → w'.heap[c1]? = w.heap[c1]? := fun c1 hc => by rw [hw, Array.getElem?_push]; rw [if_neg (by omega)]
  refine ⟨?_, ?_, ?_, ?_, h.top⟩
  · intro b1 c1 n1 e1
    rcases hu b1 c1 n1 e1 with ⟨rfl, rfl, rfl⟩ | ⟨hb1, e2, hc⟩
    · exact ⟨hlt, _, ob, e, by rw [hw]; simp, hO.mono hle⟩
    · obtain ⟨k1, ao1, o1, k2, k3, k4⟩ := h.dom b1 c1 n1 e2
      exact ⟨k1, ao1, o1, k2, by rw [hold c1 hc]; exact k3, k4.mono hle⟩
  · intro b1 b2 c1 n1 n2 al cs2 e1 e2 hne hg
    rcases hu b1 c1 n1 e1 with ⟨rfl, rfl, _⟩ | ⟨hb1, e3, hc1⟩
    · rcases hu b2 _ _ e2 with ⟨rfl, _⟩ | ⟨_, _, hc⟩
      · exact absurd rfl hne
      · omega
    · rcases hu b2 c1 n2 e2 with ⟨rfl, rfl, _⟩ | ⟨hb2, e4, _⟩
      · omega
      · exact h.al b1 b2 c1 n1 n2 al cs2 e3 e4 hne hg
  · intro b1 p al cs2 e1 hg x hx
    rcases hu b1 p.1 p.2 e1 with ⟨rfl, _⟩ | ⟨hb1, e3, hc1⟩
    · rw [e] at hg; cases hg; rw [hal _ _ rfl] at hx; cases hx
    · obtain ⟨c', hc'⟩ := h.ald b1 p al cs2 e3 hg x hx
      exact ⟨c', hle _ _ hc'⟩
  · intro b1 b2 c1 n1 n2 ao2 e1 e2 hg hC
    rcases hu b1 c1 n1 e1 with ⟨rfl, rfl, _⟩ | ⟨hb1, e3, hc1⟩
    · rcases hu b2 _ _ e2 with ⟨rfl, _⟩ | ⟨_, _, hc⟩
      · rfl
      · omega
    · rcases hu b2 c1 n2 e2 with ⟨rfl, rfl, _⟩ | ⟨hb2, e4, _⟩
      · omega
      · exact h.inj b1 b2 c1 n1 n2 ao2 e3 e4 hg hC
end
end Go.Ke
