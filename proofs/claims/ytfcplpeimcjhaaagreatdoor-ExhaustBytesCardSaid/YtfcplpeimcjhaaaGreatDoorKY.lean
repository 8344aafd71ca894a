/- Copy, clear, the smaller and the greater. Conditions: none. -/
import Derived.Test.YtfcplpeimcjhaaaGreatDoorKO
namespace Go.Ke
open Go.RowKit
noncomputable section
def copyV (P : Program) (W : AW) (t tx : TypeId) (x y : Value) : E R := (under P t).bd fun u => match u with
  | .slice e => (size P e).bd fun sz => (srcV P W sz tx y).bd fun p => match x with
    | .slice none _ _ => bl (Nat.beq p.1 0) (.ok (.val (.int .i64 (Int.ofNat 0)) W)) (.er "copy to nil")
    | .slice (some a) d _ => bl (Nat.beq p.1 0) (.ok (.val (.int .i64 (Int.ofNat 0)) W)) (bl (Nat.ble p.1 d) ((W.put a.block a.off p.2).bd fun W => .ok (.val (.int .i64 (Int.ofNat p.1)) W)) (.er "copy of a part"))
    | _ => .er "copy"
  | _ => .er "copy"
def clearV (P : Program) (W : AW) (t : TypeId) (x : Value) : E R := (under P t).bd fun u => match u with
  | .slice e => (match x with
    | .slice none _ _ => .ok (.val (.tuple ⟨[]⟩) W)
    | .slice (some a) d _ => bl (Nat.beq d 0) (.ok (.val (.tuple ⟨[]⟩) W)) ((zeroC P e).bd fun z => (W.put a.block a.off (rep d z)).bd fun W => .ok (.val (.tuple ⟨[]⟩) W))
    | _ => .er "clear")
  | _ => .er "clear"
def mmV (b : Bool) (x y : Value) : E Value := match x, y with
  | .int k m, .int _ n => .ok (.int k (bl b (bl (ilt m n) n m) (bl (ilt n m) n m)))
  | _, _ => .er "min"
end
section
variable {P : Program} {ρ : Rho} {t tx : TypeId} {x x' y y' v : Value} {W : AW} {w : World} {r : R}
theorem max_ok (e : mmV true x y = .ok v) (hx : VR ρ x x') (hy : VR ρ y y') (ts : Array TypeId) (ty : TypeId) : ∃ v', VR ρ v v' ∧ ∀ w, (Builtin.max_ ts ty #[x', y']).run P w = .ok v' w := by
  unfold mmV at e
  split at e
  · cases e
    rw [hx.int, hy.int]
    refine ⟨_, .flat rfl, fun w => ?_⟩
    rename_i k m k' n
    show (Builtin.max2 (.int k m) (.int k' n) >>= fun s => pure s).run P w = _
    have : bl true (bl (ilt m n) n m) (bl (ilt n m) n m) = if n > m then n else m := by
      show bl (ilt m n) n m = _
      rw [ilt_eq]
      by_cases h : m < n <;> simp [h, bl]
    rw [this]
    simp [Builtin.max2]
  · cases e
theorem min_ok (e : mmV false x y = .ok v) (hx : VR ρ x x') (hy : VR ρ y y') (ts : Array TypeId) (ty : TypeId) : ∃ v', VR ρ v v' ∧ ∀ w, (Builtin.min_ ts ty #[x', y']).run P w = .ok v' w := by
  unfold mmV at e
  split at e
  · cases e
    rw [hx.int, hy.int]
    refine ⟨_, .flat rfl, fun w => ?_⟩
    rename_i k m k' n
    show (Builtin.min2 (.int k m) (.int k' n) >>= fun s => pure s).run P w = _
    have : bl false (bl (ilt m n) n m) (bl (ilt n m) n m) = if n < m then n else m := by
      show bl (ilt n m) n m = _
      rw [ilt_eq]
      by_cases h : n < m <;> simp [h, bl]
    rw [this]
    simp [Builtin.min2]
  · cases e
theorem copyV_ok (e : copyV P W t tx x y = .ok r) (hx : VR ρ x x') (hy : VR ρ y y') (h : WR ρ W w) (ty : TypeId) :
    ∃ v W', r = .val v W' ∧ ∃ v' w' ρ', (Builtin.copy_ #[t, tx] ty #[x', y']).run P w = .ok v' w' ∧ VR ρ' v v' ∧ WR ρ' W' w' ∧ Up ρ W w ρ' W' w' := by
  obtain ⟨u, h1, e1⟩ := bd_ok e
  have hu := under_ok h1
  clear e h1
  split at e1
  · obtain ⟨sz, h2, e2⟩ := bd_ok e1
    obtain ⟨i, hi, rfl⟩ := size_ok h2
    obtain ⟨⟨n, xs⟩, h4, e4⟩ := bd_ok e2
    obtain ⟨xs', h5, h6⟩ := srcV_ok h4 hy h
    have hl := h6.newsLen
    split at e4
    · rename_i d k
      rcases bl_ok e4 with ⟨h7, e5⟩ | ⟨_, e5⟩ <;> cases e5
      have h7 : n = 0 := Nat.eq_of_beq_eq_true h7
      subst h7
      rw [hx.snone]
      exact ⟨_, _, rfl, _, w, ρ, by simp [Builtin.copy_, run_underlying hu, sizeOf, typeInfo, hi, h6.len, h6.cells, Sem.run_bind, goInt], .flat rfl, h, .rfl ρ W w⟩
    · rename_i a d k
      obtain ⟨c, m, o', k', hc, hsp, rfl, hr⟩ := hx.ssome
      rcases bl_ok e4 with ⟨h7, e5⟩ | ⟨h7, e5⟩
      · cases e5
        have h7 : n = 0 := Nat.eq_of_beq_eq_true h7
        subst h7
        have hn : xs' = [] := List.eq_nil_of_length_eq_zero (by rw [hl]; simp)
        subst hn
        exact ⟨_, _, rfl, _, w, ρ, by simp [Builtin.copy_, run_underlying hu, sizeOf, typeInfo, hi, h6.len, h6.cells, Sem.run_bind, storeCells, goInt], .flat rfl, h, .rfl ρ W w⟩
      · have h7 := Nat.ne_of_beq_eq_false h7
        rcases bl_ok e5 with ⟨h8, e6⟩ | ⟨_, e6⟩
        · have h8 : n ≤ d := Nat.le_of_ble_eq_true h8
          obtain ⟨W', h9, e7⟩ := bd_ok e6
          cases e7
          rcases hr with ⟨rfl, _, _⟩ | ⟨h0, _⟩
          · obtain ⟨g1, g2, g3, g4⟩ := put_ok h h9 hc h5
            have hst := run_storeCells_cells (P := P) c a.off xs' 0 w (fun j hj => by simpa using (g1 j hj).1) (fun j hj => by simpa using (g1 j hj).2) g2
            simp only [Nat.add_zero] at hst
            have hmin : Nat.min n d = n := Nat.min_eq_left h8
            exact ⟨_, _, rfl, _, _, ρ, by simp [Builtin.copy_, run_underlying hu, sizeOf, typeInfo, hi, h6.len, hmin, h6.cells, Sem.run_bind, hst, goInt], .flat rfl, g3, g4⟩
          · exfalso
            have : d = 0 := h0
            have h7' : n ≠ 0 := h7
            omega
        · cases e6
    · cases e4
  · cases e1
theorem clearV_ok (e : clearV P W t x = .ok r) (hx : VR ρ x x') (h : WR ρ W w) (ty : TypeId) :
    ∃ v W', r = .val v W' ∧ ∃ v' w' ρ', (Builtin.clear_ #[t] ty #[x']).run P w = .ok v' w' ∧ VR ρ' v v' ∧ WR ρ' W' w' ∧ Up ρ W w ρ' W' w' := by
  obtain ⟨u, h1, e1⟩ := bd_ok e
  have hu := under_ok h1
  clear e h1
  split at e1
  · split at e1
    · cases e1
      rw [hx.snone]
      exact ⟨_, _, rfl, _, w, ρ, by simp [Builtin.clear_, run_underlying hu], VR.mkTuple .nil, h, .rfl ρ W w⟩
    · rename_i a d k
      obtain ⟨c, m, o', k', hc, hsp, rfl, hr⟩ := hx.ssome
      rcases bl_ok e1 with ⟨h7, e5⟩ | ⟨h7, e5⟩
      · cases e5
        have h7 : d = 0 := Nat.eq_of_beq_eq_true h7
        subst h7
        exact ⟨_, _, rfl, _, w, ρ, by simp [Builtin.clear_, run_underlying hu], VR.mkTuple .nil, h, .rfl ρ W w⟩
      · have h7 : d ≠ 0 := Nat.ne_of_beq_eq_false h7
        obtain ⟨z, h2, e2⟩ := bd_ok e5
        obtain ⟨i, zv, q1, q2, rfl, q3⟩ := zeroC_ok (ρ := ρ) h2
        obtain ⟨W', h9, e7⟩ := bd_ok e2
        cases e7
        rcases hr with ⟨rfl, _, _⟩ | ⟨h0, _⟩
        · obtain ⟨g1, g2, g3, g4⟩ := put_ok h h9 hc (q3.rep d)
          have hst := run_storeCells_cells (P := P) c a.off (rep d zv.cells.toList) 0 w (fun j hj => by simpa using (g1 j hj).1) (fun j hj => by simpa using (g1 j hj).2) g2
          simp only [Nat.add_zero] at hst
          have hz : (Builtin.zeroCells zv.cells d).toList = rep d zv.cells.toList := rep_made (z := zv.cells) d zv.cells.size rfl
          refine ⟨_, _, rfl, _, _, ρ, ?_, VR.mkTuple .nil, g3, g4⟩
          cases d with
          | zero => exact absurd rfl h7
          | succ d => simp [Builtin.clear_, run_underlying hu, zeroValue, typeInfo, q1, q2, hz, Sem.run_bind, hst]
        · exact absurd h0 h7
    · cases e1
  · cases e1
end
end Go.Ke
