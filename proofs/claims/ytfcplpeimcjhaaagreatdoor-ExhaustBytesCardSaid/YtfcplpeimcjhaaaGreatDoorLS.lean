/- The text of the wide integer 4 as a call that is known ahead. Conditions: none. -/
import Derived.Test.YtfcplpeimcjhaaaGreatDoorKZ
import Derived.Test.YtfcplpeimcjhaaaGreatDoorSY
import Derived.KernelRfl
namespace Go.Proofs.YtfcplpeimcjhaaaGreatDoor
open Go Go.Ke Go.RowKit
noncomputable def strL (W : AW) (p : Addr) : Option VC := @E.rec (List Value) (fun _ => Option VC) (fun l => bl (veqL l [.int .u32 4]) (some (.ok (.string ⟨⟨[52]⟩⟩) W)) none) (fun _ => none) (W.loadN p 1)
noncomputable def strT (xs : List Value) (W : AW) : Option VC := match xs with
  | [.agg a] => (match a.toList with
    | [.bool b, .slice (some p) n _] => bl b none (bl (Nat.beq n 1) (strL W p) none)
    | _ => none)
  | _ => none
/-- a table with the text of 4 -/
noncomputable def tabS (l : List Ent) : Nat → List Value → AW → Option VC := fun g xs W => bl (Nat.beq g 49) (strT xs W) (Ke.look l g xs W)
theorem strT_ok {xs : List Value} {W W' : AW} {v : Value} {ρ : Rho} {w : World} {xs' : Array Value} {m : Nat} (h : strT xs W = some (.ok v W')) (hx : LR ρ xs xs'.toList) (hW : WR ρ W w) : CallsIn Fence.wide m Tryz.prog 49 xs' w (fun e w' => ∃ v' ρ', e = .returned v' ∧ VR ρ' v v' ∧ WR ρ' W' w' ∧ Up ρ W w ρ' W' w') := by
  unfold strT at h
  split at h
  · rename_i a
    split at h
    · rename_i b p n k ha
      cases b with
      | true => cases h
      | false =>
      have h : bl (Nat.beq n 1) (strL W p) none = some (.ok v W') := h
      cases hn : Nat.beq n 1 with
      | false => rw [hn] at h; cases h
      | true =>
        rw [hn] at h
        have hn := Nat.eq_of_beq_eq_true hn
        subst hn
        have h : strL W p = some (.ok v W') := h
        unfold strL at h
        cases hl : W.loadN p 1 with
        | er s => rw [hl] at h; cases h
        | ok l =>
          rw [hl] at h
          have h : bl (veqL l [.int .u32 4]) (some (VC.ok (.string ⟨⟨[52]⟩⟩) W)) none = some (.ok v W') := h
          cases hv : veqL l [.int .u32 4] with
          | false => rw [hv] at h; cases h
          | true =>
            rw [hv] at h
            have h : some (VC.ok (.string ⟨⟨[52]⟩⟩) W) = some (.ok v W') := h
            cases h
            have hv := veqL_ok hv
            subst hv
            obtain ⟨x', hx', hxt⟩ : ∃ x', xs'.toList = [x'] ∧ VR ρ (.agg a) x' := by
              revert hx
              generalize xs'.toList = L
              intro hx
              cases hx with
              | cons h1 h2 => cases h2; exact ⟨_, rfl, h1⟩
            obtain ⟨y, hy, rfl⟩ := hxt.agg'
            rw [ha] at hy
            obtain ⟨b', s', hbs, hb1, hs1⟩ : ∃ b' s', y.toList = [b', s'] ∧ VR ρ (.bool false) b' ∧ VR ρ (.slice (some p) 1 k) s' := by
              revert hy
              generalize y.toList = L
              intro hy
              cases hy with
              | cons h1 h2 => cases h2 with
                | cons h3 h4 => cases h4; exact ⟨_, _, rfl, h1, h3⟩
            obtain ⟨c, q, o', k', hc, hsp, rfl, hr⟩ := hs1.ssome
            obtain rfl := hb1.bool
            rcases hr with ⟨rfl, _, _⟩ | ⟨h0, _⟩
            · obtain ⟨l', h5, h6, h7⟩ := loadN_ok hW hl hc
              have h8 : w.cell? ⟨c, p.off, none⟩ = some (.int .u32 4) := by
                cases h6 with
                | cons k1 k2 =>
                  have := h5 0 _ rfl
                  rw [k1.int] at this
                  simpa using this
              have e1 : xs' = #[.agg #[.bool false, .slice (some ⟨c, p.off, none⟩) 1 k']] := by
                apply Array.ext'
                rw [hx']
                have : y = #[.bool false, .slice (some ⟨c, p.off, none⟩) 1 k'] := Array.ext' hbs
                rw [this]
              subst e1
              refine CallsIn.mono (callsIn_wide.2 (string49 c p.off k' w h8)) fun e w' he => ?_
              obtain ⟨rfl, hE⟩ := he
              exact ⟨_, ρ, rfl, .flat rfl, hW.ext hE.block, .ext hE.size hE.block ⟨hE.os, hE.tape, hE.output⟩⟩
            · cases h0
    · cases h
  · cases h
theorem enter49 (args : Array Value) (w : World) : (callFunc 49 args).run Tryz.prog w = .ok (.enter 49 args) w :=
  (callee_ok (show callee Tryz.prog 49 = .ok (Tryz.f49, cT49) by kernel_rfl)).2.2 args w
theorem tabS_ok {l : List Ent} (hl : ∀ e ∈ l, Ke.Good Tryz.prog e) : TabOK Tryz.prog (tabS l) := fun g xs W v W' ρ w xs' m h hx hW hG => by
  have h : bl (Nat.beq g 49) (strT xs W) (Ke.look l g xs W) = some (.ok v W') := h
  cases hg : Nat.beq g 49 with
  | false => rw [hg] at h; exact Ke.look_ok hl g xs W v W' ρ w xs' m h hx hW hG
  | true =>
    rw [hg] at h
    obtain rfl := Nat.eq_of_beq_eq_true hg
    exact ⟨enter49, strT_ok h hx hW⟩
end Go.Proofs.YtfcplpeimcjhaaaGreatDoor
