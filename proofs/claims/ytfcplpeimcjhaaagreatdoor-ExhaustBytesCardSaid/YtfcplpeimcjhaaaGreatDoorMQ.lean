/- ExhaustBytes: the row; the tied card: for every input the law returns true, and each argument reads behind the call as it read before; what the listed variables hold is tied to the text of the program. Conditions: those that the card prints. -/
import Derived.Test.YtfcplpeimcjhaaaGreatDoorMO
import Derived.Test.YtfcplpeimcjhaaaGreatDoorMP
import Derived.Test.YtfcplpeimcjhaaaGreatDoorTie
import Derived.Test.YtfcplpeimcjhaaaGreatDoorCards
import Derived.SevenTiedAt
namespace Go.Proofs.YtfcplpeimcjhaaaGreatDoor
open Go
theorem goes_still {P : Program} (h : P.funcs.any Func.goes = false) (f : FuncId) : P.goes f = false := by
  have h1 : ∀ g : Nat, (P.funcs[g]?).any Func.goes = false := fun g => by
    cases hg : P.funcs[g]? with
    | none => rfl
    | some fn =>
      show fn.goes = false
      cases hq : fn.goes with
      | false => rfl
      | true => exact absurd (h.symm.trans (Array.any_eq_true'.2 ⟨fn, Array.mem_of_getElem? hg, hq⟩)) (by simp)
  unfold Program.goes
  rw [h, Bool.and_false, Bool.or_false]
  exact List.any_eq_false.2 (fun g _ => by simp [h1 g])
theorem goesBy_still {P : Program} (h : P.funcs.any Func.goes = false) (c : OpenClaim) (hs : c.start = .entering) : false = c.goesBy P := by
  unfold OpenClaim.goesBy Program.goesAt Program.goesFrom
  rw [hs]
  cases P.funcNamed c.func with
  | none => rfl
  | some f =>
    show false = (P.goes f || false)
    rw [goes_still h f]
    rfl
theorem funcs_still : Tryz.prog.funcs.any Func.goes = false := by kernel_rfl
theorem card_still : false = Rows.exhaustBytesRow.goesBy Tryz.prog := goesBy_still funcs_still _ rfl
/-- the row -/
theorem exhaustBytes_holds : Rows.ExhaustBytesSaid :=
  OpenClaim.holds_of_wide 3 Tryz.f3 rfl rfl rfl rfl rfl rfl rfl ⟨rfl, rfl, rfl, rfl, rfl⟩ rfl rfl rfl rfl rfl (by kernel_rfl) Tryz.func3 row_facts
    (of_decide_eq_true (by kernel_rfl)) (by unfold Func.isWrapper; first | (rw [if_pos (by decide +kernel)]; kernel_rfl) | (rw [if_neg (by decide +kernel)]; exact ⟨rfl, rfl⟩))
    (fun os started H enc _ => exhaustBytes_lifted os started H enc)
theorem exhaustBytesCard_holds : Rows.ExhaustBytesCardSaid :=
  Claim7.holds_tied_plain_at .later [] [.data, .data, .data, .data, .data, .data, .pinned, .pinned, .pinned, .pinned, .pinned, .pinned] true (true, "e85d9bc1767eec1a0829d409e9a2866f102a2e0c3644fca0926ccf8ff5f58ab0") true
    exhaustBytes_holds (fun _ h => by cases h) (by kernel_rfl) (fun _ h => by cases h) exhaustBytes_row_tie rfl ⟨rfl, rfl⟩ (by kernel_rfl) rfl
    (fun f fn hf hfn => by
      obtain rfl : f = 3 := Option.some.inj ((show Tryz.prog.funcNamed "refuter/refuterlaw24.ExhaustBytes" = some 3 by kernel_rfl).symm.trans hf) |>.symm
      obtain rfl : fn = Tryz.f3 := (Option.some.inj (Tryz.func3.symm.trans hfn)).symm
      exact ⟨by kernel_rfl, fun j t ht => by
        rw [Tryz.params3] at ht
        have hm : t ∈ [22, 9, 23, 3, 5] := by simpa using Array.mem_of_getElem? ht
        have hall : ([22, 9, 23, 3, 5].all fun u => !Tryz.prog.wantsStandIn u) = true := by kernel_rfl
        exact (show Tryz.prog.wantsStandIn t = false by simpa using List.all_eq_true.1 hall t hm)⟩)
    card_still
#print axioms exhaustBytesCard_holds
end Go.Proofs.YtfcplpeimcjhaaaGreatDoor
