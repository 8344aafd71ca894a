/- A closed call of lives, reckoned. Conditions: none. -/
import Derived.Test.YtfcplpeimcjhaaaGreatDoorLOf
namespace Go.Proofs.YtfcplpeimcjhaaaGreatDoor
open Go Go.Ke
set_option maxRecDepth 100000 in
theorem s_e5 : segB Tryz.prog (Ke.run Tryz.prog (tabS [e5_0]) 100000) e5 = true := by kernel_rfl
theorem g_e5 : Ke.Good Tryz.prog e5 := ⟨_, run_ok (by kernel_rfl) (tabS_ok (fun e h => by
    simp only [List.mem_cons, List.not_mem_nil, or_false] at h
    rcases h with rfl
    · exact g_e5_0)) _, s_e5⟩
end Go.Proofs.YtfcplpeimcjhaaaGreatDoor
