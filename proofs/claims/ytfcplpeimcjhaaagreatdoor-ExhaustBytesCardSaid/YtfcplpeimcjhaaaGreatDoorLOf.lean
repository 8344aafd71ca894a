/- A closed call of lives, reckoned. Conditions: none. -/
import Derived.Test.YtfcplpeimcjhaaaGreatDoorLOe
namespace Go.Proofs.YtfcplpeimcjhaaaGreatDoor
open Go Go.Ke
set_option maxRecDepth 100000 in
theorem s_e5_0 : segB Tryz.prog (Ke.run Tryz.prog (tabS [e5_0_0, e5_0_1]) 100000) e5_0 = true := by kernel_rfl
theorem g_e5_0 : Ke.Good Tryz.prog e5_0 := ⟨_, run_ok (by kernel_rfl) (tabS_ok (fun e h => by
    simp only [List.mem_cons, List.not_mem_nil, or_false] at h
    rcases h with rfl | rfl
    · exact g_e5_0_0
    · exact g_e5_0_1)) _, s_e5_0⟩
end Go.Proofs.YtfcplpeimcjhaaaGreatDoor
