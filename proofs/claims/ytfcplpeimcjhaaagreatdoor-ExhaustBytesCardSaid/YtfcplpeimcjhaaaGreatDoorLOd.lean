/- A closed call of lives, reckoned. Conditions: none. -/
import Derived.Test.YtfcplpeimcjhaaaGreatDoorLOc
namespace Go.Proofs.YtfcplpeimcjhaaaGreatDoor
open Go Go.Ke
set_option maxRecDepth 100000 in
theorem s_e3 : segB Tryz.prog (Ke.run Tryz.prog (tabS [e3_0, e3_1]) 100000) e3 = true := by kernel_rfl
theorem g_e3 : Ke.Good Tryz.prog e3 := ⟨_, run_ok (by kernel_rfl) (tabS_ok (fun e h => by
    simp only [List.mem_cons, List.not_mem_nil, or_false] at h
    rcases h with rfl | rfl
    · exact g_e3_0
    · exact g_e3_1)) _, s_e3⟩
end Go.Proofs.YtfcplpeimcjhaaaGreatDoor
