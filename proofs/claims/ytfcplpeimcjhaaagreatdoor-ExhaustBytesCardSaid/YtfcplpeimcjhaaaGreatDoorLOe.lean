/- A closed call of lives, reckoned. Conditions: none. -/
import Derived.Test.YtfcplpeimcjhaaaGreatDoorLOd
namespace Go.Proofs.YtfcplpeimcjhaaaGreatDoor
open Go Go.Ke
set_option maxRecDepth 100000 in
theorem s_e4 : segB Tryz.prog (Ke.run Tryz.prog (tabS [e4_0, e4_1]) 100000) e4 = true := by kernel_rfl
theorem g_e4 : Ke.Good Tryz.prog e4 := ⟨_, run_ok (by kernel_rfl) (tabS_ok (fun e h => by
    simp only [List.mem_cons, List.not_mem_nil, or_false] at h
    rcases h with rfl | rfl
    · exact g_e4_0
    · exact g_e4_1)) _, s_e4⟩
end Go.Proofs.YtfcplpeimcjhaaaGreatDoor
