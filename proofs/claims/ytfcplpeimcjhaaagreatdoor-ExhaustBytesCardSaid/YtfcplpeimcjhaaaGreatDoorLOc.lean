/- A closed call of lives, reckoned. Conditions: none. -/
import Derived.Test.YtfcplpeimcjhaaaGreatDoorLOb
namespace Go.Proofs.YtfcplpeimcjhaaaGreatDoor
open Go Go.Ke
set_option maxRecDepth 100000 in
theorem s_e2 : segB Tryz.prog (Ke.run Tryz.prog (tabS [e2_0, e2_1]) 100000) e2 = true := by kernel_rfl
theorem g_e2 : Ke.Good Tryz.prog e2 := ⟨_, run_ok (by kernel_rfl) (tabS_ok (fun e h => by
    simp only [List.mem_cons, List.not_mem_nil, or_false] at h
    rcases h with rfl | rfl
    · exact g_e2_0
    · exact g_e2_1)) _, s_e2⟩
end Go.Proofs.YtfcplpeimcjhaaaGreatDoor
