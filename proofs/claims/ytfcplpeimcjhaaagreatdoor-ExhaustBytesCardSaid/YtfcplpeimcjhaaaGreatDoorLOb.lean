/- The closed calls of lives, reckoned. Conditions: none. -/
import Derived.Test.YtfcplpeimcjhaaaGreatDoorLOa
import Derived.KernelRfl
namespace Go.Proofs.YtfcplpeimcjhaaaGreatDoor
open Go Go.Ke
set_option maxRecDepth 100000 in
theorem s_e0 : segB Tryz.prog (Ke.run Tryz.prog (tabS []) 100000) e0 = true := by kernel_rfl
theorem g_e0 : Ke.Good Tryz.prog e0 := ⟨_, run_ok (by kernel_rfl) (tabS_ok (fun _ h => by cases h)) _, s_e0⟩
set_option maxRecDepth 100000 in
theorem s_e1 : segB Tryz.prog (Ke.run Tryz.prog (tabS []) 100000) e1 = true := by kernel_rfl
theorem g_e1 : Ke.Good Tryz.prog e1 := ⟨_, run_ok (by kernel_rfl) (tabS_ok (fun _ h => by cases h)) _, s_e1⟩
set_option maxRecDepth 100000 in
theorem s_e2_0 : segB Tryz.prog (Ke.run Tryz.prog (tabS []) 100000) e2_0 = true := by kernel_rfl
theorem g_e2_0 : Ke.Good Tryz.prog e2_0 := ⟨_, run_ok (by kernel_rfl) (tabS_ok (fun _ h => by cases h)) _, s_e2_0⟩
set_option maxRecDepth 100000 in
theorem s_e2_1 : segB Tryz.prog (Ke.run Tryz.prog (tabS []) 100000) e2_1 = true := by kernel_rfl
theorem g_e2_1 : Ke.Good Tryz.prog e2_1 := ⟨_, run_ok (by kernel_rfl) (tabS_ok (fun _ h => by cases h)) _, s_e2_1⟩
set_option maxRecDepth 100000 in
theorem s_e3_0 : segB Tryz.prog (Ke.run Tryz.prog (tabS []) 100000) e3_0 = true := by kernel_rfl
theorem g_e3_0 : Ke.Good Tryz.prog e3_0 := ⟨_, run_ok (by kernel_rfl) (tabS_ok (fun _ h => by cases h)) _, s_e3_0⟩
set_option maxRecDepth 100000 in
theorem s_e3_1 : segB Tryz.prog (Ke.run Tryz.prog (tabS []) 100000) e3_1 = true := by kernel_rfl
theorem g_e3_1 : Ke.Good Tryz.prog e3_1 := ⟨_, run_ok (by kernel_rfl) (tabS_ok (fun _ h => by cases h)) _, s_e3_1⟩
set_option maxRecDepth 100000 in
theorem s_e4_0 : segB Tryz.prog (Ke.run Tryz.prog (tabS []) 100000) e4_0 = true := by kernel_rfl
theorem g_e4_0 : Ke.Good Tryz.prog e4_0 := ⟨_, run_ok (by kernel_rfl) (tabS_ok (fun _ h => by cases h)) _, s_e4_0⟩
set_option maxRecDepth 100000 in
theorem s_e4_1 : segB Tryz.prog (Ke.run Tryz.prog (tabS []) 100000) e4_1 = true := by kernel_rfl
theorem g_e4_1 : Ke.Good Tryz.prog e4_1 := ⟨_, run_ok (by kernel_rfl) (tabS_ok (fun _ h => by cases h)) _, s_e4_1⟩
set_option maxRecDepth 100000 in
theorem s_e5_0_0 : segB Tryz.prog (Ke.run Tryz.prog (tabS []) 100000) e5_0_0 = true := by kernel_rfl
theorem g_e5_0_0 : Ke.Good Tryz.prog e5_0_0 := ⟨_, run_ok (by kernel_rfl) (tabS_ok (fun _ h => by cases h)) _, s_e5_0_0⟩
set_option maxRecDepth 100000 in
theorem s_e5_0_1 : segB Tryz.prog (Ke.run Tryz.prog (tabS []) 100000) e5_0_1 = true := by kernel_rfl
theorem g_e5_0_1 : Ke.Good Tryz.prog e5_0_1 := ⟨_, run_ok (by kernel_rfl) (tabS_ok (fun _ h => by cases h)) _, s_e5_0_1⟩
end Go.Proofs.YtfcplpeimcjhaaaGreatDoor
