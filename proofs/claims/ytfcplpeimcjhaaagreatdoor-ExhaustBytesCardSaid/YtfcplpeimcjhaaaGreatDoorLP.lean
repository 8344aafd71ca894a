/- lives answers true, and leaves all that lay there as it was, where the two tables lie in memory as the program lays them. Conditions: none. -/
import Derived.Test.YtfcplpeimcjhaaaGreatDoorLOg
import Derived.Test.YtfcplpeimcjhaaaGreatDoorVA
import Derived.KernelRfl
namespace Go.Proofs.YtfcplpeimcjhaaaGreatDoor
open Go Go.Ke
/-- the parser's reserved words -/
def D0 : List (List UInt8) := [[97, 110, 100], [98, 111, 111, 108], [99, 104, 101, 99, 107], [99, 108, 97, 105, 109], [99, 108, 97, 115, 115], [99, 111, 109, 109, 97, 110, 100], [101, 108, 115, 101], [102, 97, 108, 115, 101], [102, 117, 110], [103, 101, 110], [105, 102], [105, 110], [105, 110, 116], [108, 101, 116], [108, 105, 115, 116], [109, 97, 107, 101], [109, 97, 116, 99, 104], [109, 111, 100, 101, 108], [110, 101, 120, 116], [110, 111, 116], [111, 102], [111, 110, 101], [111, 112], [111, 114], [112, 105, 99, 107], [112, 111, 115, 116], [112, 114, 101], [112, 114, 111, 112], [114, 101, 99, 111, 118, 101, 114], [114, 101, 115, 117, 108, 116], [114, 101, 116, 117, 114, 110], [115, 116, 101, 112], [115, 121, 115, 116, 101, 109], [116, 104, 101, 110], [116, 114, 117, 101], [116, 121, 112, 101], [119, 104, 101, 114, 101]]
/-- the lexer's symbols -/
def D1 : List (List UInt8) := [[45, 62], [60, 45], [60, 61], [61, 61], [33, 61], [46, 46], [40], [41], [91], [93], [123], [125], [44], [59], [58], [61], [60], [43], [45], [42], [47], [124]]
noncomputable def okT (e : E (T AO)) : T AO := match e with | .ok h => h | _ => .nil
noncomputable def hh0 : T AO := okT ((T.nil).set 40 0 (.live [] G0))
noncomputable def H0 : T AO := okT ((hh0).set 40 1 (.live [] G1))
theorem hs0 : (T.nil : T AO).set 40 0 (.live [] G0) = .ok hh0 := by kernel_rfl
theorem hs1 : hh0.set 40 1 (.live [] G1) = .ok H0 := by kernel_rfl
theorem at_nil' : ∀ q : Bin, T.at q (.nil : T AO) = none
  | .z => rfl
  | .t q => at_nil' q
  | .o q => at_nil' q
theorem H0_none : ∀ b, 2 ≤ b → H0.get b = none := fun b hb => by
  rw [set_get 40 hs1 b, if_neg (by omega), set_get 40 hs0 b, if_neg (by omega)]
  show T.at (pth b) .nil = none
  exact at_nil' _
theorem H0_0 : H0.get 0 = some (.live [] G0) := by kernel_rfl
theorem H0_1 : H0.get 1 = some (.live [] G1) := by kernel_rfl
/-- what the run leaves in the tables' blocks, if it answers true -/
noncomputable def fin (r : VC) : Option (Option AO × Option AO) := match r with
  | .ok (.bool true) W => some (W.heap.get 0, W.heap.get 1)
  | _ => none
theorem fin_ok {r : VC} {x y : Option AO} (h : fin r = some (x, y)) : ∃ W, r = .ok (.bool true) W ∧ W.heap.get 0 = x ∧ W.heap.get 1 = y := by
  unfold fin at h
  split at h
  · rename_i W
    cases h
    exact ⟨W, rfl, rfl, rfl⟩
  · cases h
theorem all_good : ∀ e ∈ [e0, e1, e2, e3, e4, e5], Ke.Good Tryz.prog e := fun e h => by
  simp only [List.mem_cons, List.not_mem_nil, or_false] at h
  rcases h with rfl | rfl | rfl | rfl | rfl | rfl
  · exact g_e0
  · exact g_e1
  · exact g_e2
  · exact g_e3
  · exact g_e4
  · exact g_e5
set_option maxRecDepth 100000 in
theorem lives_fin : fin (callG Tryz.prog (Ke.run Tryz.prog (tabS [e0, e1, e2, e3, e4, e5]) 100000) 20 [] ⟨H0, 2⟩) = some (some (.live [] G0), some (.live [] G1)) := by kernel_rfl
/-- the two tables in memory -/
structure Tabs (w : World) : Prop where
  t0 : ∃ t, w.heap[0]? = some (.cells G0.toArray t (0, 0))
  t1 : ∃ t, w.heap[1]? = some (.cells G1.toArray t (0, 0))
theorem some_lt {w : World} {b : Nat} {o : Obj} (h : w.heap[b]? = some o) : b < w.heap.size := (Array.getElem?_eq_some_iff.1 h).1
theorem Tabs.ext {w V : World} (h : Tabs w) (hx : Ext w V) : Tabs V :=
  ⟨let ⟨t, h0⟩ := h.t0; ⟨t, (hx.block 0 (some_lt h0)).trans h0⟩, let ⟨t, h1⟩ := h.t1; ⟨t, (hx.block 1 (some_lt h1)).trans h1⟩⟩
theorem cc_flat {ρ : Rho} {l : List Value} (hl : ∀ v ∈ l, flat v = true) : CC ρ l l.toArray (0, 0) l.length :=
  ⟨fun i v h => ⟨v, by simpa using h, .flat (hl v (List.mem_of_getElem? h))⟩, by simp, .inr (Nat.le_refl _)⟩
theorem cc_eq {ρ : Rho} {l : List Value} {C : Array Value} {fz : Nat × Nat} (hl : ∀ v ∈ l, flat v = true) (h : CC ρ l C fz l.length) : C = l.toArray := by
  apply Array.ext_getElem?
  intro i
  by_cases hi : i < l.length
  · obtain ⟨v', h1, h2⟩ := h.at_ i l[i] (List.getElem?_eq_getElem hi)
    rw [h1, h2.of_flat (hl _ (List.getElem_mem hi))]
    simp [hi]
  · rw [Array.getElem?_eq_none (by rw [h.size]; omega), Array.getElem?_eq_none (by simp; omega)]
def K2 (b : Nat) : Nat := if b = 0 then 37 else 22
theorem flat0 : ∀ v ∈ G0, flat v = true := List.all_eq_true.1 (by rfl)
theorem flat1 : ∀ v ∈ G1, flat v = true := List.all_eq_true.1 (by rfl)
theorem start_wr {w : World} (h : Tabs w) : WR (fun b => if b < NG then some (b, K2 b) else none) ⟨H0, NG⟩ w := by
  refine start_ok (fun b hb => ?_) (fun b hb => H0_none b hb)
  have hb : b < 2 := hb
  rcases (by omega : b = 0 ∨ b = 1) with rfl | rfl
  · obtain ⟨t, ht⟩ := h.t0
    exact ⟨_, _, H0_0, ht, cc_flat flat0, fun al cs e => by cases e; rfl⟩
  · obtain ⟨t, ht⟩ := h.t1
    exact ⟨_, _, H0_1, ht, cc_flat flat1, fun al cs e => by cases e; rfl⟩
/-- a table that is in the end as it was known at the start is as it was -/
theorem tab_same {ρ ρ' : Rho} {W W' : AW} {w w' : World} {b : Nat} {l : List Value} {t : TypeId} (hl : ∀ v ∈ l, flat v = true) (hr : ρ' b = some (b, l.length)) (hg : W'.heap.get b = some (.live [] l)) (hW : WR ρ' W' w') (hu : Up ρ W w ρ' W' w') (ht : w.heap[b]? = some (.cells l.toArray t (0, 0))) : w'.heap[b]? = w.heap[b]? := by
  obtain ⟨C, h1, h2⟩ := hu.ty b _ _ _ ht
  obtain ⟨_, ao, o, h3, h4, h5⟩ := hW.dom b b l.length hr
  rw [hg] at h3; cases h3
  rw [h1] at h4; cases h4
  have h6 : CC ρ' l C (0, 0) l.length := h5
  rw [h1, ht, cc_eq hl h6]
theorem lives_ext {w : World} (h : Tabs w) : Calls Tryz.prog 20 #[] w fun e w' => e = .returned (.bool true) ∧ Ext w w' := by
  obtain ⟨W', e, g0, g1⟩ := fin_ok lives_fin
  refine (closed_ok (run_ok (by kernel_rfl) (tabS_ok all_good) _) e .nil (start_wr h) (start_gl K2)).mono ?_
  rintro e w' ⟨v', ρ', rfl, hv, hW, hu⟩
  refine ⟨by rw [hv.bool], hu.env.1, hu.env.2.1, hu.env.2.2, hu.size, fun c hc => ?_⟩
  by_cases h2 : 2 ≤ c
  · refine hu.same c hc (fun b n hb => ?_)
    split at hb
    · rename_i hb2
      cases hb
      have : NG = 2 := rfl
      omega
    · cases hb
  · rcases (by omega : c = 0 ∨ c = 1) with rfl | rfl
    · obtain ⟨t, ht⟩ := h.t0
      exact tab_same flat0 (hu.le 0 _ rfl) g0 hW hu ht
    · obtain ⟨t, ht⟩ := h.t1
      exact tab_same flat1 (hu.le 1 _ rfl) g1 hW hu ht
end Go.Proofs.YtfcplpeimcjhaaaGreatDoor
