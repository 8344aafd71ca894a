/- The operations that only reckon: the laws. Conditions: none. Parts of slices and strings. Conditions: none. Values that are put together, and new blocks. Conditions: none. -/
import Derived.Test.YtfcplpeimcjhaaaGreatDoorKH
import Derived.Laws.Tables
import Derived.Laws.MakeOwn
import Derived.Great.BuildSlice
namespace Go.Ke
open Go.RowKit
section
variable {P : Program} {ρ : Rho} {t s : TypeId} {x x' i i' v : Value} {f : Nat}
theorem unV_ok {op : UnOp} (e : unV op x = .ok v) (hx : VR ρ x x') : ∃ v', VR ρ v v' ∧ ∀ w, (Op.unary op x').run P w = .ok v' w := by
  unfold unV at e
  split at e
  · cases e
    rw [hx.bool]
    exact ⟨_, .flat rfl, fun w => by simp [Op.unary, bl_not, go_sem]⟩
  · rename_i k n
    cases e
    rw [hx.int]
    exact ⟨_, .flat rfl, fun w => by have : Int.sub 0 n = -n := by show (0 : Int) - n = -n; omega
                                     simp [Op.unary, wr_eq, go_sem, this]⟩
  · cases e
theorem strF_ok {u : TypeDesc} {l : List Field} (e : strF u = .ok l) : ∃ fs, u = .struct fs ∧ fs.toList = l := by
  unfold strF at e
  split at e <;> cases e
  exact ⟨_, rfl, rfl⟩
theorem add_addr (b o n : Nat) : (⟨b, o, none⟩ : Addr).add n = ⟨b, o + n, none⟩ := by unfold Addr.add; split <;> simp_all
theorem fieldAV_ok (e : fieldAV P s x f = .ok v) (hx : VR ρ x x') : ∃ v', VR ρ v v' ∧ ∀ w, (Instr.fieldAt s x' f).run P w = .ok v' w := by
  obtain ⟨u, h1, e⟩ := bd_ok e
  obtain ⟨fs, h2, e⟩ := bd_ok e
  obtain ⟨fd, h3, e⟩ := bd_ok e
  obtain ⟨a, h4, e⟩ := bd_ok e
  obtain ⟨n, h5, e9⟩ := bd_ok e
  have hu := under_ok h1
  obtain ⟨fs, rfl, rfl⟩ := strF_ok h2
  have h3 := of_ok h3
  rw [nth_eq] at h3
  rw [asA_ok h4] at hx
  obtain ⟨c, m, hc, hsp, rfl⟩ := hx.psome
  obtain ⟨ti, h6, h7⟩ := size_ok h5
  rcases bl_ok e9 with ⟨_, e⟩ | ⟨h8, e⟩ <;> cases e
  have h8 := Nat.ne_of_beq_eq_false h8
  refine ⟨_, .ptr hc, fun w => ?_⟩
  have h3 : fs[f]? = some fd := by simpa using h3
  have h9 : ti.size ≠ 0 := by omega
  simp [Instr.fieldAt, run_underlying hu, Instr.sureAddr, fieldPlace, sizeOf, typeInfo, h3, h6, h9, add_addr, go_sem]
theorem run_isAgg {u : TypeDesc} (hu : P.underlying t = some u) (w : World) : (isAgg t).run P w = .ok (agg? u) w := by
  unfold isAgg
  rw [Sem.run_bind, run_underlying hu w]
  cases u <;> rfl
theorem partV_ok {cs cs' : List Value} {off : Nat} (e : partV P t cs off = .ok v) (hx : LR ρ cs cs') : ∃ v', VR ρ v v' ∧ ∀ w, (part t cs'.toArray off).run P w = .ok v' w := by
  obtain ⟨u, h1, e⟩ := bd_ok e
  have hu := under_ok h1
  rcases bl_ok e with ⟨h2, e⟩ | ⟨h2, e⟩
  · obtain ⟨n, h5, e⟩ := bd_ok e
    obtain ⟨l, h3, e⟩ := bd_ok e
    cases e
    obtain ⟨ti, h6, rfl⟩ := size_ok h5
    obtain ⟨h4, rfl⟩ := tk_ok h3
    rw [dr_eq]
    refine ⟨_, VR.mkAgg ((hx.drop off).take ti.size), fun w => ?_⟩
    have hex : cs'.toArray.extract off (off + ti.size) = ((cs'.drop off).take ti.size).toArray := by
      apply Array.ext'
      simp [List.extract_eq_take_drop]
    simp [part, Sem.run_bind, run_isAgg hu, h2, sizeOf, typeInfo, h6]
  · have e := of_ok e
    rw [nth_eq] at e
    obtain ⟨v', h3, h4⟩ := hx.get e
    exact ⟨v', h4, fun w => by simp [part, Sem.run_bind, run_isAgg hu, h2, h3]⟩
theorem fieldV_ok (e : fieldV P s x f = .ok v) (hx : VR ρ x x') : ∃ v', VR ρ v v' ∧ ∀ w, (Instr.field s x' f).run P w = .ok v' w := by
  obtain ⟨u, h1, e⟩ := bd_ok e
  obtain ⟨fs, h2, e⟩ := bd_ok e
  obtain ⟨fd, h3, e⟩ := bd_ok e
  obtain ⟨cs, h4, e9⟩ := bd_ok e
  have hu := under_ok h1
  obtain ⟨fs, rfl, rfl⟩ := strF_ok h2
  have h3 := of_ok h3
  rw [nth_eq] at h3
  obtain ⟨c, rfl, rfl⟩ := asC_ok h4
  obtain ⟨c', hc, rfl⟩ := hx.agg'
  obtain ⟨v', h5, h6⟩ := partV_ok e9 hc
  have h3 : fs[f]? = some fd := by simpa using h3
  exact ⟨v', h5, fun w => by simpa [Instr.field, run_underlying hu, h3, asAgg, go_sem] using h6 w⟩
theorem idxA_ok {u : TypeDesc} {p : Addr × Nat × TypeId} (e : idxA u x = .ok p) : (∃ k, u = .slice p.2.2 ∧ x = .slice (some p.1) p.2.1 k) ∨ (u = .array p.2.1 p.2.2 ∧ x = .pointer (some p.1)) := by
  unfold idxA at e
  split at e <;> cases e
  · exact .inl ⟨_, rfl, rfl⟩
  · exact .inr ⟨rfl, rfl⟩
theorem indexAV_ok (e : indexAV P t x i = .ok v) (hx : VR ρ x x') (hi : VR ρ i i') : ∃ v', VR ρ v v' ∧ ∀ w, (Instr.indexAt t x' i').run P w = .ok v' w := by
  obtain ⟨u, h1, e⟩ := bd_ok e
  obtain ⟨p, h2, e⟩ := bd_ok e
  obtain ⟨n, h3, e⟩ := bd_ok e
  have hu := under_ok h1
  obtain ⟨k, rfl⟩ := asN_ok h3
  rw [hi.int]
  rcases bl_ok e with ⟨h4, e⟩ | ⟨_, e⟩
  · rw [Nat.blt_eq] at h4
    obtain ⟨m, h5, e⟩ := bd_ok e
    cases e
    obtain ⟨ti, h6, rfl⟩ := size_ok h5
    obtain ⟨⟨pb, po, ps⟩, pl, pe⟩ := p
    dsimp only at h4 h6
    rcases idxA_ok h2 with ⟨k2, rfl, rfl⟩ | ⟨rfl, rfl⟩
    · obtain ⟨c, m2, o', k', hc, hsp, rfl, ⟨rfl, _, _⟩ | ⟨h0, _⟩⟩ := hx.ssome
      · refine ⟨_, .ptr hc, fun w => ?_⟩
        have h5 : (n : Int) < (pl : Int) := by omega
        have h5' : ¬ pl ≤ n := by omega
        simp [Instr.indexAt, asIntOf, run_underlying hu, sizeOf, typeInfo, h6, h5', add_addr, go_sem]
      · dsimp only at h0; omega
    · obtain ⟨c, m2, hc, hsp, rfl⟩ := hx.psome
      refine ⟨_, .ptr hc, fun w => ?_⟩
      have h5 : (n : Int) < (pl : Int) := by omega
      have h5' : ¬ pl ≤ n := by omega
      simp [Instr.indexAt, asIntOf, run_underlying hu, Instr.sureAddr, sizeOf, typeInfo, h6, h5', add_addr, go_sem]
  · cases e
theorem indexV_ok (e : indexV P t x i = .ok v) (hx : VR ρ x x') (hi : VR ρ i i') : ∃ v', VR ρ v v' ∧ ∀ w, (Instr.index t x' i').run P w = .ok v' w := by
  obtain ⟨u, h1, e1⟩ := bd_ok e
  obtain ⟨n, h3, e2⟩ := bd_ok e1
  have hu := under_ok h1
  obtain ⟨k, rfl⟩ := asN_ok h3
  rw [hi.int]
  clear e e1 h1 h3
  split at e2
  · rename_i str
    obtain ⟨b, h4, h5⟩ := bd_ok e2
    cases h5
    have h4 := of_ok h4
    rw [nth_eq] at h4
    rw [hx.string]
    have h6 : str[n]? = some b := by
      have h7 : str.data[n]? = some b := by simpa using h4
      obtain ⟨h8, h9⟩ := Array.getElem?_eq_some_iff.1 h7
      have h10 : n < str.size := h8
      rw [getElem?_pos str n h10]
      exact congrArg some h9
    exact ⟨_, .flat rfl, fun w => by simp [Instr.index, asIntOf, run_underlying hu, h6, go_sem]⟩
  · rename_i len el cs
    rcases bl_ok e2 with ⟨h4, e3⟩ | ⟨_, e3⟩
    · rw [Nat.blt_eq] at h4
      obtain ⟨sz, h5, e4⟩ := bd_ok e3
      obtain ⟨info, h6, rfl⟩ := size_ok h5
      obtain ⟨c', hc, rfl⟩ := hx.agg'
      obtain ⟨v', h7, h8⟩ := partV_ok e4 hc
      refine ⟨v', h7, fun w => ?_⟩
      have h9 : (part el c' (n * info.size)).run P w = .ok v' w := by simpa using h8 w
      simpa [Instr.index, asIntOf, run_underlying hu, sizeOf, typeInfo, h6, h4, go_sem] using h9
    · cases e3
  · cases e2
theorem extractV_ok {k : Nat} (e : extractV x k = .ok v) (hx : VR ρ x x') : ∃ v', VR ρ v v' ∧ ∀ w, (Instr.extract x' k).run P w = .ok v' w := by
  unfold extractV at e
  split at e
  · have e := of_ok e
    rw [nth_eq] at e
    obtain ⟨c', hc, rfl⟩ := hx.tuple'
    obtain ⟨v', h3, h4⟩ := hc.get e
    have h3 : c'[k]? = some v' := by simpa using h3
    exact ⟨v', h4, fun w => by simp [Instr.extract, h3, go_sem]⟩
  · cases e
theorem lenV_ok (e : lenV P t x = .ok v) (hx : VR ρ x x') (ts : Array TypeId) (hts : ts[0]? = some t) (ty : TypeId) : ∃ v', VR ρ v v' ∧ ∀ w, (Builtin.len_ ts ty #[x']).run P w = .ok v' w := by
  obtain ⟨u, h1, e1⟩ := bd_ok e
  have hu := under_ok h1
  clear e h1
  split at e1
  · rename_i str
    cases e1
    rw [hx.string]
    have : str.data.toList.length = str.size := Array.length_toList ..
    rw [this]
    exact ⟨_, .flat rfl, fun w => by simp [Builtin.len_, hts, run_underlying hu, go_sem]⟩
  · rename_i a n _
    cases e1
    cases a with
    | none => rw [hx.snone]; exact ⟨_, .flat rfl, fun w => by simp [Builtin.len_, hts, run_underlying hu, go_sem]⟩
    | some a =>
      obtain ⟨c, m, o', k', hc, hsp, rfl, _⟩ := hx.ssome
      exact ⟨_, .flat rfl, fun w => by simp [Builtin.len_, hts, run_underlying hu, go_sem]⟩
  · cases e1
theorem convV_ok {src d : TypeId} {us : TypeDesc} (hus : P.underlying src = some us) (e : convV P d x = .ok v) (hx : VR ρ x x') (_ : ∀ e, us ≠ .slice e) : ∃ v', VR ρ v v' ∧ ∀ w, (convert src d x').run P w = .ok v' w := by
  obtain ⟨u, h1, e⟩ := bd_ok e
  have hu := under_ok h1
  split at e
  · cases e
    rw [hx.int]
    exact ⟨_, .flat rfl, fun w => by
      simp [convert, run_underlying hu, run_underlying hus, wr_eq, go_sem]⟩
  · cases e
    rw [hx.string]
    exact ⟨_, .flat rfl, fun w => by
      simp [convert, run_underlying hu, run_underlying hus, go_sem]⟩
  · cases e
end
end Go.Ke
namespace Go.Ke
open Go.RowKit
section
variable {P : Program} {ρ : Rho} {t s : TypeId} {x x' v : Value} {lo lo' hi hi' : Option Value}
theorem bound_ok {n : Nat} {k : IntKind} {y : Nat} (h : n ≤ y) (code : BoundsCode) (w : World) : (Instr.sliceBound (.int k (n : Int)) y code).run P w = .ok n w := by
  have h1 : (n : Int) ≤ (y : Int) := by omega
  have h2 : ¬ y < n := by omega
  simp [Instr.sliceBound, asIntOf, h1, go_sem]
theorem optN_ok {d n : Nat} (e : optN d lo = .ok n) (h : OV ρ lo lo') : (lo' = none ∧ n = d) ∨ ∃ k, lo' = some (.int k (n : Int)) := by
  cases h with
  | none => cases e; exact .inl ⟨rfl, rfl⟩
  | some h =>
    obtain ⟨k, rfl⟩ := asN_ok e
    rw [h.int]; exact .inr ⟨k, rfl⟩
theorem bounds_ok {b : Bool} {len cap l h : Nat} (e1 : optN 0 lo = .ok l) (e2 : optN len hi = .ok h) (h1 : OV ρ lo lo') (h2 : OV ρ hi hi') (hl : l ≤ h) (hh : h ≤ cap) (w : World) : (Instr.sliceBounds b len cap lo' hi' none).run P w = .ok (l, h, cap) w := by
  rcases optN_ok e1 h1 with ⟨rfl, rfl⟩ | ⟨k1, rfl⟩ <;> rcases optN_ok e2 h2 with ⟨rfl, rfl⟩ | ⟨k2, rfl⟩ <;> simp [Instr.sliceBounds, bound_ok, hl, hh, go_sem]
theorem cutS_ok {a : Addr} {n k l h s c m o' k' : Nat} (e : cutS a n k l h s = .ok v) (hc : ρ a.block = some (c, m)) (hr : (o' = a.off ∧ CK a.off k k' m ∧ n ≤ k') ∨ (n = 0 ∧ k = 2)) :
    l ≤ h ∧ h ≤ k' ∧ VR ρ v (.slice (some (if k' = l then ⟨c, o', none⟩ else ⟨c, o' + l * s, none⟩)) (h - l) (k' - l)) := by
  unfold cutS at e
  rcases bl_ok e with ⟨h1, e1⟩ | ⟨_, e1⟩
  · have h1 : l ≤ h := Nat.le_of_ble_eq_true h1
    refine ⟨h1, ?_⟩
    rcases bl_ok e1 with ⟨h2, e2⟩ | ⟨h2, e2⟩
    · have h2 := Nat.eq_of_beq_eq_true h2
      rcases bl_ok e2 with ⟨h3, e3⟩ | ⟨_, e3⟩
      · have h3 := Nat.eq_of_beq_eq_true h3
        cases e3
        refine ⟨by omega, ?_⟩
        have h4 : h - l = 0 := by omega
        rw [h4]
        split <;> exact .sl0 hc
      · cases e3
    · have h2 := Nat.ne_of_beq_eq_false h2
      rcases hr with ⟨rfl, hck, hn⟩ | ⟨_, h3⟩
      · rcases bl_ok e2 with ⟨h3, e3⟩ | ⟨h3, e3⟩
        · have h3 : k % 3 = 0 := Nat.eq_of_beq_eq_true h3
          rcases bl_ok e3 with ⟨h4, e4⟩ | ⟨_, e4⟩
          · have h4 : h ≤ n := Nat.le_of_ble_eq_true h4
            rcases bl_ok e4 with ⟨h5, e5⟩ | ⟨_, e5⟩
            · have h5 : k = 3 * s := Nat.eq_of_beq_eq_true h5
              refine ⟨by omega, ?_⟩
              rcases bl_ok e5 with ⟨h6, e6⟩ | ⟨h6, e6⟩
              · have h6 := Nat.eq_of_beq_eq_true h6
                cases e6
                have h7 : h - l = 0 := by omega
                rw [h7]
                split <;> exact .sl0 hc
              · have h6 := Nat.ne_of_beq_eq_false h6
                cases e6
                rw [if_neg (by omega)]
                refine .sl hc ?_ (by show h - l ≤ _; omega)
                rcases hck with h8 | ⟨s2, h8, h9⟩
                · omega
                · have : s2 = s := by omega
                  subst this
                  refine .inr ⟨s2, h8, ?_⟩
                  have h10 : k' * s2 = l * s2 + (k' - l) * s2 := by rw [← Nat.add_mul]; congr 1; omega
                  show a.off + l * s2 + _ ≤ _
                  omega
            · cases e5
          · cases e4
        · have h3 : k % 3 ≠ 0 := Nat.ne_of_beq_eq_false h3
          rcases bl_ok e3 with ⟨h4, e4⟩ | ⟨_, e4⟩
          · have h4 : k % 3 = 1 := Nat.eq_of_beq_eq_true h4
            have hk : k = 3 * k' + 1 := by
              rcases hck with h8 | ⟨s2, h8, _⟩
              · exact h8
              · omega
            have hd : Nat.div k 3 = k' := by show k / 3 = k'; omega
            rw [hd] at e4
            rcases bl_ok e4 with ⟨h5, e5⟩ | ⟨_, e5⟩
            · have h5 : h ≤ k' := Nat.le_of_ble_eq_true h5
              cases e5
              refine ⟨h5, ?_⟩
              have hck2 : ∀ o, CK o (Nat.sub k (Nat.mul 3 l)) (k' - l) m := fun o => .inl (by show k - 3 * l = _; omega)
              cases h6 : Nat.beq l k' with
              | true =>
                have h6 := Nat.eq_of_beq_eq_true h6
                rw [if_pos h6.symm]
                exact .sl hc (hck2 _) (by show h - l ≤ _; omega)
              | false =>
                have h6 := Nat.ne_of_beq_eq_false h6
                rw [if_neg (Ne.symm h6)]
                exact .sl hc (hck2 _) (by show h - l ≤ _; omega)
            · cases e5
          · cases e4
      · omega
  · cases e1
theorem sliceV_ok {mx : Option Value} (e : sliceV P t x lo hi mx = .ok v) (hx : VR ρ x x') (h1 : OV ρ lo lo') (h2 : OV ρ hi hi') : mx = none ∧ ∃ v', VR ρ v v' ∧ ∀ w, (Instr.sliceAt t x' lo' hi' none).run P w = .ok v' w := by
  obtain ⟨u, g1, e1⟩ := bd_ok e
  have hu := under_ok g1
  clear e g1
  split at e1
  · rename_i str
    obtain ⟨l, g2, e2⟩ := bd_ok e1
    obtain ⟨h, g3, e3⟩ := bd_ok e2
    rcases bl_ok e3 with ⟨g4, e4⟩ | ⟨_, e4⟩
    · have g4 : l ≤ h := Nat.le_of_ble_eq_true g4
      rcases bl_ok e4 with ⟨g5, e5⟩ | ⟨_, e5⟩
      · obtain ⟨r, g6, e6⟩ := bd_ok e5
        cases e6
        have hs : str.data.toList.length = str.size := Array.length_toList ..
        have g5 : h ≤ str.size := by rw [← hs]; exact Nat.le_of_ble_eq_true g5
        rw [hx.string]
        obtain ⟨_, rfl⟩ := tk_ok g6
        rw [dr_eq]
        have g7 : str.extract l h = ⟨⟨(str.data.toList.drop l).take (Nat.sub h l)⟩⟩ := by
          show _ = ByteArray.mk ⟨(str.data.toList.drop l).take (h - l)⟩
          apply ByteArray.ext
          apply Array.ext'
          simp [List.extract_eq_take_drop]
        rw [hs] at g3
        have hb := fun w => bounds_ok (P := P) (b := false) g2 g3 h1 h2 g4 g5 w
        exact ⟨rfl, _, .flat rfl, fun w => by simp [Instr.sliceAt, Instr.slice, Sem.run_bind, run_underlying hu, hb, g7]⟩
      · cases e5
    · cases e4
  · obtain ⟨l, g2, e2⟩ := bd_ok e1
    obtain ⟨h, g3, e3⟩ := bd_ok e2
    obtain ⟨sz, g7, e4⟩ := bd_ok e3
    obtain ⟨ti, g8, rfl⟩ := size_ok g7
    rcases bl_ok e4 with ⟨g4, e5⟩ | ⟨_, e5⟩
    · have g4 : l ≤ h := Nat.le_of_ble_eq_true g4
      rcases bl_ok e5 with ⟨g5, e6⟩ | ⟨_, e6⟩
      · rcases bl_ok e6 with ⟨g6, e7⟩ | ⟨_, e7⟩
        · have g5 := Nat.le_of_ble_eq_true g5
          have g6 := Nat.le_of_ble_eq_true g6
          rw [hx.snone]
          have hb := fun w => bounds_ok (P := P) (b := true) g2 g3 h1 h2 g4 (Nat.le_trans g5 g6) w
          cases e7
          exact ⟨rfl, _, .flat rfl, fun w => by simp [Instr.sliceAt, Instr.slice, Sem.run_bind, run_underlying hu, hb, sizeOf, typeInfo, g8]⟩
        · cases e7
      · cases e6
    · cases e5
  · rename_i a n k
    obtain ⟨l, g2, e2⟩ := bd_ok e1
    obtain ⟨h, g3, e3⟩ := bd_ok e2
    obtain ⟨sz, g7, e4⟩ := bd_ok e3
    obtain ⟨ti, g8, rfl⟩ := size_ok g7
    obtain ⟨c, m, o', k', hc, hsp, rfl, hr⟩ := hx.ssome
    obtain ⟨g4, g5, g6⟩ := cutS_ok e4 hc hr
    have hb := fun w => bounds_ok (P := P) (b := true) g2 g3 h1 h2 g4 g5 w
    refine ⟨rfl, _, g6, fun w => ?_⟩
    simp [Instr.sliceAt, Instr.slice, Sem.run_bind, run_underlying hu, hb, sizeOf, typeInfo, g8]
    split <;> simp [add_addr]
  · cases e1
end
end Go.Ke
namespace Go.Ke
open Go.RowKit
noncomputable section
def flats (l : List Value) : Bool := @List.rec Value (fun _ => Bool) true (fun v _ ih => bl (flat v) ih false) l
def zeroC (P : Program) (t : TypeId) : E (List Value) := (zero P t).bd fun z => bl (flats (cells z)) (.ok (cells z)) (.er "zero")
def fillG (place : Nat → E (Nat × Nat)) (parts : List (Nat × Value)) : List Value → E (List Value) := @List.rec (Nat × Value) (fun _ => List Value → E (List Value)) (fun cs => .ok cs) (fun p _ ih cs => (place p.1).bd fun q => bl (Nat.beq (cells p.2).length q.2) ((pa q.1 (cells p.2) cs).bd ih) (.er "fill")) parts
def places (P : Program) (fs : List Field) : E (List (Nat × Nat)) := @List.rec Field (fun _ => E (List (Nat × Nat))) (.ok []) (fun f _ ih => (size P f.type).bd fun n => ih.bd fun r => .ok ((f.offset, n) :: r)) fs
def pvals (g : Nat → Option Value) (l : List (Nat × Operand)) : E (List (Nat × Value)) := @List.rec (Nat × Operand) (fun _ => E (List (Nat × Value))) (.ok []) (fun p _ ih => (val g p.2).bd fun v => ih.bd fun r => .ok ((p.1, v) :: r)) l
def buildS (P : Program) (t : TypeId) (parts : List (Nat × Value)) (u : TypeDesc) : E Value := (strF u).bd fun fs => (places P fs).bd fun pl => (zeroC P t).bd fun z => (fillG (fun i => E.of "place" (nth pl i)) parts z).bd fun cs => .ok (.agg ⟨cs⟩)
def buildV (P : Program) (t : TypeId) (parts : List (Nat × Value)) : E Value := (under P t).bd fun u => match u with
  | .array _ e => (size P e).bd fun sz => (zeroC P t).bd fun z => (fillG (fun k => .ok (Nat.mul k sz, sz)) parts z).bd fun cs => .ok (.agg ⟨cs⟩)
  | u => buildS P t parts u
def rep (n : Nat) (z : List Value) : List Value := @Nat.rec (fun _ => List Value) [] (fun _ l => z ++ l) n
end
inductive PR (ρ : Rho) : List (Nat × Value) → List (Nat × Value) → Prop
  | nil : PR ρ [] []
  | cons (i : Nat) {v v' : Value} {l l' : List (Nat × Value)} (h : VR ρ v v') (t : PR ρ l l') : PR ρ ((i, v) :: l) ((i, v') :: l')
section
variable {P : Program} {ρ : Rho} {t e : TypeId} {v v' : Value} {n : Nat} {g : Nat → Option Value} {a : Act}
theorem flats_ok : ∀ {l : List Value}, flats l = true → LR ρ l l
  | [], _ => .nil
  | v :: l, h => by
    change bl (flat v) (flats l) false = true at h
    cases hv : flat v with
    | false => rw [hv] at h; cases h
    | true => rw [hv] at h; exact .cons (.flat hv) (flats_ok (l := l) h)
theorem cells_eq (v : Value) : cells v = v.cells.toList := by cases v <;> rfl
theorem VR.cells (h : VR ρ v v') : LR ρ (cells v) v'.cells.toList := by
  rw [cells_eq]
  have key : ∀ u u' : Value, u.cells.toList = [u] → u'.cells.toList = [u'] → VR ρ u u' → LR ρ u.cells.toList u'.cells.toList := fun u u' e e' h => by
    rw [e, e']; exact .cons h .nil
  have hv : ∀ u : Value, Ke.flat u = true → u.cells.toList = [u] := fun u hu => by cases u <;> first | rfl | (simp [Ke.flat] at hu; done)
  cases h with
  | flat hf => exact key _ _ (hv _ hf) (hv _ hf) (.flat hf)
  | ptr h => exact key _ _ rfl rfl (.ptr h)
  | sl h hk hl => exact key _ _ rfl rfl (.sl h hk hl)
  | sl0 h => exact key _ _ rfl rfl (.sl0 h)
  | map h => exact key _ _ rfl rfl (.map h)
  | func hf hx hx2 hy hy2 => exact key _ _ rfl rfl (.func hf hx hx2 hy hy2)
  | iface t h => exact key _ _ rfl rfl (.iface t h)
  | agg hx hx2 => exact LR.arr hx hx2
  | tuple hx hx2 => exact key _ _ rfl rfl (.tuple hx hx2)
theorem pvals_ok (h : TR ρ n g a.tmps) : ∀ {l : List (Nat × Operand)} {vs : List (Nat × Value)}, pvals g l = .ok vs → PR ρ vs (l.map fun p => (p.1, a.eval p.2))
  | [], vs, e => by cases e; exact .nil
  | p :: l, vs, e => by
    obtain ⟨v, h1, h2⟩ := bd_ok (x := val g p.2) e
    obtain ⟨r, h3, h4⟩ := bd_ok h2
    cases h4
    exact .cons p.1 (val_ok h h1) (pvals_ok h h3)
theorem over_get (v : Array Value) (o : Nat) : ∀ (k : Nat) (l : List Value) (C : Array Value), k + l.length = v.size → (∀ j, j < l.length → l[j]? = v[k + j]?) → o + v.size ≤ C.size → 
    ((l.zipIdx k).foldl (fun (cs : Array Value) (p : Value × Nat) => cs.setIfInBounds (o + p.2) p.1) C).size = C.size ∧ ∀ i, ((l.zipIdx k).foldl (fun (cs : Array Value) (p : Value × Nat) => cs.setIfInBounds (o + p.2) p.1) C)[i]? = if o + k ≤ i ∧ i < o + v.size then v[i - o]? else C[i]?
  | k, [], C, hk, _, _ => ⟨rfl, fun i => by rw [if_neg (by simp at hk; omega)]; rfl⟩
  | k, x :: l, C, hk, hv, hC => by
    simp only [List.length_cons] at hk
    simp only [List.zipIdx_cons, List.foldl_cons]
    obtain ⟨h1, h2⟩ := over_get v o (k + 1) l (C.setIfInBounds (o + k) x) (by omega) (fun j hj => by
      have := hv (j + 1) (by simp; omega)
      simp only [List.getElem?_cons_succ] at this
      rw [this]; congr 1; omega) (by simpa using hC)
    refine ⟨by simpa using h1, fun i => ?_⟩
    rw [h2]
    by_cases h3 : o + (k + 1) ≤ i ∧ i < o + v.size
    · rw [if_pos h3, if_pos (by omega)]
    · rw [if_neg h3]
      by_cases h4 : i = o + k
      · subst h4
        rw [if_pos (by omega)]
        have h5 := hv 0 (by simp)
        simp only [List.getElem?_cons_zero, Nat.add_zero] at h5
        have h6 : o + k < C.size := by omega
        have h7 : o + k - o = k := by omega
        rw [h7, ← h5]
        simp [h6]
      · rw [if_neg (by omega), Array.getElem?_setIfInBounds_ne (by omega)]
theorem fillG_ok {place : Nat → E (Nat × Nat)} {place' : Nat → Option (Nat × Nat)} (hp : ∀ i q, place i = .ok q → place' i = some q) : ∀ {parts parts' : List (Nat × Value)}, PR ρ parts parts' → ∀ {cs r : List Value} {C : Array Value}, fillG place parts cs = .ok r → LR ρ cs C.toList → ∃ C', Instr.fill place' C parts' = some C' ∧ LR ρ r C'.toList
  | _, _, .nil, cs, r, C, e, h => by cases e; exact ⟨C, rfl, h⟩
  | _, _, .cons (v := v) (v' := v') (l := l) (l' := l') i hv ht, cs, r, C, e, h => by
    obtain ⟨q, h1, e1⟩ := bd_ok (x := place i) e
    rcases bl_ok e1 with ⟨h2, e2⟩ | ⟨_, e2⟩
    · obtain ⟨cs2, h3, e3⟩ := bd_ok e2
      obtain ⟨h4, rfl⟩ := pa_ok h3
      have h2 := Nat.eq_of_beq_eq_true h2
      have hvc := hv.cells
      have hl := hvc.length
      have hC := h.length
      simp at hl hC
      obtain ⟨off, sz⟩ := q
      dsimp only at h2 h4
      obtain ⟨g1, g2⟩ := over_get v'.cells off 0 v'.cells.toList C (by simp) (fun j hj => by simp) (by omega)
      obtain ⟨C', h5, h6⟩ := fillG_ok hp ht (C := (v'.cells.toList.zipIdx 0).foldl (fun (cs : Array Value) (p : Value × Nat) => cs.setIfInBounds (off + p.2) p.1) C) e3 (by
        refine LR.of ?_ ?_
        · simp; omega
        · intro j x y hx hy
          dsimp only at hx
          have hy : ((v'.cells.toList.zipIdx 0).foldl (fun (cs : Array Value) (p : Value × Nat) => cs.setIfInBounds (off + p.2) p.1) C)[j]? = some y := by simpa using hy
          rw [g2] at hy
          rw [List.append_assoc, List.getElem?_append] at hx
          have hto : (cs.take off).length = off := by simp; omega
          rw [hto] at hx
          split at hx
          · rename_i hj
            rw [List.getElem?_take, if_pos hj] at hx
            rw [if_neg (by omega)] at hy
            exact h.at j x y hx (by simpa using hy)
          · rename_i hj
            rw [List.getElem?_append] at hx
            split at hx
            · rw [if_pos (by omega)] at hy
              exact hvc.at _ x y hx (by simpa using hy)
            · rename_i hj2
              rw [List.getElem?_drop] at hx
              have hjj : off + (Ke.cells v).length + (j - off - (Ke.cells v).length) = j := by omega
              rw [hjj] at hx
              rw [if_neg (by omega)] at hy
              exact h.at j x y hx (by simpa using hy))
      refine ⟨C', ?_, h6⟩
      have hsz : v'.cells.size = sz := by omega
      have hb : ¬ off + v'.cells.size > C.size := by omega
      simp only [Instr.fill, hp i _ h1]
      rw [if_neg (by simp [hsz]; omega)]
      rw [← h5]
      congr 1
      rw [← Array.foldl_toList, Array.toList_zipIdx]
    · cases e2
theorem places_ok : ∀ {fs : List Field} {pl : List (Nat × Nat)}, places P fs = .ok pl → fs.mapM (fun f => (P.info? f.type).map fun i => (f.offset, i.size)) = some pl
  | [], pl, e => by cases e; rfl
  | f :: fs, pl, e => by
    obtain ⟨n, h1, e1⟩ := bd_ok (x := size P f.type) e
    obtain ⟨r, h2, e2⟩ := bd_ok e1
    cases e2
    obtain ⟨i, h3, rfl⟩ := size_ok h1
    simp [List.mapM_cons, h3, places_ok h2]
theorem zeroC_ok {z : List Value} (e : zeroC P t = .ok z) : ∃ i zv, P.info? t = some i ∧ i.zero = some zv ∧ zv.cells.toList = z ∧ LR ρ z z := by
  obtain ⟨zv, h1, e1⟩ := bd_ok e
  obtain ⟨i, h2, h3⟩ := zero_ok h1
  rcases bl_ok e1 with ⟨h4, e2⟩ | ⟨_, e2⟩ <;> cases e2
  exact ⟨i, zv, h2, h3, (cells_eq zv).symm, flats_ok h4⟩
theorem buildV_ok {parts parts' : List (Nat × Value)} (e : buildV P t parts = .ok v) (hp : PR ρ parts parts') : ∃ v', VR ρ v v' ∧ ∀ w, (Instr.build t parts'.toArray).run P w = .ok v' w := by
  obtain ⟨u, h1, e1⟩ := bd_ok e
  have hu := under_ok h1
  clear e h1
  split at e1
  · rename_i len el
    obtain ⟨sz, h2, e2⟩ := bd_ok e1
    obtain ⟨info, h3, rfl⟩ := size_ok h2
    obtain ⟨z, h4, e4⟩ := bd_ok e2
    obtain ⟨cs, h5, e5⟩ := bd_ok e4
    cases e5
    obtain ⟨i, zv, g1, g2, rfl, g3⟩ := zeroC_ok (ρ := ρ) h4
    obtain ⟨C', g4, g5⟩ := fillG_ok (place' := fun k => some (k * info.size, info.size)) (fun k q hq => by cases hq; rfl) hp (C := zv.cells) h5 g3
    refine ⟨.agg C', VR.mkAgg g5, fun w => run_build w t _ C' ?_⟩
    simp only [Program.built, g1, hu, g2, h3]
    simpa using g4
  · obtain ⟨fs, h2, e2⟩ := bd_ok e1
    obtain ⟨pl, h3, e3⟩ := bd_ok e2
    obtain ⟨z, h4, e4⟩ := bd_ok e3
    obtain ⟨cs, h5, e5⟩ := bd_ok e4
    cases e5
    obtain ⟨fs, rfl, rfl⟩ := strF_ok h2
    obtain ⟨i, zv, g1, g2, rfl, g3⟩ := zeroC_ok (ρ := ρ) h4
    obtain ⟨C', g4, g5⟩ := fillG_ok (place' := (pl.toArray[·]?)) (fun k q hq => by
      have := of_ok hq
      rw [nth_eq] at this
      simpa using this) hp (C := zv.cells) h5 g3
    refine ⟨.agg C', VR.mkAgg g5, fun w => run_build w t _ C' ?_⟩
    simp only [Program.built, g1, hu, g2, places_ok h3]
    simpa using g4
theorem rep_length (z : List Value) : ∀ n, (rep n z).length = n * z.length
  | 0 => by show ([] : List Value).length = _; simp
  | n + 1 => by
    show (z ++ rep n z).length = _
    rw [List.length_append, rep_length z n, Nat.add_mul]; omega
theorem rep_get (z : List Value) : ∀ (n i : Nat), i < n * z.length → (rep n z)[i]? = z[i % z.length]?
  | 0, i, h => by simp at h
  | n + 1, i, h => by
    show (z ++ rep n z)[i]? = _
    rw [List.getElem?_append]
    split
    · rename_i h1; rw [Nat.mod_eq_of_lt h1]
    · rename_i h1
      have h2 : i = i - z.length + z.length := by omega
      rw [rep_get z n (i - z.length) (by rw [Nat.add_mul] at h; omega)]
      conv => rhs; rw [h2, Nat.add_mod_right]
theorem rep_made {z : Array Value} (n k : Nat) (hk : z.size = k) : (madeCells z (n * k)).toList = rep n z.toList := by
  subst hk
  apply List.ext_getElem?
  intro i
  by_cases h : i < n * z.size
  · have h0 : 0 < z.size := Nat.pos_of_ne_zero fun e => by rw [e] at h; omega
    rw [rep_get z.toList n i (by simpa using h)]
    have h1 : i % z.size < z.size := Nat.mod_lt _ h0
    simp [madeCells, h, h1]
  · rw [List.getElem?_eq_none (by simp [madeCells]; omega), List.getElem?_eq_none (by rw [rep_length]; simp; omega)]
theorem LR.rep {z z' : List Value} (h : LR ρ z z') : ∀ n, LR ρ (rep n z) (rep n z')
  | 0 => .nil
  | n + 1 => h.append (LR.rep h n)
end
end Go.Ke
