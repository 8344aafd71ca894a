/- Loads, stores, new blocks: the laws. Conditions: none. Slices that are made, and append: the laws. Conditions: none. Append where it is not known whether there is room: in the block itself. Conditions: none. -/
import Derived.Test.YtfcplpeimcjhaaaGreatDoorKKa
import Derived.Test.YtfcplpeimcjhaaaGreatDoorKE
namespace Go.Ke
open Go.RowKit
noncomputable section
inductive R | val (v : Value) (W : AW) | skip (W : AW) | enter (f : FuncId) (xs : List Value) (W : AW) | yield (l : Nat) (xs : List Value) (W : AW)
def loadV (P : Program) (W : AW) (t : TypeId) (x : Value) : E Value := (asA x).bd fun a => (under P t).bd fun u => bl (agg? u) ((size P t).bd fun n => (W.loadN a n).bd fun l => .ok (.agg ⟨l⟩)) (W.load1 a)
def storeV (P : Program) (W : AW) (t : TypeId) (x y : Value) : E R := (asA x).bd fun a => (size P t).bd fun n => bl (Nat.beq (cells y).length n) ((W.put a.block a.off (cells y)).bd fun W => .ok (.skip W)) (.er "store")
/-- how a new block is handed on: by a pointer, as a slice of l elements with the capacity k, as a map -/
inductive Sh | ptr | sl (l k : Nat) | map
abbrev AC := List Value × Sh
def mkV (sh : Sh) (b : Nat) : Value := @Sh.rec (fun _ => Value) (.pointer (some ⟨b, 0, none⟩)) (fun l k => .slice (some ⟨b, 0, none⟩) l k) (.map (some b)) sh
def aoC (p : AC) : AO := @Sh.rec (fun _ => AO) (.live [] p.1) (fun _ _ => .live [] p.1) (.map []) p.2
def newA (W : AW) (p : AC) : E R := W.newK (aoC p) fun b W => .ok (.val (mkV p.2 b) W)
def allocC (P : Program) (t : TypeId) : E AC := (zeroC P t).bd fun z => .ok (z, .ptr)
def buildC (P : Program) (t : TypeId) (n : Nat) (parts : List (Nat × Value)) : E AC := (under P t).bd fun u => match u with
  | .slice e => (size P e).bd fun s => (zeroC P e).bd fun z => bl (Nat.beq z.length s) (bl (Nat.blt 0 (Nat.mul n s)) (bl (Nat.ble (Nat.mul n s) 16777216)
      ((fillG (fun i => .ok (Nat.mul i s, s)) parts (rep n z)).bd fun cs => .ok (cs, .sl n (Nat.add (Nat.mul 3 n) 1))) (.er "buildSlice")) (bl (Nat.beq n 0) ((fillG (fun i => .ok (Nat.mul i s, s)) parts []).bd fun cs => .ok (cs, .sl 0 1)) (.er "buildSlice"))) (.er "buildSlice")
  | _ => .er "buildSlice"
def makeC (P : Program) (t : TypeId) (l c : Value) : E AC := (under P t).bd fun u => match u with
  | .slice e => (asN l).bd fun l => (asN c).bd fun c => (zeroC P e).bd fun z => @Option.rec TypeInfo (fun _ => E AC) (.er "make") (fun i => bl (Nat.beq z.length i.size) (bl (Nat.ble l c) (bl (Nat.ble (Nat.mul i.bytes c) 281474976710656) (bl (Nat.ble c 9223372036854775807)
      (.ok (rep c z, .sl l (Nat.add (Nat.mul 3 c) 1))) (.er "make")) (.er "make")) (.er "make")) (.er "make")) (P.info? e)
  | _ => .er "make"
def mapC (P : Program) (t : TypeId) (r : Option Value) : E AC := @Option.rec Value (fun _ => E AC) (.ok ([], .map)) (fun v => (under P t).bd fun u => (mapT u).bd fun _ => (asI v).bd fun _ => .ok ([], .map)) r
end
/-- what an operation gives, in both worlds -/
def RR (P : Program) (ρ : Rho) (W : AW) (w : World) (r : R) (s : Sem Next) : Prop := match r with
  | .val v W' => ∃ v' w' ρ', s.run P w = .ok (.value v') w' ∧ VR ρ' v v' ∧ WR ρ' W' w' ∧ Up ρ W w ρ' W' w'
  | .skip W' => ∃ w' ρ', s.run P w = .ok .skip w' ∧ WR ρ' W' w' ∧ Up ρ W w ρ' W' w'
  | .enter f xs W' => ∃ xs', LR ρ xs xs'.toList ∧ W' = W ∧ s.run P w = (callFunc f xs').run P w
  | .yield l xs W' => ∃ l' m xs', ρ l = some (l', m) ∧ LR ρ xs xs'.toList ∧ W' = W ∧ s.run P w = (Instr.yield l' xs').run P w
section
variable {P : Program} {ρ : Rho} {t : TypeId} {x x' y y' v : Value} {W : AW} {w : World} {r : R}
theorem loadV_ok (e : loadV P W t x = .ok v) (hx : VR ρ x x') (h : WR ρ W w) : ∃ v', VR ρ v v' ∧ (Instr.loadAt t x').run P w = .ok v' w := by
  obtain ⟨a, h1, e1⟩ := bd_ok e
  obtain ⟨u, h2, e2⟩ := bd_ok e1
  rw [asA_ok h1] at hx
  obtain ⟨c, m, hc, hsp, rfl⟩ := hx.psome
  have hu := under_ok h2
  rcases bl_ok e2 with ⟨h3, e3⟩ | ⟨h3, e3⟩
  · obtain ⟨n, h4, e4⟩ := bd_ok e3
    obtain ⟨l, h5, e5⟩ := bd_ok e4
    cases e5
    obtain ⟨i, h6, rfl⟩ := size_ok h4
    obtain ⟨l', h7, h8, h9⟩ := loadN_ok h h5 hc
    refine ⟨_, VR.mkAgg h8, run_loadAt_mid w c a.off t l' u h7 hu ?_ (by rw [h6]; simp [← h8.length, h9])⟩
    cases u <;> first | rfl | cases h3
  · obtain ⟨v', h4, h5⟩ := load1_ok h e3 hc
    refine ⟨v', h5, ?_⟩
    simp [Instr.loadAt, Instr.sureAddr, loadVar, Sem.run_bind, run_isAgg hu, h3, h4]
theorem storeV_ok (e : storeV P W t x y = .ok r) (hx : VR ρ x x') (hy : VR ρ y y') (h : WR ρ W w) : ∃ W', r = .skip W' ∧ ∃ w', (Instr.storeAt t x' y').run P w = .ok () w' ∧ WR ρ W' w' ∧ Up ρ W w ρ W' w' := by
  obtain ⟨a, h1, e1⟩ := bd_ok e
  obtain ⟨n, h2, e2⟩ := bd_ok e1
  rw [asA_ok h1] at hx
  obtain ⟨c, m, hc, hsp, rfl⟩ := hx.psome
  obtain ⟨i, h6, rfl⟩ := size_ok h2
  rcases bl_ok e2 with ⟨h3, e3⟩ | ⟨_, e3⟩
  · obtain ⟨W', h4, e4⟩ := bd_ok e3
    cases e4
    have h3 := Nat.eq_of_beq_eq_true h3
    have hcs := hy.cells
    obtain ⟨g1, g2, g3, g4⟩ := put_ok h h4 hc hcs
    refine ⟨W', rfl, _, ?_, g3, g4⟩
    have hst := run_storeCells_cells (P := P) c a.off y'.cells.toList 0 w (fun j hj => by simpa using (g1 j hj).1) (fun j hj => by simpa using (g1 j hj).2) g2
    simp only [Nat.add_zero] at hst
    have hs : y'.cells.size = i.size := by rw [← h3, hcs.length]; simp
    simp [Instr.storeAt, Instr.sureAddr, storeVar, sizeOf, typeInfo, h6, hs, hst]
  · cases e3
/-- an operation that makes a block, in whatever world -/
def AS (P : Program) (ρ : Rho) (p : AC) (s : Sem Next) : Prop := ∀ w : World, ∃ (ob : Obj) (n : Nat) (v' : Value) (w' : World), s.run P w = .ok (.value v') w' ∧ Ps w w' ob ∧ OR ρ n (aoC p) ob ∧ ∀ (ρ' : Rho) (b : Nat), ρ' b = some (w.heap.size, n) → VR ρ' (mkV p.2 b) v'
/-- one whose block has cells -/
def AV (P : Program) (ρ : Rho) (p : AC) (sv : Sem Value) : Prop := aoC p = .live [] p.1 ∧ ∀ w : World, ∃ (C : Array Value) (elem : TypeId) (v' : Value), sv.run P w = .ok v' (w.alloc (.cells C elem)) ∧ LR ρ p.1 C.toList ∧ ∀ (ρ' : Rho) (b : Nat), ρ' b = some (w.heap.size, C.size) → VR ρ' (mkV p.2 b) v'
theorem AS.of {p : AC} {s : Sem Next} {sv : Sem Value} (hs : s = (do pure (.value (← sv)))) (h : AV P ρ p sv) : AS P ρ p s := by
  intro w
  obtain ⟨h0, h⟩ := h
  obtain ⟨C, elem, v', h1, h2, h3⟩ := h w
  refine ⟨.cells C elem (0, 0), C.size, v', w.alloc (.cells C elem), by rw [hs]; simp [h1], ⟨rfl, rfl, rfl, rfl⟩, ?_, h3⟩
  rw [h0]
  exact ⟨fun i v hv => by
    obtain ⟨u, h4, h5⟩ := h2.get hv
    exact ⟨u, by simpa using h4, h5⟩, rfl, .inr (Nat.le_refl _)⟩
theorem aoC_al {p : AC} {al : List Nat} {cs : List Value} (h : aoC p = .live al cs) : al = [] := by
  obtain ⟨l, sh⟩ := p
  cases sh <;> cases h <;> rfl
theorem newA_ok {p : AC} {s : Sem Next} (e : newA W p = .ok r) (hp : AS P ρ p s) (h : WR ρ W w) : RR P ρ W w r s := by
  obtain ⟨H, h1, e1⟩ := newK_ok e
  cases e1
  obtain ⟨ob, n, v', w', h2, h3, h4, h6⟩ := hp w
  obtain ⟨h7, h8⟩ := new_ok (m := n) h h1 (fun al cs e x hx => by rw [aoC_al e] at hx; cases hx) (h4.mono (h.le_upd _ _)) h3
  exact ⟨v', w', _, h2, h6 _ _ upd_self, h7, h8⟩
theorem mapC_ok {p : AC} {r r' : Option Value} (e : mapC P t r = .ok p) (hr : OV ρ r r') : AS P ρ p (do pure (.value (← Instr.makeMap t r'))) := by
  have hn : ∀ w, (newObj (.map #[] 0)).run P w = .ok w.heap.size (w.alloc (.map #[] 0)) := fun w => rfl
  have key : p = ([], .map) ∧ ∀ w, (Instr.makeMap t r').run P w = .ok (.map (some w.heap.size)) (w.alloc (.map #[] 0)) := by
    cases hr with
    | none =>
      cases e
      exact ⟨rfl, fun w => by simp only [Instr.makeMap, Sem.run_bind, Sem.run_pure, hn, Result.andThen_ok]⟩
    | some hv =>
      obtain ⟨u, h1, e1⟩ := bd_ok (x := under P t) e
      obtain ⟨q, h2, e2⟩ := bd_ok e1
      obtain ⟨n, h3, e3⟩ := bd_ok e2
      cases e3
      have hu := under_ok h1
      rw [mapT_ok h2] at hu
      obtain ⟨k, rfl⟩ := asI_ok h3
      rw [hv.int]
      exact ⟨rfl, fun w => by simp only [Instr.makeMap, Sem.run_bind, run_underlying hu, asInt, asIntOf, Sem.run_pure, hn, Result.andThen_ok]⟩
  obtain ⟨rfl, h⟩ := key
  intro w
  refine ⟨.map #[] 0, 0, _, w.alloc (.map #[] 0), by simp only [Sem.run_bind, h w, Result.andThen_ok, Sem.run_pure], ⟨rfl, rfl, rfl, rfl⟩, ?_, fun ρ' b hb => .map hb⟩
  exact ⟨rfl, List.nodup_nil, List.nodup_nil, fun k v hm => (by cases hm), fun e he => (by cases he)⟩
theorem allocC_ok {p : AC} (e : allocC P t = .ok p) : AV P ρ p (Instr.alloc t true (.tuple #[])) := by
  obtain ⟨z, h1, e1⟩ := bd_ok e
  cases e1
  obtain ⟨i, zv, g1, g2, rfl, g3⟩ := zeroC_ok (ρ := ρ) h1
  refine ⟨rfl, fun w => ?_⟩
  exact ⟨zv.cells, t, _, by simp [Instr.alloc, zeroValue, typeInfo, g1, g2, newVar, newRow], g3, fun ρ' b hb => .ptr hb⟩
theorem boxC_ok (hx : VR ρ x x') : AV P ρ (cells x, .ptr) (Instr.box t x') := by
  refine ⟨rfl, fun w => ?_⟩
  exact ⟨x'.cells, t, _, by simp [Instr.box, newVar, newRow], hx.cells, fun ρ' b hb => .ptr hb⟩
end
end Go.Ke
namespace Go.Ke
open Go.RowKit
section
variable {P : Program} {ρ : Rho} {t : TypeId} {x x' y y' v : Value} {W : AW} {w : World} {r : R}
theorem buildC_ok {n : Nat} {p : AC} {parts parts' : List (Nat × Value)} (e : buildC P t n parts = .ok p) (hp : PR ρ parts parts') : AV P ρ p (Instr.buildSlice t n parts'.toArray) := by
  obtain ⟨u, h1, e1⟩ := bd_ok e
  have hu := under_ok h1
  clear e h1
  refine ⟨?_, fun w => ?_⟩
  · split at e1
    · obtain ⟨s, h2, e2⟩ := bd_ok e1
      obtain ⟨z, h3, e3⟩ := bd_ok e2
      rcases bl_ok e3 with ⟨k1, e4⟩ | ⟨_, e4⟩
      · rcases bl_ok e4 with ⟨k2, e5⟩ | ⟨k2, e5⟩
        · rcases bl_ok e5 with ⟨k3, e6⟩ | ⟨_, e6⟩
          · obtain ⟨cs, k4, e7⟩ := bd_ok e6
            cases e7; rfl
          · cases e6
        · rcases bl_ok e5 with ⟨k3, e6⟩ | ⟨_, e6⟩
          · obtain ⟨cs, k4, e7⟩ := bd_ok e6
            cases e7; rfl
          · cases e6
      · cases e4
    · cases e1
  split at e1
  · rename_i el
    obtain ⟨s, h2, e2⟩ := bd_ok e1
    obtain ⟨z, h3, e3⟩ := bd_ok e2
    obtain ⟨i, zv, g1, g2, rfl, g3⟩ := zeroC_ok (ρ := ρ) h3
    obtain ⟨i', g4, rfl⟩ := size_ok h2
    rw [g1] at g4; cases g4
    rcases bl_ok e3 with ⟨k1, e4⟩ | ⟨_, e4⟩
    · have k1 : zv.cells.size = i.size := by simpa using Nat.eq_of_beq_eq_true k1
      rcases bl_ok e4 with ⟨k2, e5⟩ | ⟨k2, e5⟩
      · rw [Nat.blt_eq] at k2
        have k2 : 0 < n * i.size := k2
        rcases bl_ok e5 with ⟨k3, e6⟩ | ⟨_, e6⟩
        · have k3 : n * i.size ≤ 16777216 := Nat.le_of_ble_eq_true k3
          obtain ⟨cs, k4, e7⟩ := bd_ok e6
          cases e7
          have hrep : LR ρ (rep n zv.cells.toList) (madeCells zv.cells (n * i.size)).toList := by
            rw [rep_made n i.size k1]; exact g3.rep n
          obtain ⟨C', g5, g6⟩ := fillG_ok (place' := fun k => some (k * i.size, i.size)) (fun k q hq => by cases hq; rfl) hp (C := madeCells zv.cells (n * i.size)) k4 hrep
          refine ⟨C', el, _, run_buildSlice w t el n _ C' i zv hu g1 g2 (by omega) (by omega) (by simpa [madeCells] using g5), g6, fun ρ' b hb => ?_⟩
          exact .sl hb (.inl (by show 3 * n + 1 = _; rfl)) (Nat.le_refl _)
        · cases e6
      · rcases bl_ok e5 with ⟨k3, e6⟩ | ⟨_, e6⟩
        · have k3 := Nat.eq_of_beq_eq_true k3
          subst k3
          obtain ⟨cs, k4, e7⟩ := bd_ok e6
          cases e7
          obtain ⟨C', g5, g6⟩ := fillG_ok (place' := fun k => some (k * i.size, i.size)) (fun k q hq => by cases hq; rfl) hp (C := #[]) k4 .nil
          refine ⟨C', el, .slice (some ⟨w.heap.size, 0, none⟩) 0 0, ?_, g6, fun ρ' b hb => .sl hb (.inl rfl) (Nat.le_refl _)⟩
          simp [Instr.buildSlice, run_underlying hu, sizeOf, typeInfo, g1, g5, newRow, Array.range_zero']
        · cases e6
    · cases e4
  · cases e1
theorem makeC_ok {l l' c c' : Value} {p : AC} (e : makeC P t l c = .ok p) (hl : VR ρ l l') (hc : VR ρ c c') : AV P ρ p (Instr.makeSlice t l' c') := by
  obtain ⟨u, h1, e1⟩ := bd_ok e
  have hu := under_ok h1
  clear e h1
  refine ⟨?_, fun w => ?_⟩
  · split at e1
    · obtain ⟨ln, h2, e2⟩ := bd_ok e1
      obtain ⟨cn, h3, e3⟩ := bd_ok e2
      obtain ⟨z, h4, e4⟩ := bd_ok e3
      rename_i el
      obtain ⟨i, zv, g1, g2, rfl, g3⟩ := zeroC_ok (ρ := ρ) h4
      rw [g1] at e4
      rcases bl_ok e4 with ⟨k1, e5⟩ | ⟨_, e5⟩
      · rcases bl_ok e5 with ⟨k2, e6⟩ | ⟨_, e6⟩
        · rcases bl_ok e6 with ⟨k3, e7⟩ | ⟨_, e7⟩
          · rcases bl_ok e7 with ⟨k4, e8⟩ | ⟨_, e8⟩
            · cases e8; rfl
            · cases e8
          · cases e7
        · cases e6
      · cases e5
    · cases e1
  split at e1
  · rename_i el
    obtain ⟨ln, h2, e2⟩ := bd_ok e1
    obtain ⟨cn, h3, e3⟩ := bd_ok e2
    obtain ⟨z, h4, e4⟩ := bd_ok e3
    obtain ⟨kl, rfl⟩ := asN_ok h2
    obtain ⟨kc, rfl⟩ := asN_ok h3
    rw [hl.int, hc.int]
    obtain ⟨i, zv, g1, g2, rfl, g3⟩ := zeroC_ok (ρ := ρ) h4
    rw [g1] at e4
    rcases bl_ok e4 with ⟨k1, e5⟩ | ⟨_, e5⟩
    · have k1 : zv.cells.size = i.size := by simpa using Nat.eq_of_beq_eq_true k1
      rcases bl_ok e5 with ⟨k2, e6⟩ | ⟨_, e6⟩
      · have k2 := Nat.le_of_ble_eq_true k2
        rcases bl_ok e6 with ⟨k3, e7⟩ | ⟨_, e7⟩
        · have k3 : i.bytes * cn ≤ 281474976710656 := Nat.le_of_ble_eq_true k3
          rcases bl_ok e7 with ⟨k4, e8⟩ | ⟨_, e8⟩
          · have k4 := Nat.le_of_ble_eq_true k4
            cases e8
            have hrep : LR ρ (rep cn zv.cells.toList) (madeCells zv.cells (cn * i.size)).toList := by
              rw [rep_made cn i.size k1]; exact g3.rep cn
            have hb : (i.bytes : Int) * (cn : Int) ≤ 281474976710656 := by
              have : ((i.bytes * cn : Nat) : Int) ≤ 281474976710656 := by omega
              rwa [Int.natCast_mul] at this
            have hr := run_make (P := P) w t el i zv hu g1 g2 kl kc ln cn (by omega) (by omega) hb (by omega)
            simp only [Int.toNat_natCast] at hr
            exact ⟨_, el, _, hr, hrep, fun ρ' b hb => .sl hb (.inl rfl) k2⟩
          · cases e8
        · cases e7
      · cases e6
    · cases e5
  · cases e1
end
end Go.Ke
namespace Go.Ke
section
variable {ρ ρ' : Rho} {W W' : AW} {w w' : World} {P : Program} {b c m o : Nat} {cs xs xs' : List Value} {ao : AO} {ob : Obj} {H H2 : T AO} {al : List Nat}
theorem room_ok (h : WR ρ W w) (hb : ρ b = some (c, m)) (e1 : W.heap.get b = some (.live al cs)) (e : W.heap.set 40 b (.stale cs) = .ok H) (e2 : H.set 40 W.next (.live (b :: al) (cs ++ xs)) = .ok H2) (hx : LR ρ xs xs') (hroom : cs.length + xs.length ≤ m) :
    WR (upd ρ W.next c m) ⟨H2, W.next + 1⟩ (w.setCells c cs.length xs') ∧ Up ρ W w (upd ρ W.next c m) ⟨H2, W.next + 1⟩ (w.setCells c cs.length xs') := by
  obtain ⟨hbn, ao', ob, h3, h4, h5⟩ := h.dom b c m hb
  rw [e1] at h3; cases h3
  cases ob <;> simp only [OR] at h5
  rename_i C t fz
  have hlen := hx.length
  have hCs := h5.size
  obtain ⟨C', g1, g2, g3⟩ := heap_setCells xs' cs.length h4 (by omega)
  have hle := h.le_upd c m
  have hget : ∀ x, H2.get x = if x = W.next then some (.live (b :: al) (cs ++ xs)) else if x = b then some (.stale cs) else W.heap.get x := fun x => by rw [set_get 40 e2 x, set_get 40 e x]
  have hu : ∀ b1 c1 n1, upd ρ W.next c m b1 = some (c1, n1) → (b1 = W.next ∧ c1 = c ∧ n1 = m) ∨ (b1 ≠ W.next ∧ ρ b1 = some (c1, n1)) := by
    intro b1 c1 n1 e1
    by_cases hb : b1 = W.next
    · simp [upd, hb] at e1; exact .inl ⟨hb, e1.1.symm, e1.2.symm⟩
    · simp [upd, hb] at e1; exact .inr ⟨hb, e1⟩
  have old : ∀ b1 n1, ρ b1 = some (c, n1) → b1 ≠ b → W.heap.get b1 = some .dead ∨ (b1 ∈ al ∧ ∃ cs', W.heap.get b1 = some (.stale cs') ∧ cs'.length ≤ cs.length) := fun b1 n1 k1 k2 => h.al b1 b c n1 m al cs k1 hb k2 e1
  have pre : ∀ cs1 : List Value, cs1.length ≤ cs.length → CC ρ cs1 C fz m → CC (upd ρ W.next c m) cs1 C' fz m := by
    intro cs1 hl hc
    refine ⟨fun i v hv => ?_, by rw [g2, hCs], hc.nf⟩
    have hi := (List.getElem?_eq_some_iff.1 hv).1
    obtain ⟨v', k1, k2⟩ := hc.at_ i v hv
    exact ⟨v', by rw [g3, if_neg (by omega)]; exact k1, k2.mono hle⟩
  have hne : ∀ b1, ρ b1 ≠ none → b1 ≠ W.next := fun b1 k e => k (by rw [e]; exact h.fresh)
  refine ⟨⟨?_, ?_, ?_, ?_, ?_⟩, ⟨hle, Nat.le_succ _, ?_, by rw [size_setCells']; exact Nat.le_refl _, ?_, ?_, env_setCells _ _ _, ty_setCells h4 (by omega)⟩⟩
  · intro b1 c1 n1 k
    rcases hu b1 c1 n1 k with ⟨rfl, rfl, rfl⟩ | ⟨k0, k1⟩
    · refine ⟨Nat.lt_succ_self _, .live (b :: al) (cs ++ xs), _, by rw [hget, if_pos rfl], g1, ⟨fun i v hv => ?_, by rw [g2, hCs], h5.nf⟩⟩
      rw [List.getElem?_append] at hv
      split at hv
      · rename_i hi
        obtain ⟨v', k1, k2⟩ := h5.at_ i v hv
        exact ⟨v', by rw [g3, if_neg (by omega)]; exact k1, k2.mono hle⟩
      · rename_i hi
        obtain ⟨v', k1, k2⟩ := hx.get hv
        have hi2 := (List.getElem?_eq_some_iff.1 hv).1
        exact ⟨v', by rw [g3, if_pos (by omega)]; exact k1, k2.mono hle⟩
    · obtain ⟨j1, ao1, o1, j2, j3, j4⟩ := h.dom b1 c1 n1 k1
      refine ⟨Nat.lt_succ_of_lt j1, ?_⟩
      by_cases hbb : b1 = b
      · subst hbb
        rw [hb] at k1; cases k1
        exact ⟨.stale cs, _, by rw [hget, if_neg k0, if_pos rfl], g1, pre cs (Nat.le_refl _) h5⟩
      · by_cases hcc : c1 = c
        · subst hcc
          rw [h4] at j3; cases j3
          rcases old b1 n1 k1 hbb with hd | ⟨_, cs3, hs, hl3⟩
          · exact ⟨.dead, _, by rw [hget, if_neg k0, if_neg hbb]; exact hd, g1, trivial⟩
          · rw [hs] at j2; cases j2
            have j5 : CC ρ cs3 C fz n1 := j4
            have : n1 = m := by rw [← j5.size, hCs]
            subst this
            exact ⟨.stale cs3, _, by rw [hget, if_neg k0, if_neg hbb]; exact hs, g1, pre cs3 hl3 j5⟩
        · exact ⟨ao1, o1, by rw [hget, if_neg k0, if_neg hbb]; exact j2, by rw [heap_setCells_ne hcc]; exact j3, j4.mono hle⟩
  · intro b1 b2 c1 n1 n2 al2 cs2 k1 k2 hne2 hg
    rw [hget] at hg
    show H2.get b1 = some .dead ∨ (_ ∧ ∃ cs', H2.get b1 = _ ∧ _)
    rcases hu b2 c1 n2 k2 with ⟨rfl, rfl, rfl⟩ | ⟨j0, j1⟩
    · rw [if_pos rfl] at hg; cases hg
      rcases hu b1 _ n1 k1 with ⟨rfl, _⟩ | ⟨i0, i1⟩
      · exact absurd rfl hne2
      · rw [hget, if_neg i0]
        by_cases hbb : b1 = b
        · subst hbb
          exact .inr ⟨List.mem_cons_self .., cs, by rw [if_pos rfl], by simp⟩
        · rw [if_neg hbb]
          rcases old b1 n1 i1 hbb with hd | ⟨hm, cs3, hs, hl3⟩
          · exact .inl hd
          · exact .inr ⟨List.mem_cons_of_mem _ hm, cs3, hs, by simp; omega⟩
    · rw [if_neg j0] at hg
      by_cases hbb : b2 = b
      · rw [if_pos hbb] at hg; cases hg
      · rw [if_neg hbb] at hg
        have nolive : ∀ n3, ρ b = some (c1, n3) → False := fun n3 k => by
          rcases h.al b b2 c1 n3 n2 al2 cs2 k j1 (Ne.symm hbb) hg with hd | ⟨_, cs3, hs, _⟩
          · rw [e1] at hd; cases hd
          · rw [e1] at hs; cases hs
        rcases hu b1 c1 n1 k1 with ⟨rfl, rfl, rfl⟩ | ⟨i0, i1⟩
        · exact (nolive _ hb).elim
        · have hb1 : b1 ≠ b := fun e => nolive n1 (e ▸ i1)
          rw [hget, if_neg i0, if_neg hb1]
          exact h.al b1 b2 c1 n1 n2 al2 cs2 i1 j1 hne2 hg
  · intro b1 p al1 cs1 k1 hg x hxm
    rw [hget] at hg
    rcases hu b1 p.1 p.2 k1 with ⟨rfl, _, _⟩ | ⟨i0, i1⟩
    · rw [if_pos rfl] at hg; cases hg
      rcases List.mem_cons.1 hxm with rfl | hxm
      · exact ⟨_, hle _ _ hb⟩
      · obtain ⟨p', hp'⟩ := h.ald b _ al cs hb e1 x hxm
        exact ⟨p', hle _ _ hp'⟩
    · rw [if_neg i0] at hg
      by_cases hbb : b1 = b
      · rw [if_pos hbb] at hg; cases hg
      · rw [if_neg hbb] at hg
        obtain ⟨p', hp'⟩ := h.ald b1 p al1 cs1 i1 hg x hxm
        exact ⟨p', hle _ _ hp'⟩
  · intro b1 b2 c1 n1 n2 ao2 k1 k2 hg hC
    rw [hget] at hg
    rcases hu b2 c1 n2 k2 with ⟨rfl, _, _⟩ | ⟨j0, j1⟩
    · rw [if_pos rfl] at hg; cases hg; cases hC
    · rw [if_neg j0] at hg
      by_cases hbb : b2 = b
      · rw [if_pos hbb] at hg; cases hg; cases hC
      · rw [if_neg hbb] at hg
        rcases hu b1 c1 n1 k1 with ⟨rfl, rfl, rfl⟩ | ⟨i0, i1⟩
        · exact absurd (h.inj b b2 c1 n1 n2 ao2 hb j1 hg hC).symm hbb
        · exact h.inj b1 b2 c1 n1 n2 ao2 i1 j1 hg hC
  · intro b1 hb1
    show H2.get b1 = none
    have hb1 : W.next + 1 ≤ b1 := hb1
    rw [hget, if_neg (by omega), if_neg (by omega), h.top b1 (by omega)]
  · intro b1 hb1 hn
    have k0 : b1 ≠ W.next := by omega
    have k1 : b1 ≠ b := fun e => by rw [e, hb] at hn; cases hn
    exact ⟨by simp [upd, k0, hn], fun _ e9 => by show H2.get b1 = _; rw [hget, if_neg k0, if_neg k1]; exact e9⟩
  · intro c1 _ hn
    exact heap_setCells_ne (fun e => hn b m (by rw [hb, e])) _ _ _
  · intro b1 c1 n1 k
    rcases hu b1 c1 n1 k with ⟨rfl, rfl, rfl⟩ | ⟨k0, k1⟩
    · exact .inl ⟨b, n1, hb⟩
    · exact .inl ⟨b1, n1, k1⟩
end
end Go.Ke
