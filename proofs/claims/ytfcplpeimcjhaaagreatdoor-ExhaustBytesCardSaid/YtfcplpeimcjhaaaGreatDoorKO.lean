/- Append. Conditions: none. -/
import Derived.Test.YtfcplpeimcjhaaaGreatDoorKN
namespace Go.Ke
open Go.RowKit
noncomputable section
def bytesV (l : List UInt8) : List Value := l.map fun b => .int .u8 b.toNat
def srcV (P : Program) (W : AW) (sz : Nat) (tx : TypeId) (x : Value) : E (Nat × List Value) := (under P tx).bd fun u => match u, x with
  | .slice _, .slice none n _ => bl (Nat.beq n 0) (.ok (0, [])) (.er "src")
  | .slice _, .slice (some a) n _ => bl (Nat.beq n 0) (.ok (0, [])) ((W.loadN a (Nat.mul n sz)).bd fun l => bl (one1 l) (.ok (n, l)) (.er "src"))
  | .string, .string s => bl (Nat.beq sz 1) (.ok (s.data.toList.length, bytesV s.data.toList)) (.er "src")
  | _, _ => .er "src"
def newU (W : AW) (al : List Nat) (cs : List Value) (n sz : Nat) : E R := W.newK (.live al cs) fun b W => .ok (.val (.slice (some ⟨b, 0, none⟩) n (Nat.mul 3 sz)) W)
def fitsB (n b : Nat) : Bool := bl (Nat.ble (Nat.mul n b) 140737488355328) (Nat.ble n 9223372036854775807) false
def liveC (ao : AO) : E (List Nat × List Value) := @AO.rec (fun _ => E (List Nat × List Value)) (.er "dead") (fun _ => .er "stale") (fun al cs => .ok (al, cs)) (fun _ => .er "live") (.er "live") (fun _ => .er "live") ao
/-- what is behind the first n cells is forgotten -/
def cutA (W : AW) (b : Nat) (al : List Nat) (cs : List Value) (n : Nat) : E (AW × List Nat × List Value) := bl (Nat.beq cs.length n) (.ok (W, al, cs)) ((tk n cs).bd fun cs1 => (W.put b 0 []).bd fun W1 => (W1.heap.set 40 b (.live [] cs1)).bd fun H => .ok (⟨H, W1.next⟩, [], cs1))
/-- s has elements to take in -/
def appG (W : AW) (sz by_ : Nat) (n : Nat) (xs : List Value) (s : Value) : E R := match s with
  | .slice none 0 0 => bl (fitsB n by_) (newU W [] xs n sz) (.er "append")
  | .slice (some a) l k => bl (fitsB (Nat.add l n) by_)
    (bl (Nat.beq (Nat.mod k 3) 1)
      (bl (Nat.ble (Nat.add l n) (Nat.div k 3)) ((W.put a.block (Nat.add a.off (Nat.mul l sz)) xs).bd fun W => .ok (.val (.slice (some ⟨a.block, a.off, none⟩) (Nat.add l n) k) W))
        ((W.loadN a (Nat.mul l sz)).bd fun os => newU W [] (os ++ xs) (Nat.add l n) sz))
      (bl (Nat.beq k (Nat.mul 3 sz)) (bl (Nat.beq a.off 0) ((E.of "append" (W.heap.get a.block)).bd fun ao => (liveC ao).bd fun p => (cutA W a.block p.1 p.2 (Nat.mul l sz)).bd fun q => (q.1.heap.set 40 a.block (.stale q.2.2)).bd fun H => newU ⟨H, q.1.next⟩ (a.block :: q.2.1) (q.2.2 ++ xs) (Nat.add l n) sz) (.er "append off")) (.er "append cap")))
    (.er "append size")
  | _ => .er "append"
def appV (P : Program) (W : AW) (st tx : TypeId) (s x : Value) : E R := (under P st).bd fun u => match u with
  | .slice e => (zeroC P e).bd fun z => @Option.rec TypeInfo (fun _ => E R) (.er "append") (fun i => bl (Nat.beq z.length i.size) ((srcV P W i.size tx x).bd fun p => bl (Nat.beq p.1 0) (match s with
      | .slice none 0 0 => .ok (.val s W)
      | .slice (some _) _ _ => .ok (.val s W)
      | _ => .er "append") (appG W i.size i.bytes p.1 p.2 s)) (.er "append")) (P.info? e)
  | _ => .er "append"
end
section
variable {P : Program} {ρ : Rho} {t tx : TypeId} {x x' s s' v : Value} {W : AW} {w : World} {r : R} {sz n : Nat} {xs : List Value}
theorem bytesV_eq (s : ByteArray) : bytesV s.data.toList = byteCells s := rfl
theorem flat_bytes : ∀ l : List UInt8, LR ρ (bytesV l) (bytesV l)
  | [] => .nil
  | _ :: l => .cons (.flat rfl) (flat_bytes l)
theorem LR.one {l l' : List Value} (h : LR ρ l l') (h1 : one1 l = true) : ∀ v ∈ l', v.oneCell' = true := by
  intro v hv
  obtain ⟨i, hi, rfl⟩ := List.getElem_of_mem hv
  obtain ⟨u, hu⟩ : ∃ u, l[i]? = some u := ⟨_, List.getElem?_eq_getElem (by rw [h.length]; exact hi)⟩
  rw [(h.at i u _ hu (List.getElem?_eq_getElem hi)).one]
  exact one1_ok h1 _ (List.mem_of_getElem? hu)
theorem srcV_ok (e : srcV P W sz tx x = .ok (n, xs)) (hx : VR ρ x x') (h : WR ρ W w) : ∃ xs', LR ρ xs xs' ∧ Src P sz tx x' n xs' w := by
  obtain ⟨u, h1, e1⟩ := bd_ok e
  have hu := under_ok h1
  clear e h1
  split at e1
  · rcases bl_ok e1 with ⟨h2, e2⟩ | ⟨_, e2⟩
    · have h2 := Nat.eq_of_beq_eq_true h2
      subst h2
      cases e2
      rw [hx.snone]
      exact ⟨[], .nil, Src.ofNil w hu _⟩
    · cases e2
  · rename_i a m k
    obtain ⟨c, q, o', k', hc, hsp, rfl, hr⟩ := hx.ssome
    rcases bl_ok e1 with ⟨h2, e2⟩ | ⟨h2, e2⟩
    · have h2 := Nat.eq_of_beq_eq_true h2
      subst h2
      cases e2
      exact ⟨[], .nil, Src.ofSlice w hu _ 0 _ [] (by simp) (fun j u h => by simp at h) (fun u h => by cases h)⟩
    · have h2 := Nat.ne_of_beq_eq_false h2
      obtain ⟨l, h3, e3⟩ := bd_ok e2
      rcases bl_ok e3 with ⟨h4, e4⟩ | ⟨_, e4⟩
      · cases e4
        rcases hr with ⟨rfl, _, _⟩ | ⟨h0, _⟩
        · obtain ⟨l', h5, h6, h7⟩ := loadN_ok h h3 hc
          exact ⟨l', h6, Src.ofSlice w hu _ _ k' l' (by rw [← h6.length]; exact h7) (fun j u hj => by rw [add_addr]; exact h5 j u hj) (h6.one h4)⟩
        · exact absurd h0 h2
      · cases e4
  · rename_i str
    rcases bl_ok e1 with ⟨h2, e2⟩ | ⟨_, e2⟩
    · have h2 := Nat.eq_of_beq_eq_true h2
      subst h2
      cases e2
      rw [hx.string]
      refine ⟨_, flat_bytes _, ?_⟩
      have := Src.ofString (P := P) w hu str
      rwa [← bytesV_eq, show str.size = str.data.toList.length from (Array.length_toList ..).symm] at this
    · cases e2
  · cases e1
theorem zeroCells_size (z : Array Value) (k : Nat) : (Builtin.zeroCells z k).size = k * z.size := by simp [Builtin.zeroCells]
theorem grownCap_le (w : World) {need old : Nat} (e : TypeId) (_ : need ≤ 9223372036854775807) : need ≤ grownCap w need old e := by
  exact Nat.le_add_right _ _
/-- where there is no room: a new row -/
theorem grow_ok {st e : TypeId} {i : TypeInfo} {z : Value} {base : Option Addr} {l k' : Nat} {os os' xs' : List Value} {al : List Nat} (h : WR ρ W w) (hal : ∀ x ∈ al, ∃ p, ρ x = some p) (ht : P.underlying st = some (.slice e)) (hi : P.info? e = some i) (hz : i.zero = some z) (hzs : z.cells.size = i.size)
    (hold : (Builtin.firstCells i.size l (.slice base l k')).run P w.drew = .ok os'.toArray w.drew) (ho : LR ρ os os') (hol : os'.length = l * i.size) (hs : Src P i.size tx x' n xs' w) (hx : LR ρ xs xs') (hg : k' < l + n) (hf : fitsB (l + n) i.bytes = true) (ty : TypeId) (e1 : newU W al (os ++ xs) (l + n) i.size = .ok r) :
    ∃ v W', r = .val v W' ∧ ∃ v' w' ρ', (Builtin.append_ #[st, tx] ty #[.slice base l k', x']).run P w = .ok v' w' ∧ VR ρ' v v' ∧ WR ρ' W' w' ∧ Up ρ W w ρ' W' w' := by
  have hf1 : (l + n) * i.bytes ≤ 140737488355328 ∧ l + n ≤ 9223372036854775807 := by
    unfold fitsB at hf
    cases h1 : Nat.ble (Nat.mul (l + n) i.bytes) 140737488355328 with
    | false => rw [h1] at hf; cases hf
    | true => rw [h1] at hf; exact ⟨Nat.le_of_ble_eq_true h1, Nat.le_of_ble_eq_true hf⟩
  obtain ⟨H, h1, e2⟩ := newK_ok e1
  cases e2
  have hr := run_append_grow_src w st tx ty e i z ht hi hz base l k' os' hold x' n xs' hs hg (by omega) (growslice_fits hg hf1.1)
  generalize hC : (os' ++ xs').toArray ++ Builtin.zeroCells z.cells (grownCap w (l + n) k' e - (l + n)) = C at hr
  have hcap := grownCap_le w (old := k') e hf1.2
  have hsz : C.size = grownCap w (l + n) k' e * i.size := by
    rw [← hC]
    simp [zeroCells_size, hzs, hol, hs.newsLen]
    rw [← Nat.add_mul, ← Nat.add_mul]
    congr 1
    omega
  have hR : ∀ (j : Nat) (v : Value), (os ++ xs)[j]? = some v → ∃ v' : Value, C[j]? = some v' ∧ VR ρ v v' := by
    intro j v hv
    obtain ⟨v', g1, g2⟩ := (ho.append hx).get hv
    refine ⟨v', ?_, g2⟩
    rw [← hC, Array.getElem?_append, if_pos (by simpa using (List.getElem?_eq_some_iff.1 g1).1)]
    simpa using g1
  obtain ⟨h2, h3⟩ := new_ok (m := C.size) (w' := w.drew.alloc (.cells C e)) h h1 (fun al2 cs e x hx => by cases e; exact hal x hx) (ob := .cells C e) ⟨fun j v hv => by
    obtain ⟨v', g1, g2⟩ := hR j v hv
    exact ⟨v', g1, g2.mono (h.le_upd _ _)⟩, rfl, .inr (Nat.le_refl _)⟩ ⟨rfl, rfl, rfl, rfl⟩
  refine ⟨_, _, rfl, _, _, _, hr, ?_, h2, h3⟩
  exact .sl upd_self (.inr ⟨i.size, rfl, by rw [hsz]; omega⟩) hcap
theorem firstCells_drew {l sz : Nat} {base : Option Addr} {c k' o m : Nat} {os' : List Value} (hr : w.rangeAt c o os') (hl : os'.length = l * sz) : (Builtin.firstCells sz l (.slice (some ⟨c, o, none⟩) l k')).run P w.drew = .ok os'.toArray w.drew :=
  run_firstCells_some w.drew sz l ⟨c, o, none⟩ l k' os' hl (fun j v hv => by rw [add_addr]; simpa using hr j v hv)
theorem liveC_ok {ao : AO} {p : List Nat × List Value} (e : liveC ao = .ok p) : ao = .live p.1 p.2 := by
  cases ao <;> cases e; rfl
/-- less may be known of a block -/
theorem trunc_ok {b c m : Nat} {cs cs1 : List Value} {H : T AO} (h : WR ρ W w) (hb : ρ b = some (c, m)) (e1 : W.heap.get b = some (.live [] cs)) (hp : ∀ (i : Nat) (v : Value), cs1[i]? = some v → cs[i]? = some v) (e : W.heap.set 40 b (.live [] cs1) = .ok H) : WR ρ ⟨H, W.next⟩ w ∧ Up ρ W w ρ ⟨H, W.next⟩ w := by
  have hget : ∀ x, H.get x = if x = b then some (.live [] cs1) else W.heap.get x := fun x => set_get 40 e x
  refine ⟨⟨fun b1 c1 n1 k => ?_, fun b1 b2 c1 n1 n2 al2 cs2 k1 k2 hne hg => ?_, fun b1 p al1 cs2 k1 hg x hx => ?_, fun b1 b2 c1 n1 n2 ao k1 k2 hg hC => ?_, fun b1 hb1 => ?_⟩, ⟨.rfl ρ, Nat.le_refl _, fun b1 _ hn => ⟨hn, fun _ e9 => by show H.get b1 = _; rw [hget, if_neg (fun e => by rw [e, hb] at hn; cases hn)]; exact e9⟩, Nat.le_refl _, fun _ _ _ => rfl, fun b1 _ n1 h1 => .inl ⟨b1, n1, h1⟩, ⟨rfl, rfl, rfl⟩, fun _ C _ _ h1 => ⟨C, h1, rfl⟩⟩⟩
  · obtain ⟨j1, ao, o, j2, j3, j4⟩ := h.dom b1 c1 n1 k
    by_cases hbb : b1 = b
    · subst hbb
      rw [e1] at j2; cases j2
      cases o <;> simp only [OR] at j4
      exact ⟨j1, .live [] cs1, _, by show H.get b1 = _; rw [hget, if_pos rfl], j3, ⟨fun i v hv => j4.at_ i v (hp i v hv), j4.size, j4.nf⟩⟩
    · exact ⟨j1, ao, o, by show H.get b1 = _; rw [hget, if_neg hbb]; exact j2, j3, j4⟩
  · have hg : H.get b2 = _ := hg
    rw [hget] at hg
    show H.get b1 = some .dead ∨ (_ ∧ ∃ cs', H.get b1 = _ ∧ _)
    by_cases hbb : b2 = b
    · subst hbb
      rw [if_pos rfl] at hg; cases hg
      rcases h.al b1 b2 c1 n1 n2 [] cs k1 k2 hne e1 with hd | ⟨hm, _⟩
      · exact .inl (by rw [hget, if_neg hne]; exact hd)
      · cases hm
    · rw [if_neg hbb] at hg
      have h1 := h.al b1 b2 c1 n1 n2 al2 cs2 k1 k2 hne hg
      by_cases hb1 : b1 = b
      · subst hb1
        rcases h1 with hd | ⟨_, cs3, hs, _⟩
        · rw [e1] at hd; cases hd
        · rw [e1] at hs; cases hs
      · rw [hget, if_neg hb1]; exact h1
  · have hg : H.get b1 = _ := hg
    rw [hget] at hg
    by_cases hbb : b1 = b
    · rw [if_pos hbb] at hg; cases hg; cases hx
    · rw [if_neg hbb] at hg
      exact h.ald b1 p al1 cs2 k1 hg x hx
  · have hg : H.get b2 = _ := hg
    rw [hget] at hg
    by_cases hbb : b2 = b
    · rw [if_pos hbb] at hg; cases hg; cases hC
    · rw [if_neg hbb] at hg
      exact h.inj b1 b2 c1 n1 n2 ao k1 k2 hg hC
  · show H.get b1 = none
    have hb1 : W.next ≤ b1 := hb1
    have := (h.dom b c m hb).1
    rw [hget, if_neg (by omega)]
    exact h.top b1 hb1
theorem put_nil {b : Nat} {al : List Nat} {cs : List Value} {W1 : AW} (e1 : W.heap.get b = some (.live al cs)) (e : W.put b 0 [] = .ok W1) : W1.heap.get b = some (.live [] cs) := by
  obtain ⟨ao, e2, e3⟩ := bd_ok e
  have e2 := of_ok e2
  rw [e1] at e2; cases e2
  change bl (one1 []) ((pa 0 [] cs).bd fun cs' => (killA al W.heap).bd fun h => (h.set 40 b (.live [] cs')).bd fun h => .ok (⟨h, W.next⟩ : AW)) (.er "agg") = E.ok W1 at e3
  rcases bl_ok e3 with ⟨_, e4⟩ | ⟨h4, _⟩
  · obtain ⟨cs', e5, e6⟩ := bd_ok e4
    obtain ⟨h1, e7, e8⟩ := bd_ok e6
    obtain ⟨h2, e9, e10⟩ := bd_ok e8
    cases e10
    cases e5
    show h2.get b = _
    rw [set_get 40 e9, if_pos rfl]
  · cases h4
theorem cutA_ok {b c m n : Nat} {al : List Nat} {cs : List Value} {q : AW × List Nat × List Value} (h : WR ρ W w) (hb : ρ b = some (c, m)) (e1 : W.heap.get b = some (.live al cs)) (e : cutA W b al cs n = .ok q) : q.2.2.length = n ∧ q.1.heap.get b = some (.live q.2.1 q.2.2) ∧ WR ρ q.1 w ∧ Up ρ W w ρ q.1 w := by
  rcases bl_ok e with ⟨h1, e2⟩ | ⟨_, e2⟩
  · cases e2
    exact ⟨Nat.eq_of_beq_eq_true h1, e1, h, .rfl ρ W w⟩
  · obtain ⟨cs1, h2, e3⟩ := bd_ok e2
    obtain ⟨W1, h3, e4⟩ := bd_ok e3
    obtain ⟨H, h4, e5⟩ := bd_ok e4
    cases e5
    obtain ⟨h5, rfl⟩ := tk_ok h2
    obtain ⟨_, _, g1, g2⟩ := put_ok (xs' := []) h h3 hb .nil
    obtain ⟨g3, g4⟩ := trunc_ok g1 hb (put_nil e1 h3) (fun i v hv => by
      rw [List.getElem?_take] at hv
      split at hv
      · exact hv
      · cases hv) h4
    exact ⟨by simp; omega, by show H.get b = _; rw [set_get 40 h4, if_pos rfl], g3, g2.trans g4⟩
theorem appG_ok {st e : TypeId} {i : TypeInfo} {z : Value} {xs' : List Value} (e1 : appG W i.size i.bytes n xs s = .ok r) (h : WR ρ W w) (hsr : VR ρ s s') (hn : n ≠ 0) (ht : P.underlying st = some (.slice e)) (hi : P.info? e = some i) (hz : i.zero = some z) (hzs : z.cells.size = i.size)
    (hs : Src P i.size tx x' n xs' w) (hx : LR ρ xs xs') (ty : TypeId) :
    ∃ v W', r = .val v W' ∧ ∃ v' w' ρ', (Builtin.append_ #[st, tx] ty #[s', x']).run P w = .ok v' w' ∧ VR ρ' v v' ∧ WR ρ' W' w' ∧ Up ρ W w ρ' W' w' := by
  unfold appG at e1
  split at e1
  · rcases bl_ok e1 with ⟨h1, e2⟩ | ⟨_, e2⟩
    · rw [hsr.snone]
      have := grow_ok (l := 0) (k' := 0) (base := none) (os := []) (os' := []) (al := []) (P := P) (x' := x') (n := n) (xs := xs) (xs' := xs') (i := i) (z := z) (st := st) (e := e) (tx := tx) (r := r) h (fun x hx => by cases hx) ht hi hz hzs (by simp [Builtin.firstCells]) .nil (by simp) hs hx (by omega) (by simpa using h1) ty (by simpa using e2)
      exact this
    · cases e2
  · rename_i a l k
    obtain ⟨c, m, o', k', hc, hsp, rfl, hr⟩ := hsr.ssome
    rcases bl_ok e1 with ⟨hf, e2⟩ | ⟨_, e2⟩
    · rcases bl_ok e2 with ⟨h2, e3⟩ | ⟨h2, e3⟩
      · have h2 : k % 3 = 1 := Nat.eq_of_beq_eq_true h2
        rcases hr with ⟨rfl, hck, hlk⟩ | ⟨_, h0⟩
        · have hk : k = 3 * k' + 1 := by
            rcases hck with h8 | ⟨s2, h8, _⟩ <;> omega
          have hd : Nat.div k 3 = k' := by show k / 3 = k'; omega
          rw [hd] at e3
          rcases bl_ok e3 with ⟨h4, e4⟩ | ⟨h4, e4⟩
          · have h4 : l + n ≤ k' := Nat.le_of_ble_eq_true h4
            obtain ⟨W', h5, e5⟩ := bd_ok e4
            cases e5
            obtain ⟨g1, g2, g3, g4⟩ := put_ok h h5 hc hx
            have hrun := run_append_room_src w st tx ty e i ht hi c a.off l k' x' n xs' hs h4 (fun j hj => (g1 j hj).1) (fun j hj => (g1 j hj).2)
            exact ⟨_, _, rfl, _, _, _, hrun, .sl hc (.inl hk) h4, g3, g4⟩
          · have h4 : k' < l + n := by
              rcases Nat.lt_or_ge k' (l + n) with hh | hh
              · exact hh
              · have h9 : Nat.ble (Nat.add l n) k' = true := Nat.ble_eq_true_of_le hh
                rw [h9] at h4; cases h4
            obtain ⟨os, h5, e5⟩ := bd_ok e4
            obtain ⟨os', g1, g2, g3⟩ := loadN_ok h h5 hc
            exact grow_ok h (fun x hx => by cases hx) ht hi hz hzs (firstCells_drew (base := none) (m := 0) g1 (by rw [← g2.length]; exact g3)) g2 (by rw [← g2.length]; exact g3) hs hx h4 hf ty e5
        · omega
      · rcases bl_ok e3 with ⟨h3, e4⟩ | ⟨_, e4⟩
        · have h3 : k = 3 * i.size := Nat.eq_of_beq_eq_true h3
          rcases bl_ok e4 with ⟨h4, e5⟩ | ⟨_, e5⟩
          · have h4 := Nat.eq_of_beq_eq_true h4
            obtain ⟨ao, h5, e6⟩ := bd_ok e5
            obtain ⟨p, h6, e7⟩ := bd_ok e6
            have h5 := of_ok h5
            rw [liveC_ok h6] at h5
            obtain ⟨⟨V, q1, q2⟩, h9, e8⟩ := bd_ok e7
            obtain ⟨h7, h5, h, hUp⟩ := cutA_ok h hc h5 h9
            dsimp only at h5 h hUp e8
            have h7 : q2.length = l * i.size := h7
            obtain ⟨H, h8, e9⟩ := bd_ok e8
            rcases hr with ⟨rfl, hck, hlk⟩ | ⟨_, h0⟩
            · have hcap : a.off + k' * i.size ≤ m := by
                rcases hck with h9 | ⟨s2, h9, h10⟩
                · omega
                · have : s2 = i.size := by omega
                  rw [← this]; exact h10
              rw [h4] at hcap ⊢
              obtain ⟨_, ao2, ob, k2, k3, k4⟩ := h.dom _ _ _ hc
              rw [h5] at k2; cases k2
              cases ob <;> simp only [OR] at k4
              rename_i C tt fz
              have hxl := hx.length
              have hnl := hs.newsLen
              by_cases hroom : l + n ≤ k'
              · obtain ⟨H2, q1, q2⟩ := newK_ok e9
                cases q2
                have hmul : (l + n) * i.size ≤ k' * i.size := Nat.mul_le_mul_right _ hroom
                rw [Nat.add_mul] at hmul
                obtain ⟨g3, g4⟩ := room_ok h hc h5 h8 q1 hx (by omega)
                have hth := k4.there k3 (o := l * i.size) (k := xs'.length) (by omega)
                have hrun := run_append_room_src w st tx ty e i ht hi c 0 l k' x' n xs' hs hroom (fun j hj => by simpa using (hth j hj).1) (fun j hj => by simpa using (hth j hj).2)
                rw [Nat.zero_add, ← h7] at hrun
                exact ⟨_, _, rfl, _, _, _, hrun, .sl upd_self (.inr ⟨i.size, rfl, by omega⟩) hroom, g3, hUp.trans g4⟩
              · obtain ⟨g1, g2⟩ := stale_ok h hc h5 h8
                have hls : ∃ os', w.rangeAt c 0 os' ∧ LR ρ q2 os' := by
                  refine ⟨C.toList.take q2.length, fun j v hv => ?_, LR.of ?_ fun j v v' hv hv' => ?_⟩
                  · rw [List.getElem?_take] at hv
                    split at hv
                    · exact cell_of k3 (by simpa using hv)
                    · cases hv
                  · have := k4.len; have := k4.size; simp; omega
                  · rw [List.getElem?_take] at hv'
                    split at hv'
                    · obtain ⟨v2, j1, j2⟩ := k4.at_ j v hv
                      rw [show C[j]? = some v' by simpa using hv'] at j1
                      cases j1; exact j2
                    · cases hv'
                obtain ⟨os', j1, j2⟩ := hls
                obtain ⟨v, W', hv, v', w', ρ', k5, k6, k7, k8⟩ := grow_ok (W := ⟨H, V.next⟩) (al := a.block :: q1) (os := q2) g1 (fun x hx => by
                  rcases List.mem_cons.1 hx with rfl | hx
                  · exact ⟨_, hc⟩
                  · exact h.ald _ _ _ _ hc h5 x hx) ht hi hz hzs (firstCells_drew (k' := k') (base := none) (m := 0) j1 (by rw [← j2.length]; exact h7)) j2 (by rw [← j2.length]; exact h7) hs hx (by omega) hf ty e9
                exact ⟨v, W', hv, v', w', ρ', k5, k6, k7, hUp.trans (g2.trans k8)⟩
            · exfalso; omega
          · cases e5
        · cases e4
    · cases e2
  · cases e1
theorem appV_ok {st : TypeId} (e : appV P W st tx s x = .ok r) (hsr : VR ρ s s') (hx : VR ρ x x') (h : WR ρ W w) (ty : TypeId) :
    ∃ v W', r = .val v W' ∧ ∃ v' w' ρ', (Builtin.append_ #[st, tx] ty #[s', x']).run P w = .ok v' w' ∧ VR ρ' v v' ∧ WR ρ' W' w' ∧ Up ρ W w ρ' W' w' := by
  obtain ⟨u, h1, e1⟩ := bd_ok e
  have hu := under_ok h1
  clear e h1
  split at e1
  · rename_i el
    obtain ⟨z, h2, e2⟩ := bd_ok e1
    obtain ⟨i, zv, g1, g2, rfl, g3⟩ := zeroC_ok (ρ := ρ) h2
    rw [g1] at e2
    rcases bl_ok e2 with ⟨h3, e3⟩ | ⟨_, e3⟩
    · have h3 : zv.cells.size = i.size := by simpa using Nat.eq_of_beq_eq_true h3
      obtain ⟨⟨n, xs⟩, h4, e4⟩ := bd_ok e3
      obtain ⟨xs', h5, h6⟩ := srcV_ok h4 hx h
      rcases bl_ok e4 with ⟨h7, e5⟩ | ⟨h7, e5⟩
      · have h7 : n = 0 := Nat.eq_of_beq_eq_true h7
        subst h7
        have hnil : xs' = [] := List.eq_nil_of_length_eq_zero (by rw [h6.newsLen]; simp)
        subst hnil
        split at e5
        · cases e5
          rw [hsr.snone]
          refine ⟨_, _, rfl, _, w, ρ, ?_, .flat rfl, h, .rfl ρ W w⟩
          rcases h6.kind with ⟨e', hk⟩ | hk <;> simp [Builtin.append_, run_underlying hu, run_underlying hk, sizeOf, typeInfo, g1, h6.len, h6.cells]
        · rename_i a l k
          cases e5
          obtain ⟨c, m, o', k', hc, hsp, rfl, hr⟩ := hsr.ssome
          have hlk : l + 0 ≤ k' := by
            rcases hr with ⟨_, _, h8⟩ | ⟨h8, _⟩ <;> omega
          refine ⟨_, _, rfl, _, w, ρ, run_append_room_src w st tx ty el i hu g1 c o' l k' x' 0 [] h6 hlk (fun j hj => by cases hj) (fun j hj => by cases hj), hsr, h, .rfl ρ W w⟩
        · cases e5
      · have h7 := Nat.ne_of_beq_eq_false h7
        exact appG_ok e5 h hsr h7 hu g1 g2 h3 h6 h5 ty
    · cases e3
  · cases e1
end
end Go.Ke
