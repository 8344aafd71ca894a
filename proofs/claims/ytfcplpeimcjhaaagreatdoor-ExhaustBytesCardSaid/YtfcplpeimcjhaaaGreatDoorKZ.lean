/- Tables of calls that are reckoned ahead: each by itself, from a world in which only what is wanted is known. Conditions: none. -/
import Derived.Test.YtfcplpeimcjhaaaGreatDoorKT
namespace Go.Ke
open Go.RowKit
noncomputable section
def nqL (l : List Nat) : List Nat → Bool := @List.rec Nat (fun _ => List Nat → Bool) (fun m => @List.rec Nat (fun _ => Bool) true (fun _ _ _ => false) m) (fun a _ ih m => @List.rec Nat (fun _ => Bool) false (fun b m _ => bl (Nat.beq a b) (ih m) false) m) l
def aq (a b : AO) : Bool := match a, b with
  | .dead, .dead => true
  | .live l x, .live m y => bl (nqL l m) (vqL veq1 x y) false
  | .stale x, .stale y => vqL veq1 x y
  | _, _ => false
/-- not there, or dead -/
def qu (o : Option AO) : Bool := match o with
  | none => true
  | some .dead => true
  | _ => false
def oq1 (a b : Option AO) : Bool := match a, b with
  | some x, some y => aq x y
  | _, _ => false
def oq (a b : Option AO) : Bool := bl (qu a) (qu b) (oq1 a b)
def qt (t : T AO) : Bool := @T.rec AO (fun _ => Bool) true (fun _ v _ a b => bl (qu v) (bl a b false) false) t
/-- trees that tell the same -/
def tq (t : T AO) : T AO → Bool := @T.rec AO (fun _ => T AO → Bool) qt (fun l v r a b u => @T.rec AO (fun _ => Bool) (bl (qu v) (bl (qt l) (qt r) false) false) (fun l' v' r' _ _ => bl (oq v v') (bl (a l') (b r') false) false) u) t
/-- a tree of dead blocks -/
def full (d : Nat) : T AO := @Nat.rec (fun _ => T AO) .nil (fun _ t => .node t (some .dead) t) d
def nn (d : Nat) : Nat := Nat.sub (Nat.pow 2 d) 1
def st (t : T AO) (i : Nat) (x : AO) : T AO := @E.rec (T AO) (fun _ => T AO) (fun t => t) (fun _ => t) (t.set 40 i x)
def ovl (h : List (Nat × AO)) (t : T AO) : T AO := @List.rec (Nat × AO) (fun _ => T AO) t (fun p _ r => st r p.1 p.2) h
def lit (d : Nat) (h : List (Nat × AO)) : AW := ⟨ovl h (full d), nn d⟩
def keysB (n : Nat) (h : List (Nat × AO)) : Bool := @List.rec (Nat × AO) (fun _ => Bool) true (fun p _ r => bl (Nat.blt p.1 n) r false) h
def hasK (h : List (Nat × AO)) (b : Nat) : Bool := @List.rec (Nat × AO) (fun _ => Bool) false (fun p _ r => bl (Nat.beq p.1 b) true r) h
def keysI (h' h : List (Nat × AO)) : Bool := @List.rec (Nat × AO) (fun _ => Bool) true (fun p _ r => bl (hasK h' p.1) r false) h
def allq (t : T AO) (h : List (Nat × AO)) : Bool := @List.rec (Nat × AO) (fun _ => Bool) true (fun p _ r => bl (@Option.rec AO (fun _ => Bool) false (fun a => aq a p.2) (t.get p.1)) r false) h
/-- a call: its function and arguments, the blocks before, the result, the blocks behind it -/
structure Ent where
  f : Nat
  xs : List Value
  d : Nat
  h : List (Nat × AO)
  v : Value
  d' : Nat
  h' : List (Nat × AO)
def chkR (e : Ent) (r : VC) : Bool := match r with
  | .ok v W => bl (vq 3 v e.v) (bl (Nat.ble W.next (nn e.d')) (allq W.heap e.h') false) false
  | .er _ => false
def sane (e : Ent) : Bool := bl (keysB (nn e.d) e.h) (bl (keysB (nn e.d') e.h') (bl (Nat.ble (nn e.d) (nn e.d')) (keysI e.h' e.h) false) false) false
/-- the call is as its entry says -/
def segB (P : Program) (ih : Ev) (e : Ent) : Bool := bl (sane e) (chkR e (callG P ih e.f e.xs (lit e.d e.h))) false
def hit (e : Ent) (xs : List Value) (W : AW) : Bool := bl (vqL (vq 2) xs e.xs) (bl (Nat.ble W.next (nn e.d)) (bl (keysB (nn e.d) e.h) (tq W.heap (ovl e.h (full e.d))) false) false) false
def look (l : List Ent) : Nat → List Value → AW → Option VC := @List.rec Ent (fun _ => Nat → List Value → AW → Option VC) (fun _ _ _ => none) (fun e _ ih g xs W => bl (Nat.beq g e.f) (bl (hit e xs W) (some (.ok e.v (lit e.d' e.h'))) (ih g xs W)) (ih g xs W)) l
end
section
variable {P : Program} {ih : Ev} {ρ ρ' : Rho} {W W' : AW} {w w' : World} {v : Value} {xs : List Value} {e : Ent} {h h' : List (Nat × AO)} {d d' b : Nat}
theorem nqL_ok : ∀ {l m : List Nat}, nqL l m = true → l = m
  | [], [], _ => rfl
  | [], _ :: _, h => by cases h
  | _ :: _, [], h => by cases h
  | a :: l, b :: m, h => by
    obtain ⟨h1, h2⟩ := bl_and (a := Nat.beq a b) (b := nqL l m) h
    rw [Nat.eq_of_beq_eq_true h1, nqL_ok h2]
theorem aq_ok {a b : AO} (h : aq a b = true) : a = b := by
  unfold aq at h
  split at h
  · rfl
  · obtain ⟨h1, h2⟩ := bl_and h
    rw [nqL_ok h1, vqL_ok (fun _ _ => veq1_ok) h2]
  · rw [vqL_ok (fun _ _ => veq1_ok) h]
  · cases h
theorem qu_ok {o : Option AO} (h : qu o = true) : o = none ∨ o = some .dead := by
  unfold qu at h
  split at h
  · exact .inl rfl
  · exact .inr rfl
  · cases h
/-- both tell nothing, or the same -/
def Q (a b : Option AO) : Prop := (qu a = true ∧ qu b = true) ∨ a = b
theorem oq_ok {a b : Option AO} (h : oq a b = true) : Q a b := by
  unfold oq at h
  cases ha : qu a with
  | true => rw [ha] at h; exact .inl ⟨ha, h⟩
  | false =>
    rw [ha] at h
    have h : oq1 a b = true := h
    unfold oq1 at h
    split at h
    · exact .inr (by rw [aq_ok h])
    · cases h
theorem at_qt : ∀ (p : Bin) (t : T AO), qt t = true → qu (T.at p t) = true
  | p, .nil, _ => by rw [at_nil]; rfl
  | p, .node l v r, h => by
    obtain ⟨h1, h2⟩ := bl_and (a := qu v) (b := bl (qt l) (qt r) false) h
    obtain ⟨h3, h4⟩ := bl_and h2
    cases p with
    | z => exact h1
    | o p => exact at_qt p l h3
    | t p => exact at_qt p r h4
theorem at_tq : ∀ (p : Bin) (t u : T AO), tq t u = true → Q (T.at p t) (T.at p u)
  | p, .nil, u, h => .inl ⟨by rw [at_nil]; rfl, at_qt p u h⟩
  | p, .node l v r, .nil, h => by
    have h1 := at_qt p (.node l v r) h
    exact .inl ⟨h1, by rw [at_nil]; rfl⟩
  | p, .node l v r, .node l' v' r', h => by
    obtain ⟨h1, h2⟩ := bl_and (a := oq v v') (b := bl (tq l l') (tq r r') false) h
    obtain ⟨h3, h4⟩ := bl_and h2
    cases p with
    | z => exact oq_ok h1
    | o p => exact at_tq p l l' h3
    | t p => exact at_tq p r r' h4
theorem st_get (t : T AO) (i : Nat) (x : AO) (j : Nat) : (st t i x).get j = if j = i then some x else t.get j := by
  unfold st
  obtain ⟨t', h1, _⟩ := put_ok' (x := x) (pth i) t E.ok
  have h2 : t.set 40 i x = .ok t' := h1
  rw [h2]
  exact set_get 40 h2 j
theorem ovl_get (t : T AO) (b : Nat) : ∀ h : List (Nat × AO), ((ovl h t).get b = t.get b ∧ hasK h b = false) ∨ (hasK h b = true ∧ ∃ o, (b, o) ∈ h ∧ (ovl h t).get b = some o)
  | [] => .inl ⟨rfl, rfl⟩
  | p :: h => by
    have h1 : (ovl (p :: h) t).get b = if b = p.1 then some p.2 else (ovl h t).get b := st_get _ _ _ _
    have h2 : hasK (p :: h) b = bl (Nat.beq p.1 b) true (hasK h b) := rfl
    by_cases hb : b = p.1
    · refine .inr ⟨by rw [h2, hb, Nat.beq_refl]; rfl, p.2, by rw [hb]; exact List.mem_cons_self, by rw [h1, if_pos hb]⟩
    · have h3 : Nat.beq p.1 b = false := by
        cases hc : Nat.beq p.1 b with
        | false => rfl
        | true => exact absurd (Nat.eq_of_beq_eq_true hc).symm hb
      rw [h1, if_neg hb, h2, h3]
      rcases ovl_get t b h with ⟨h4, h5⟩ | ⟨h4, o, h5, h6⟩
      · exact .inl ⟨h4, h5⟩
      · exact .inr ⟨h4, o, List.mem_cons_of_mem _ h5, h6⟩
theorem nn_succ (d : Nat) : nn (d + 1) = 2 * nn d + 1 := by
  show 2 ^ (d + 1) - 1 = 2 * (2 ^ d - 1) + 1
  have : 0 < 2 ^ d := Nat.pow_pos (by omega)
  rw [Nat.pow_succ]; omega
theorem at_full : ∀ (d : Nat) (p : Bin), T.at p (full d) = if p.num < nn d then some .dead else none
  | 0, p => by rw [if_neg (by show ¬ _ < 0; omega)]; exact at_nil p
  | d + 1, p => by
    rw [nn_succ]
    cases p with
    | z => rw [if_pos (by show 0 < _; omega)]; rfl
    | o p =>
      show T.at p (full d) = _
      have h : (Bin.o p).num = 2 * p.num + 1 := rfl
      rw [at_full d p, h]
      by_cases hp : p.num < nn d
      · rw [if_pos hp, if_pos (by omega)]
      · rw [if_neg hp, if_neg (by omega)]
    | t p =>
      show T.at p (full d) = _
      have h : (Bin.t p).num = 2 * p.num + 2 := rfl
      rw [at_full d p, h]
      by_cases hp : p.num < nn d
      · rw [if_pos hp, if_pos (by omega)]
      · rw [if_neg hp, if_neg (by omega)]
theorem full_get (d b : Nat) : (full d).get b = if b < nn d then some .dead else none := by
  have := at_full d (pth b)
  rw [show (pth b).num = b from path_num b b (Nat.le_refl _)] at this
  exact this
theorem hasK_mem : ∀ {h : List (Nat × AO)} {o : AO}, (b, o) ∈ h → hasK h b = true
  | p :: h, o, hm => by
    show bl (Nat.beq p.1 b) true (hasK h b) = true
    rcases List.mem_cons.1 hm with rfl | hm
    · show bl (Nat.beq b b) true _ = true
      rw [Nat.beq_refl]; rfl
    · cases Nat.beq p.1 b with
      | true => rfl
      | false => exact hasK_mem hm
theorem keysB_ok : ∀ {h : List (Nat × AO)} {n : Nat}, keysB n h = true → hasK h b = true → b < n
  | p :: h, n, hk, hm => by
    obtain ⟨h1, h2⟩ := bl_and (a := Nat.blt p.1 n) (b := keysB n h) hk
    have hm : bl (Nat.beq p.1 b) true (hasK h b) = true := hm
    cases hb : Nat.beq p.1 b with
    | true => rw [← Nat.eq_of_beq_eq_true hb]; rwa [Nat.blt_eq] at h1
    | false => rw [hb] at hm; exact keysB_ok h2 hm
theorem keysI_ok : ∀ {h : List (Nat × AO)}, keysI h' h = true → hasK h b = true → hasK h' b = true
  | p :: h, hk, hm => by
    obtain ⟨h1, h2⟩ := bl_and (a := hasK h' p.1) (b := keysI h' h) hk
    have hm : bl (Nat.beq p.1 b) true (hasK h b) = true := hm
    cases hb : Nat.beq p.1 b with
    | true => rw [← Nat.eq_of_beq_eq_true hb]; exact h1
    | false => rw [hb] at hm; exact keysI_ok h2 hm
theorem allq_ok {t : T AO} : ∀ {h : List (Nat × AO)}, allq t h = true → ∀ o, (b, o) ∈ h → t.get b = some o
  | p :: h, hk, o, hm => by
    obtain ⟨h1, h2⟩ := bl_and (a := @Option.rec AO (fun _ => Bool) false (fun a => aq a p.2) (t.get p.1)) (b := allq t h) hk
    rcases List.mem_cons.1 hm with rfl | hm
    · show t.get b = some o
      have h1 : @Option.rec AO (fun _ => Bool) false (fun a => aq a o) (t.get b) = true := h1
      cases hg : t.get b with
      | none => rw [hg] at h1; cases h1
      | some a =>
        rw [hg] at h1
        rw [aq_ok (a := a) (b := o) h1]
    · exact allq_ok h2 o hm
theorem lit_get (hk : keysB (nn d) h = true) (b : Nat) : ((lit d h).heap.get b = (if b < nn d then some .dead else none) ∧ hasK h b = false) ∨ (hasK h b = true ∧ b < nn d ∧ ∃ o, (b, o) ∈ h ∧ (lit d h).heap.get b = some o) := by
  rcases ovl_get (full d) b h with ⟨h1, h2⟩ | ⟨h1, o, h2, h3⟩
  · exact .inl ⟨h1.trans (full_get d b), h2⟩
  · exact .inr ⟨h1, keysB_ok hk h1, o, h2, h3⟩
theorem lit_some (hk : keysB (nn d) h = true) (hb : b < nn d) : ∃ ao, (lit d h).heap.get b = some ao := by
  rcases lit_get hk b with ⟨h1, _⟩ | ⟨_, _, o, _, h1⟩
  · exact ⟨_, by rw [h1, if_pos hb]⟩
  · exact ⟨_, h1⟩
theorem lit_top (hk : keysB (nn d) h = true) (hb : nn d ≤ b) : (lit d h).heap.get b = none := by
  rcases lit_get hk b with ⟨h1, _⟩ | ⟨_, h2, _⟩
  · rw [h1, if_neg (by omega)]
  · omega
/-- less may be known -/
theorem WR.less {V : AW} (hW : WR ρ W w) (hn : W.next ≤ V.next) (hs : ∀ b, b < W.next → (∃ ao, V.heap.get b = some ao) ) (hq : ∀ b ao, V.heap.get b = some ao → ao ≠ .dead → W.heap.get b = some ao) (hd : ∀ b, W.heap.get b = some .dead → ∀ ao, V.heap.get b = some ao → ao = .dead) (ht : ∀ b, V.next ≤ b → V.heap.get b = none) (hst : ∀ b cs, W.heap.get b = some (.stale cs) → V.heap.get b = some .dead ∨ V.heap.get b = some (.stale cs) ∨ V.heap.get b = none) : WR ρ V w := by
  refine ⟨fun b c n e1 => ?_, fun b b' c n n' al cs e1 e2 hne hg => ?_, fun b p al cs e1 hg x hx => hW.ald b p al cs e1 (hq b _ hg (by intro e; cases e)) x hx, fun b b' c n n' ao e1 e2 hg hC => ?_, ht⟩
  · obtain ⟨h1, ao, o, h2, h3, h4⟩ := hW.dom b c n e1
    obtain ⟨ao', h5⟩ := hs b h1
    refine ⟨Nat.lt_of_lt_of_le h1 hn, ao', o, h5, h3, ?_⟩
    cases ao' with
    | dead => trivial
    | _ =>
      have := hq b _ h5 (by intro e; cases e)
      rw [h2] at this
      cases this
      exact h4
  · have h1 := hW.al b b' c n n' al cs e1 e2 hne (hq b' _ hg (by intro e; cases e))
    obtain ⟨h2, _⟩ := hW.dom b c n e1
    obtain ⟨ao', h5⟩ := hs b h2
    rcases h1 with h1 | ⟨h1, cs', h3, h4⟩
    · exact .inl (by rw [h5, hd b h1 _ h5])
    · rcases hst b cs' h3 with h6 | h6 | h6
      · exact .inl h6
      · exact .inr ⟨h1, cs', h6, h4⟩
      · rw [h5] at h6; cases h6
  · cases ao with
    | dead => cases hC
    | _ => exact hW.inj b b' c n n' _ e1 e2 (hq b' _ hg (by intro e; cases e)) hC
theorem seg_ok (hi : Snd P ih) (hs : segB P ih e = true) {xs' : Array Value} (hx : LR ρ e.xs xs'.toList) (hW : WR ρ (lit e.d e.h) w) (hG : GR ρ) (m : Nat) : (∀ args w, (callFunc e.f args).run P w = .ok (.enter e.f args) w) ∧ CallsIn Fence.wide m P e.f xs' w (fun r w' => ∃ v' ρ', r = .returned v' ∧ VR ρ' e.v v' ∧ WR ρ' (lit e.d' e.h') w' ∧ Up ρ (lit e.d e.h) w ρ' (lit e.d' e.h') w') := by
  obtain ⟨h1, h2⟩ := bl_and (a := sane e) hs
  obtain ⟨k1, h1⟩ := bl_and (a := keysB (nn e.d) e.h) h1
  obtain ⟨k2, h1⟩ := bl_and (a := keysB (nn e.d') e.h') h1
  obtain ⟨k3, k4⟩ := bl_and (a := Nat.ble (nn e.d) (nn e.d')) h1
  have k3 := Nat.le_of_ble_eq_true k3
  cases hc : callG P ih e.f e.xs (lit e.d e.h) with
  | er s => rw [hc] at h2; cases h2
  | ok v1 W1 =>
    rw [hc] at h2
    obtain ⟨h3, h4⟩ := bl_and (a := vq 3 v1 e.v) h2
    obtain ⟨h5, h6⟩ := bl_and (a := Nat.ble W1.next (nn e.d')) h4
    have h5 := Nat.le_of_ble_eq_true h5
    have h3 := vq_ok 3 _ _ h3
    obtain ⟨hcf, hcall⟩ := callG_ok hi hc hx hW hG m
    refine ⟨hcf, CallsIn.mono hcall fun r w' hr => ?_⟩
    obtain ⟨v', ρ', rfl, g1, g2, g3⟩ := hr
    have hget : ∀ b ao, (lit e.d' e.h').heap.get b = some ao → ao ≠ .dead → W1.heap.get b = some ao := fun b ao hg hne => by
      rcases lit_get k2 b with ⟨h7, _⟩ | ⟨_, _, o, h8, h9⟩
      · rw [h7] at hg
        split at hg
        · cases hg; exact absurd rfl hne
        · cases hg
      · rw [h9] at hg
        cases hg
        exact allq_ok h6 _ h8
    refine ⟨v', ρ', rfl, h3 ▸ g1, g2.less h5 (fun b hb => lit_some k2 (Nat.lt_of_lt_of_le hb h5)) hget (fun b hb ao hg => ?_) (fun b hb => lit_top k2 hb) (fun b cs hb => ?_), ?_⟩
    · rcases lit_get k2 b with ⟨h7, _⟩ | ⟨_, _, o, h8, h9⟩
      · rw [h7] at hg
        split at hg <;> cases hg
        rfl
      · have := allq_ok h6 _ h8
        rw [hb] at this
        cases this
        rw [h9] at hg; cases hg; rfl
    · rcases lit_get k2 b with ⟨h7, _⟩ | ⟨_, _, o, h8, h9⟩
      · by_cases hb2 : b < nn e.d'
        · exact .inl (by rw [h7, if_pos hb2])
        · exact .inr (.inr (by rw [h7, if_neg hb2]))
      · have := allq_ok h6 _ h8
        rw [hb] at this
        cases this
        exact .inr (.inl h9)
    · refine ⟨g3.le, k3, fun b hb hn => ?_, g3.size, g3.same, g3.img, g3.env, g3.ty⟩
      obtain ⟨q1, q2⟩ := g3.out b hb hn
      refine ⟨q1, fun ao hg => ?_⟩
      have q3 := q2 ao hg
      rcases lit_get k2 b with ⟨h7, h8⟩ | ⟨_, _, o, h8, h9⟩
      · rcases lit_get k1 b with ⟨h10, _⟩ | ⟨h10, _⟩
        · rw [h10] at hg
          split at hg <;> cases hg
          rw [h7, if_pos (Nat.lt_of_lt_of_le hb k3)]
        · rw [keysI_ok k4 h10] at h8; cases h8
      · have := allq_ok h6 _ h8
        rw [this] at q3
        cases q3
        exact h9
theorem hit_ok {xs' : Array Value} (hi : Snd P ih) (hs : segB P ih e = true) (hh : hit e xs W = true) (hx : LR ρ xs xs'.toList) (hW : WR ρ W w) (hG : GR ρ) (m : Nat) : (∀ args w, (callFunc e.f args).run P w = .ok (.enter e.f args) w) ∧ CallsIn Fence.wide m P e.f xs' w (fun r w' => ∃ v' ρ', r = .returned v' ∧ VR ρ' e.v v' ∧ WR ρ' (lit e.d' e.h') w' ∧ Up ρ W w ρ' (lit e.d' e.h') w') := by
  obtain ⟨h1, hh⟩ := bl_and (a := vqL (vq 2) xs e.xs) hh
  obtain ⟨h2, hh⟩ := bl_and (a := Nat.ble W.next (nn e.d)) hh
  obtain ⟨k1, h3⟩ := bl_and (a := keysB (nn e.d) e.h) hh
  have h2 := Nat.le_of_ble_eq_true h2
  have h1 := vqL_ok (vq_ok 2) h1
  subst h1
  have hq : ∀ b, Q (W.heap.get b) ((lit e.d e.h).heap.get b) := fun b => at_tq (pth b) _ _ h3
  have hV : WR ρ (lit e.d e.h) w := by
    refine hW.less h2 (fun b hb => lit_some k1 (Nat.lt_of_lt_of_le hb h2)) (fun b ao hg hne => ?_) (fun b hb ao hg => ?_) (fun b hb => lit_top k1 hb) (fun b cs hb => ?_)
    · rcases hq b with ⟨_, q2⟩ | q
      · rw [hg] at q2
        rcases qu_ok q2 with h | h
        · cases h
        · cases h; exact absurd rfl hne
      · rw [q]; exact hg
    · rcases hq b with ⟨_, q2⟩ | q
      · rw [hg] at q2
        rcases qu_ok q2 with h | h <;> cases h
        rfl
      · rw [← q, hb] at hg; cases hg; rfl
    · rcases hq b with ⟨q1, _⟩ | q
      · rw [hb] at q1; cases q1
      · exact .inr (.inl (by rw [← q]; exact hb))
  obtain ⟨hcf, hcall⟩ := seg_ok hi hs hx hV hG m
  refine ⟨hcf, CallsIn.mono hcall fun r w' hr => ?_⟩
  obtain ⟨v', ρ', rfl, g1, g2, g3⟩ := hr
  refine ⟨v', ρ', rfl, g1, g2, g3.le, Nat.le_trans h2 g3.next, fun b hb hn => ?_, g3.size, g3.same, g3.img, g3.env, g3.ty⟩
  obtain ⟨q1, q2⟩ := g3.out b (Nat.lt_of_lt_of_le hb h2) hn
  refine ⟨q1, fun ao hg => ?_⟩
  rcases hq b with ⟨q3, q4⟩ | q
  · rw [hg] at q3
    rcases qu_ok q3 with h | h <;> cases h
    obtain ⟨ao', h5⟩ := lit_some k1 (Nat.lt_of_lt_of_le hb h2)
    rw [h5] at q4
    rcases qu_ok q4 with h | h <;> cases h
    exact q2 _ h5
  · exact q2 ao (by rw [← q]; exact hg)
/-- each entry has been reckoned -/
def Good (P : Program) (e : Ent) : Prop := ∃ ih, Snd P ih ∧ segB P ih e = true
theorem look_ok : ∀ {l : List Ent}, (∀ e ∈ l, Good P e) → TabOK P (look l)
  | [], _ => fun _ _ _ _ _ _ _ _ _ h => by cases h
  | e :: l, hl => fun g xs W v W' ρ w xs' m h hx hW hG => by
    have hrec := look_ok (l := l) (fun e he => hl e (List.mem_cons_of_mem _ he))
    have h : bl (Nat.beq g e.f) (bl (hit e xs W) (some (VC.ok e.v (lit e.d' e.h'))) (look l g xs W)) (look l g xs W) = some (.ok v W') := h
    cases hg : Nat.beq g e.f with
    | false => rw [hg] at h; exact hrec g xs W v W' ρ w xs' m h hx hW hG
    | true =>
      rw [hg] at h
      have h : bl (hit e xs W) (some (VC.ok e.v (lit e.d' e.h'))) (look l g xs W) = some (.ok v W') := h
      cases hh : hit e xs W with
      | false => rw [hh] at h; exact hrec g xs W v W' ρ w xs' m h hx hW hG
      | true =>
        rw [hh] at h
        have h : some (VC.ok e.v (lit e.d' e.h')) = some (.ok v W') := h
        cases h
        have hg := Nat.eq_of_beq_eq_true hg
        subst hg
        obtain ⟨ih, hi, hs⟩ := hl e List.mem_cons_self
        exact hit_ok hi hs hh hx hW hG m
/-- the world may have more than it had -/
theorem WR.ext (h : WR ρ W w) (hb : ∀ k, k < w.heap.size → w'.heap[k]? = w.heap[k]?) : WR ρ W w' :=
  ⟨fun b c n e => by
    obtain ⟨h1, ao, o, h2, h3, h4⟩ := h.dom b c n e
    exact ⟨h1, ao, o, h2, by rw [hb c (Array.getElem?_eq_some_iff.1 h3).1]; exact h3, h4⟩, h.al, h.ald, h.inj, h.top⟩
theorem Up.ext (hs : w.heap.size ≤ w'.heap.size) (hb : ∀ k, k < w.heap.size → w'.heap[k]? = w.heap[k]?) (he : w'.os = w.os ∧ w'.tape = w.tape ∧ w'.output = w.output) : Up ρ W w ρ W w' :=
  ⟨.rfl ρ, Nat.le_refl _, fun _ _ h => ⟨h, fun _ e => e⟩, hs, fun c hc _ => hb c hc, fun b _ n h => .inl ⟨b, n, h⟩, he, fun c C _ _ e => ⟨C, by rw [hb c (Array.getElem?_eq_some_iff.1 e).1]; exact e, Eq.refl _⟩⟩
end
end Go.Ke
