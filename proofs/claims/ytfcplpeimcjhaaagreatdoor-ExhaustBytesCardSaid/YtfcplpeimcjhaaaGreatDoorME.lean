/- The program's list at strings (29) and at words (30). Conditions: none. What the reading of a certificate says; plain laws. Conditions: none. -/
import Derived.Test.YtfcplpeimcjhaaaGreatDoorMC
namespace Go.Proofs.YtfcplpeimcjhaaaGreatDoor
open Go.RowKit
theorem decs.step {α:Type}{d:Dec α}{x0 x:α}{s s':Option (List Int)}(h:decs d x0 s x s'):(s'=none→∀ l,s=some l→d l=none)∧(∀ r,s'=some r→∃ l,s=some l∧d l=some (x,r)):=by
  cases s with
  | none=>obtain ⟨rfl,rfl⟩:=h;exact ⟨fun _ l h=>(nomatch h),fun r h=>(nomatch h)⟩
  | some l =>
    simp only [decs,Option.bind_some] at h
    cases hd:d l with
    | none=>rw [hd] at h;obtain ⟨rfl,rfl⟩:=h;exact ⟨fun _ l' e=>by cases e;exact hd,fun r h=>(nomatch h)⟩
    | some y=>rw [hd] at h;obtain ⟨rfl,rfl⟩:=h;exact ⟨fun h=>(nomatch h),fun r e=>by cases e;exact ⟨l,rfl,hd⟩⟩
def restN {α:Type}(d:Dec α)(n:Nat)(l0:Option (List Int))(acc:List α)(s:Option (List Int)):Prop:=match s with
  | some r=>acc.length≤n∧l0.bind (decN d n)=(decN d (n - acc.length) r).map fun y=>(acc ++ y.1,y.2)
  | none=>l0.bind (decN d n)=none
theorem restN.next {α:Type}{d:Dec α}{n:Nat}{l0:Option (List Int)}{acc:List α}{x x0:α}{s s':Option (List Int)}(h:restN d n l0 acc s)(hl:acc.length<n)(hd:decs d x0 s x s'):restN d n l0 (acc ++ [x]) s':=by
  obtain ⟨h1,h2⟩:=hd.step
  cases s with
  | none =>
    cases s' with
    | none=>exact h
    | some r=>obtain ⟨l,e,-⟩:=h2 r rfl;cases e
  | some l =>
    obtain ⟨h3,h4⟩:=h
    rw [show n - acc.length=(n - (acc.length+1))+1 by omega,decN] at h4
    cases s' with
    | none =>
      rw [h1 rfl l rfl] at h4
      exact h4
    | some r =>
      obtain ⟨l',e,h5⟩:=h2 r rfl
      cases e
      rw [h5] at h4
      refine ⟨by simp;omega,?_⟩
      rw [h4]
      simp [Option.map_map,Function.comp_def]
/-- what a list that was read says of the bytes -/
def lspec {α : Type} (d : Dec α) (m : Nat) (s : Option (List Int)) (xs : List α) (ok : Bool) (s' : Option (List Int)) : Prop := (∀ r, s' = some r → ok = true → ∃ l, s = some l ∧ decL m d l = some (xs, r)) ∧ (∀ l r ys, s = some l → decL m d l = some (ys, r) → ok = true ∧ s' = some r ∧ xs = ys)
theorem lspec_bad {α : Type} {d : Dec α} {m : Nat} {s s1 : Option (List Int)} {n : Int} (hd : decs decI 0 s n s1) (hn : n < 0 ∨ (m : Int) < n) : lspec d m s [] false s1 := by
  refine ⟨fun r _ h => (nomatch h), fun l r ys e h => ?_⟩
  subst e
  simp only [decs, Option.bind_some] at hd
  unfold decL at h
  cases hl : decI l with
  | none => rw [hl] at h; cases h
  | some y =>
    rw [hl] at h hd
    obtain ⟨rfl, -⟩ := hd
    simp only [Option.bind_some] at h
    rw [if_pos hn] at h
    cases h
theorem lspec_good {α : Type} {d : Dec α} {m : Nat} {s s1 sj : Option (List Int)} {n : Int} {acc : List α} (hd : decs decI 0 s n s1) (hn : ¬ (n < 0 ∨ (m : Int) < n)) (hr : restN d n.toNat s1 acc sj) (he : acc.length = n.toNat) : lspec d m s acc true sj := by
  have hb : ∀ r, sj = some r → s1.bind (decN d n.toNat) = some (acc, r) := fun r e => by
    subst e
    obtain ⟨_, h2⟩ := hr
    rw [h2, show n.toNat - acc.length = 0 by omega]
    simp [decN]
  refine ⟨fun r e _ => ?_, fun l r ys e h => ?_⟩
  · have h1 := hb r e
    cases s1 with
    | none => cases h1
    | some l1 =>
      cases s with
      | none => obtain ⟨-, h2⟩ := hd; cases h2
      | some l =>
        simp only [decs, Option.bind_some] at hd
        refine ⟨l, rfl, ?_⟩
        unfold decL
        cases hl : decI l with
        | none => rw [hl] at hd; obtain ⟨-, h2⟩ := hd; cases h2
        | some y =>
          rw [hl] at hd
          obtain ⟨rfl, h2⟩ := hd
          cases h2
          simp only [Option.bind_some]
          rw [if_neg hn]
          exact h1
  · subst e
    simp only [decs, Option.bind_some] at hd
    unfold decL at h
    cases hl : decI l with
    | none => rw [hl] at h; cases h
    | some y =>
      rw [hl] at h hd
      obtain ⟨rfl, rfl⟩ := hd
      simp only [Option.bind_some] at h
      rw [if_neg hn] at h
      cases sj with
      | none =>
        have h2 : (some y.2).bind (decN d y.1.toNat) = none := hr
        rw [Option.bind_some, h] at h2
        cases h2
      | some r' =>
        have h2 := hb r' rfl
        rw [Option.bind_some, h] at h2
        cases h2
        exact ⟨rfl, rfl, rfl⟩
def RetL {α : Type} (g : Nat) (P : Nat → Prop) (d : Dec α) (f : α → Value) (G : α → Prop) (m : Nat) (s : Option (List Int)) (w : World) (e : Ending) (w' : World) : Prop := ∃ (xs : List α) (ok : Bool) (s' : Option (List Int)) (A : Option Addr) (k : Nat), e = .returned (.tuple #[.slice A xs.length k, .bool ok]) ∧ (xs.length ≤ k ∧ k ≤ 9223372036854775807 ∧ xs.length ≤ m) ∧ Sl w' (fun b => w.heap.size ≤ b ∧ b < w'.heap.size) 1 A xs.length (xs.map f) ∧ (∀ x ∈ xs, G x) ∧ RS g P s' w' ∧ Fr (fun k => k = g) w w' ∧ lspec d m s xs ok s'
section
variable {g : Nat} {P : Nat → Prop} {w w' : World} {s : Option (List Int)}
noncomputable def RM29 := RG Tryz.f29
noncomputable abbrev cM29 : Code := .seq (RM29 0) (.seq (RM29 1) (.seq (.seq (RM29 2) (.cond (.tmp 18) (.seq (RM29 3) .ret) .skip)) (.seq (RM29 4) (.seq (.seq (RM29 5) (.block 0 (.loop (.seq (RM29 6) (.seq (.cond (.tmp 21) .skip (.exit 0)) (.seq (.block 1 (RM29 7)) (RM29 8))))))) (.seq (RM29 9) .ret)))))
theorem bM29 : Tryz.f29.body = some cM29 := by kernel_rfl
abbrev v29 : ByteArray → Value := Value.string
set_option maxHeartbeats 4000000 in
theorem list29 (h : RS g P s w) (m : Nat) (hm : m ≤ 10000000000) : Calls Tryz.prog 29 #[.pointer (some ⟨g, 0, none⟩), .int .i64 (m : Int), .func (.func 27) #[.pointer (some ⟨g, 0, none⟩)] #[]] w (RetL g P decS v29 (fun x => x.size ≤ 100000000000) m s w) := by
  obtain ⟨hg, hP⟩ := h.glt
  refine callsV Tryz.func29 bM29 rfl (by simp) (fun a Q sz df ea hQ => ?_)
  have e0 := ea 0 (.pointer (some ⟨g, 0, none⟩)) rfl
  have e1 := ea 1 (.int .i64 (m : Int)) rfl
  have e2 := ea 2 (.func (.func 27) #[.pointer (some ⟨g, 0, none⟩)] #[]) rfl
  refine wp_seq (rW ?_)
  iterate 2 refine lv ?_
  refine lN a [0, 1, 2] ?_
  intro a1 u1
  replace sz := u1.sz.trans sz
  replace df := u1.df.trans df
  replace e0 := u1.get 0 e0
  replace e1 := u1.get 1 e1
  replace e2 := u1.get 2 e2
  refine wp_seq (rW ?_)
  refine lv ?_
  refine lc Tryz.func28 (int77 h) ?_
  rintro e w1 ⟨n, s1, v, rfl, ⟨rfl, hn64⟩, hs, hd, hf⟩
  refine ⟨_, rfl, ?_⟩
  refine lv ?_
  refine lE a1 [1, 2] 8 ?_
  intro a2 u2 e8
  replace sz := u2.sz.trans sz
  replace df := u2.df.trans df
  replace e1 := u2.get 1 e1
  replace e2 := u2.get 2 e2
  clear e0 ea
  have hreg : ∀ R, (∀ a', Ag [2, 8] a2 a' → Ev a' (.tmp 18) = .bool (decide (n < 0 ∨ (m : Int) < n)) → R .normal a' w1) → Code.wp Tryz.prog (RM29 2) R a2 w1 := by
    intro R hR
    refine rW ?_
    by_cases h0 : n < 0
    · iterate 3 refine lv ?_
      iterate 3 refine ln ?_
      refine lv ?_
      refine lE a2 [2, 8] 18 (v := .bool true) (fun a' u e => hR a' u (by rw [e]; simp [h0])) ?_ (by simp [*])
      (repeat refine .put ?_ rfl); exact .rf
    · iterate 3 refine lv ?_
      iterate 3 refine ly ?_
      refine lv ?_
      refine lE a2 [2, 8] 18 (v := .bool (decide ((m : Int) < n))) (fun a' u e => hR a' u (by rw [e]; simp [h0])) ?_ (by simp [*])
      (repeat refine .put ?_ rfl); exact .rf
  refine wp_seq (wp_seq (hreg _ (fun a3 u3 e18 => ?_)))
  replace sz := u3.sz.trans sz
  replace df := u3.df.trans df
  replace e2 := u3.get 2 e2
  replace e8 := u3.get 8 e8
  clear hreg e1
  by_cases hbad : n < 0 ∨ (m : Int) < n
  · refine wp_cond_true (e18.trans (by rw [decide_eq_true hbad])) (wp_seq (rW ?_))
    iterate 2 refine lv ?_
    refine lE2 a3 [] 6 7 ?_
    intro a4 u4 e6 e7
    refine wp_ret (hQ _ _ (.tuple #[.slice none 0 0, .bool false]) (u4.df.trans df) (by simp [results, Tryz.results29, go_sem, evT e6, evT e7]; try rfl) ⟨[], false, s1, none, 0, rfl, by simp, ⟨rfl, fun h => absurd h (by simp)⟩, (fun _ h => nomatch h), hs, hf, lspec_bad hd hbad⟩)
  refine wp_cond_false (e18.trans (by rw [decide_eq_false hbad])) (wp_skip ?_)
  obtain ⟨N, hN⟩ : ∃ N : Nat, n = (N : Int) := ⟨n.toNat, by omega⟩
  subst hN
  have hNm : N ≤ m := by omega
  refine wp_seq (rW ?_)
  refine lv ?_
  refine lE a3 [2, 8] 9 ?_
  intro a4 u4 e9
  replace sz := u4.sz.trans sz
  replace df := u4.df.trans df
  replace e2 := u4.get 2 e2
  replace e8 := u4.get 8 e8
  refine wp_seq (wp_seq (rW ?_))
  iterate 2 refine lv ?_
  refine lE2 a4 [2, 9] 19 20 ?_
  intro a5 u5 e19 e20
  replace sz := u5.sz.trans sz
  replace df := u5.df.trans df
  replace e2 := u5.get 2 e2
  replace e9 := u5.get 9 e9
  clear u1 u2 u3 u4 u5 e18 e8
  refine wp_block (wp_loop (fun a' V => ∃ (acc : List ByteArray) (v : Value) (sj : Option (List Int)), Ag [2, 19] a5 a' ∧ Ev a' (.tmp 20) = .int .i64 (acc.length : Int) ∧ Ev a' (.tmp 9) = v ∧ V.ownsRow w.heap.size 9 1 v acc.length (acc.map v29) ∧ (∀ x ∈ acc, x.size ≤ 100000000000) ∧ acc.length ≤ N ∧ RS g P sj V ∧ restN decS N s1 acc sj ∧ Fr (fun k => k = g) w V ∧ some g ≠ v.ownBlock) (fun a' _ => (N - intOf (Ev a' (.tmp 20))).toNat) ⟨[], _, s1, .rf, e20, e9, own_none _ _ _ _, (fun _ h => nomatch h), Nat.zero_le _, hs, ?_, hf, (fun h => nomatch h)⟩ ?_)
  · cases s1 with
    | none => rfl
    | some r => exact ⟨Nat.zero_le _, by simp⟩
  clear e9 e20 hs hf
  rintro a6 V ⟨acc, v, sj, u6, e20, e9, hO, hG, hj, hs, hr, hf, hgo⟩
  replace sz := u6.sz.trans sz
  replace df := u6.df.trans df
  replace e2 := u6.get 2 e2
  replace e19 := u6.get 19 e19
  have m20 := e20
  refine wp_seq (rW ?_)
  refine lv ?_
  refine lE a6 [2, 9, 19, 20] 21 (v := .bool (decide (acc.length < N))) ?_ (he := by simp [*])
  intro a7 u7 e21
  replace sz := u7.sz.trans sz
  replace df := u7.df.trans df
  replace e2 := u7.get 2 e2
  replace e9 := u7.get 9 e9
  replace e19 := u7.get 19 e19
  replace e20 := u7.get 20 e20
  by_cases hlt : acc.length < N
  · refine wp_seq (wp_cond_true (e21.trans (by rw [decide_eq_true hlt])) (wp_skip (wp_seq (wp_block (rW ?_)))))
    clear e21
    iterate 2 refine lv ?_
    refine lcp Tryz.func27 (y := .tmp 23) (pre := #[.pointer (some ⟨g, 0, none⟩)]) (post := #[]) (by simp [*]) (text167 hs) ?_
    rintro e V1 ⟨x, s2, vx, rfl, ⟨rfl, hx⟩, hs2, hd2, hf2⟩
    refine ⟨_, rfl, ?_⟩
    have hO1 : V1.ownsRow w.heap.size 9 1 v acc.length (acc.map v29) := own_fr hO hf2 (fun b hb e => hgo (by rw [hb, e]))
    have hEb : Ext V1 (V1.alloc (.cells #[v29 x] 9)) := (Ext.refl _).alloc' _
    have hsl := Sl.new V1 [v29 x] 9 1 1 rfl
    refine lv (w1 := V1.alloc (.cells #[v29 x] 9)) ?_
    have hsz := hf.size
    have hsz1 := hf2.size
    have hgV : g < V1.heap.size := by have := hs2.glt.1; omega
    have hne1 : g ≠ V1.heap.size := by omega
    generalize hZ : V1.alloc (.cells #[v29 x] 9) = Z at *
    have hZs : V1.heap.size < Z.heap.size := by rw [← hZ]; simp
    clear hZ
    refine la (c := 1) Tryz.underlying26 (show (Tryz.prog.info? 9).map (fun i => (i.zero, i.size, i.bytes)) = some (some (.string ⟨#[]⟩), 1, 16) by kernel_rfl) (hO1.ext_ hEb) hsl (by omega) (by omega) (by omega) (by simp [Value.oneCell']) ?_
    intro v' Z' hO' hFr hv'
    refine lv ?_
    refine lE a7 [2, 19, 20] 9 (v := v') ?_ (he := by simp [*])
    intro a8 u8 e9'
    replace sz := u8.sz.trans sz
    replace df := u8.df.trans df
    replace e20 := u8.get 20 e20
    have hlw := wrI (a := (acc.length : Int) + 1) (by omega) (by omega)
    refine rW ?_
    iterate 2 refine lv ?_
    refine lE a8 [2, 9, 19] 20 (v := .int .i64 ((acc.length : Int) + 1)) ?_ (he := by simp [*])
    intro a9 u9 e20'
    refine ⟨⟨acc ++ [x], v', s2, ?_, e20'.trans (by simp), u9.get 9 e9', ?_, ?_, ?_, ?_, hr.next hlt hd2, ?_, ?_⟩, ?_⟩
    · exact ((u6.trans (u7.mono (by rfl))).trans (u8.mono (by rfl))).trans (u9.mono (by rfl))
    · rw [List.length_append, List.map_append]
      exact hO'
    · intro y hy
      rcases List.mem_append.1 hy with hy | hy
      · exact hG y hy
      · simp only [List.mem_singleton] at hy; rw [hy]; exact hx
    · simp; omega
    · exact (hs2.ext hEb).fr hFr hgo (fun b hb e => by have := hP b hb; have := own_lo hO e.symm; omega)
    · exact ((hf.trans hf2).trans (Fr.of_ext hEb)).trans_new (hFr.mono fun b hb => .inr (own_lo hO hb.symm))
    · rcases hv' with e | e
      · rw [e]; exact hgo
      · rw [e]; intro h; have := Option.some.inj h; omega
    · rw [e20', m20]
      simp only [intOf]
      omega
  · refine wp_seq (wp_cond_false (e21.trans (by rw [decide_eq_false hlt])) (wp_exit ?_))
    have hNe : acc.length = N := by omega
    have hO' := Sl.of_own hO
    obtain ⟨A, k, rfl, hk1, hk2, hsl⟩ := hO'
    refine wp_seq (rW ?_)
    iterate 3 refine lv ?_
    refine lE2 a7 [] 6 7 (v := .slice A acc.length k) (v' := .bool true) ?_ (he := by simp [*]) (he' := by simp [*])
    intro a8 u8 e6 e7
    refine wp_ret (hQ _ _ (.tuple #[.slice A acc.length k, .bool true]) (u8.df.trans df) (by simp [results, Tryz.results29, go_sem, evT e6, evT e7]; try rfl) ⟨acc, true, sj, A, k, rfl, ⟨hk1, by unfold maxLen at hk2; omega, by omega⟩, hsl _ (fun b hb => ⟨own_lo hO hb, hO.block_lt hb⟩), hG, hs, hf, lspec_good hd hbad (by simpa using hr) (by simpa using hNe)⟩)
noncomputable def RM30 := RG Tryz.f30
noncomputable abbrev cM30 : Code := .seq (RM30 0) (.seq (RM30 1) (.seq (.seq (RM30 2) (.cond (.tmp 18) (.seq (RM30 3) .ret) .skip)) (.seq (RM30 4) (.seq (.seq (RM30 5) (.block 0 (.loop (.seq (RM30 6) (.seq (.cond (.tmp 21) .skip (.exit 0)) (.seq (.block 1 (RM30 7)) (RM30 8))))))) (.seq (RM30 9) .ret)))))
theorem bM30 : Tryz.f30.body = some cM30 := by kernel_rfl
abbrev v30 : Nat → Value := fun n : Nat => .int .u64 (n : Int)
set_option maxHeartbeats 4000000 in
theorem list30 (h : RS g P s w) (m : Nat) (hm : m ≤ 10000000000) : Calls Tryz.prog 30 #[.pointer (some ⟨g, 0, none⟩), .int .i64 (m : Int), .func (.func 31) #[.pointer (some ⟨g, 0, none⟩)] #[]] w (RetL g P decU v30 (fun x => x < 18446744073709551616) m s w) := by
  obtain ⟨hg, hP⟩ := h.glt
  refine callsV Tryz.func30 bM30 rfl (by simp) (fun a Q sz df ea hQ => ?_)
  have e0 := ea 0 (.pointer (some ⟨g, 0, none⟩)) rfl
  have e1 := ea 1 (.int .i64 (m : Int)) rfl
  have e2 := ea 2 (.func (.func 31) #[.pointer (some ⟨g, 0, none⟩)] #[]) rfl
  refine wp_seq (rW ?_)
  iterate 2 refine lv ?_
  refine lN a [0, 1, 2] ?_
  intro a1 u1
  replace sz := u1.sz.trans sz
  replace df := u1.df.trans df
  replace e0 := u1.get 0 e0
  replace e1 := u1.get 1 e1
  replace e2 := u1.get 2 e2
  refine wp_seq (rW ?_)
  refine lv ?_
  refine lc Tryz.func28 (int77 h) ?_
  rintro e w1 ⟨n, s1, v, rfl, ⟨rfl, hn64⟩, hs, hd, hf⟩
  refine ⟨_, rfl, ?_⟩
  refine lv ?_
  refine lE a1 [1, 2] 8 ?_
  intro a2 u2 e8
  replace sz := u2.sz.trans sz
  replace df := u2.df.trans df
  replace e1 := u2.get 1 e1
  replace e2 := u2.get 2 e2
  clear e0 ea
  have hreg : ∀ R, (∀ a', Ag [2, 8] a2 a' → Ev a' (.tmp 18) = .bool (decide (n < 0 ∨ (m : Int) < n)) → R .normal a' w1) → Code.wp Tryz.prog (RM30 2) R a2 w1 := by
    intro R hR
    refine rW ?_
    by_cases h0 : n < 0
    · iterate 3 refine lv ?_
      iterate 3 refine ln ?_
      refine lv ?_
      refine lE a2 [2, 8] 18 (v := .bool true) (fun a' u e => hR a' u (by rw [e]; simp [h0])) ?_ (by simp [*])
      (repeat refine .put ?_ rfl); exact .rf
    · iterate 3 refine lv ?_
      iterate 3 refine ly ?_
      refine lv ?_
      refine lE a2 [2, 8] 18 (v := .bool (decide ((m : Int) < n))) (fun a' u e => hR a' u (by rw [e]; simp [h0])) ?_ (by simp [*])
      (repeat refine .put ?_ rfl); exact .rf
  refine wp_seq (wp_seq (hreg _ (fun a3 u3 e18 => ?_)))
  replace sz := u3.sz.trans sz
  replace df := u3.df.trans df
  replace e2 := u3.get 2 e2
  replace e8 := u3.get 8 e8
  clear hreg e1
  by_cases hbad : n < 0 ∨ (m : Int) < n
  · refine wp_cond_true (e18.trans (by rw [decide_eq_true hbad])) (wp_seq (rW ?_))
    iterate 2 refine lv ?_
    refine lE2 a3 [] 6 7 ?_
    intro a4 u4 e6 e7
    refine wp_ret (hQ _ _ (.tuple #[.slice none 0 0, .bool false]) (u4.df.trans df) (by simp [results, Tryz.results30, go_sem, evT e6, evT e7]; try rfl) ⟨[], false, s1, none, 0, rfl, by simp, ⟨rfl, fun h => absurd h (by simp)⟩, (fun _ h => nomatch h), hs, hf, lspec_bad hd hbad⟩)
  refine wp_cond_false (e18.trans (by rw [decide_eq_false hbad])) (wp_skip ?_)
  obtain ⟨N, hN⟩ : ∃ N : Nat, n = (N : Int) := ⟨n.toNat, by omega⟩
  subst hN
  have hNm : N ≤ m := by omega
  refine wp_seq (rW ?_)
  refine lv ?_
  refine lE a3 [2, 8] 9 ?_
  intro a4 u4 e9
  replace sz := u4.sz.trans sz
  replace df := u4.df.trans df
  replace e2 := u4.get 2 e2
  replace e8 := u4.get 8 e8
  refine wp_seq (wp_seq (rW ?_))
  iterate 2 refine lv ?_
  refine lE2 a4 [2, 9] 19 20 ?_
  intro a5 u5 e19 e20
  replace sz := u5.sz.trans sz
  replace df := u5.df.trans df
  replace e2 := u5.get 2 e2
  replace e9 := u5.get 9 e9
  clear u1 u2 u3 u4 u5 e18 e8
  refine wp_block (wp_loop (fun a' V => ∃ (acc : List Nat) (v : Value) (sj : Option (List Int)), Ag [2, 19] a5 a' ∧ Ev a' (.tmp 20) = .int .i64 (acc.length : Int) ∧ Ev a' (.tmp 9) = v ∧ V.ownsRow w.heap.size 31 1 v acc.length (acc.map v30) ∧ (∀ x ∈ acc, x < 18446744073709551616) ∧ acc.length ≤ N ∧ RS g P sj V ∧ restN decU N s1 acc sj ∧ Fr (fun k => k = g) w V ∧ some g ≠ v.ownBlock) (fun a' _ => (N - intOf (Ev a' (.tmp 20))).toNat) ⟨[], _, s1, .rf, e20, e9, own_none _ _ _ _, (fun _ h => nomatch h), Nat.zero_le _, hs, ?_, hf, (fun h => nomatch h)⟩ ?_)
  · cases s1 with
    | none => rfl
    | some r => exact ⟨Nat.zero_le _, by simp⟩
  clear e9 e20 hs hf
  rintro a6 V ⟨acc, v, sj, u6, e20, e9, hO, hG, hj, hs, hr, hf, hgo⟩
  replace sz := u6.sz.trans sz
  replace df := u6.df.trans df
  replace e2 := u6.get 2 e2
  replace e19 := u6.get 19 e19
  have m20 := e20
  refine wp_seq (rW ?_)
  refine lv ?_
  refine lE a6 [2, 9, 19, 20] 21 (v := .bool (decide (acc.length < N))) ?_ (he := by simp [*])
  intro a7 u7 e21
  replace sz := u7.sz.trans sz
  replace df := u7.df.trans df
  replace e2 := u7.get 2 e2
  replace e9 := u7.get 9 e9
  replace e19 := u7.get 19 e19
  replace e20 := u7.get 20 e20
  by_cases hlt : acc.length < N
  · refine wp_seq (wp_cond_true (e21.trans (by rw [decide_eq_true hlt])) (wp_skip (wp_seq (wp_block (rW ?_)))))
    clear e21
    iterate 2 refine lv ?_
    refine lcp Tryz.func31 (y := .tmp 23) (pre := #[.pointer (some ⟨g, 0, none⟩)]) (post := #[]) (by simp [*]) (uint126 hs) ?_
    rintro e V1 ⟨x, s2, vx, rfl, ⟨rfl, hx⟩, hs2, hd2, hf2⟩
    refine ⟨_, rfl, ?_⟩
    have hO1 : V1.ownsRow w.heap.size 31 1 v acc.length (acc.map v30) := own_fr hO hf2 (fun b hb e => hgo (by rw [hb, e]))
    have hEb : Ext V1 (V1.alloc (.cells #[v30 x] 31)) := (Ext.refl _).alloc' _
    have hsl := Sl.new V1 [v30 x] 31 1 1 rfl
    refine lv (w1 := V1.alloc (.cells #[v30 x] 31)) ?_
    have hsz := hf.size
    have hsz1 := hf2.size
    have hgV : g < V1.heap.size := by have := hs2.glt.1; omega
    have hne1 : g ≠ V1.heap.size := by omega
    generalize hZ : V1.alloc (.cells #[v30 x] 31) = Z at *
    have hZs : V1.heap.size < Z.heap.size := by rw [← hZ]; simp
    clear hZ
    refine la (c := 1) Tryz.underlying27 (show (Tryz.prog.info? 31).map (fun i => (i.zero, i.size, i.bytes)) = some (some (.int .u64 0), 1, 8) by kernel_rfl) (hO1.ext_ hEb) hsl (by omega) (by omega) (by omega) (by simp [Value.oneCell']) ?_
    intro v' Z' hO' hFr hv'
    refine lv ?_
    refine lE a7 [2, 19, 20] 9 (v := v') ?_ (he := by simp [*])
    intro a8 u8 e9'
    replace sz := u8.sz.trans sz
    replace df := u8.df.trans df
    replace e20 := u8.get 20 e20
    have hlw := wrI (a := (acc.length : Int) + 1) (by omega) (by omega)
    refine rW ?_
    iterate 2 refine lv ?_
    refine lE a8 [2, 9, 19] 20 (v := .int .i64 ((acc.length : Int) + 1)) ?_ (he := by simp [*])
    intro a9 u9 e20'
    refine ⟨⟨acc ++ [x], v', s2, ?_, e20'.trans (by simp), u9.get 9 e9', ?_, ?_, ?_, ?_, hr.next hlt hd2, ?_, ?_⟩, ?_⟩
    · exact ((u6.trans (u7.mono (by rfl))).trans (u8.mono (by rfl))).trans (u9.mono (by rfl))
    · rw [List.length_append, List.map_append]
      exact hO'
    · intro y hy
      rcases List.mem_append.1 hy with hy | hy
      · exact hG y hy
      · simp only [List.mem_singleton] at hy; rw [hy]; exact hx
    · simp; omega
    · exact (hs2.ext hEb).fr hFr hgo (fun b hb e => by have := hP b hb; have := own_lo hO e.symm; omega)
    · exact ((hf.trans hf2).trans (Fr.of_ext hEb)).trans_new (hFr.mono fun b hb => .inr (own_lo hO hb.symm))
    · rcases hv' with e | e
      · rw [e]; exact hgo
      · rw [e]; intro h; have := Option.some.inj h; omega
    · rw [e20', m20]
      simp only [intOf]
      omega
  · refine wp_seq (wp_cond_false (e21.trans (by rw [decide_eq_false hlt])) (wp_exit ?_))
    have hNe : acc.length = N := by omega
    have hO' := Sl.of_own hO
    obtain ⟨A, k, rfl, hk1, hk2, hsl⟩ := hO'
    refine wp_seq (rW ?_)
    iterate 3 refine lv ?_
    refine lE2 a7 [] 6 7 (v := .slice A acc.length k) (v' := .bool true) ?_ (he := by simp [*]) (he' := by simp [*])
    intro a8 u8 e6 e7
    refine wp_ret (hQ _ _ (.tuple #[.slice A acc.length k, .bool true]) (u8.df.trans df) (by simp [results, Tryz.results30, go_sem, evT e6, evT e7]; try rfl) ⟨acc, true, sj, A, k, rfl, ⟨hk1, by unfold maxLen at hk2; omega, by omega⟩, hsl _ (fun b hb => ⟨own_lo hO hb, hO.block_lt hb⟩), hG, hs, hf, lspec_good hd hbad (by simpa using hr) (by simpa using hNe)⟩)
end
end Go.Proofs.YtfcplpeimcjhaaaGreatDoor
namespace Go.Proofs.YtfcplpeimcjhaaaGreatDoor
open Go.RowKit
theorem cdec_good {l : List Int} {p : ByteArray} {n : Int} {xs : List ByteArray} {ys : List Nat} {s1 s2 s3 s4 : Option (List Int)} (h1 : decs decS ⟨#[]⟩ (some l) p s1) (h2 : decs decI 0 s1 n s2) (h3 : lspec decS l.length s2 xs true s3) (h4 : lspec decU l.length s3 ys true s4) (he : s4 = some []) : cDec l = some ⟨p, n, xs, ys⟩ := by
  obtain ⟨r3, rfl, k4⟩ := h4.1 [] he rfl
  obtain ⟨r2, rfl, k3⟩ := h3.1 r3 rfl rfl
  obtain ⟨r1, rfl, k2⟩ := h2.step.2 r2 rfl
  obtain ⟨r0, e0, k1⟩ := h1.step.2 r1 rfl
  cases e0
  have : decCm l.length l = some (⟨p, n, xs, ys⟩, []) := by
    unfold decCm
    rw [k1]; simp only [Option.bind_some]
    rw [k2]; simp only [Option.bind_some]
    rw [k3]; simp only [Option.bind_some]
    rw [k4]; rfl
  unfold cDec
  rw [this]
theorem bind_some' {α β : Type} {x : Option α} {f : α → Option β} {y : β} (h : x.bind f = some y) : ∃ a, x = some a ∧ f a = some y := by
  cases x with
  | none => cases h
  | some a => exact ⟨a, rfl, h⟩
theorem cdec_bad {l : List Int} {p : ByteArray} {n : Int} {xs : List ByteArray} {ys : List Nat} {ok1 ok2 : Bool} {s1 s2 s3 s4 : Option (List Int)} (h1 : decs decS ⟨#[]⟩ (some l) p s1) (h2 : decs decI 0 s1 n s2) (h3 : lspec decS l.length s2 xs ok1 s3) (h4 : lspec decU l.length s3 ys ok2 s4) (hb : ¬ (ok1 = true ∧ ok2 = true ∧ s4 = some [])) : cDec l = none := by
  cases hc : cDec l with
  | none => rfl
  | some c =>
    refine absurd ?_ hb
    unfold cDec at hc
    split at hc
    · rename_i c' hd
      unfold decCm at hd
      obtain ⟨a1, k1, hd⟩ := bind_some' hd
      obtain ⟨a2, k2, hd⟩ := bind_some' hd
      obtain ⟨a3, k3, hd⟩ := bind_some' hd
      cases k4 : decL l.length decU a3.2 with
      | none => rw [k4] at hd; cases hd
      | some a4 =>
        rw [k4] at hd
        have he : a4.2 = [] := (Prod.mk.inj (Option.some.inj hd)).2
        simp only [decs, Option.bind_some, k1] at h1
        obtain ⟨rfl, rfl⟩ := h1
        simp only [decs, Option.bind_some, k2] at h2
        obtain ⟨rfl, rfl⟩ := h2
        obtain ⟨o1, rfl, _⟩ := h3.2 _ a3.2 a3.1 rfl k3
        obtain ⟨o2, e4, _⟩ := h4.2 _ a4.2 a4.1 rfl k4
        exact ⟨o1, o2, by rw [e4, he]⟩
    · cases hc
theorem encU_pos' (n : Nat) : 1 ≤ (encU n).length := encU_pos n
theorem encS_ge (s : ByteArray) : s.size + 1 ≤ (encS s).length := by
  unfold encS encR
  rw [List.length_append, sB_len]
  have := encU_pos' s.size
  omega
theorem flat_ge {α : Type} (f : α → List Int) (g : α → Nat) (hf : ∀ a, g a + 1 ≤ (f a).length) : ∀ l : List α, l.length ≤ (l.flatMap f).length ∧ ∀ a ∈ l, g a ≤ (l.flatMap f).length
  | [] => ⟨by simp, fun _ h => nomatch h⟩
  | a :: l => by
    obtain ⟨h1, h2⟩ := flat_ge f g hf l
    have h3 := hf a
    rw [List.flatMap_cons, List.length_append]
    refine ⟨by simp only [List.length_cons]; omega, fun b hb => ?_⟩
    rcases List.mem_cons.1 hb with rfl | hb
    · omega
    · have := h2 b hb; omega
/-- what is read of few bytes is a certificate of small parts -/
theorem wf_of {l : List Int} {c : GC} (hb : Byt l) (hl : l.length ≤ 1000000) (h : cDec l = some c) : c.wf ∧ encC c = l := by
  obtain ⟨h1, h2, h3⟩ := cDec_canon hb h
  have h4 : (encC c).length ≤ 1000000 := by rw [h1]; exact hl
  have h5 := h4
  simp only [encC, encL, List.length_append] at h5
  obtain ⟨k1, k2⟩ := flat_ge encS ByteArray.size encS_ge c.paths
  obtain ⟨k3, _⟩ := flat_ge encU (fun _ => 0) (fun n => by have := encU_pos' n; omega) c.sums
  have k5 := encS_ge c.prop
  exact ⟨⟨by omega, h2, fun s hs => by have := k2 s hs; omega, by omega, h3, by omega, h4⟩, h1⟩
end Go.Proofs.YtfcplpeimcjhaaaGreatDoor
