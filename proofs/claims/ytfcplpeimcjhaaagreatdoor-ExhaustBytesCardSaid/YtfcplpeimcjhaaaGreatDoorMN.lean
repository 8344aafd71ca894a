/- The law's certificate: made by its first loop. Conditions: none. The law: its certificate's encoding, written, read, decoded (regions 8 to 15). Conditions: none. ExhaustBytes answers true, if lives does. Conditions: lives. -/
import Derived.Test.YtfcplpeimcjhaaaGreatDoorMK
namespace Go.Proofs.YtfcplpeimcjhaaaGreatDoor
open Go.RowKit
theorem around_lt {n m : Int} (hm : 1 ≤ m) : 0 ≤ around n m ∧ around n m < m := by
  unfold around
  split
  · exact ⟨Int.emod_nonneg _ (by omega), Int.emod_lt_of_pos _ (by omega)⟩
  · exact ⟨Int.emod_nonneg _ (by omega), Int.emod_lt_of_pos _ (by omega)⟩
theorem pick_lt (l : List Int) (i : Int) {m : Int} (hm : 1 ≤ m) : 0 ≤ pick l i m ∧ pick l i m < m := by
  unfold pick
  split
  · omega
  · exact around_lt hm
theorem flat_leB {α : Type} (f : α → List Int) (b : Nat) : ∀ l : List α, (∀ x ∈ l, (f x).length ≤ b) → (l.flatMap f).length ≤ l.length * b
  | [], _ => by simp
  | x :: l, h => by
    have h1 := h x (by simp)
    have h2 := flat_leB f b l (fun y hy => h y (by simp [hy]))
    simp only [List.flatMap_cons, List.length_append, List.length_cons, Nat.add_mul]
    omega
theorem encS_le {s : ByteArray} (h : s.size ≤ 65) : (encS s).length ≤ 75 := by
  have h1 := encU10 (n := (sB s).length) (by rw [sB_len]; omega)
  unfold encS encR
  rw [List.length_append, sB_len]
  rw [sB_len] at h1
  omega
theorem small_wf {c : GC} (h1 : c.prop.size ≤ 20) (h2 : I64 c.size) (h3 : ∀ s ∈ c.paths, s.size ≤ 65) (h4 : c.paths.length ≤ 6) (h5 : ∀ n ∈ c.sums, n < 18446744073709551616) (h6 : c.sums.length ≤ 6) : c.wf where
  prop := by omega
  size := h2
  paths s hs := by have := h3 s hs; omega
  pathl := by omega
  sums := h5
  suml := by omega
  len := by
    have q1 := flat_leB encS 75 c.paths (fun s hs => encS_le (h3 s hs))
    have q2 := flat_leB encU 10 c.sums (fun n hn => encU10 (h5 n hn))
    have q3 := encS_le (s := c.prop) (by omega)
    have q4 := encI10 h2
    have q5 := encI10 (n := (c.paths.length : Int)) (by unfold I64; omega)
    have q6 := encI10 (n := (c.sums.length : Int)) (by unfold I64; omega)
    unfold encC
    simp only [List.length_append, len_encL]
    omega
noncomputable abbrev lp1 : Code := .seq (RM3 2) (.block 0 (.loop (.seq (.seq (RM3 3) (.cond (.tmp 36) .skip (.exit 0))) (.seq (.block 1 (.seq (RM3 5) (.cond (.tmp 44) (RM3 6) (RM3 7)))) (RM3 4)))))
noncomputable abbrev lp2 : Code := .seq (RM3 20) (.block 2 (.loop (.seq (.seq (RM3 21) (.cond (.tmp 123) .skip (.exit 2))) (.seq (.block 3 in3b) (RM3 22)))))
noncomputable abbrev cM3 : Code := .seq (RM3 0) (.seq (RM3 1) (.seq lp1 (.seq (RM3 8) (.seq (RM3 9) (.seq (RM3 10) (.seq (RM3 11) (.seq (.seq (RM3 12) (.cond (.tmp 86) (.seq (RM3 13) .ret) .skip)) (.seq (RM3 14) (.seq (.seq (RM3 15) (.cond (.tmp 101) (.seq (RM3 16) .ret) .skip)) (.seq (RM3 17) (.seq (RM3 18) (.seq (RM3 19) (.seq lp2 (.seq (RM3 26) .ret))))))))))))))
theorem bM3 : Tryz.f3.body = some cM3 := by kernel_rfl
set_option maxHeartbeats 16000000 in
theorem stageA {Q : Exit → Act → World → Prop} {X : Code} {a : Act} {w : World} {P : Nat → Prop} {v : Value} {l : List Int} {s : ByteArray} (sz : a.tmps.size = Tryz.f3.ntmps) (e0 : Ev a (.tmp 0) = v) (e1 : Ev a (.tmp 1) = .string s) (hv : Ints w P v l)
    (h : ∀ a' V g c A k B q, Ag [2, 3, 4] a a' → Ev a' (.tmp 11) = .pointer (some ⟨g, 0, none⟩) → Ext w V → w.heap.size ≤ g → Blk V g 29 (ccs c.prop c.size A c.paths.length k B c.sums.length q).toArray → CM V (fun b => w.heap.size ≤ b ∧ b < V.heap.size) c A k B q → c.paths.length ≤ 6 → c.sums.length ≤ 6 → Code.wp Tryz.prog X Q a' V) : Code.wp Tryz.prog (.seq (RM3 1) (.seq lp1 X)) Q a w := by
  obtain ⟨hp0, hp1⟩ := pick_lt l 0 (m := 300) (by omega)
  refine wp_seq (rW ?_)
  refine lv ?_
  refine lc Tryz.func4 (short4 s w) ?_
  rintro e w1 ⟨t, rfl, ht, hx1⟩
  refine ⟨_, rfl, ?_⟩
  refine lv ?_
  refine lc Tryz.func5 (pick_any l 0 300 P v w1 (hv.ext hx1) (by simp [I64]) (by omega) (by omega)) ?_
  rintro e _ ⟨rfl, rfl⟩
  refine ⟨_, rfl, ?_⟩
  generalize pick l 0 300 = y at *
  have hw : IntKind.i64.wrap (y - 20) = y - 20 := wrI (by omega) (by omega)
  refine lv (w1 := w1) (v := .int .i64 (y - 20)) ?_ (hrun := by simp [execOp, go_sem, *])
  obtain ⟨z, hz⟩ : ∃ z, y - 20 = z := ⟨_, rfl⟩
  rw [hz]
  have hzI : I64 z := by unfold I64; omega
  refine lv (w1 := w1) (v := .agg #[.string t, .int .i64 z, .slice none 0 0, .slice none 0 0]) ?_ (hrun := by simp [execOp, go_sem, *])
  refine l_box 29 [.string ⟨#[]⟩, .int .i64 0, .slice none 0 0, .slice none 0 0] [.string t, .int .i64 z, .slice none 0 0, .slice none 0 0] rfl ?_
  intro w2 hB hx2
  have hg0 := hB.lt
  obtain ⟨A, cc, rfl, hl1, ⟨hl2, hl3⟩, h64, hsl⟩ := hv
  have hx02 := hx1.trans' hx2
  have hs2 := hx1.size
  obtain ⟨g, hg⟩ : ∃ g, w1.heap.size = g := ⟨_, rfl⟩
  rw [hg] at hB hg0
  clear hz hw hp0 hp1
  refine lE2 a [2, 3, 4] 0 11 (v' := .pointer (some ⟨g, 0, none⟩)) ?_ (he' := by simp [*])
  intro a1 u1 e0' e11
  replace sz := u1.sz.trans sz
  clear e0 e1
  have e0 := e0'
  clear e0'
  have hC : CBd g w2.heap.size ⟨t, z, [], []⟩ (.slice none 0 0) (.slice none 0 0) w2 := ⟨hB, own_none _ _ _ _, own_none _ _ _ _, fun b hb => (nomatch hb), hg0, Nat.le_refl _⟩
  have hcell : ∀ i, i < l.length → ∃ b off, A = some ⟨b, off, none⟩ ∧ w.cell? ⟨b, off + i, none⟩ = some (.int .i64 (l.getD i 0)) := fun i hi => by
    obtain ⟨b, off, h1, h2, h3⟩ := hsl.2 (by omega)
    exact ⟨b, off, h1, h3 i _ (by simp [hi])⟩
  refine wp_seq (wp_seq (rW ?_))
  refine lv ?_
  refine lE a1 [0, 2, 3, 4, 11] 12 ?_
  intro a2 u2 e12
  replace sz := u2.sz.trans sz
  replace e0 := u2.get 0 e0
  replace e11 := u2.get 11 e11
  refine wp_block (wp_loop (fun a' V => ∃ (i : Nat) (c : GC) (pv qv : Value), Ag [0, 2, 3, 4, 11] a2 a' ∧ Ev a' (.tmp 12) = .int .i64 (i : Int) ∧ CBd g w2.heap.size c pv qv V ∧ c.prop = t ∧ c.size = z ∧ 1 ≤ i ∧ i ≤ 7 ∧ c.paths.length + 1 ≤ i ∧ c.sums.length + 1 ≤ i ∧ (∀ p ∈ c.paths, p.size ≤ 65) ∧ (∀ n ∈ c.sums, n < 18446744073709551616) ∧ Fr (fun q => w.heap.size ≤ q) w V) (fun a' _ => (7 - intOf (Ev a' (.tmp 12))).toNat) ⟨1, ⟨t, z, [], []⟩, _, _, .rf, e12, hC, rfl, rfl, by omega, by omega, by simp, by simp, by simp, by simp, Fr.of_ext hx02⟩ ?_)
  clear e12 hC
  rintro b V ⟨i, c, pv, qv, u3, e12, hC, rfl, rfl, hi1, hi7, hn1, hn2, hps, hqs, hF⟩
  replace sz := u3.sz.trans sz
  replace e0 := u3.get 0 e0
  replace e11 := u3.get 11 e11
  have m12 := e12
  refine wp_seq (wp_seq (rW ?_))
  iterate 3 refine lv ?_
  refine lv (v := .bool (decide (i < l.length))) (w1 := V) ?_ (hrun := by simp [execOp, go_sem, *])
  refine lv ?_
  by_cases hlt : i < l.length ∧ i < 7
  · obtain ⟨hl0, hi0⟩ := hlt
    have hd1 : decide (i < l.length) = true := by simp [hl0]
    have hd2 : decide ((i : Int) < 7) = true := by simp; omega
    refine ly (gd := 33) (b := true) (v := .int .i64 (i : Int)) (w1 := V) ?_ (he := by simp [*]) (hrun := by simp [execOp, go_sem, *])
    refine ly (gd := 33) (b := true) (v := .bool true) (w1 := V) ?_ (he := by simp [*]) (hrun := by simp [execOp, go_sem, *])
    refine lv (v := .bool true) (w1 := V) ?_ (hrun := by simp [execOp, go_sem, *])
    refine lE b [0, 2, 3, 4, 11, 12] 36 (v := .bool true) ?_ (he := by simp [*])
    intro b1 u4 e36
    replace sz := u4.sz.trans sz
    replace e0 := u4.get 0 e0
    replace e11 := u4.get 11 e11
    replace e12 := u4.get 12 e12
    refine wp_cond_true e36 (wp_skip (wp_seq (wp_block (wp_seq (rW ?_)))))
    obtain ⟨bb, off, rfl, hci⟩ := hcell i hl0
    have hbl := lt_of_cell hci
    have hciV := cell_fr2 hF (b := bb) (by omega) hci
    have hxI : I64 (l.getD i 0) := h64 _ (getD_mem hl0)
    generalize l.getD i 0 = x at *
    iterate 2 refine lv ?_
    refine lv (v := .pointer (some ⟨bb, off + i, none⟩)) (w1 := V) ?_ (hrun := by simp [execOp, go_sem, *])
    refine lv (v := .int .i64 x) (w1 := V) ?_ (hrun := by simp [execOp, go_sem, *])
    refine lv (v := .int .i64 (x.tmod 2)) (w1 := V) ?_ (hrun := by simp [execOp, go_sem, *])
    refine lv (v := .bool (x.tmod 2 == 0)) (w1 := V) ?_ (hrun := by simp [execOp, go_sem, *])
    refine lE b1 [0, 2, 3, 4, 11, 12] 44 (v := .bool (x.tmod 2 == 0)) ?_ (he := by simp [*])
    intro b2 u5 e44
    replace sz := u5.sz.trans sz
    replace e0 := u5.get 0 e0
    replace e11 := u5.get 11 e11
    replace e12 := u5.get 12 e12
    have hw2 : IntKind.i64.wrap ((i : Int) + 1) = (i : Int) + 1 := wrI (by omega) (by omega)
    have hnext : ∀ (b3 : Act) (V' : World) (Q2 : Exit → Act → World → Prop), b3.tmps.size = Tryz.f3.ntmps → Ag [0, 2, 3, 4, 11, 12] b2 b3 → (∀ b4, Ag [0, 2, 3, 4, 11] b3 b4 → Ev b4 (.tmp 12) = .int .i64 ((i + 1 : Nat) : Int) → Q2 .normal b4 V') → Code.wp Tryz.prog (RM3 4) Q2 b3 V' := by
      intro b3 V' Q2 sz u6 hQ2
      replace e12 := u6.get 12 e12
      clear e0 e11
      refine rW ?_
      refine lv ?_
      refine lv (v := .int .i64 ((i : Int) + 1)) (w1 := V') ?_ (hrun := by simp [execOp, go_sem, *])
      refine lv ?_
      refine lE b3 [0, 2, 3, 4, 11] 12 (v := .int .i64 ((i + 1 : Nat) : Int)) ?_ (he := by simp [*])
      intro b4 u7 e12'
      exact hQ2 b4 u7 e12'
    have hfin2 : ∀ (b3 b4 : Act) (V' : World) (c' : GC) (pv' qv' : Value), Ag [0, 2, 3, 4, 11, 12] b2 b3 → Ag [0, 2, 3, 4, 11] b3 b4 → Ev b4 (.tmp 12) = .int .i64 ((i + 1 : Nat) : Int) → CBd g w2.heap.size c' pv' qv' V' → c'.prop = c.prop → c'.size = c.size → c'.paths.length ≤ c.paths.length + 1 → c'.sums.length ≤ c.sums.length + 1 → (∀ p ∈ c'.paths, p.size ≤ 65) → (∀ n ∈ c'.sums, n < 18446744073709551616) → Fr (fun q => q = g ∨ w2.heap.size ≤ q) V V' → (∃ (i : Nat) (c0 : GC) (pv qv : Value), Ag [0, 2, 3, 4, 11] a2 b4 ∧ Ev b4 (.tmp 12) = .int .i64 (i : Int) ∧ CBd g w2.heap.size c0 pv qv V' ∧ c0.prop = c.prop ∧ c0.size = c.size ∧ 1 ≤ i ∧ i ≤ 7 ∧ c0.paths.length + 1 ≤ i ∧ c0.sums.length + 1 ≤ i ∧ (∀ p ∈ c0.paths, p.size ≤ 65) ∧ (∀ n ∈ c0.sums, n < 18446744073709551616) ∧ Fr (fun q => w.heap.size ≤ q) w V') ∧ (7 - intOf (Ev b4 (.tmp 12))).toNat < (7 - intOf (Ev b (.tmp 12))).toNat := by
      intro b3 b4 V' c' pv' qv' u6 u7 e12' hC' h1 h2 h3 h4 h5 h6 hf
      refine ⟨⟨i + 1, c', pv', qv', (((u3.trans (u4.mono rfl)).trans (u5.mono rfl)).trans (u6.mono rfl)).trans u7, e12', hC', h1, h2, by omega, by omega, by omega, by omega, h5, h6, hF.trans (hf.mono fun q hq => by omega)⟩, ?_⟩
      rw [e12', m12]
      simp only [intOf]
      omega
    have hgs := hC.gb
    have hss := hC.sz
    by_cases hev : x.tmod 2 = 0
    · refine wp_cond_true (e44.trans (by simp [hev])) ?_
      refine reg6 sz e0 e12 e11 hl0 hciV hxI (by omega) hC (by omega) ?_
      intro b3 V' t' pv' u6 ht' hC' hf
      refine hnext b3 V' _ (u6.sz.trans sz) (u6.mono rfl) ?_
      intro b4 u7 e12'
      exact hfin2 b3 b4 V' _ _ _ (u6.mono rfl) u7 e12' hC' rfl rfl (by simp) (by simp) (fun p hp => (List.mem_append.1 hp).elim (hps p) (fun hp => by rw [List.mem_singleton.1 hp]; exact ht')) hqs hf
    · refine wp_cond_false (e44.trans (by simp [hev])) ?_
      refine reg7 sz e0 e12 e11 hl0 hciV hxI (by omega) hC (by omega) ?_
      intro b3 V' t' qv' u6 ht' hC' hf
      refine hnext b3 V' _ (u6.sz.trans sz) (u6.mono rfl) ?_
      intro b4 u7 e12'
      exact hfin2 b3 b4 V' _ _ _ (u6.mono rfl) u7 e12' hC' rfl rfl (by simp) (by simp) hps (fun p hp => (List.mem_append.1 hp).elim (hqs p) (fun hp => by rw [List.mem_singleton.1 hp]; exact ht')) hf
  · have hex : ∀ b1, Ag [0, 2, 3, 4, 11] b b1 → Ev b1 (.tmp 36) = .bool false → Code.wp Tryz.prog X Q b1 V := by
      intro b1 u4 _
      obtain ⟨A1, k1, rfl, q1, q2, q3⟩ := Sl.of_own hC.pr
      obtain ⟨A2, k2, rfl, q4, q5, q6⟩ := Sl.of_own hC.qr
      unfold maxLen at q2 q5
      have hgs := hC.gb
      refine h b1 V g c A1 k1 A2 k2 (((u1.mono rfl).trans (u2.mono rfl)).trans ((u3.mono rfl).trans (u4.mono rfl))) (u4.get 11 e11) (Fr.new_ext hF (fun b hb => hb)) (by omega) hC.box ⟨⟨q1, by omega, q4, by omega⟩, q3 _ (fun b hb => ⟨by have := own_ge hC.pr hb; omega, hC.pr.block_lt hb⟩), q6 _ (fun b hb => ⟨by have := own_ge hC.qr hb; omega, hC.qr.block_lt hb⟩), small_wf ht hzI hps (by omega) hqs (by omega)⟩ (by omega) (by omega)
    by_cases hl0 : i < l.length
    · have hd1 : decide (i < l.length) = true := by simp [hl0]
      have hd2 : decide ((i : Int) < 7) = false := by simp; omega
      refine ly (gd := 33) (b := true) (v := .int .i64 (i : Int)) (w1 := V) ?_ (he := by simp [*]) (hrun := by simp [execOp, go_sem, *])
      refine ly (gd := 33) (b := true) (v := .bool false) (w1 := V) ?_ (he := by simp [*]) (hrun := by simp [execOp, go_sem, *])
      refine lv (v := .bool false) (w1 := V) ?_ (hrun := by simp [execOp, go_sem, *])
      refine lE b [0, 2, 3, 4, 11] 36 (v := .bool false) ?_ (he := by simp [*])
      intro b1 u4 e36
      exact wp_cond_false e36 (wp_exit (hex b1 u4 e36))
    · have hd1 : decide (i < l.length) = false := by simp [hl0]
      refine ln (gd := 33) (b := false) ?_ (he := by simp [*])
      refine ln (gd := 33) (b := false) ?_ (he := by simp [*])
      refine lv (v := .bool false) (w1 := V) ?_ (hrun := by simp [execOp, go_sem, *])
      refine lE b [0, 2, 3, 4, 11] 36 (v := .bool false) ?_ (he := by simp [*])
      intro b1 u4 e36
      exact wp_cond_false e36 (wp_exit (hex b1 u4 e36))
end Go.Proofs.YtfcplpeimcjhaaaGreatDoor
namespace Go.Proofs.YtfcplpeimcjhaaaGreatDoor
open Go.RowKit
theorem Sl.lt {w : World} {P : Nat → Prop} {A : Option Addr} {n : Nat} {cs : List Value} (h : Sl w P 1 A n cs) : Sl w (fun k => P k ∧ k < w.heap.size) 1 A n cs := by
  refine ⟨h.1, fun h0 => ?_⟩
  obtain ⟨b, off, e, hb, hc⟩ := h.2 h0
  have h1 := h.1
  exact ⟨b, off, e, ⟨hb, lt_of_cell (hc 0 (cs[0]'(by omega)) (by simp))⟩, hc⟩
theorem sB_byt (s : ByteArray) : Byt (sB s) := by
  intro x hx
  simp only [sB, List.mem_map] at hx
  obtain ⟨b, -, rfl⟩ := hx
  have := b.toNat_lt
  omega
theorem encU_byt (n : Nat) : Byt (encU n) := by
  induction n using Nat.strongRecOn with
  | ind n ih =>
    by_cases h : n < 128
    · rw [encU_small h]
      intro x hx
      simp only [List.mem_singleton] at hx
      subst hx
      omega
    · rw [encU_big h]
      intro x hx
      rcases List.mem_cons.1 hx with rfl | hx
      · omega
      · exact ih _ (by omega) x hx
theorem flat_byt {α : Type} {f : α → List Int} {l : List α} (h : ∀ x, Byt (f x)) : Byt (l.flatMap f) := fun y hy => by
  obtain ⟨x, -, hx⟩ := List.mem_flatMap.1 hy
  exact h x y hx
theorem encI_byt (n : Int) : Byt (encI n) := encU_byt _
theorem encR_byt {l : List Int} (h : Byt l) : Byt (encR l) := Byt.app.2 ⟨encU_byt _, h⟩
theorem encS_byt (s : ByteArray) : Byt (encS s) := encR_byt (sB_byt s)
theorem encIs_byt (l : List Int) : Byt (encIs l) := Byt.app.2 ⟨encU_byt _, flat_byt encI_byt⟩
theorem encC_byt (c : GC) : Byt (encC c) := Byt.app.2 ⟨encS_byt _, Byt.app.2 ⟨encI_byt _, Byt.app.2 ⟨Byt.app.2 ⟨encI_byt _, flat_byt encS_byt⟩, Byt.app.2 ⟨encI_byt _, flat_byt encU_byt⟩⟩⟩⟩
theorem encC_pos (c : GC) : 1 ≤ (encC c).length := by
  have := encU_pos (sB c.prop).length
  simp only [encC, encS, encR, List.length_append]
  omega
theorem cdec_enc {c : GC} (h : c.wf) : cDec (encC c) = some c := by
  have h1 := len_flat encS (fun x => by have := encU_pos (sB x).length; simp only [encS, encR, List.length_append]; omega) c.paths
  have h2 := len_flat encU encU_pos c.sums
  have h3 : c.paths.length ≤ (encC c).length ∧ c.sums.length ≤ (encC c).length := by
    unfold encC
    simp only [List.length_append, len_encL]
    omega
  have := decCm_compl (m := (encC c).length) h h3.1 h3.2 []
  rw [List.append_nil] at this
  unfold cDec
  rw [this]
theorem decs_encR {l x : List Int} {s' : Option (List Int)} (hl : l.length < 18446744073709551616) (h : decs decR [] (some (encR l)) x s') : x = l := by
  have := decR_compl hl []
  rw [List.append_nil] at this
  simp only [decs, Option.bind_some, this] at h
  exact h.1
set_option maxHeartbeats 16000000 in
theorem stageB {Q : Exit → Act → World → Prop} {X : Code} {a : Act} {w : World} {P : Nat → Prop} {c : GC} {A B : Option Addr} {k q g : Nat} (sz : a.tmps.size = Tryz.f3.ntmps) (e11 : Ev a (.tmp 11) = .pointer (some ⟨g, 0, none⟩))
    (hB : Blk w g 29 (ccs c.prop c.size A c.paths.length k B c.sums.length q).toArray) (hX : CM w P c A k B q) (hP : ∀ b, P b → b < w.heap.size) (_ : c.paths.length ≤ 6) (_ : c.sums.length ≤ 6)
    (h : ∀ a' V Ab cb, Ag [2, 3, 4] a a' → Ext w V → Ev a' (.tmp 13) = .slice Ab (encC c).length cb → (encC c).length ≤ cb ∧ cb ≤ 9223372036854775807 → Sl V (fun _ => True) 1 Ab (encC c).length ((encC c).map (Value.int .u8)) → Code.wp Tryz.prog X Q a' V) : Code.wp Tryz.prog (.seq (RM3 8) (.seq (RM3 9) (.seq (RM3 10) (.seq (RM3 11) (.seq (.seq (RM3 12) (.cond (.tmp 86) (.seq (RM3 13) .ret) .skip)) (.seq (RM3 14) (.seq (.seq (RM3 15) (.cond (.tmp 101) (.seq (RM3 16) .ret) .skip)) X))))))) Q a w := by
  have hlen := hX.wf.len
  have hby := encC_byt c
  have hpos := encC_pos c
  have hcf : ∀ V, Ext w V → V.cell? ⟨g, 0, none⟩ = some (.string c.prop) ∧ V.cell? ⟨g, 1, none⟩ = some (.int .i64 c.size) ∧ V.cell? ⟨g, 2, none⟩ = some (.slice A c.paths.length k) ∧ V.cell? ⟨g, 3, none⟩ = some (.slice B c.sums.length q) := fun V hV => by
    have hB' := hB.ext hV
    exact ⟨hB'.cell' 0 rfl, hB'.cell' 1 rfl, hB'.cell' 2 rfl, hB'.cell' 3 rfl⟩
  have hq := hcf w (Ext.refl w)
  refine wp_seq (rW ?_)
  refine lv ?_
  refine lc Tryz.func8 (own8 c.prop c.size A c.paths.length k B c.sums.length q w) ?_
  rintro e w1 ⟨rfl, hx1⟩
  refine ⟨_, rfl, ?_⟩
  have hP1 : ∀ k, P k → k < w1.heap.size := fun k hk => Nat.lt_of_lt_of_le (hP k hk) hx1.size
  refine lc Tryz.func7 (encode7 c A B k q P w1 (hX.ext hx1) hP1) ?_
  rintro e w2 ⟨v2, rfl, hO⟩
  refine ⟨_, rfl, ?_⟩
  obtain ⟨A6, c6, rfl, h61, h62, hs6⟩ := hO.sl
  have hx2 := hx1.trans' hO.ex
  have hw12 := hO.ex.size
  clear hO hq
  refine lv ?_
  refine lE a [2, 3, 4, 11] 13 ?_
  intro a1 u1 e13
  replace sz := u1.sz.trans sz
  replace e11 := u1.get 11 e11
  refine wp_seq (rW ?_)
  have hS := WS.mk0 w2
  have hxa : Ext w2 (w2.alloc (.cells #[.slice none 0 0] 36)) := (Ext.refl _).alloc' _
  refine lv (w1 := w2.alloc (.cells #[.slice none 0 0] 36)) ?_
  refine lE a1 [2, 3, 4, 11, 13] 14 ?_
  intro a2 u2 e14
  replace sz := u2.sz.trans sz
  replace e11 := u2.get 11 e11
  replace e13 := u2.get 13 e13
  replace hs6 := hs6.lt.keep (Keeps.of_ext hxa) (fun _ h => h)
  have hx3 := hx2.trans' hxa
  generalize w2.alloc (.cells #[.slice none 0 0] 36) = W at *
  have hG := WG.rf W w2.heap.size nl
  refine wp_seq (rW ?_)
  refine lv ?_
  refine lcw a2 [2, 3, 4, 11, 13, 14] Tryz.func9 hG (raw68 (c := c6) (encC c) rfl (by omega) hs6 (fun k hk => ⟨by omega, fun h => nomatch h⟩) hS (by simp)) ?_
  intro a3 v3 w3 u3 hS3 hG3
  replace sz := u3.sz.trans sz
  replace e11 := u3.get 11 e11
  replace e13 := u3.get 13 e13
  replace e14 := u3.get 14 e14
  replace hs6 := hs6.keep (Keeps.of_fr hG3.fr (fun k hk => by simp [Value.ownBlock]; omega)) (fun _ h => h)
  have hx4 : Ext w w3 := hG3.old hx3 (by have := hx2.size; omega) (fun _ h => nomatch h)
  have hszG := hG3.fr.size
  have hsza := hxa.size
  have hlR : (encR (encC c)).length ≤ 1000010 := by
    have := encU10 (n := (encC c).length) (by omega)
    unfold encR
    rw [List.length_append]
    omega
  have hbR := encR_byt hby
  simp only [List.nil_append] at hS3
  clear hS hG hG3
  refine wp_seq (rW ?_)
  refine lc Tryz.func11 (done73 hS3 (by omega)) ?_
  rintro e w4 ⟨v4, rfl, hO4⟩
  refine ⟨_, rfl, ?_⟩
  obtain ⟨A7, c7, rfl, -, -, hs7⟩ := hO4.sl
  refine lc Tryz.func10 (read74 (c := c7) (by omega) hbR hs7) ?_
  rintro e w5 ⟨gr, P2, rfl, hRS, hgr, hPr, hx5⟩
  refine ⟨_, rfl, ?_⟩
  refine lv ?_
  refine lE a3 [2, 3, 4, 11, 13] 15 ?_
  intro a4 u4 e15
  replace sz := u4.sz.trans sz
  replace e11 := u4.get 11 e11
  replace e13 := u4.get 13 e13
  have hx45 := hO4.ex.trans' hx5
  have hx6 := hx4.trans' hx45
  have hsz4 := hO4.ex.size
  replace hs6 := hs6.keep (Keeps.of_ext hx45) (fun _ h => h)
  have hq := hcf w5 hx6
  clear hs7 hO4 hS3 hx5
  refine wp_seq (wp_seq (rW ?_))
  iterate 3 refine lv ?_
  iterate 2 refine ly (gd := 75) (b := false) ?_ (he := by simp [*])
  refine lcg (gd := 75) (b := false) Tryz.func13 (encode13 c A B k q P w5 (hX.ext hx6)) ?_ (he := by simp [*])
  rintro e w6 ⟨v6, rfl, hO6⟩
  refine ⟨_, rfl, ?_⟩
  obtain ⟨A8, c8, rfl, -, -, hs8⟩ := hO6.sl
  have hx56 := hO6.ex
  replace hs6 := hs6.keep (Keeps.of_ext hx56) (fun _ h => h)
  clear hq hO6
  refine lcg (gd := 75) (b := false) Tryz.func12 (same35 (c := c6) (c' := c8) (encC c) (encC c) w6 (by omega) (by omega) hs6 hs8) ?_ (he := by simp [*])
  rintro e w7 ⟨rfl, hx67⟩
  refine ⟨_, rfl, ?_⟩
  have hne : encC c ≠ [] := fun e => by rw [e] at hpos; simp at hpos
  refine ly (gd := 75) (b := false) (v := .bool false) (w1 := w7) ?_ (he := by simp [*]) (hrun := by simp [execOp, go_sem, *])
  refine lv (v := .bool false) (w1 := w7) ?_ (hrun := by simp [execOp, go_sem, *])
  refine lv (v := .bool false) (w1 := w7) ?_ (hrun := by simp [execOp, go_sem, *])
  iterate 2 refine ly (gd := 82) (b := false) (w1 := w7) ?_ (he := by simp [*])
  refine ly (gd := 82) (b := false) (v := .bool false) (w1 := w7) ?_ (he := by simp [*]) (hrun := by simp [execOp, go_sem, *])
  refine lv (v := .bool false) (w1 := w7) ?_ (hrun := by simp [execOp, go_sem, *])
  refine lE a4 [2, 3, 4, 11, 13, 15] 86 (v := .bool false) ?_ (he := by simp [*])
  intro a5 u5 e86
  replace sz := u5.sz.trans sz
  replace e11 := u5.get 11 e11
  replace e13 := u5.get 13 e13
  replace e15 := u5.get 15 e15
  replace hs6 := hs6.keep (Keeps.of_ext hx67) (fun _ h => h)
  have hx57 := hx56.trans' hx67
  have hx7 := hx6.trans' hx57
  refine wp_cond_false (e86.trans (by simp)) (wp_skip ?_)
  clear hs8 e86 hx67 hx56 hx45
  have hRS7 := hRS.ext hx57
  refine wp_seq (rW ?_)
  refine lv ?_
  refine lc Tryz.func15 (raw76 hRS7) ?_
  rintro e w8 ⟨raw, s', v8, rfl, ⟨A9, c9, rfl, -, -, -, hbr, hs9⟩, hRS8, hdec, hF8⟩
  obtain rfl := decs_encR (l := encC c) (by omega) hdec
  refine ⟨_, rfl, ?_⟩
  have hx8 : Ext w w8 := ext_fr hx7 hF8 (by have := hx4.size; omega)
  replace hs6 := hs6.keep (Keeps.of_fr hF8 (fun k hk e => by have := hk.2; omega)) (fun _ h => h)
  refine lc Tryz.func14 (decode14 (c := c9) (encC c) w8 (by omega) hby hs9) ?_
  rintro e w9 ⟨r, A10, k10, B10, q10, er, rfl, hR, hx9, hd⟩
  refine ⟨_, rfl, ?_⟩
  obtain ⟨rfl, hrc⟩ : er = 0 ∧ c = r := by
    rw [cdec_enc hX.wf] at hd
    rcases hd with ⟨h1, h2⟩ | ⟨h1, h2, -⟩
    · exact ⟨h1, Option.some.inj h2⟩
    · cases h2
  subst hrc
  iterate 3 refine lv ?_
  refine l_box 33 [.string ⟨#[]⟩, .int .i64 0, .slice none 0 0, .slice none 0 0] (ccs c.prop c.size A10 c.paths.length k10 B10 c.sums.length q10) rfl ?_
  intro w10 hB10 hx10
  refine lv ?_
  refine lE2 a5 [2, 3, 4, 11, 13] 16 17 (v := .pointer (some ⟨w9.heap.size, 0, none⟩)) (v' := .int .i64 0) ?_ (he := by simp [*]) (he' := by simp [*])
  intro a6 u6 e16 e17
  replace sz := u6.sz.trans sz
  replace e11 := u6.get 11 e11
  replace e13 := u6.get 13 e13
  have hx11 := (hx8.trans' hx9).trans' hx10
  have hR2 : CM w10 (fun b => w8.heap.size ≤ b ∧ b < w9.heap.size) c A10 k10 B10 q10 := ⟨hR.cap, hR.paths.keep (Keeps.of_ext hx10) (fun _ h => h), hR.sums.keep (Keeps.of_ext hx10) (fun _ h => h), hX.wf⟩
  refine wp_seq (wp_seq ?_)
  refine reg15 sz e11 e16 e17 (fun V hV => ?_) (hX.ext hx11) hR2 ?_
  · obtain ⟨k0, k1, k2, k3⟩ := hcf V (hx11.trans' hV)
    have hB' := hB10.ext hV
    exact ⟨k0, k1, k2, k3, hB'.cell' 0 rfl, hB'.cell' 1 rfl, hB'.cell' 2 rfl, hB'.cell' 3 rfl⟩
  · intro a7 w11 u7 hx12 e101
    refine wp_cond_false (e101.trans (by simp)) (wp_skip ?_)
    exact h a7 w11 A6 c6 ((((((u1.mono rfl).trans (u2.mono rfl)).trans (u3.mono rfl)).trans (u4.mono rfl)).trans (u5.mono rfl)).trans ((u6.mono rfl).trans (u7.mono rfl))) (hx11.trans' hx12) (u7.get 13 e13) ⟨h61, h62⟩ (((hs6.keep (Keeps.of_ext hx9) (fun _ h => h)).keep (Keeps.of_ext hx10) (fun _ h => h)).keep (Keeps.of_ext hx12) (fun _ _ => trivial))
end Go.Proofs.YtfcplpeimcjhaaaGreatDoor
namespace Go.Proofs.YtfcplpeimcjhaaaGreatDoor
open Go.RowKit
set_option maxHeartbeats 16000000 in
theorem stageC {Q : Exit → Act → World → Prop} {X : Code} {a : Act} {w : World} {raw bs : List Int} {Ar Ab : Option Addr} {cr cb' : Nat} {at_ cb : Int} {T : Nat → Prop} (sz : a.tmps.size = Tryz.f3.ntmps) (e2 : Ev a (.tmp 2) = .slice Ar raw.length cr) (e3 : Ev a (.tmp 3) = .int .i64 at_) (e4 : Ev a (.tmp 4) = .int .u8 cb) (e13 : Ev a (.tmp 13) = .slice Ab bs.length cb')
    (hat : I64 at_) (hcb : 0 ≤ cb ∧ cb < 256) (hrl : raw.length ≤ 1000000000000000 ∧ raw.length ≤ cr ∧ cr ≤ 9223372036854775807) (hrb : Byt raw) (hraw : Sl w T 1 Ar raw.length (raw.map (Value.int .u8))) (hb : bs.length ≤ cb' ∧ cb' ≤ 9223372036854775807) (hpos : 1 ≤ bs.length) (hlen : bs.length ≤ 1000000) (hbyt : Byt bs) (hsb : Sl w (fun _ => True) 1 Ab bs.length (bs.map (Value.int .u8)))
    (h : ∀ a' V, Ag [] a a' → Ext w V → Code.wp Tryz.prog X Q a' V) : Code.wp Tryz.prog (.seq (RM3 17) (.seq (RM3 18) (.seq (RM3 19) (.seq lp2 X)))) Q a w := by
  obtain ⟨hb1, hb2⟩ := hb
  refine wp_seq (rW ?_)
  iterate 3 refine lv ?_
  refine lc Tryz.func18 (few37 (c := cb') bs bs.length w ⟨by omega, hb1, hb2⟩ (by omega) hsb) ?_
  rintro e w2 ⟨v18, rfl, hO2⟩
  refine ⟨_, rfl, ?_⟩
  rw [List.take_length] at hO2
  refine lv ?_
  refine lE a [2, 3, 4, 13] 18 ?_
  intro a1 u1 e18
  replace sz := u1.sz.trans sz
  replace e2 := u1.get 2 e2
  replace e3 := u1.get 3 e3
  replace e4 := u1.get 4 e4
  replace e13 := u1.get 13 e13
  have hx2 := hO2.ex
  obtain ⟨g18, cap, rfl, hg18, hrow, hcap2⟩ : ∃ g18 cap, v18 = .slice (some ⟨g18, 0, none⟩) bs.length cap ∧ w.heap.size ≤ g18 ∧ w2.ownsRow w.heap.size 5 1 (.slice (some ⟨g18, 0, none⟩) bs.length cap) bs.length (bs.map (Value.int .u8)) ∧ bs.length ≤ cap ∧ cap ≤ 9223372036854775807 := by
    have hrow := hO2.row
    unfold By at hrow
    rcases hrow.2 with ⟨_, hz⟩ | ⟨g22, cap, cur, rfl, hg22, _, h5, h6, _⟩
    · omega
    · unfold maxLen at h6
      exact ⟨g22, cap, rfl, hg22, hrow, h5, h6⟩
  refine wp_seq (rW ?_)
  iterate 4 refine lv ?_
  refine lc Tryz.func19 (around_any at_ bs.length w2 hat (by omega) (by omega)) ?_
  rintro e _ ⟨rfl, rfl⟩
  refine ⟨_, rfl, ?_⟩
  obtain ⟨hy0, hy1⟩ := around_lt (n := at_) (m := bs.length) (by omega)
  obtain ⟨kn, hkn⟩ : ∃ kn : Nat, around at_ bs.length = (kn : Int) := ⟨(around at_ bs.length).toNat, by omega⟩
  rw [hkn] at hy0 hy1 ⊢
  have hkl : kn < bs.length := by omega
  have hcell := hrow.cellAt kn (by omega)
  rw [List.getElem?_map, List.getElem?_eq_getElem hkl] at hcell
  simp only [Option.map_some] at hcell
  have hfro := hrow.frozenAt kn
  clear hkn
  iterate 2 refine lv ?_
  refine ls (w1 := w2.setCell ⟨g18, kn, none⟩ (.int .u8 cb)) ?_ rfl rfl (by simp [execOp, go_sem, *]; try rfl)
  have hY : Fr (fun k => k = g18) w2 (w2.setCell ⟨g18, kn, none⟩ (.int .u8 cb)) := (Fr.refl (fun k => k = g18) w2).setCell (p := ⟨g18, kn, none⟩) (.inl rfl) _
  replace hrow := (hrow.stored kn (.int .u8 cb)).1
  rw [← List.map_set] at hrow
  have hx3 : Ext w (w2.setCell ⟨g18, kn, none⟩ (.int .u8 cb)) := Fr.new_ext ((Fr.of_ext hx2).trans (hY.mono (fun k h => h ▸ hg18))) (fun k h => h)
  clear hcell hfro
  generalize w2.setCell ⟨g18, kn, none⟩ (.int .u8 cb) = w3 at *
  refine lN a1 [2, 13, 18] ?_
  intro a2 u2
  replace sz := u2.sz.trans sz
  replace e2 := u2.get 2 e2
  replace e13 := u2.get 13 e13
  replace e18 := u2.get 18 e18
  refine wp_seq ?_
  refine reg19 (cap := cap) sz e2 e13 e18 hrl ⟨hb1, hb2⟩ hpos (hraw.keep (Keeps.of_ext hx3) (fun _ h => h)) ?_
  intro a3 w4 gA A1 c1 u3 hx4 e19 hBA hF1
  replace sz := u3.sz.trans sz
  have hsb4 := (hsb.keep (Keeps.of_ext hx3) (fun _ h => h)).keep (Keeps.of_ext hx4) (fun _ h => h)
  have hrow4 := hrow.ext_ hx4
  clear e2 e3 e4 e13 e18
  refine wp_seq (wp_seq (rW ?_))
  refine lv ?_
  refine lE a3 [19] 20 ?_
  intro a4 u4 e20
  replace sz := u4.sz.trans sz
  replace e19 := u4.get 19 e19
  refine wp_block (wp_loop (fun a' V => ∃ j : Nat, Ag [19] a4 a' ∧ Ev a' (.tmp 20) = .int .i64 (j : Int) ∧ j ≤ 3 ∧ Ext w4 V) (fun a' _ => (3 - intOf (Ev a' (.tmp 20))).toNat) ⟨0, .rf, e20, by omega, Ext.refl _⟩ ?_)
  clear e20
  rintro a5 V ⟨j, u5, e20, hj, hxV⟩
  replace sz := u5.sz.trans sz
  replace e19 := u5.get 19 e19
  have m20 := e20
  refine wp_seq (wp_seq (rW ?_))
  iterate 2 refine lv ?_
  refine lE a5 [19, 20] 123 (v := .bool (decide ((j : Int) < 3))) ?_ (he := by simp [*])
  intro a6 u6 e123
  replace sz := u6.sz.trans sz
  replace e19 := u6.get 19 e19
  replace e20 := u6.get 20 e20
  by_cases hlt : j < 3
  · refine wp_cond_true (e123.trans (by simp; omega)) (wp_skip (wp_seq (wp_block ?_)))
    have hw2 : IntKind.i64.wrap ((j : Int) + 1) = (j : Int) + 1 := wrI (by omega) (by omega)
    have hnext : ∀ (a7 : Act) (V2 : World), Ag [19, 20] a6 a7 → Ext V V2 → Code.wp Tryz.prog (RM3 22) (Exit.then (fun a' w' => (∃ j : Nat, Ag [19] a4 a' ∧ Ev a' (.tmp 20) = .int .i64 (j : Int) ∧ j ≤ 3 ∧ Ext w4 w') ∧ (3 - intOf (Ev a' (.tmp 20))).toNat < (3 - intOf (Ev a5 (.tmp 20))).toNat) (Exit.inBlock 2 (Exit.then (Code.wp Tryz.prog X Q) Q))) a7 V2 := by
      intro a7 V2 u7 hxW
      replace e20 := u7.get 20 e20
      replace sz := u7.sz.trans sz
      refine rW ?_
      refine lv ?_
      refine lv (v := .int .i64 ((j : Int) + 1)) (w1 := V2) ?_ (hrun := by simp [execOp, go_sem, *])
      refine lv ?_
      refine lE a7 [19] 20 (v := .int .i64 ((j + 1 : Nat) : Int)) ?_ (he := by simp [*])
      intro a8 u8 e20'
      refine ⟨⟨j + 1, ((u5.trans (u6.mono rfl)).trans (u7.mono rfl)).trans u8, e20', by omega, hxV.trans' hxW⟩, ?_⟩
      rw [e20', m20]
      simp only [intOf]
      omega
    obtain rfl | rfl | rfl : j = 0 ∨ j = 1 ∨ j = 2 := by omega
    · refine body2 (l := raw.take 40) sz e19 e20 (by omega) (fun V' h => (hBA.ext (hxV.trans' h)).cell' 0 rfl) (by rw [List.length_take]; omega) (fun x hx => hrb x (List.mem_of_mem_take hx)) (hF1.keep (Keeps.of_ext hxV) (fun _ h => h)) ?_
      intro a7 V2 u7 hxW
      exact hnext a7 V2 u7 hxW
    · have hls : (bs.set kn cb).length = bs.length := List.length_set
      obtain ⟨Aq, cq, eq_, -, -, hsq⟩ := Sl.of_own hrow4
      cases eq_
      refine body2 (l := bs.set kn cb) sz e19 e20 (by omega) (fun V' h => by rw [hls]; exact (hBA.ext (hxV.trans' h)).cell' 1 rfl) (by omega) (fun x hx => (List.mem_or_eq_of_mem_set hx).elim (hbyt x) (fun e => e ▸ hcb)) (by rw [hls]; exact (hsq (fun _ => True) (fun _ _ => trivial)).keep (Keeps.of_ext hxV) (fun _ h => h)) ?_
      intro a7 V2 u7 hxW
      exact hnext a7 V2 u7 hxW
    · have hls : (bs.take (bs.length - 1)).length = bs.length - 1 := by rw [List.length_take]; omega
      have hst := hsb4.take (k := bs.length - 1) (by omega)
      rw [Nat.mul_one, ← List.map_take] at hst
      refine body2 (l := bs.take (bs.length - 1)) sz e19 e20 (by omega) (fun V' h => by rw [hls]; exact (hBA.ext (hxV.trans' h)).cell' 2 rfl) (by omega) (fun x hx => hbyt x (List.mem_of_mem_take hx)) (by rw [hls]; exact hst.keep (Keeps.of_ext hxV) (fun _ h => h)) ?_
      intro a7 V2 u7 hxW
      exact hnext a7 V2 u7 hxW
  · refine wp_cond_false (e123.trans (by simp; omega)) (wp_exit ?_)
    exact h a6 V ((((u1.mono rfl).trans (u2.mono rfl)).trans (u3.mono rfl)).trans ((u4.mono rfl).trans ((u5.mono rfl).trans (u6.mono rfl)))) ((hx3.trans' hx4).trans' hxV)
set_option maxHeartbeats 16000000 in
theorem exhaust3 {P T : Nat → Prop} {v : Value} {Ar : Option Addr} {cr : Nat} (l raw : List Int) (s : ByteArray) (at_ cb : Int) (w : World) (hv : Ints w P v l) (hat : I64 at_) (hcb : 0 ≤ cb ∧ cb < 256)
    (hrl : raw.length ≤ 1000000000000000 ∧ raw.length ≤ cr ∧ cr ≤ 9223372036854775807) (hrb : Byt raw) (hraw : Sl w T 1 Ar raw.length (raw.map (Value.int .u8)))
    (hlives : ∀ V, Ext w V → Calls Tryz.prog 20 #[] V fun e w' => e = .returned (.bool true) ∧ Ext V w') : Calls Tryz.prog 3 #[v, .string s, .slice Ar raw.length cr, .int .i64 at_, .int .u8 cb] w (RetE (.bool true) w) := by
  refine callsV Tryz.func3 bM3 rfl (by simp) (fun a Q sz df ea hQ => ?_)
  have e0 := ea 0 v rfl
  have e1 := ea 1 (.string s) rfl
  have e2 := ea 2 (.slice Ar raw.length cr) rfl
  have e3 := ea 3 (.int .i64 at_) rfl
  have e4 := ea 4 (.int .u8 cb) rfl
  clear ea
  refine wp_seq (rW ?_)
  refine lv ?_
  refine lN a [0, 1, 2, 3, 4] ?_
  intro a1 u1
  replace sz := u1.sz.trans sz
  replace df := u1.df.trans df
  replace e2 := u1.get 2 e2
  replace e3 := u1.get 3 e3
  replace e4 := u1.get 4 e4
  refine stageA sz (u1.get 0 e0) (u1.get 1 e1) hv ?_
  intro a2 V g c A k B q u2 e11 hx hg hB hX hn1 hn2
  replace sz := u2.sz.trans sz
  replace df := u2.df.trans df
  replace e2 := u2.get 2 e2
  replace e3 := u2.get 3 e3
  replace e4 := u2.get 4 e4
  refine stageB sz e11 hB hX (fun b hb => hb.2) hn1 hn2 ?_
  intro a3 V2 Ab cb' u3 hx2 e13 hb hsb
  replace sz := u3.sz.trans sz
  replace df := u3.df.trans df
  have hx02 := hx.trans' hx2
  refine stageC sz (u3.get 2 e2) (u3.get 3 e3) (u3.get 4 e4) e13 hat hcb hrl hrb (hraw.keep (Keeps.of_ext hx02) (fun _ h => h)) hb (encC_pos c) hX.wf.len (encC_byt c) hsb ?_
  intro a4 V3 u4 hx3
  have hx03 := hx02.trans' hx3
  replace sz := u4.sz.trans sz
  refine wp_seq (rW ?_)
  refine lc Tryz.func20 (hlives V3 hx03) ?_
  rintro e V4 ⟨rfl, hx4⟩
  refine ⟨_, rfl, ?_⟩
  refine lv ?_
  refine lE a4 [] 10 (v := .bool true) ?_ (he := by simp [*])
  intro a5 u5 e10
  exact wp_ret (hQ _ _ _ (u5.df.trans (u4.df.trans df)) (by simp [results, Tryz.results3, go_sem, evT e10]; try rfl) ⟨rfl, hx03.trans' hx4⟩)
end Go.Proofs.YtfcplpeimcjhaaaGreatDoor
