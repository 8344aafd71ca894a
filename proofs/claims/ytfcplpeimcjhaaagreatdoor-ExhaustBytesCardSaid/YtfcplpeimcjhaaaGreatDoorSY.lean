/- The text of the wide integer 4. Conditions: none. -/
import Derived.Test.YtfcplpeimcjhaaaGreatDoorQZ
import Derived.Test.YtfcplpeimcjhaaaGreatDoorSX
namespace Go.Proofs.YtfcplpeimcjhaaaGreatDoor
open Go.RowKit
theorem mk32 (W : World) : (Instr.makeSlice 104 (.int .i64 1) (.int .i64 1)).run Tryz.prog W = .ok (.slice (some ⟨W.heap.size, 0, none⟩) 1 1) (W.alloc (.cells #[.int .u32 0] 171)) := by
  obtain ⟨i3, hi3, hz0, hz1, hz2⟩ := info_parts (show (Tryz.prog.info? 171).map (fun i => (i.zero, i.size, i.bytes)) = some (some (.int .u32 0), 1, 4) by kernel_rfl)
  have h := run_make (P := Tryz.prog) W 104 171 i3 _ Tryz.underlying104 hi3 hz0 .i64 .i64 1 1 (by omega) (Int.le_refl _) (by rw [hz2]; omega) (by omega)
  rw [hz1, show madeCells (Value.int .u32 0).cells (Int.toNat 1 * 1) = #[.int .u32 0] from (by show madeCells #[.int .u32 0] 1 = _; simp [madeCells]; exact ⟨0, rfl, rfl⟩)] at h
  exact h
noncomputable def RT72 := RG Tryz.f72
noncomputable abbrev cT72 : Code := .seq (RT72 0) (.seq (RT72 1) (.seq (RT72 2) (.seq (.seq (RT72 3) (.block 0 (.loop (.seq (.seq (RT72 4) (.cond (.tmp 16) .skip (.exit 0))) (.seq (.block 1 (.seq (RT72 6) (.seq (RT72 7) (RT72 8)))) (RT72 5)))))) (.seq (RT72 9) .ret))))
theorem bT72 : Tryz.f72.body = some cT72 := by kernel_rfl
set_option maxHeartbeats 4000000 in
theorem div72 (c o k : Nat) (w : World) (h4 : w.cell? ⟨c, o, none⟩ = some (.int .u32 4)) : Calls Tryz.prog 72 #[.slice (some ⟨c, o, none⟩) 1 k, .int .u32 1000000000] w (fun e w' => ∃ g, e = .returned (.tuple #[.slice (some ⟨g, 0, none⟩) 1 1, .int .u32 4]) ∧ w.heap.size ≤ g ∧ Blk w' g 171 #[.int .u32 0] ∧ Ext w w') := by
  refine callsV Tryz.func72 bT72 rfl (by simp) (fun a Q sz df ea hQ => ?_)
  have e0 := ea 0 (.slice (some ⟨c, o, none⟩) 1 k) rfl
  have e1 := ea 1 (.int .u32 1000000000) rfl
  refine wp_seq (rW ?_)
  iterate 2 refine lv ?_
  refine lN a [0, 1] ?_
  intro a1 u1
  replace sz := u1.sz.trans sz
  replace df := u1.df.trans df
  replace e0 := u1.get 0 e0
  replace e1 := u1.get 1 e1
  have hmk := mk32 w
  have hE : Ext w (w.alloc (.cells #[.int .u32 0] 171)) := (Ext.refl _).alloc' _
  have hB := Blk.new w 171 #[.int .u32 0]
  refine wp_seq (rW ?_)
  iterate 2 refine lv ?_
  refine lv (w1 := w.alloc (.cells #[.int .u32 0] 171)) (v := .slice (some ⟨w.heap.size, 0, none⟩) 1 1) ?_ (hrun := by simp [execOp, go_sem, *])
  refine lv ?_
  refine lE a1 [0, 1] 6 ?_
  intro a2 u2 e6
  generalize hW : w.alloc (.cells #[.int .u32 0] 171) = W at *
  clear hW hmk
  replace sz := u2.sz.trans sz
  replace df := u2.df.trans df
  replace e0 := u2.get 0 e0
  replace e1 := u2.get 1 e1
  refine wp_seq (rW ?_)
  refine lv ?_
  refine lE a2 [0, 1, 6] 7 ?_
  intro a3 u3 e7
  replace sz := u3.sz.trans sz
  replace df := u3.df.trans df
  replace e0 := u3.get 0 e0
  replace e1 := u3.get 1 e1
  replace e6 := u3.get 6 e6
  refine wp_seq (wp_seq (rW ?_))
  iterate 4 refine lv ?_
  refine lE a3 [0, 1, 6, 7] 8 ?_
  intro a4 u4 e8
  replace sz := u4.sz.trans sz
  replace df := u4.df.trans df
  replace e0 := u4.get 0 e0
  replace e1 := u4.get 1 e1
  replace e6 := u4.get 6 e6
  replace e7 := u4.get 7 e7
  clear u1 u2 u3 u4 ea
  refine wp_block (wp_loop (fun a' w' => ∃ i v : Int, ((i = 0 ∧ v = 0) ∨ (i = -1 ∧ v = 4)) ∧ Ag [0, 1, 6] a4 a' ∧ Ev a' (.tmp 8) = .int .i64 i ∧ Ev a' (.tmp 7) = .int .u64 v ∧ Blk w' w.heap.size 171 #[.int .u32 0] ∧ Ext w w') (fun a' _ => (intOf (Ev a' (.tmp 8)) + 1).toNat) ⟨0, 0, .inl ⟨rfl, rfl⟩, .rf, e8, e7, hB, hE⟩ ?_)
  clear e7 e8
  rintro a5 W5 ⟨i, v, hiv, u5, e8, e7, hB5, hE5⟩
  have sz5 := u5.sz.trans sz
  have f0 := u5.get 0 e0
  have f1 := u5.get 1 e1
  have f6 := u5.get 6 e6
  have g4 := cell_ext hE5 h4
  have e8o := e8
  refine wp_seq (wp_seq (rW ?_))
  iterate 2 refine lv ?_
  refine lE a5 [0, 1, 6, 7, 8] 16 ?_
  intro a6 u6 e16
  replace sz5 := u6.sz.trans sz5
  replace f0 := u6.get 0 f0
  replace f1 := u6.get 1 f1
  replace f6 := u6.get 6 f6
  replace e7 := u6.get 7 e7
  replace e8 := u6.get 8 e8
  rcases hiv with ⟨rfl, rfl⟩ | ⟨rfl, rfl⟩
  · refine wp_cond_true e16 (wp_skip (wp_seq (wp_block (wp_seq (rW ?_)))))
    have hc := hB5.cell' (u := .int .u32 0) 0 rfl
    have hf := hB5.frozen 0
    iterate 9 refine lv ?_
    refine lE a6 [0, 1, 6, 8] 7 (v := .int .u64 4) ?_
    intro a7 u7 e7
    replace sz5 := u7.sz.trans sz5
    replace f0 := u7.get 0 f0
    replace f1 := u7.get 1 f1
    replace f6 := u7.get 6 f6
    replace e8 := u7.get 8 e8
    refine wp_seq (rW ?_)
    iterate 8 refine lv ?_
    refine ls (w1 := W5.setCell ⟨w.heap.size, 0, none⟩ (.int .u32 0)) ?_ rfl rfl (by simp [execOp, go_sem, *]; rfl)
    have hB6 := hB5.set_ 0 (.int .u32 0)
    have hE6 : Ext w (W5.setCell ⟨w.heap.size, 0, none⟩ (.int .u32 0)) := hE5.setCell (p := ⟨w.heap.size, 0, none⟩) (Nat.le_refl _) _
    replace hB6 : Blk (W5.setCell ⟨w.heap.size, 0, none⟩ (.int .u32 0)) w.heap.size 171 #[.int .u32 0] := hB6
    generalize W5.setCell ⟨w.heap.size, 0, none⟩ (.int .u32 0) = W6 at *
    refine lN a7 [0, 1, 6, 7, 8] ?_
    intro a8 u8
    replace sz5 := u8.sz.trans sz5
    replace f0 := u8.get 0 f0
    replace f1 := u8.get 1 f1
    replace f6 := u8.get 6 f6
    replace e7 := u8.get 7 e7
    replace e8 := u8.get 8 e8
    refine rW ?_
    iterate 5 refine lv ?_
    refine lE a8 [0, 1, 6, 8] 7 (v := .int .u64 4) ?_
    intro a9 u9 e7'
    replace sz5 := u9.sz.trans sz5
    replace f0 := u9.get 0 f0
    replace f1 := u9.get 1 f1
    replace f6 := u9.get 6 f6
    replace e8 := u9.get 8 e8
    refine rW ?_
    iterate 3 refine lv ?_
    refine lE a9 [0, 1, 6, 7] 8 (v := .int .i64 (-1)) ?_ (he := by simp [*])
    intro a10 u10 e8'
    refine ⟨⟨-1, 4, .inr ⟨rfl, rfl⟩, ((((u5.trans (u6.mono (by rfl))).trans (u7.mono (by rfl))).trans (u8.mono (by rfl))).trans (u9.mono (by rfl))).trans (u10.mono (by rfl)), e8', u10.get 7 e7', hB6, hE6⟩, ?_⟩
    rw [e8', e8o]; decide
  · refine wp_cond_false e16 (wp_exit ?_)
    refine wp_seq (rW ?_)
    iterate 5 refine lv ?_
    refine lE2 a6 [] 4 5 ?_
    intro a7 u7 e4 e5
    exact wp_ret (hQ _ _ (.tuple #[.slice (some ⟨w.heap.size, 0, none⟩) 1 1, .int .u32 4]) (u7.df.trans (u6.df.trans (u5.df.trans df))) (by simp [results, Tryz.results72, go_sem, evT e4, evT e5]; try rfl) ⟨_, rfl, Nat.le_refl _, hB5, hE5⟩)
noncomputable def RT73 := RG Tryz.f73
noncomputable abbrev cT73 : Code := .seq (RT73 0) (.seq (.block 0 (.loop (.seq (.seq (RT73 1) (.cond (.tmp 14) .skip (.exit 0))) (.block 1 (RT73 2))))) (.seq (RT73 3) .ret))
theorem bT73 : Tryz.f73.body = some cT73 := by kernel_rfl
set_option maxHeartbeats 4000000 in
/-- a slice of one zero is cut to nothing -/
theorem trim73 (g : Nat) (w : World) (hB : Blk w g 171 #[.int .u32 0]) : Calls Tryz.prog 73 #[.slice (some ⟨g, 0, none⟩) 1 1] w (fun e w' => e = .returned (.slice (some ⟨g, 0, none⟩) 0 1) ∧ w' = w) := by
  refine callsV Tryz.func73 bT73 rfl (by simp) (fun a Q sz df ea hQ => ?_)
  have e0 := ea 0 (.slice (some ⟨g, 0, none⟩) 1 1) rfl
  refine wp_seq (rW ?_)
  refine lv ?_
  refine lN a [0] ?_
  intro a1 u1
  replace sz := u1.sz.trans sz
  replace df := u1.df.trans df
  replace e0 := u1.get 0 e0
  clear u1 ea
  refine wp_seq (wp_block (wp_loop (fun a' w' => ∃ n : Nat, (n = 1 ∨ n = 0) ∧ a'.tmps.size = Tryz.f73.ntmps ∧ a'.defers = [] ∧ Ev a' (.tmp 0) = .slice (some ⟨g, 0, none⟩) n 1 ∧ w' = w) (fun a' _ => match Ev a' (.tmp 0) with | .slice _ n _ => n | _ => 0) ⟨1, .inl rfl, sz, df, e0, rfl⟩ ?_))
  clear sz df e0
  rintro a2 w2 ⟨n, hn, sz, df, e0, rfl⟩
  have hc := hB.cell' (u := .int .u32 0) 0 rfl
  have e0o := e0
  refine wp_seq (wp_seq (rW ?_))
  rcases hn with rfl | rfl
  · iterate 4 refine lv ?_
    iterate 7 refine ly ?_
    refine lv ?_
    refine lE a2 [0] 14 (v := .bool true) ?_ (he := by simp [*])
    intro a3 u3 e14
    replace sz := u3.sz.trans sz
    replace df := u3.df.trans df
    replace e0 := u3.get 0 e0
    refine wp_cond_true e14 (wp_skip (wp_block (rW ?_)))
    iterate 6 refine lv ?_
    refine lE a3 [] 0 (v := .slice (some ⟨g, 0, none⟩) 0 1) ?_ (he := by simp [*])
    intro a4 u4 e0'
    exact ⟨⟨0, .inr rfl, u4.sz.trans sz, u4.df.trans df, e0', rfl⟩, by rw [e0', e0o]; exact Nat.zero_lt_one⟩
  · iterate 4 refine lv ?_
    iterate 7 refine ln ?_
    refine lv ?_
    refine lE a2 [0] 14 (v := .bool false) ?_ (he := by simp [*])
    intro a3 u3 e14
    replace sz := u3.sz.trans sz
    replace df := u3.df.trans df
    replace e0 := u3.get 0 e0
    refine wp_cond_false e14 (wp_exit ?_)
    refine wp_seq (rW ?_)
    iterate 2 refine lv ?_
    refine lE a3 [] 2 ?_
    intro a4 u4 e2
    exact wp_ret (hQ _ _ _ (u4.df.trans df) (by simp [results, Tryz.results73, go_sem, evT e2]; try rfl) ⟨rfl, rfl⟩)
noncomputable def RT49 := RG Tryz.f49
noncomputable abbrev cT49 : Code := .seq (RT49 0) (.seq (.seq (RT49 1) (.cond (.tmp 12) (.seq (RT49 2) .ret) .skip)) (.seq (RT49 3) (.seq (RT49 4) (.seq (RT49 5) (.seq (.block 0 (.loop (.seq (.seq (RT49 6) (.cond (.tmp 23) .skip (.exit 0))) (.block 1 (.seq (RT49 7) (.seq (RT49 8) (.seq (RT49 9) (.seq (RT49 10) (.seq (.seq (RT49 11) (.cond (.tmp 36) (RT49 12) .skip)) (RT49 13)))))))))) (.seq (RT49 14) (.seq (.seq (RT49 15) (.cond (.tmp 48) (RT49 16) .skip)) (.seq (.seq (RT49 17) (.block 2 (.loop (.seq (.seq (RT49 18) (.cond (.tmp 54) .skip (.exit 2))) (.seq (.block 3 (RT49 20)) (RT49 19)))))) (.seq (RT49 21) .ret)))))))))
theorem bT49 : Tryz.f49.body = some cT49 := by kernel_rfl
theorem copy_one (W : World) (g c o k : Nat) (hg : Blk W g 171 #[.int .u32 0]) (h4 : W.cell? ⟨c, o, none⟩ = some (.int .u32 4)) (ty : TypeId) : (Builtin.copy_ #[104, 104] ty #[.slice (some ⟨g, 0, none⟩) 1 1, .slice (some ⟨c, o, none⟩) 1 k]).run Tryz.prog W = .ok (goInt 1) (W.setCells g 0 [.int .u32 4]) := by
  obtain ⟨i0, hi, hz0, hz1, hz2⟩ := info_parts (show (Tryz.prog.info? 171).map (fun i => (i.zero, i.size, i.bytes)) = some (some (.int .u32 0), 1, 4) by kernel_rfl)
  have hf := run_firstCells_some (P := Tryz.prog) W 1 1 ⟨c, o, none⟩ 1 k [.int .u32 4] rfl (fun j v hv => by
    rcases j with _ | j
    · cases hv
      rw [addr_add_none]
      exact h4
    · cases hv)
  have hst := run_storeCells_cells (P := Tryz.prog) g 0 [.int .u32 4] 0 W (fun j hj => by
    have : j < 1 := hj
    obtain rfl : j = 0 := by omega
    exact (by rw [hg.cell' (u := .int .u32 0) 0 rfl]; rfl : (W.cell? ⟨g, 0, none⟩).isSome = true)) (fun j hj => by rw [Nat.add_zero]; exact hg.frozen _) (by simp [Value.oneCell'])
  rw [Nat.add_zero] at hst
  simp [Builtin.copy_, run_underlying Tryz.underlying104, Builtin.lenOf, sizeOf, typeInfo, hi, hz1, hf, hst]
theorem itoa4 (w : World) : Calls Tryz.prog 74 #[.int .i64 4] w (fun e w' => e = .returned (.string ⟨#[52]⟩) ∧ w' = w) := by
  have h := Tryz.strconv_Itoa_small 4 (by omega) w
  rw [show Lib.decDigits 4 = [52] by rw [Lib.decDigits, dif_pos (by omega)]; rfl] at h
  exact h
set_option maxHeartbeats 4000000 in
theorem string49 (c o k : Nat) (w : World) (h4 : w.cell? ⟨c, o, none⟩ = some (.int .u32 4)) : Calls Tryz.prog 49 #[.agg #[.bool false, .slice (some ⟨c, o, none⟩) 1 k]] w (RetE (.string ⟨#[52]⟩) w) := by
  refine callsV Tryz.func49 bT49 rfl (by simp) (fun a Q sz df ea hQ => ?_)
  have e0 := ea 0 (.agg #[.bool false, .slice (some ⟨c, o, none⟩) 1 k]) rfl
  refine wp_seq (rW ?_)
  have hE : Ext w (w.alloc (.cells #[.bool false, .slice (some ⟨c, o, none⟩) 1 k] 106)) := (Ext.refl _).alloc' _
  have hX := Blk.new w 106 #[.bool false, .slice (some ⟨c, o, none⟩) 1 k]
  refine lv (w1 := w.alloc (.cells #[.bool false, .slice (some ⟨c, o, none⟩) 1 k] 106)) ?_
  refine lv ?_
  refine lE a [] 1 ?_
  intro a1 u1 e1
  replace sz := u1.sz.trans sz
  replace df := u1.df.trans df
  generalize hV : w.alloc (.cells #[.bool false, .slice (some ⟨c, o, none⟩) 1 k] 106) = V at *
  have hVs : w.heap.size < V.heap.size := by rw [← hV]; simp
  clear hV e0 ea u1
  replace h4 := cell_ext hE h4
  have hc0 := hX.cell' (u := .bool false) 0 rfl
  have hc1 := hX.cell' (u := .slice (some ⟨c, o, none⟩) 1 k) 1 rfl
  refine wp_seq (wp_seq (rW ?_))
  iterate 4 refine lv ?_
  refine lE a1 [1] 12 (v := .bool false) ?_ (he := by simp [*])
  intro a2 u2 e12
  replace sz := u2.sz.trans sz
  replace df := u2.df.trans df
  replace e1 := u2.get 1 e1
  refine wp_cond_false e12 (wp_skip ?_)
  have hmk := mk32 V
  have hE2 : Ext V (V.alloc (.cells #[.int .u32 0] 171)) := (Ext.refl _).alloc' _
  have hB := Blk.new V 171 #[.int .u32 0]
  refine wp_seq (rW ?_)
  iterate 3 refine lv ?_
  refine lv (w1 := V.alloc (.cells #[.int .u32 0] 171)) (v := .slice (some ⟨V.heap.size, 0, none⟩) 1 1) ?_ (hrun := by simp [execOp, go_sem, *])
  refine lv ?_
  refine lE a2 [1] 3 ?_
  intro a3 u3 e3
  generalize hU : V.alloc (.cells #[.int .u32 0] 171) = U at *
  clear hU hmk
  replace sz := u3.sz.trans sz
  replace df := u3.df.trans df
  replace e1 := u3.get 1 e1
  replace h4 := cell_ext hE2 h4
  replace hX := hX.ext hE2
  replace hc0 := hX.cell' (u := .bool false) 0 rfl
  replace hc1 := hX.cell' (u := .slice (some ⟨c, o, none⟩) 1 k) 1 rfl
  have hcp := copy_one U V.heap.size c o k hB h4
  refine wp_seq (rW ?_)
  iterate 3 refine lv ?_
  refine lv (w1 := U.setCells V.heap.size 0 [.int .u32 4]) (v := goInt 1) ?_ (hrun := by simp [go_sem, *])
  refine lN a3 [1, 3] ?_
  intro a4 u4
  replace sz := u4.sz.trans sz
  replace df := u4.df.trans df
  replace e1 := u4.get 1 e1
  replace e3 := u4.get 3 e3
  have hE3 : Ext V (U.setCells V.heap.size 0 [.int .u32 4]) := hE2.setCell (p := ⟨V.heap.size, 0, none⟩) (Nat.le_refl _) _
  have hB2 : Blk (U.setCells V.heap.size 0 [.int .u32 4]) V.heap.size 171 #[.int .u32 4] := hB.set_ 0 (.int .u32 4)
  replace hX : Blk (U.setCells V.heap.size 0 [.int .u32 4]) w.heap.size 106 #[.bool false, .slice (some ⟨c, o, none⟩) 1 k] := hX.far (p := ⟨V.heap.size, 0, none⟩) (by show w.heap.size ≠ V.heap.size; omega) _
  generalize hU : U.setCells V.heap.size 0 [.int .u32 4] = Y at *
  clear hU hcp hB h4 hc0 hc1 hE2 u2 u3 u4 e12
  have hE4 := hE.trans' hE3
  refine wp_seq (rW ?_)
  refine lv ?_
  refine lE a4 [1, 3] 4 ?_
  intro a5 u5 e4
  replace sz := u5.sz.trans sz
  replace df := u5.df.trans df
  replace e1 := u5.get 1 e1
  replace e3 := u5.get 3 e3
  clear u5
  have hYs : V.heap.size < Y.heap.size := hB2.lt
  refine wp_seq (wp_block (wp_loop (fun a' w' => a'.tmps.size = Tryz.f49.ntmps ∧ a'.defers = [] ∧ Ev a' (.tmp 1) = .pointer (some ⟨w.heap.size, 0, none⟩) ∧ Ext Y w' ∧ ((Ev a' (.tmp 3) = .slice (some ⟨V.heap.size, 0, none⟩) 1 1 ∧ Ev a' (.tmp 4) = .slice none 0 0) ∨ ∃ g v, Ev a' (.tmp 3) = .slice (some ⟨g, 0, none⟩) 0 1 ∧ Ev a' (.tmp 4) = v ∧ w'.ownsRow Y.heap.size 9 1 v 1 [.string ⟨#[52]⟩])) (fun a' _ => match Ev a' (.tmp 3) with | .slice _ n _ => n | _ => 0) ⟨sz, df, e1, .refl _, .inl ⟨e3, e4⟩⟩ ?_))
  clear sz df e1 e3 e4
  rintro a6 w6 ⟨sz, df, e1, hE6, h34⟩
  refine wp_seq (wp_seq (rW ?_))
  rcases h34 with ⟨e3, e4⟩ | ⟨g, v, e3, e4, hO⟩
  · have e3o := e3
    iterate 3 refine lv ?_
    refine lE a6 [1, 3, 4] 23 (v := .bool true) ?_ (he := by simp [*])
    intro a7 u7 e23
    refine wp_cond_true e23 (wp_skip (wp_block (wp_seq (rW ?_))))
    replace sz := u7.sz.trans sz
    replace df := u7.df.trans df
    replace e1 := u7.get 1 e1
    replace e3 := u7.get 3 e3
    replace e4 := u7.get 4 e4
    clear u7 e23
    refine lv ?_
    refine lN a7 [1, 3, 4] ?_
    intro a8 u8
    replace sz := u8.sz.trans sz
    replace df := u8.df.trans df
    replace e1 := u8.get 1 e1
    replace e3 := u8.get 3 e3
    replace e4 := u8.get 4 e4
    clear u8
    have hc6 := cell_ext hE6 (hB2.cell' (u := .int .u32 4) 0 rfl)
    refine wp_seq (rW ?_)
    refine lv ?_
    refine lc Tryz.func72 (div72 V.heap.size 0 1 w6 hc6) ?_
    rintro e W6 ⟨g, rfl, hg, hBg, hE7⟩
    refine ⟨_, rfl, ?_⟩
    iterate 5 refine lv ?_
    refine lE2 a8 [1, 4] 3 5 (v := .slice (some ⟨g, 0, none⟩) 1 1) (v' := .int .u32 4) ?_ (he := by simp [*]) (he' := by simp [*])
    intro a9 u9 e3 e5
    replace sz := u9.sz.trans sz
    replace df := u9.df.trans df
    replace e1 := u9.get 1 e1
    replace e4 := u9.get 4 e4
    clear u9 hc6
    have hE8 := hE6.trans' hE7
    refine wp_seq (rW ?_)
    refine lv ?_
    refine lc Tryz.func73 (trim73 g W6 hBg) ?_
    rintro e W7 ⟨rfl, rfl⟩
    refine ⟨_, rfl, ?_⟩
    refine lv ?_
    refine lE a9 [1, 4, 5] 3 (v := .slice (some ⟨g, 0, none⟩) 0 1) ?_ (he := by simp [*])
    intro a10 u10 e3
    replace sz := u10.sz.trans sz
    replace df := u10.df.trans df
    replace e1 := u10.get 1 e1
    replace e4 := u10.get 4 e4
    replace e5 := u10.get 5 e5
    clear u10
    refine wp_seq (rW ?_)
    iterate 2 refine lv ?_
    refine lc Tryz.func74 (itoa4 W7) ?_
    rintro e W8 ⟨rfl, rfl⟩
    refine ⟨_, rfl, ?_⟩
    refine lv ?_
    refine lE a10 [1, 3, 4] 6 (v := .string ⟨#[52]⟩) ?_ (he := by simp [*])
    intro a11 u11 e6
    replace sz := u11.sz.trans sz
    replace df := u11.df.trans df
    replace e1 := u11.get 1 e1
    replace e3 := u11.get 3 e3
    replace e4 := u11.get 4 e4
    clear u11
    refine wp_seq (wp_seq (rW ?_))
    iterate 3 refine lv ?_
    refine lE a11 [1, 3, 4, 6] 36 (v := .bool false) ?_ (he := by simp [*])
    intro a12 u12 e36
    refine wp_cond_false e36 (wp_skip (rW ?_))
    replace sz := u12.sz.trans sz
    replace df := u12.df.trans df
    replace e1 := u12.get 1 e1
    replace e3 := u12.get 3 e3
    replace e4 := u12.get 4 e4
    replace e6 := u12.get 6 e6
    clear u12 e36
    have hEs : Ext W8 (W8.alloc (.cells #[.string ⟨#[52]⟩] 9)) := (Ext.refl _).alloc' _
    have hS := Blk.new W8 9 #[.string ⟨#[52]⟩]
    iterate 2 refine lv ?_
    refine lv (w1 := W8.alloc (.cells #[.string ⟨#[52]⟩] 9)) ?_
    generalize hZ : W8.alloc (.cells #[.string ⟨#[52]⟩] 9) = Z at *
    clear hZ
    have hEY := hE8.trans' hEs
    have hsl : Sl Z (fun _ => True) 1 (some ⟨W8.heap.size, 0, none⟩) 1 [.string ⟨#[52]⟩] := ⟨rfl, fun _ => ⟨_, _, rfl, trivial, fun j u hu => by
      rcases j with _ | j
      · exact hS.cell' 0 hu
      · cases hu⟩⟩
    refine la (c := 1) Tryz.underlying26 (show (Tryz.prog.info? 9).map (fun i => (i.zero, i.size, i.bytes)) = some (some (.string ⟨#[]⟩), 1, 16) by kernel_rfl) (own_none Z Y.heap.size 9 1) hsl (by omega) (by omega) hEY.size (by simp [Value.oneCell']) ?_
    intro v' Z' hO hFr _
    refine lv ?_
    refine lE a12 [1, 3] 4 (v := v') ?_ (he := by simp [*])
    intro a13 u13 e4
    refine ⟨⟨u13.sz.trans sz, u13.df.trans df, u13.get 1 e1, hEY.trans' (hFr.new_ext (fun b h => nomatch h)), .inr ⟨g, v', u13.get 3 e3, e4, hO⟩⟩, ?_⟩
    rw [u13.get 3 e3, e3o]
    exact Nat.zero_lt_one
  · iterate 3 refine lv ?_
    refine lE a6 [1, 4] 23 (v := .bool false) ?_ (he := by simp [*])
    intro a7 u7 e23
    refine wp_cond_false e23 (wp_exit ?_)
    replace sz := u7.sz.trans sz
    replace df := u7.df.trans df
    replace e1 := u7.get 1 e1
    replace e4 := u7.get 4 e4
    clear u7 e23 e3
    have hEw := hE4.trans' hE6
    have hX6 := hX.ext hE6
    have hEb : Ext w6 (w6.alloc (.cells #[.pointer none, .slice none 0 0] 177)) := (Ext.refl _).alloc' _
    have hBb := Blk.new w6 177 #[.pointer none, .slice none 0 0]
    refine wp_seq (rW ?_)
    refine lv (w1 := w6.alloc (.cells #[.pointer none, .slice none 0 0] 177)) ?_
    refine lE a7 [1, 4] 7 ?_
    intro a8 u8 e7
    have hlt6 : w6.heap.size < (w6.alloc (.cells #[.pointer none, .slice none 0 0] 177)).heap.size := by simp
    generalize hZ : w6.alloc (.cells #[.pointer none, .slice none 0 0] 177) = Z at *
    clear hZ
    obtain ⟨g1, cap, rfl, hc4⟩ : ∃ g1 cap, v = .slice (some ⟨g1, 0, none⟩) 1 cap ∧ w6.cell? ⟨g1, 0, none⟩ = some (.string ⟨#[52]⟩) := by
      rcases hO.2 with ⟨_, h0⟩ | ⟨g1, cap, cur, rfl, _, h1, _, _, h2, h3⟩
      · cases h0
      · refine ⟨g1, cap, rfl, ?_⟩
        rw [cell_of_row w6 g1 0 cur 9 (0, 0) h1, ← Array.getElem?_toList]
        have h4 : (cur.toList.take (1 * 1))[0]? = some (.string ⟨#[52]⟩) := by rw [h3]; rfl
        rw [List.getElem?_take] at h4
        simpa using h4
    replace hX6 := hX6.ext hEb
    have hd0 := hX6.cell' (u := .bool false) 0 rfl
    replace sz := u8.sz.trans sz
    replace df := u8.df.trans df
    replace e1 := u8.get 1 e1
    replace e4 := u8.get 4 e4
    clear u8 hO
    refine wp_seq (wp_seq (rW ?_))
    iterate 2 refine lv ?_
    refine lE a8 [4, 7] 48 (v := .bool false) ?_ (he := by simp [*])
    intro a9 u9 e48
    refine wp_cond_false e48 (wp_skip ?_)
    replace sz := u9.sz.trans sz
    replace df := u9.df.trans df
    replace e4 := u9.get 4 e4
    replace e7 := u9.get 7 e7
    clear u9 e48 e1
    refine wp_seq (wp_seq (rW ?_))
    iterate 4 refine lv ?_
    refine lE a9 [4, 7] 8 (v := .int .i64 0) ?_ (he := by simp [*])
    intro a10 u10 e8
    replace sz := u10.sz.trans sz
    replace df := u10.df.trans df
    replace e4 := u10.get 4 e4
    replace e7 := u10.get 7 e7
    clear u10
    have hI : Lib.IsBuilder 177 5 w6.heap.size w6.heap.size [] Z := .inl ⟨Nat.le_refl _, .slice none 0 0, hBb, own_none _ _ _ _, fun h => nomatch h⟩
    have hbE : Below w6.heap.size w6 Z := hEb
    refine wp_block (wp_loop (fun a' w' => a'.tmps.size = Tryz.f49.ntmps ∧ a'.defers = [] ∧ Ev a' (.tmp 4) = .slice (some ⟨g1, 0, none⟩) 1 cap ∧ Ev a' (.tmp 7) = .pointer (some ⟨w6.heap.size, 0, none⟩) ∧ Below w6.heap.size w6 w' ∧ ((Ev a' (.tmp 8) = .int .i64 0 ∧ Lib.IsBuilder 177 5 w6.heap.size w6.heap.size [] w') ∨ (Ev a' (.tmp 8) = .int .i64 (-1) ∧ Lib.IsBuilder 177 5 w6.heap.size w6.heap.size (Lib.byteCells [52]) w'))) (fun a' _ => (intOf (Ev a' (.tmp 8)) + 1).toNat) ⟨sz, df, e4, e7, hbE, .inl ⟨e8, hI⟩⟩ ?_)
    clear sz df e4 e7 e8 hI hbE hX6 hd0 hBb hlt6 hEb
    rintro a11 Z2 ⟨sz, df, e4, e7, hbE, h8⟩
    have hsz2 := hbE.size
    have hc5 : Z2.cell? ⟨g1, 0, none⟩ = some (.string ⟨#[52]⟩) := cell_ext hbE hc4
    refine wp_seq (wp_seq (rW ?_))
    rcases h8 with ⟨e8, hI⟩ | ⟨e8, hI⟩
    · have e8o := e8
      iterate 2 refine lv ?_
      refine lE a11 [4, 7, 8] 54 (v := .bool true) ?_ (he := by simp [*])
      intro a12 u12 e54
      refine wp_cond_true e54 (wp_skip (wp_seq (wp_block (rW ?_))))
      replace sz := u12.sz.trans sz
      replace df := u12.df.trans df
      replace e4 := u12.get 4 e4
      replace e7 := u12.get 7 e7
      replace e8 := u12.get 8 e8
      clear u12 e54
      iterate 4 refine lv ?_
      refine lc Tryz.func77 (Tryz.Builder_WriteString w6.heap.size w6.heap.size [] ⟨#[52]⟩ Z2 hI (by simp [ByteArray.size]) hsz2) ?_
      rintro e Z3 ⟨rfl, hI3, hb3⟩
      refine ⟨_, rfl, ?_⟩
      refine lN a12 [4, 7, 8] ?_
      intro a13 u13
      replace sz := u13.sz.trans sz
      replace df := u13.df.trans df
      replace e4 := u13.get 4 e4
      replace e7 := u13.get 7 e7
      replace e8 := u13.get 8 e8
      clear u13
      refine rW ?_
      iterate 3 refine lv ?_
      refine lE a13 [4, 7] 8 (v := .int .i64 (-1)) ?_ (he := by simp [*])
      intro a14 u14 e8'
      refine ⟨⟨u14.sz.trans sz, u14.df.trans df, u14.get 4 e4, u14.get 7 e7, Below.trans hbE hb3, .inr ⟨e8', .inr hI3⟩⟩, ?_⟩
      rw [e8', e8o]; decide
    · iterate 2 refine lv ?_
      refine lE a11 [7] 54 (v := .bool false) ?_ (he := by simp [*])
      intro a12 u12 e54
      refine wp_cond_false e54 (wp_exit ?_)
      replace sz := u12.sz.trans sz
      replace df := u12.df.trans df
      replace e7 := u12.get 7 e7
      clear u12 e54
      refine wp_seq (rW ?_)
      refine lc Tryz.func78 (Tryz.Builder_String w6.heap.size w6.heap.size [52] Z2 hI (by simp)) ?_
      rintro e Z3 ⟨rfl, hb3⟩
      refine ⟨_, rfl, ?_⟩
      refine lv ?_
      refine lE a12 [] 2 (v := .string ⟨#[52]⟩) ?_ (he := by simp [*])
      intro a13 u13 e2
      exact wp_ret (hQ _ _ _ (u13.df.trans df) (by simp [results, Tryz.results49, go_sem, evT e2]; try rfl) ⟨rfl, hEw.trans' (Below.trans hbE hb3)⟩)
end Go.Proofs.YtfcplpeimcjhaaaGreatDoor
