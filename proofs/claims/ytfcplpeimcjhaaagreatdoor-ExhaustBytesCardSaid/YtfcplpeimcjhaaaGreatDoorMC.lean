/- Certificates: their encoding, plain laws. Conditions: none. Certificates in memory; own, plain (8, 17). Conditions: none. The program's Encode of a certificate (7). Conditions: none. The reference's Encode of a certificate (13). Conditions: none. -/
import Derived.Test.YtfcplpeimcjhaaaGreatDoorWC
import Derived.Test.YtfcplpeimcjhaaaGreatDoorQZ
namespace Go.Proofs.YtfcplpeimcjhaaaGreatDoor
open Go.RowKit
structure GC where
  prop : ByteArray
  size : Int
  paths : List ByteArray
  sums : List Nat
def GC.zero : GC := ⟨⟨#[]⟩, 0, [], []⟩
def encC (c : GC) : List Int := encS c.prop ++ (encI c.size ++ (encL encS c.paths ++ encL encU c.sums))
def decCm (m : Nat) : Dec GC := fun l => (decS l).bind fun p => (decI p.2).bind fun s => (decL m decS s.2).bind fun q => (decL m decU q.2).map fun u => (⟨p.1, s.1, q.1, u.1⟩, u.2)
structure GC.wf (c : GC) : Prop where
  prop : c.prop.size ≤ 1000000
  size : I64 c.size
  paths : ∀ s ∈ c.paths, s.size ≤ 1000000
  pathl : c.paths.length ≤ 1000000
  sums : ∀ n ∈ c.sums, n < 18446744073709551616
  suml : c.sums.length ≤ 1000000
  len : (encC c).length ≤ 1000000
/-- what the bytes of a certificate say -/
def cDec (b : List Int) : Option GC := match decCm b.length b with
  | some (c, []) => some c
  | _ => none
theorem decU_canon9 : Canon decU encU (fun n => n < 18446744073709551616) := fun _ _ _ hl h => decU_canon hl h
theorem decCm_canon {m : Nat} : Canon (decCm m) encC (fun c => (-9223372036854775808 ≤ c.size ∧ c.size ≤ 9223372036854775807) ∧ ∀ n ∈ c.sums, n < 18446744073709551616) := fun l x r hl h => by
  unfold decCm at h
  obtain ⟨p, l1, rfl, -, b1, h⟩ := canon_bind decS_canon hl h
  obtain ⟨s, l2, rfl, hs, b2, h⟩ := canon_bind decI_canon b1 h
  obtain ⟨q, l3, rfl, -, b3, h⟩ := canon_bind (decL_canon decS_canon) b2 h
  obtain ⟨u, rfl, ⟨-, hu⟩, rfl⟩ := canon_map (k := fun u => (⟨p, s, q, u⟩ : GC)) (decL_canon decU_canon9) b3 h
  refine ⟨?_, hs, hu⟩
  simp only [encC, List.append_assoc]
theorem decCm_compl {m : Nat} {c : GC} (h : c.wf) (h1 : c.paths.length ≤ m) (h2 : c.sums.length ≤ m) : Compl (decCm m) encC c := fun q => by
  have p1 := h.pathl
  have p2 := h.suml
  unfold decCm encC
  simp only [List.append_assoc]
  rw [compl_bind (decS_compl (by have := h.prop; omega))]
  dsimp only
  rw [compl_bind (decI_compl h.size)]
  dsimp only
  rw [compl_bind (decL_compl (fun y hy => decS_compl (by have := h.paths y hy; omega)) h1 (by omega))]
  dsimp only
  rw [decL_compl (fun y hy => decU_compl (h.sums y hy)) h2 (by omega)]
  rfl
theorem cDec_canon {b : List Int} {c : GC} (hb : Byt b) (h : cDec b = some c) : encC c = b ∧ (-9223372036854775808 ≤ c.size ∧ c.size ≤ 9223372036854775807) ∧ ∀ n ∈ c.sums, n < 18446744073709551616 := by
  unfold cDec at h
  split at h
  · rename_i c' h1
    cases h
    obtain ⟨h2, h3⟩ := decCm_canon b c [] hb h1
    rw [List.append_nil] at h2
    exact ⟨h2.symm, h3⟩
  · cases h
end Go.Proofs.YtfcplpeimcjhaaaGreatDoor
namespace Go.Proofs.YtfcplpeimcjhaaaGreatDoor
open Go.RowKit
abbrev zc4 : Array Value := #[.string ⟨#[]⟩, .int .i64 0, .slice none 0 0, .slice none 0 0]
/-- the cells of a certificate -/
abbrev ccs (p : ByteArray) (s : Int) (A : Option Addr) (n k : Nat) (B : Option Addr) (m q : Nat) : List Value := [.string p, .int .i64 s, .slice A n k, .slice B m q]
/-- a certificate in memory: its lists lie in blocks of P -/
structure CM (w : World) (P : Nat → Prop) (c : GC) (A : Option Addr) (k : Nat) (B : Option Addr) (q : Nat) : Prop where
  cap : c.paths.length ≤ k ∧ k ≤ 9223372036854775807 ∧ c.sums.length ≤ q ∧ q ≤ 9223372036854775807
  paths : Sl w P 1 A c.paths.length (c.paths.map Value.string)
  sums : Sl w P 1 B c.sums.length (c.sums.map fun n : Nat => Value.int .u64 (n : Int))
  wf : c.wf
theorem CM.keep {w w' : World} {P Q : Nat → Prop} {c : GC} {A B : Option Addr} {k q : Nat} (h : CM w P c A k B q) (hk : Keeps P w w') (hPQ : ∀ b, P b → Q b) : CM w' Q c A k B q := ⟨h.cap, h.paths.keep hk hPQ, h.sums.keep hk hPQ, h.wf⟩
theorem CM.ext {w w' : World} {P : Nat → Prop} {c : GC} {A B : Option Addr} {k q : Nat} (h : CM w P c A k B q) (hx : Ext w w') : CM w' P c A k B q := h.keep (Keeps.of_ext hx) (fun _ h => h)
abbrev cag (c : GC) (A : Option Addr) (k : Nat) (B : Option Addr) (q : Nat) : Value := .agg #[.string c.prop, .int .i64 c.size, .slice A c.paths.length k, .slice B c.sums.length q]
noncomputable def RM8 := RG Tryz.f8
noncomputable abbrev cM8 : Code := .seq (RM8 0) (.seq (RM8 1) .ret)
theorem bM8 : Tryz.f8.body = some cM8 := by kernel_rfl
set_option maxHeartbeats 4000000 in
theorem own8 (p : ByteArray) (s : Int) (A : Option Addr) (n k : Nat) (B : Option Addr) (m q : Nat) (w : World) : Calls Tryz.prog 8 #[.agg (ccs p s A n k B m q).toArray] w (RetE (.agg (ccs p s A n k B m q).toArray) w) := by
  refine callsV Tryz.func8 bM8 rfl (by simp) (fun a Q sz df ea hQ => ?_)
  have e0 := ea 0 (.agg (ccs p s A n k B m q).toArray) rfl
  refine wp_seq (rW ?_)
  have hE : Ext w (w.alloc (.cells (ccs p s A n k B m q).toArray 29)) := (Ext.refl _).alloc' _
  have hB := Blk.new w 29 (ccs p s A n k B m q).toArray
  refine lv (w1 := w.alloc (.cells (ccs p s A n k B m q).toArray 29)) ?_
  generalize w.alloc (.cells (ccs p s A n k B m q).toArray 29) = W at *
  have hE2 : Ext W (W.alloc (.cells zc4 33)) := (Ext.refl _).alloc' _
  have hB2 := Blk.new W 33 zc4
  have hB1 := hB.alloc (.cells zc4 33)
  refine lv (w1 := W.alloc (.cells zc4 33)) ?_
  generalize W.alloc (.cells zc4 33) = V at *
  refine lE2 a [] 1 2 ?_
  intro a1 u1 e1 e2
  replace sz := u1.sz.trans sz
  replace df := u1.df.trans df
  clear e0 ea
  have q0 := hB1.cell' (u := .string p) 0 rfl
  have q1 := hB1.cell' (u := .int .i64 s) 1 rfl
  have q2 := hB1.cell' (u := .slice A n k) 2 rfl
  have q3 := hB1.cell' (u := .slice B m q) 3 rfl
  refine wp_seq (rW ?_)
  iterate 9 refine lv ?_
  refine ls (w1 := V.setCells W.heap.size 0 (ccs p s A n k B m q)) ?_ rfl rfl (by simp [execOp, go_sem, hB2.cell, hB2.frozen, *]; rfl)
  refine lN a1 [2] ?_
  intro a2 u2
  have hB3 : Blk (V.setCells W.heap.size 0 (ccs p s A n k B m q)) W.heap.size 33 (ccs p s A n k B m q).toArray := by
    have := setCells_blk (cs := zc4.toList) (ccs p s A n k B m q) 0 hB2 (by simp)
    simpa using this
  have hE3 : Ext w (V.setCells W.heap.size 0 (ccs p s A n k B m q)) := ((Fr.of_ext (M := fun _ => False) (hE.trans' hE2)).setCells (ccs p s A n k B m q) 0 (.inr hE.size)).ext
  clear q0 q1 q2 q3 hB1 hB2 hB
  have q0 := hB3.cell' (u := .string p) 0 rfl
  have q1 := hB3.cell' (u := .int .i64 s) 1 rfl
  have q2 := hB3.cell' (u := .slice A n k) 2 rfl
  have q3 := hB3.cell' (u := .slice B m q) 3 rfl
  exact wp_ret (hQ _ _ (.agg (ccs p s A n k B m q).toArray) (u2.df.trans df) (by simp [results, Tryz.results8, go_sem, evT (u2.get 2 e2), q0, q1, q2, q3]) ⟨rfl, hE3⟩)
noncomputable def RM17 := RG Tryz.f17
noncomputable abbrev cM17 : Code := .seq (RM17 0) (.seq (RM17 1) .ret)
theorem bM17 : Tryz.f17.body = some cM17 := by kernel_rfl
set_option maxHeartbeats 4000000 in
theorem plain17 (p : ByteArray) (s : Int) (A : Option Addr) (n k : Nat) (B : Option Addr) (m q : Nat) (w : World) : Calls Tryz.prog 17 #[.agg (ccs p s A n k B m q).toArray] w (RetE (.agg (ccs p s A n k B m q).toArray) w) := by
  refine callsV Tryz.func17 bM17 rfl (by simp) (fun a Q sz df ea hQ => ?_)
  have e0 := ea 0 (.agg (ccs p s A n k B m q).toArray) rfl
  refine wp_seq (rW ?_)
  have hE : Ext w (w.alloc (.cells (ccs p s A n k B m q).toArray 33)) := (Ext.refl _).alloc' _
  have hB := Blk.new w 33 (ccs p s A n k B m q).toArray
  refine lv (w1 := w.alloc (.cells (ccs p s A n k B m q).toArray 33)) ?_
  generalize w.alloc (.cells (ccs p s A n k B m q).toArray 33) = W at *
  have hE2 : Ext W (W.alloc (.cells zc4 29)) := (Ext.refl _).alloc' _
  have hB2 := Blk.new W 29 zc4
  have hB1 := hB.alloc (.cells zc4 29)
  refine lv (w1 := W.alloc (.cells zc4 29)) ?_
  generalize W.alloc (.cells zc4 29) = V at *
  refine lE2 a [] 1 2 ?_
  intro a1 u1 e1 e2
  replace sz := u1.sz.trans sz
  replace df := u1.df.trans df
  clear e0 ea
  have q0 := hB1.cell' (u := .string p) 0 rfl
  have q1 := hB1.cell' (u := .int .i64 s) 1 rfl
  have q2 := hB1.cell' (u := .slice A n k) 2 rfl
  have q3 := hB1.cell' (u := .slice B m q) 3 rfl
  refine wp_seq (rW ?_)
  iterate 9 refine lv ?_
  refine ls (w1 := V.setCells W.heap.size 0 (ccs p s A n k B m q)) ?_ rfl rfl (by simp [execOp, go_sem, hB2.cell, hB2.frozen, *]; rfl)
  refine lN a1 [2] ?_
  intro a2 u2
  have hB3 : Blk (V.setCells W.heap.size 0 (ccs p s A n k B m q)) W.heap.size 29 (ccs p s A n k B m q).toArray := by
    have := setCells_blk (cs := zc4.toList) (ccs p s A n k B m q) 0 hB2 (by simp)
    simpa using this
  have hE3 : Ext w (V.setCells W.heap.size 0 (ccs p s A n k B m q)) := ((Fr.of_ext (M := fun _ => False) (hE.trans' hE2)).setCells (ccs p s A n k B m q) 0 (.inr hE.size)).ext
  clear q0 q1 q2 q3 hB1 hB2 hB
  have q0 := hB3.cell' (u := .string p) 0 rfl
  have q1 := hB3.cell' (u := .int .i64 s) 1 rfl
  have q2 := hB3.cell' (u := .slice A n k) 2 rfl
  have q3 := hB3.cell' (u := .slice B m q) 3 rfl
  exact wp_ret (hQ _ _ (.agg (ccs p s A n k B m q).toArray) (u2.df.trans df) (by simp [results, Tryz.results17, go_sem, evT (u2.get 2 e2), q0, q1, q2, q3]) ⟨rfl, hE3⟩)
end Go.Proofs.YtfcplpeimcjhaaaGreatDoor
namespace Go.Proofs.YtfcplpeimcjhaaaGreatDoor
open Go.RowKit
theorem len_encL {α : Type} (f : α → List Int) (l : List α) : (encL f l).length = (encI l.length).length + (l.flatMap f).length := by
  unfold encL
  rw [List.length_append]
/-- the lengths of a certificate's parts, encoded -/
theorem GC.wf.lens {c : GC} (h : c.wf) : (encS c.prop).length + (encI c.size).length + (encI (c.paths.length : Int)).length + (c.paths.flatMap encS).length + (encI (c.sums.length : Int)).length + (c.sums.flatMap encU).length ≤ 1000000 := by
  have h1 := h.len
  simp only [encC, List.length_append, len_encL] at h1
  omega
/-- a new writer -/
theorem WS.mk0 (w : World) : WS w.heap.size w.heap.size nl [] (w.alloc (.cells #[.slice none 0 0] 36)) := ⟨own_none _ _ _ _, Blk.new w 36 _, fun h => (nomatch h), by simp⟩
theorem Sl.strs {w : World} {T : Nat → Prop} {A : Option Addr} {l : List ByteArray} {j : Nat} (h : Sl w T 1 A l.length (l.map Value.string)) (hj : j < l.length) : ∃ b off, A = some ⟨b, off, none⟩ ∧ T b ∧ w.cell? ⟨b, off + j, none⟩ = some (.string (l.getD j ⟨#[]⟩)) := by
  obtain ⟨b, off, e, hb, hc⟩ := h.2 (by omega)
  exact ⟨b, off, e, hb, hc j _ (by simp [hj])⟩
theorem Sl.u64s {w : World} {T : Nat → Prop} {A : Option Addr} {l : List Nat} {j : Nat} (h : Sl w T 1 A l.length (l.map fun n : Nat => Value.int .u64 (n : Int))) (hj : j < l.length) : ∃ b off, A = some ⟨b, off, none⟩ ∧ T b ∧ w.cell? ⟨b, off + j, none⟩ = some (.int .u64 (l.getD j 0 : Nat)) := by
  obtain ⟨b, off, e, hb, hc⟩ := h.2 (by omega)
  exact ⟨b, off, e, hb, hc j _ (by simp [hj])⟩
noncomputable def RM7 := RG Tryz.f7
noncomputable abbrev cM7 : Code := .seq (RM7 0) (.seq (RM7 1) (.seq (RM7 2) (.seq (RM7 3) (.seq (RM7 4) (.seq (.seq (RM7 5) (.block 0 (.loop (.seq (RM7 6) (.seq (.cond (.tmp 22) .skip (.exit 0)) (.seq (.block 1 (.seq (RM7 7) (RM7 8))) (RM7 9))))))) (.seq (RM7 10) (.seq (.seq (RM7 11) (.block 2 (.loop (.seq (RM7 12) (.seq (.cond (.tmp 36) .skip (.exit 2)) (.seq (.block 3 (.seq (RM7 13) (RM7 14))) (RM7 15))))))) (.seq (RM7 16) .ret))))))))
theorem bM7 : Tryz.f7.body = some cM7 := by kernel_rfl
set_option maxHeartbeats 4000000 in
theorem encode7 (c : GC) (A B : Option Addr) (k q : Nat) (P : Nat → Prop) (w : World) (hr : CM w P c A k B q) (hPl : ∀ k, P k → k < w.heap.size) : Calls Tryz.prog 7 #[cag c A k B q] w (RetBy (encC c) w) := by
  have hl := hr.wf.lens
  have hwf := hr.wf
  have hp1 := hwf.pathl
  have hp2 := hwf.suml
  refine callsV Tryz.func7 bM7 rfl (by simp) (fun a Q sz df ea hQ => ?_)
  have e0 := ea 0 (cag c A k B q) rfl
  refine wp_seq (rW ?_)
  have hE0 : Ext w (w.alloc (.cells (ccs c.prop c.size A c.paths.length k B c.sums.length q).toArray 33)) := (Ext.refl _).alloc' _
  have hX := Blk.new w 33 (ccs c.prop c.size A c.paths.length k B c.sums.length q).toArray
  have hsz0 : w.heap.size < (w.alloc (.cells (ccs c.prop c.size A c.paths.length k B c.sums.length q).toArray 33)).heap.size := by simp
  refine lv (w1 := w.alloc (.cells (ccs c.prop c.size A c.paths.length k B c.sums.length q).toArray 33)) ?_
  refine lv ?_
  refine lE a [] 1 ?_
  intro b0 z0 e1
  replace sz := z0.sz.trans sz
  replace df := z0.df.trans df
  generalize w.alloc (.cells (ccs c.prop c.size A c.paths.length k B c.sums.length q).toArray 33) = W0 at *
  clear e0 ea
  refine wp_seq (rW ?_)
  have hS := WS.mk0 W0
  have hE1 : Ext W0 (W0.alloc (.cells #[.slice none 0 0] 36)) := (Ext.refl _).alloc' _
  refine lv (w1 := W0.alloc (.cells #[.slice none 0 0] 36)) ?_
  refine lE b0 [1] 3 ?_
  intro b1 z1 e3
  replace sz := z1.sz.trans sz
  replace df := z1.df.trans df
  replace e1 := z1.get 1 e1
  generalize W0.alloc (.cells #[.slice none 0 0] 36) = W at *
  have hG := WG.rf W W0.heap.size nl
  have hX1 := hX.ext hE1
  have hE := hE0.trans' hE1
  have hr := hr.ext hE
  clear hX hE1
  have hP : ∀ k, P k → k ≠ W0.heap.size ∧ some k ≠ nl.ownBlock := fun k hk => ⟨fun e => by have := hPl k hk; omega, fun h => nomatch h⟩
  have hcell : ∀ {v2 V2} (hg : WG W W0.heap.size nl v2 V2) (i : Nat) {y : Value}, (ccs c.prop c.size A c.paths.length k B c.sums.length q).toArray[i]? = some y → V2.cell? ⟨w.heap.size, i, none⟩ = some y := fun hg i y hy => (hg.blk hX1 (by omega) (fun h => nomatch h)).cell' i hy
  have q0 := hcell hG 0 (y := .string c.prop) rfl
  refine wp_seq (rW ?_)
  iterate 2 refine lv ?_
  refine lcw b1 [1, 3] Tryz.func21 hG (text165 c.prop (by have := hwf.prop; omega) hS (by simp)) ?_
  clear q0 hS hG
  intro b2 y2 V2 z2 hS hG
  replace sz := z2.sz.trans sz
  replace df := z2.df.trans df
  replace e1 := z2.get 1 e1
  replace e3 := z2.get 3 e3
  have q0 := hcell hG 1 (y := .int .i64 c.size) rfl
  refine wp_seq (rW ?_)
  iterate 2 refine lv ?_
  refine lcw b2 [1, 3] Tryz.func22 hG (int70 c.size hwf.size hS (by simp only [List.length_append, List.length_nil]; omega)) ?_
  clear q0 hS hG
  intro b3 y3 V3 z3 hS hG
  replace sz := z3.sz.trans sz
  replace df := z3.df.trans df
  replace e1 := z3.get 1 e1
  replace e3 := z3.get 3 e3
  have q0 := hcell hG 2 (y := .slice A c.paths.length k) rfl
  refine wp_seq (rW ?_)
  iterate 3 refine lv ?_
  refine lcw b3 [1, 3] Tryz.func22 hG (int70 (c.paths.length : Int) (by unfold I64; omega) hS (by simp only [List.length_append, List.length_nil]; omega)) ?_
  clear q0 hS hG
  intro b4 y4 V4 z4 hS hG
  replace sz := z4.sz.trans sz
  replace df := z4.df.trans df
  replace e1 := z4.get 1 e1
  replace e3 := z4.get 3 e3
  have q0 := hcell hG 2 (y := .slice A c.paths.length k) rfl
  refine wp_seq (wp_seq (rW ?_))
  iterate 4 refine lv ?_
  refine lE3 b4 [1, 3] 19 20 21 ?_
  intro b5 z5 e19 e20 e21
  replace sz := z5.sz.trans sz
  replace df := z5.df.trans df
  replace e1 := z5.get 1 e1
  replace e3 := z5.get 3 e3
  clear q0
  refine loopW (f := encS) (l := c.paths) ⟨#[]⟩ [1, 3, 19, 20] e21 hS hG (by simp only [List.length_append, List.length_nil]; omega) (by omega) ?_ ?_ ?_ ?_
  · intro R b V v' j u e21 hg hR
    replace sz := u.sz.trans sz
    replace e20 := u.get 20 e20
    refine rW ?_
    refine lv ?_
    exact lE b [21, 1, 3, 19, 20] 22 hR (he := by simp [*])
  · intro R b V v' j pre' hj u e21 hS hG' hl' hR
    replace sz := u.sz.trans sz
    replace e3 := u.get 3 e3
    replace e19 := u.get 19 e19
    have hpa := hr.paths
    obtain ⟨b6, o6, rfl, -, g6⟩ := ((hpa.keep (Q := P) (hG'.keeps hP) (fun _ h => h)).strs hj)
    have hy : (c.paths.getD j ⟨#[]⟩).size ≤ 1000000 := hwf.paths _ (getD_mem hj)
    generalize c.paths.getD j ⟨#[]⟩ = y at *
    have hji : (j : Int) < c.paths.length := by omega
    refine wp_seq (rW ?_)
    iterate 3 refine lv ?_
    refine lE b [21, 1, 3, 19, 20] 5 ?_
    intro b7 u7 e5
    replace sz := u7.sz.trans sz
    replace e3 := u7.get 3 e3
    refine rW ?_
    refine lv ?_
    refine lc Tryz.func21 (text165 y (by omega) hS (by omega)) ?_
    rintro e w3 ⟨rfl, v3, hS3, hG3⟩
    refine ⟨_, rfl, ?_⟩
    refine lN b7 [21, 1, 3, 19, 20] ?_
    intro b8 u8
    exact hR b8 v3 w3 (u7.trans u8) hS3 (hG'.trans hG3)
  · intro R b V j u e21 hw hR
    replace sz := u.sz.trans sz
    refine rW ?_
    iterate 2 refine lv ?_
    exact lE b [1, 3, 19, 20] 21 hR (he := by simp [*])
  clear hS hG e19 e20 e21
  intro b9 y9 V9 z9 hS hG
  replace sz := z9.sz.trans sz
  replace df := z9.df.trans df
  replace e1 := z9.get 1 e1
  replace e3 := z9.get 3 e3
  have q0 := hcell hG 3 (y := .slice B c.sums.length q) rfl
  refine wp_seq (rW ?_)
  iterate 3 refine lv ?_
  refine lcw b9 [1, 3] Tryz.func22 hG (int70 (c.sums.length : Int) (by unfold I64; omega) hS (by simp only [List.length_append, List.length_nil]; omega)) ?_
  clear q0 hS hG
  intro b10 y10 V10 z10 hS hG
  replace sz := z10.sz.trans sz
  replace df := z10.df.trans df
  replace e1 := z10.get 1 e1
  replace e3 := z10.get 3 e3
  have q0 := hcell hG 3 (y := .slice B c.sums.length q) rfl
  refine wp_seq (wp_seq (rW ?_))
  iterate 4 refine lv ?_
  refine lE3 b10 [1, 3] 33 34 35 ?_
  intro b11 z11 e33 e34 e35
  replace sz := z11.sz.trans sz
  replace df := z11.df.trans df
  replace e1 := z11.get 1 e1
  replace e3 := z11.get 3 e3
  clear q0
  refine loopW (f := encU) (l := c.sums) 0 [1, 3, 33, 34] e35 hS hG (by simp only [List.length_append, List.length_nil]; omega) (by omega) ?_ ?_ ?_ ?_
  · intro R b V v' j u e35 hg hR
    replace sz := u.sz.trans sz
    replace e34 := u.get 34 e34
    refine rW ?_
    refine lv ?_
    exact lE b [35, 1, 3, 33, 34] 36 hR (he := by simp [*])
  · intro R b V v' j pre' hj u e35 hS hG' hl' hR
    replace sz := u.sz.trans sz
    replace e3 := u.get 3 e3
    replace e33 := u.get 33 e33
    have hsu := hr.sums
    obtain ⟨b6, o6, rfl, -, g6⟩ := ((hsu.keep (Q := P) (hG'.keeps hP) (fun _ h => h)).u64s hj)
    have hy : c.sums.getD j 0 < 18446744073709551616 := hwf.sums _ (getD_mem hj)
    generalize c.sums.getD j 0 = y at *
    have hji : (j : Int) < c.sums.length := by omega
    refine wp_seq (rW ?_)
    iterate 3 refine lv ?_
    refine lE b [35, 1, 3, 33, 34] 7 ?_
    intro b12 u12 e7
    replace sz := u12.sz.trans sz
    replace e3 := u12.get 3 e3
    refine rW ?_
    refine lv ?_
    refine lc Tryz.func23 (uint120 y hy hS (by omega)) ?_
    rintro e w3 ⟨rfl, v3, hS3, hG3⟩
    refine ⟨_, rfl, ?_⟩
    refine lN b12 [35, 1, 3, 33, 34] ?_
    intro b13 u13
    exact hR b13 v3 w3 (u12.trans u13) hS3 (hG'.trans hG3)
  · intro R b V j u e35 hw hR
    replace sz := u.sz.trans sz
    refine rW ?_
    iterate 2 refine lv ?_
    exact lE b [1, 3, 33, 34] 35 hR (he := by simp [*])
  clear hS hG e33 e34 e35
  intro b14 y14 V14 z14 hS hG
  replace sz := z14.sz.trans sz
  replace df := z14.df.trans df
  replace e1 := z14.get 1 e1
  replace e3 := z14.get 3 e3
  refine wp_seq (rW ?_)
  refine lcE b14 [] Tryz.func11 (done73 hS (by simp only [List.length_append, List.length_nil]; omega)) (hG.old hE (by have := hE0.size; omega) (fun _ h => nomatch h)) ?_
  intro b15 v15 V15 z15 e2 hO
  refine wp_ret (hQ _ _ v15 (z15.df.trans df) (by simp [results, Tryz.results7, go_sem, evT e2]; try rfl) ⟨v15, rfl, by simpa [encC, encL] using hO⟩)
end Go.Proofs.YtfcplpeimcjhaaaGreatDoor
namespace Go.Proofs.YtfcplpeimcjhaaaGreatDoor
open Go.RowKit
noncomputable def RM13 := RG Tryz.f13
noncomputable abbrev cM13 : Code := .seq (RM13 0) (.seq (RM13 1) (.seq (RM13 2) (.seq (.seq (RM13 3) (.block 0 (.loop (.seq (.seq (RM13 4) (.cond (.tmp 24) .skip (.exit 0))) (.seq (.block 1 (RM13 6)) (RM13 5)))))) (.seq (RM13 7) (.seq (.seq (RM13 8) (.block 2 (.loop (.seq (.seq (RM13 9) (.cond (.tmp 46) .skip (.exit 2))) (.seq (.block 3 (RM13 11)) (RM13 10)))))) (.seq (RM13 12) .ret))))))
theorem bM13 : Tryz.f13.body = some cM13 := by kernel_rfl
set_option maxHeartbeats 4000000 in
theorem encode13 (c : GC) (A B : Option Addr) (k q : Nat) (P : Nat → Prop) (w : World) (hr : CM w P c A k B q) : Calls Tryz.prog 13 #[cag c A k B q] w (RetBy (encC c) w) := by
  have hl := hr.wf.lens
  have hwf := hr.wf
  have hp1 := hwf.pathl
  have hp2 := hwf.suml
  refine callsV Tryz.func13 bM13 rfl (by simp) (fun a Q sz df ea hQ => ?_)
  have e0 := ea 0 (cag c A k B q) rfl
  refine wp_seq (rW ?_)
  have hE : Ext w (w.alloc (.cells (ccs c.prop c.size A c.paths.length k B c.sums.length q).toArray 29)) := (Ext.refl _).alloc' _
  have hB := Blk.new w 29 (ccs c.prop c.size A c.paths.length k B c.sums.length q).toArray
  refine lv (w1 := w.alloc (.cells (ccs c.prop c.size A c.paths.length k B c.sums.length q).toArray 29)) ?_
  refine lv ?_
  refine lE a [] 1 ?_
  intro a1 u1 e1
  replace sz := u1.sz.trans sz
  replace df := u1.df.trans df
  generalize w.alloc (.cells (ccs c.prop c.size A c.paths.length k B c.sums.length q).toArray 29) = W at *
  clear e0 ea
  replace hr := hr.ext hE
  have hcf : ∀ V, Ext W V → V.cell? ⟨w.heap.size, 1, none⟩ = some (.int .i64 c.size) ∧ V.cell? ⟨w.heap.size, 2, none⟩ = some (.slice A c.paths.length k) ∧ V.cell? ⟨w.heap.size, 3, none⟩ = some (.slice B c.sums.length q) := fun V h => ⟨(hB.ext h).cell' 1 rfl, (hB.ext h).cell' 2 rfl, (hB.ext h).cell' 3 rfl⟩
  have q0 := hB.cell' (u := .string c.prop) 0 rfl
  refine wp_seq (rW ?_)
  obtain ⟨k2, W2, hcv, hx, hsl⟩ := conv_str c.prop W
  iterate 3 refine lv ?_
  refine lc Tryz.func24 (raw81 (c := k2) (sB c.prop) W2 (sB_len c.prop).symm (by rw [sB_len]; have := hwf.prop; omega) hsl) ?_
  rintro e w3 ⟨v3, rfl, hO⟩
  refine ⟨_, rfl, ?_⟩
  refine lv ?_
  refine lE a1 [1] 3 ?_
  intro a2 u2 e3
  replace sz := u2.sz.trans sz
  replace df := u2.df.trans df
  replace e1 := u2.get 1 e1
  replace hO : Out W v3 (encS c.prop) w3 := Ou.lift hO hx
  clear hcv hsl q0
  refine wp_seq ?_
  have hxW : Ext W w3.drew := hO.ex.trans' (Ext.refl _).drew'
  refine rD (fun V => V.cell? ⟨w.heap.size, 1, none⟩ = some (.int .i64 c.size) ∧ V.cell? ⟨w.heap.size, 2, none⟩ = some (.slice A c.paths.length k) ∧ V.cell? ⟨w.heap.size, 3, none⟩ = some (.slice B c.sums.length q)) (fun _ => true) 11 ?_
  have hS := hcf _ hxW
  refine dt 5 [0, 1, 2, 5, 6, 7] ?_
  iterate 6 refine tv ?_
  refine t_e ?_
  clear hS
  replace hO := hO.ext (Ext.refl w3).drew'
  generalize w3.drew = V3 at *
  refine dc 3 Tryz.func25 (int83 c.size hwf.size V3) ?_
  rintro e w5 ⟨v5, rfl, hO5⟩
  refine ⟨_, rfl, fun _ => hcf _ (hxW.trans' hO5.ex), ?_⟩
  obtain ⟨A6, c6, rfl, -, -, hsl6⟩ := hO5.sl
  replace hO := hO.ext hO5.ex
  refine da (c := c6) 4 und74 info5 hO.row hsl6 (by omega) (by omega) (Nat.le_trans hO.lo hO.gr.fr.size) u8_one ?_
  intro v7 w7 h7 hf7 hv7
  have hO7 : Out W v7 (encS c.prop ++ encI c.size) w7 := ⟨by unfold By; rw [List.length_append, List.map_append]; exact h7, hO.gr.trans ⟨hf7, hv7.elim .inl (fun e => .inr ⟨_, e, Nat.le_refl _⟩)⟩, hO.lo⟩
  refine ⟨fun _ => hcf _ hO7.ex, ?_⟩
  clear hO hO5 hf7 hv7 h7 hsl6
  refine dc 8 Tryz.func25 (int83 (c.paths.length : Int) (by unfold I64; omega) w7) ?_
  rintro e w8 ⟨v8, rfl, hO8⟩
  refine ⟨_, rfl, fun _ => hcf _ (hO7.ex.trans' hO8.ex), ?_⟩
  obtain ⟨A8, c8, rfl, -, -, hsl8⟩ := hO8.sl
  replace hO7 := hO7.ext hO8.ex
  refine da (c := c8) 9 und74 info5 hO7.row hsl8 (by simp only [List.length_append]; omega) (by simp only [List.length_append]; omega) (Nat.le_trans hO7.lo hO7.gr.fr.size) u8_one ?_
  intro v9 w9 h9 hf9 hv9
  have hO9 : Out W v9 (encS c.prop ++ encI c.size ++ encI (c.paths.length : Int)) w9 := ⟨by unfold By; rw [List.length_append, List.map_append]; exact h9, hO7.gr.trans ⟨hf9, hv9.elim .inl (fun e => .inr ⟨_, e, Nat.le_refl _⟩)⟩, hO7.lo⟩
  refine ⟨fun _ => hcf _ hO9.ex, ?_⟩
  clear hO7 hO8 hf9 hv9 h9 hsl8
  refine dv 10 ?_ (hcf _ hO9.ex |> fun h _ => h)
  refine d_E1 a2 [1] 3 ?_
  intro a3 u3 e3
  replace sz := u3.sz.trans sz
  replace df := u3.df.trans df
  replace e1 := u3.get 1 e1
  refine wp_seq (wp_seq (rW ?_))
  refine lv ?_
  refine lE a3 [1, 3] 4 ?_
  intro a4 u4 e4
  replace sz := u4.sz.trans sz
  replace df := u4.df.trans df
  replace e1 := u4.get 1 e1
  replace e3 := u4.get 3 e3
  have hPB : ∀ {V v' l'}, Ou W nl W.heap.size v' l' V → CM V P c A k B q := fun h => hr.ext h.ex
  refine loopOut (f := encS) (l := c.paths) ⟨#[]⟩ [1] e4 e3 hO9 (by simp only [List.length_append]; omega) (by omega) ?_ ?_ ?_ ?_
  · intro R b V v' j u e4 hg hR
    replace sz := u.sz.trans sz
    replace e1 := u.get 1 e1
    have q2 := (hB.ext hg.ex).cell' (u := .slice A c.paths.length k) 2 rfl
    refine rW ?_
    iterate 5 refine lv ?_
    exact lE b [3, 4, 1] 24 hR (he := by simp [*])
  · intro R b V v' j pre' hj u e4 e3 hO hl' hR
    replace sz := u.sz.trans sz
    replace e1 := u.get 1 e1
    have q2 := (hB.ext hO.ex).cell' (u := .slice A c.paths.length k) 2 rfl
    obtain ⟨b6, o6, rfl, -, g6⟩ := ((hPB hO).paths).strs hj
    have hy : (c.paths.getD j ⟨#[]⟩).size ≤ 1000000 := hwf.paths _ (getD_mem hj)
    generalize c.paths.getD j ⟨#[]⟩ = y at *
    have hji : (j : Int) < c.paths.length := by omega
    refine rW ?_
    obtain ⟨k3, W3, hcv, hx3, hsl⟩ := conv_str y V
    iterate 7 refine lv ?_
    refine lcaE b [4, 1] Tryz.func24 (raw81 (c := k3) (sB y) W3 (sB_len y).symm (by rw [sB_len]; omega) hsl) (hO.ext hx3) (by rw [show encR (sB y) = encS y from rfl]; omega) ?_
    intro b7 v7 w7 u7 e7 hO7
    exact hR b7 v7 w7 u7 e7 hO7
  · intro R b V j u e4 hw hR
    replace sz := u.sz.trans sz
    refine rW ?_
    iterate 3 refine lv ?_
    exact lE b [3, 1] 4 hR (he := by simp [*])
  clear hO9 e3 e4
  intro a5 v5 V5 u5 e3 hO
  replace sz := u5.sz.trans sz
  replace df := u5.df.trans df
  replace e1 := u5.get 1 e1
  have q3 := (hB.ext hO.ex).cell' (u := .slice B c.sums.length q) 3 rfl
  refine wp_seq (rW ?_)
  iterate 4 refine lv ?_
  refine lcaE a5 [1] Tryz.func25 (int83 (c.sums.length : Int) (by unfold I64; omega) V5) hO (by simp only [List.length_append]; omega) ?_
  clear e3 hO q3
  intro a6 v6 V6 u6 e3 hO
  replace sz := u6.sz.trans sz
  replace df := u6.df.trans df
  replace e1 := u6.get 1 e1
  refine wp_seq (wp_seq (rW ?_))
  refine lv ?_
  refine lE a6 [1, 3] 5 ?_
  intro a7 u7 e5
  replace sz := u7.sz.trans sz
  replace df := u7.df.trans df
  replace e1 := u7.get 1 e1
  replace e3 := u7.get 3 e3
  refine loopOut (f := encU) (l := c.sums) 0 [1] e5 e3 hO (by simp only [List.length_append]; omega) (by omega) ?_ ?_ ?_ ?_
  · intro R b V v' j u e5 hg hR
    replace sz := u.sz.trans sz
    replace e1 := u.get 1 e1
    have q2 := (hB.ext hg.ex).cell' (u := .slice B c.sums.length q) 3 rfl
    refine rW ?_
    iterate 5 refine lv ?_
    exact lE b [3, 5, 1] 46 hR (he := by simp [*])
  · intro R b V v' j pre' hj u e5 e3 hO hl' hR
    replace sz := u.sz.trans sz
    replace e1 := u.get 1 e1
    have q2 := (hB.ext hO.ex).cell' (u := .slice B c.sums.length q) 3 rfl
    obtain ⟨b6, o6, rfl, -, g6⟩ := ((hPB hO).sums).u64s hj
    have hy : c.sums.getD j 0 < 18446744073709551616 := hwf.sums _ (getD_mem hj)
    generalize c.sums.getD j 0 = y at *
    have hji : (j : Int) < c.sums.length := by omega
    refine rW ?_
    iterate 6 refine lv ?_
    refine lcaE b [5, 1] Tryz.func26 (uint129 y hy V) hO (by omega) ?_
    intro b7 v7 w7 u7 e7 hO7
    exact hR b7 v7 w7 u7 e7 hO7
  · intro R b V j u e5 hw hR
    replace sz := u.sz.trans sz
    refine rW ?_
    iterate 3 refine lv ?_
    exact lE b [3, 1] 5 hR (he := by simp [*])
  clear hO e3 e5
  intro a8 v8 V8 u8 e3 hO
  replace sz := u8.sz.trans sz
  replace df := u8.df.trans df
  refine wp_seq (rW ?_)
  iterate 2 refine lv ?_
  refine lE a8 [] 2 ?_
  intro a9 u9 e2
  exact wp_ret (hQ _ _ v8 (u9.df.trans df) (by simp [results, Tryz.results13, go_sem, evT e2]; try rfl) ⟨v8, rfl, by simpa [encC, encL] using Ou.lift hO hE⟩)
end Go.Proofs.YtfcplpeimcjhaaaGreatDoor
