/- The program's Decode of a certificate (14). Conditions: none. Equal lists of texts are the same (35), equal certificates are the same (16). Conditions: none. The reference's Short (4) and Decimal (6), of which only the size is told. Conditions: none. -/
import Derived.Test.YtfcplpeimcjhaaaGreatDoorME
namespace Go.Proofs.YtfcplpeimcjhaaaGreatDoor
open Go.RowKit
/-- a certificate in memory, whatever its parts -/
structure CR0 (w : World) (P : Nat → Prop) (c : GC) (A : Option Addr) (k : Nat) (B : Option Addr) (q : Nat) : Prop where
  cap : c.paths.length ≤ k ∧ k ≤ 9223372036854775807 ∧ c.sums.length ≤ q ∧ q ≤ 9223372036854775807
  paths : Sl w P 1 A c.paths.length (c.paths.map Value.string)
  sums : Sl w P 1 B c.sums.length (c.sums.map fun n : Nat => Value.int .u64 (n : Int))
def RetDec (l : List Int) (w : World) (e : Ending) (w' : World) : Prop := ∃ c A k B q er, e = .returned (.tuple #[cag c A k B q, .int .i64 er]) ∧ CR0 w' (fun k => w.heap.size ≤ k ∧ k < w'.heap.size) c A k B q ∧ Ext w w' ∧ ((er = 0 ∧ cDec l = some c) ∨ (er = 2 ∧ cDec l = none ∧ c = GC.zero ∧ A = none ∧ k = 0 ∧ B = none ∧ q = 0))
theorem ext_fr {w V V' : World} {g : Nat} (h : Ext w V) (hf : Fr (fun k => k = g) V V') (hg : w.heap.size ≤ g) : Ext w V' := Fr.new_ext ((Fr.of_ext h).trans hf) (fun b e => e ▸ hg)
noncomputable def RM14 := RG Tryz.f14
noncomputable abbrev cM14 : Code := .seq (RM14 0) (.seq (RM14 1) (.seq (RM14 2) (.seq (RM14 3) (.seq (RM14 4) (.seq (RM14 5) (.seq (.seq (RM14 6) (.cond (.tmp 45) (.seq (RM14 7) .ret) .skip)) (.seq (RM14 8) .ret)))))))
theorem bM14 : Tryz.f14.body = some cM14 := by kernel_rfl
set_option maxHeartbeats 4000000 in
theorem decode14 {T : Nat → Prop} {A : Option Addr} {c : Nat} (l : List Int) (w : World) (hl : l.length ≤ 1000000) (hb : Byt l) (hs : Sl w T 1 A l.length (l.map (Value.int .u8))) : Calls Tryz.prog 14 #[.slice A l.length c] w (RetDec l w) := by
  refine callsV Tryz.func14 bM14 rfl (by simp) (fun a Q sz df ea hQ => ?_)
  have e0 := ea 0 (.slice A l.length c) rfl
  refine wp_seq (rW ?_)
  have hE0 : Ext w (w.alloc (.cells zc4 33)) := (Ext.refl _).alloc' _
  have hR := Blk.new w 33 zc4
  refine lv (w1 := w.alloc (.cells zc4 33)) ?_
  refine lv ?_
  refine lE a [0] 2 ?_
  intro a1 u1 e2
  replace sz := u1.sz.trans sz
  replace df := u1.df.trans df
  replace e0 := u1.get 0 e0
  have hlt0 : w.heap.size < (w.alloc (.cells zc4 33)).heap.size := by simp
  generalize w.alloc (.cells zc4 33) = W0 at *
  clear ea u1
  replace hs := hs.keep (Q := T) (Keeps.of_ext hE0) (fun _ h => h)
  refine wp_seq (rW ?_)
  refine lv ?_
  refine lc Tryz.func10 (read74 (c := c) (by omega) hb hs) ?_
  rintro e w1 ⟨g, P, rfl, hS, hg, hPg, hE1⟩
  refine ⟨_, rfl, ?_⟩
  refine lv ?_
  refine lE a1 [0, 2] 4 ?_
  intro a2 u2 e4
  replace sz := u2.sz.trans sz
  replace df := u2.df.trans df
  replace e0 := u2.get 0 e0
  replace e2 := u2.get 2 e2
  clear u2 hs
  have hgl := hS.glt
  replace hR := hR.ext hE1
  have hE : Ext w w1 := hE0.trans' hE1
  refine wp_seq (rW ?_)
  refine lv ?_
  refine lc Tryz.func27 (text167 hS) ?_
  rintro e w2 ⟨p, s1, v, rfl, ⟨rfl, hp⟩, hS1, hd1, hf1⟩
  refine ⟨_, rfl, ?_⟩
  refine lv ?_
  refine lc Tryz.func28 (int77 hS1) ?_
  rintro e w3 ⟨n, s2, v, rfl, ⟨rfl, hn⟩, hS2, hd2, hf2⟩
  refine ⟨_, rfl, ?_⟩
  refine lv ?_
  have hf := hf1.trans hf2
  have hE3 : Ext w3 (w3.alloc (.cells zc4 33)) := (Ext.refl _).alloc' _
  have hC := Blk.new w3 33 zc4
  refine lv (w1 := w3.alloc (.cells zc4 33)) ?_
  have hsz3 : w3.heap.size < (w3.alloc (.cells zc4 33)).heap.size := by simp
  have hsz1 := hf.size
  generalize hW : w3.alloc (.cells zc4 33) = W at *
  clear hW
  refine ls (w1 := W.setCells w3.heap.size 0 (ccs p n none 0 0 none 0 0)) ?_ rfl rfl (by simp [execOp, go_sem, hC.cell, hC.frozen, *]; rfl)
  refine lE a2 [0, 2, 4] 5 ?_
  intro a3 u3 e5
  replace sz := u3.sz.trans sz
  replace df := u3.df.trans df
  replace e0 := u3.get 0 e0
  replace e2 := u3.get 2 e2
  replace e4 := u3.get 4 e4
  clear u3
  have hsz0 := hE1.size
  have hgW : w.heap.size < g := by omega
  have hEx3 : Ext w w3 := ext_fr hE hf (by omega)
  have hR3 : Blk w3 w.heap.size 33 zc4 := hR.fr hf (by omega)
  have hc0 : w3.heap.size ≠ g := by have := hgl.1; omega
  have hPc : ∀ k, P k → k ≠ w3.heap.size := fun k hk => by have := hgl.2 k hk; omega
  have hF0 : Fr (fun k => k = w3.heap.size) W (W.setCells w3.heap.size 0 (ccs p n none 0 0 none 0 0)) := (Fr.refl _ _).setCells _ 0 (.inl rfl)
  have hS3 : RS g P s2 (W.setCells w3.heap.size 0 (ccs p n none 0 0 none 0 0)) := (hS2.ext hE3).fr hF0 (fun e => hc0 e.symm) hPc
  have hR4 := (hR3.ext hE3).fr hF0 (by have := hEx3.size; have := hR3.lt; omega)
  have hC1 : Blk (W.setCells w3.heap.size 0 (ccs p n none 0 0 none 0 0)) w3.heap.size 33 (ccs p n none 0 0 none 0 0).toArray := by
    have := setCells_blk (cs := zc4.toList) (ccs p n none 0 0 none 0 0) 0 hC (by simp)
    simpa using this
  have hE4 : Ext w (W.setCells w3.heap.size 0 (ccs p n none 0 0 none 0 0)) := ext_fr (hEx3.trans' hE3) hF0 hEx3.size
  have hcB : w3.heap.size < W.heap.size := hsz3
  have hFs := hF0.size
  have hd1' := hd1
  have hlc := hEx3.size
  have hrc : w.heap.size ≠ w3.heap.size := by have := hR3.lt; omega
  clear hF0 hS2 hR3 hR hC hE3 hf hf1 hf2 hEx3 hE hE1 hE0 hlt0 hS1 hS
  generalize W.setCells w3.heap.size 0 (ccs p n none 0 0 none 0 0) = V at *
  refine wp_seq (rW ?_)
  iterate 2 refine lv ?_
  refine lN a3 [0, 2, 4, 5] ?_
  intro a4 u4
  replace sz := u4.sz.trans sz
  replace df := u4.df.trans df
  replace e0 := u4.get 0 e0
  replace e2 := u4.get 2 e2
  replace e4 := u4.get 4 e4
  replace e5 := u4.get 5 e5
  clear u4
  refine wp_seq (rW ?_)
  iterate 5 refine lv ?_
  have hS3lt := hS3.glt.1
  refine lc Tryz.func29 (list29 hS3 l.length (by omega)) ?_
  rintro e V1 ⟨xs, ok1, s3, A1, k1, rfl, hk1, hx1, hxG, hS4, hf4, hl3⟩
  refine ⟨_, rfl, ?_⟩
  iterate 4 refine lv ?_
  have hC2 := hC1.fr hf4 hc0
  have hR5 := hR4.fr hf4 (by omega)
  have hE5 := ext_fr hE4 hf4 (by omega)
  refine ls (w1 := V1.setCell ⟨w3.heap.size, 2, none⟩ (.slice A1 xs.length k1)) ?_ rfl rfl (by simp [execOp, go_sem, hC2.cell, hC2.frozen, *])
  refine lv ?_
  refine lE a4 [0, 2, 4, 5] 6 (v := .bool ok1) ?_ (he := by simp [*])
  intro a5 u5 e6
  replace sz := u5.sz.trans sz
  replace df := u5.df.trans df
  replace e0 := u5.get 0 e0
  replace e2 := u5.get 2 e2
  replace e4 := u5.get 4 e4
  replace e5 := u5.get 5 e5
  clear u5
  have hszV := hf4.size
  have hF1 : Fr (fun k => k = w3.heap.size) V1 (V1.setCell ⟨w3.heap.size, 2, none⟩ (.slice A1 xs.length k1)) := (Fr.refl (fun k => k = w3.heap.size) V1).setCell (p := ⟨w3.heap.size, 2, none⟩) (.inl rfl) _
  have hS5 := hS4.fr hF1 (fun e => hc0 e.symm) hPc
  have hR6 := hR5.fr hF1 hrc
  have hC3 : Blk (V1.setCell ⟨w3.heap.size, 2, none⟩ (.slice A1 xs.length k1)) w3.heap.size 33 (ccs p n A1 xs.length k1 none 0 0).toArray := by simpa using hC2.set_ 2 (.slice A1 xs.length k1)
  have hE6 := ext_fr hE5 hF1 hlc
  have hx2 := hx1.keep (Q := fun b => V.heap.size ≤ b ∧ b < V1.heap.size) (Keeps.of_fr hF1 (fun b hb e => by omega)) (fun _ h => h)
  have hFs1 := hF1.size
  clear hC1 hC2 hR4 hR5 hE4 hE5 hS3 hS4 hx1 hF1
  generalize V1.setCell ⟨w3.heap.size, 2, none⟩ (.slice A1 xs.length k1) = V2 at *
  refine wp_seq (rW ?_)
  iterate 5 refine lv ?_
  refine lc Tryz.func30 (list30 hS5 l.length (by omega)) ?_
  rintro e V3 ⟨ys, ok2, s4, A2, k2, rfl, hk2, hy1, hyG, hS6, hf6, hl4⟩
  refine ⟨_, rfl, ?_⟩
  iterate 4 refine lv ?_
  have hC4 := hC3.fr hf6 hc0
  have hR7 := hR6.fr hf6 (by omega)
  have hE7 := ext_fr hE6 hf6 (by omega)
  refine ls (w1 := V3.setCell ⟨w3.heap.size, 3, none⟩ (.slice A2 ys.length k2)) ?_ rfl rfl (by simp [execOp, go_sem, hC4.cell, hC4.frozen, *])
  refine lv ?_
  refine lE a5 [0, 2, 4, 5, 6] 7 (v := .bool ok2) ?_ (he := by simp [*])
  intro a6 u6 e7
  replace sz := u6.sz.trans sz
  replace df := u6.df.trans df
  replace e2 := u6.get 2 e2
  replace e4 := u6.get 4 e4
  replace e5 := u6.get 5 e5
  replace e6 := u6.get 6 e6
  clear u6 e0
  have hszV3 := hf6.size
  have hF2 : Fr (fun k => k = w3.heap.size) V3 (V3.setCell ⟨w3.heap.size, 3, none⟩ (.slice A2 ys.length k2)) := (Fr.refl (fun k => k = w3.heap.size) V3).setCell (p := ⟨w3.heap.size, 3, none⟩) (.inl rfl) _
  have hS7 := hS6.fr hF2 (fun e => hc0 e.symm) hPc
  have hR8 := hR7.fr hF2 hrc
  have hC5 : Blk (V3.setCell ⟨w3.heap.size, 3, none⟩ (.slice A2 ys.length k2)) w3.heap.size 33 (ccs p n A1 xs.length k1 A2 ys.length k2).toArray := by simpa using hC4.set_ 3 (.slice A2 ys.length k2)
  have hE8 := ext_fr hE7 hF2 hlc
  have hy2 := hy1.keep (Q := fun b => V2.heap.size ≤ b ∧ b < V3.heap.size) (Keeps.of_fr hF2 (fun b hb e => by omega)) (fun _ h => h)
  have hx3 := (hx2.keep (Q := fun b => V.heap.size ≤ b ∧ b < V1.heap.size) (Keeps.of_fr hf6 (fun b hb e => by have := hS3lt; omega)) (fun _ h => h)).keep (Q := fun b => V.heap.size ≤ b ∧ b < V1.heap.size) (Keeps.of_fr hF2 (fun b hb e => by omega)) (fun _ h => h)
  have hFs2 := hF2.size
  clear hC3 hC4 hR6 hR7 hE6 hE7 hS5 hS6 hy1 hx2 hF2
  generalize V3.setCell ⟨w3.heap.size, 3, none⟩ (.slice A2 ys.length k2) = V4 at *
  have bad : ∀ (b : Act), Ag [2] a6 b → cDec l = none → Code.wp Tryz.prog (.seq (RM14 7) .ret) (Exit.then (Code.wp Tryz.prog (.seq (RM14 8) .ret) Q) Q) b V4 := by
    intro b u hn
    have sz := u.sz.trans sz
    have df := u.df.trans df
    have e2 := u.get 2 e2
    refine wp_seq (rW ?_)
    refine lv ?_
    refine ls (w1 := V4.setCells w.heap.size 0 (ccs ⟨#[]⟩ 0 none 0 0 none 0 0)) ?_ rfl rfl (by simp [execOp, go_sem, hR8.cell, hR8.frozen, *]; rfl)
    refine lv ?_
    refine lE b [2] 3 ?_
    intro b1 u1 e3
    have hR9 : Blk (V4.setCells w.heap.size 0 (ccs ⟨#[]⟩ 0 none 0 0 none 0 0)) w.heap.size 33 (ccs ⟨#[]⟩ 0 none 0 0 none 0 0).toArray := by
      have := setCells_blk (cs := zc4.toList) (ccs ⟨#[]⟩ 0 none 0 0 none 0 0) 0 hR8 (by simp)
      simpa using this
    have hE9 : Ext w (V4.setCells w.heap.size 0 (ccs ⟨#[]⟩ 0 none 0 0 none 0 0)) := ((Fr.of_ext (M := fun _ => False) hE8).setCells (ccs ⟨#[]⟩ 0 none 0 0 none 0 0) 0 (.inr (Nat.le_refl _))).ext
    have q0 := hR9.cell' (u := .string ⟨#[]⟩) 0 rfl
    have q1 := hR9.cell' (u := .int .i64 0) 1 rfl
    have q2 := hR9.cell' (u := .slice none 0 0) 2 rfl
    have q3 := hR9.cell' (u := .slice none 0 0) 3 rfl
    refine wp_ret (hQ _ _ (.tuple #[cag GC.zero none 0 none 0, .int .i64 2]) (u1.df.trans df) (by simp [results, Tryz.results14, go_sem, evT e3, evT (u1.get 2 e2), q0, q1, q2, q3]; exact ⟨rfl, rfl, rfl, rfl⟩) ⟨GC.zero, none, 0, none, 0, 2, rfl, ⟨by simp [GC.zero], ⟨rfl, fun h => absurd h (by simp [GC.zero])⟩, ⟨rfl, fun h => absurd h (by simp [GC.zero])⟩⟩, hE9, .inr ⟨rfl, hn, rfl, rfl, rfl, rfl, rfl⟩⟩)
  have fine : ∀ (b : Act), Ag [2, 5] a6 b → cDec l = some ⟨p, n, xs, ys⟩ → Code.wp Tryz.prog (.seq (RM14 8) .ret) Q b V4 := by
    intro b u hn
    have sz := u.sz.trans sz
    have df := u.df.trans df
    have e2 := u.get 2 e2
    have e5 := u.get 5 e5
    have c0 := hC5.cell' (u := .string p) 0 rfl
    have c1 := hC5.cell' (u := .int .i64 n) 1 rfl
    have c2 := hC5.cell' (u := .slice A1 xs.length k1) 2 rfl
    have c3 := hC5.cell' (u := .slice A2 ys.length k2) 3 rfl
    refine wp_seq (rW ?_)
    refine lv ?_
    refine ls (w1 := V4.setCells w.heap.size 0 (ccs p n A1 xs.length k1 A2 ys.length k2)) ?_ rfl rfl (by simp [execOp, go_sem, hR8.cell, hR8.frozen, *]; rfl)
    refine lv ?_
    refine lE b [2] 3 ?_
    intro b1 u1 e3
    have hR9 : Blk (V4.setCells w.heap.size 0 (ccs p n A1 xs.length k1 A2 ys.length k2)) w.heap.size 33 (ccs p n A1 xs.length k1 A2 ys.length k2).toArray := by
      have := setCells_blk (cs := zc4.toList) (ccs p n A1 xs.length k1 A2 ys.length k2) 0 hR8 (by simp)
      simpa using this
    have hF9 : Fr (fun k => k = w.heap.size) V4 (V4.setCells w.heap.size 0 (ccs p n A1 xs.length k1 A2 ys.length k2)) := (Fr.refl (fun k => k = w.heap.size) V4).setCells _ 0 (.inl rfl)
    have hE9 : Ext w (V4.setCells w.heap.size 0 (ccs p n A1 xs.length k1 A2 ys.length k2)) := ext_fr hE8 hF9 (Nat.le_refl _)
    have q0 := hR9.cell' (u := .string p) 0 rfl
    have q1 := hR9.cell' (u := .int .i64 n) 1 rfl
    have q2 := hR9.cell' (u := .slice A1 xs.length k1) 2 rfl
    have q3 := hR9.cell' (u := .slice A2 ys.length k2) 3 rfl
    have hFs := hF9.size
    have hlw := hR8.lt
    refine wp_ret (hQ _ _ (.tuple #[cag ⟨p, n, xs, ys⟩ A1 k1 A2 k2, .int .i64 0]) (u1.df.trans df) (by simp [results, Tryz.results14, go_sem, evT e3, evT (u1.get 2 e2), q0, q1, q2, q3]) ⟨⟨p, n, xs, ys⟩, A1, k1, A2, k2, 0, rfl, ⟨⟨hk1.1, hk1.2.1, hk2.1, hk2.2.1⟩, ?_, ?_⟩, hE9, .inl ⟨rfl, hn⟩⟩)
    · exact hx3.keep (Keeps.of_fr hF9 (fun b hb e => by omega)) (fun b hb => by omega)
    · exact hy2.keep (Keeps.of_fr hF9 (fun b hb e => by omega)) (fun b hb => by omega)
  refine wp_seq (wp_seq (rW ?_))
  cases ok1 with
  | false =>
    iterate 3 refine lv ?_
    iterate 2 refine ln ?_
    iterate 2 refine lv ?_
    iterate 3 refine ln ?_
    refine lv ?_
    refine lE a6 [2] 45 (v := .bool true) ?_ (he := by simp [*])
    intro a7 u7 e45
    exact wp_cond_true e45 (bad a7 u7 (cdec_bad hd1 hd2 hl3 hl4 (fun h => nomatch h.1)))
  | true =>
  cases ok2 with
  | false =>
    iterate 3 refine lv ?_
    iterate 2 refine ly ?_
    iterate 2 refine lv ?_
    iterate 3 refine ln ?_
    refine lv ?_
    refine lE a6 [2] 45 (v := .bool true) ?_ (he := by simp [*])
    intro a7 u7 e45
    exact wp_cond_true e45 (bad a7 u7 (cdec_bad hd1 hd2 hl3 hl4 (fun h => nomatch h.2.1)))
  | true =>
    iterate 3 refine lv ?_
    iterate 2 refine ly ?_
    iterate 2 refine lv ?_
    refine ly ?_
    refine lcg Tryz.func32 (end80 hS7) ?_
    rintro e V5 ⟨r, rfl, hr, rfl⟩
    refine ⟨_, rfl, ?_⟩
    have hr1 := hr.1
    have hr2 := hr.2
    clear hr
    refine ly ?_
    refine lv ?_
    refine lE a6 [2, 5] 45 (v := .bool (r != 0)) ?_ (he := by simp [*])
    intro a7 u7 e45
    by_cases h0 : r = 0
    · exact wp_cond_false (e45.trans (by simp [h0])) (wp_skip (fine a7 u7 (cdec_good hd1 hd2 hl3 hl4 (hr1 h0))))
    · exact wp_cond_true (e45.trans (by simp [h0])) (bad a7 (u7.mono (by rfl)) (cdec_bad hd1 hd2 hl3 hl4 (fun h => h0 (hr2 h.2.2))))
end Go.Proofs.YtfcplpeimcjhaaaGreatDoor
namespace Go.Proofs.YtfcplpeimcjhaaaGreatDoor
open Go.RowKit
noncomputable def RM35 := RG Tryz.f35
noncomputable abbrev cM35 : Code := .seq (RM35 0) (.seq (.seq (RM35 1) (.cond (.tmp 10) (.seq (RM35 2) .ret) .skip)) (.seq (.seq (RM35 3) (.block 0 (.loop (.seq (.seq (RM35 4) (.cond (.tmp 14) .skip (.exit 0))) (.seq (.block 1 (.seq (RM35 6) (.cond (.tmp 25) (.seq (RM35 7) .ret) .skip))) (RM35 5)))))) (.seq (RM35 8) .ret)))
theorem bM35 : Tryz.f35.body = some cM35 := by kernel_rfl
set_option maxHeartbeats 4000000 in
theorem texts35 {T T' : Nat → Prop} {A A' : Option Addr} {c c' : Nat} (l : List ByteArray) (w : World) (hl : l.length ≤ 1000000000000) (h : Sl w T 1 A l.length (l.map Value.string)) (h' : Sl w T' 1 A' l.length (l.map Value.string)) : Calls Tryz.prog 35 #[.slice A l.length c, .slice A' l.length c'] w (RetE (.bool true) w) := by
  refine callsV Tryz.func35 bM35 rfl (by simp) (fun a Q sz df ea hQ => ?_)
  have e0 := ea 0 (.slice A l.length c) rfl
  have e1 := ea 1 (.slice A' l.length c') rfl
  refine wp_seq (rW ?_)
  refine lv ?_
  refine lN a [0, 1] ?_
  intro a1 u1
  replace sz := u1.sz.trans sz
  replace df := u1.df.trans df
  replace e0 := u1.get 0 e0
  replace e1 := u1.get 1 e1
  refine wp_seq (wp_seq (rW ?_))
  iterate 5 refine lv ?_
  refine lE a1 [0, 1] 10 (v := .bool false) ?_ (he := by simp [*])
  intro a2 u2 e10
  replace sz := u2.sz.trans sz
  replace df := u2.df.trans df
  replace e0 := u2.get 0 e0
  replace e1 := u2.get 1 e1
  refine wp_cond_false e10 (wp_skip (wp_seq (wp_seq (rW ?_))))
  refine lv ?_
  refine lE a2 [0, 1] 5 ?_
  intro a3 u3 e5
  replace sz := u3.sz.trans sz
  replace df := u3.df.trans df
  replace e0 := u3.get 0 e0
  replace e1 := u3.get 1 e1
  refine wp_block (wp_loop (fun a' V => ∃ j : Nat, Ag [0, 1] a3 a' ∧ Ev a' (.tmp 5) = .int .i64 (j : Int) ∧ j ≤ l.length ∧ Ext w V) (fun a' _ => (l.length - intOf (Ev a' (.tmp 5))).toNat) ⟨0, .rf, e5, Nat.zero_le _, Ext.refl _⟩ ?_)
  clear e5
  rintro a4 V ⟨j, u4, e5, hj, hx⟩
  replace sz := u4.sz.trans sz
  replace df := u4.df.trans df
  replace e0 := u4.get 0 e0
  replace e1 := u4.get 1 e1
  have m5 := e5
  refine wp_seq (wp_seq (rW ?_))
  iterate 4 refine lv ?_
  refine lE a4 [0, 1, 5] 14 ?_
  intro a5 u5 e14
  replace sz := u5.sz.trans sz
  replace df := u5.df.trans df
  replace e0 := u5.get 0 e0
  replace e1 := u5.get 1 e1
  replace e5 := u5.get 5 e5
  by_cases hlt : j < l.length
  · refine wp_cond_true (e14.trans (by simp [hlt])) (wp_skip (wp_seq (wp_block (wp_seq ?_))))
    obtain ⟨b, off, rfl, -, hc⟩ := h.strs hlt
    obtain ⟨b', off', rfl, -, hc'⟩ := h'.strs hlt
    have hx1 := hx.drew'
    generalize l.getD j ⟨#[]⟩ = y at *
    have hji : (j : Int) < l.length := by omega
    refine rD (fun w' => Ext w w') (fun _ => true) 9 ?_
    generalize V.drew = V1 at *
    have hS := hx1
    refine dt 0 [0, 1, 2, 3, 4, 5, 6, 7, 8] ?_
    iterate 3 refine tv ?_
    refine tv ?_ (hy := by intro w' hw; have := cell_ext hw hc; simp [execOp, go_sem, *]; rfl)
    iterate 3 refine tv ?_
    refine tv ?_ (hy := by intro w' hw; have := cell_ext hw hc'; simp [execOp, go_sem, *]; rfl)
    refine tv (v := .bool false) ?_ (hy := by intro w' hw; simp [execOp, go_sem, *])
    refine t_e ?_
    refine d_E1 a5 [0, 1, 5] 25 (v := .bool false) ?_ (he := by simp [*])
    intro a6 u6 e25
    replace sz := u6.sz.trans sz
    replace df := u6.df.trans df
    replace e5 := u6.get 5 e5
    refine wp_cond_false e25 (wp_skip ?_)
    have hlw := wrI (a := (j : Int) + 1) (by omega) (by omega)
    refine rW ?_
    iterate 3 refine lv ?_
    refine lE a6 [0, 1] 5 (v := .int .i64 ((j : Int) + 1)) ?_ (he := by simp [*])
    intro a7 u7 e5'
    refine ⟨⟨j + 1, ((u4.trans (u5.mono (by rfl))).trans (u6.mono (by rfl))).trans (u7.mono (by rfl)), e5'.trans (by simp), hlt, hx1⟩, ?_⟩
    rw [e5', m5]
    simp only [intOf]
    omega
  · refine wp_cond_false (e14.trans (by simp [hlt])) (wp_exit ?_)
    refine wp_seq (rW ?_)
    refine lv ?_
    refine lE a5 [] 4 ?_
    intro a6 u6 e4
    exact wp_ret (hQ _ _ _ (u6.df.trans df) (by simp [results, Tryz.results35, go_sem, evT e4]; try rfl) ⟨rfl, hx⟩)
noncomputable def RM16 := RG Tryz.f16
noncomputable abbrev cM16 : Code := .seq (RM16 0) (.seq (.seq (RM16 1) (.cond (.tmp 34) (.seq (RM16 2) .ret) .skip)) (.seq (.seq (RM16 3) (.block 0 (.loop (.seq (.seq (RM16 4) (.cond (.tmp 39) .skip (.exit 0))) (.seq (.block 1 (.seq (RM16 6) (.cond (.tmp 52) (.seq (RM16 7) .ret) .skip))) (RM16 5)))))) (.seq (RM16 8) .ret)))
theorem bM16 : Tryz.f16.body = some cM16 := by kernel_rfl
set_option maxHeartbeats 4000000 in
theorem same16 (c : GC) (A B A2 B2 : Option Addr) (k q k2 q2 : Nat) (P P2 : Nat → Prop) (w : World) (hr : CM w P c A k B q) (hr2 : CM w P2 c A2 k2 B2 q2) : Calls Tryz.prog 16 #[cag c A k B q, cag c A2 k2 B2 q2] w (RetE (.bool true) w) := by
  have hp1 := hr.wf.pathl
  have hp2 := hr.wf.suml
  refine callsV Tryz.func16 bM16 rfl (by simp) (fun a Q sz df ea hQ => ?_)
  have e0 := ea 0 (cag c A k B q) rfl
  have e1 := ea 1 (cag c A2 k2 B2 q2) rfl
  refine wp_seq (rW ?_)
  have hE : Ext w (w.alloc (.cells (ccs c.prop c.size A c.paths.length k B c.sums.length q).toArray 29)) := (Ext.refl _).alloc' _
  have hB := Blk.new w 29 (ccs c.prop c.size A c.paths.length k B c.sums.length q).toArray
  refine lv (w1 := w.alloc (.cells (ccs c.prop c.size A c.paths.length k B c.sums.length q).toArray 29)) ?_
  generalize w.alloc (.cells (ccs c.prop c.size A c.paths.length k B c.sums.length q).toArray 29) = W at *
  have hE2 : Ext W (W.alloc (.cells (ccs c.prop c.size A2 c.paths.length k2 B2 c.sums.length q2).toArray 29)) := (Ext.refl _).alloc' _
  have hF := Blk.new W 29 (ccs c.prop c.size A2 c.paths.length k2 B2 c.sums.length q2).toArray
  replace hB := hB.ext hE2
  refine lv (w1 := W.alloc (.cells (ccs c.prop c.size A2 c.paths.length k2 B2 c.sums.length q2).toArray 29)) ?_
  replace hE := hE.trans' hE2
  clear hE2
  generalize W.alloc (.cells (ccs c.prop c.size A2 c.paths.length k2 B2 c.sums.length q2).toArray 29) = V at *
  replace hr := hr.ext hE
  replace hr2 := hr2.ext hE
  have qq0 := hB.cell' (u := .string c.prop) 0 rfl
  have qq1 := hB.cell' (u := .int .i64 c.size) 1 rfl
  have qq2 := hB.cell' (u := .slice A c.paths.length k) 2 rfl
  have qq3 := hB.cell' (u := .slice B c.sums.length q) 3 rfl
  have pp0 := hF.cell' (u := .string c.prop) 0 rfl
  have pp1 := hF.cell' (u := .int .i64 c.size) 1 rfl
  have pp2 := hF.cell' (u := .slice A2 c.paths.length k2) 2 rfl
  have pp3 := hF.cell' (u := .slice B2 c.sums.length q2) 3 rfl
  refine lv ?_
  refine lE2 a [] 2 3 ?_
  intro a1 u1 e2 e3
  replace sz := u1.sz.trans sz
  replace df := u1.df.trans df
  clear e0 e1 ea
  refine wp_seq (wp_seq (rW ?_))
  iterate 6 refine lv ?_
  iterate 5 refine ly ?_
  iterate 2 refine lv ?_
  iterate 7 refine ly ?_
  iterate 2 refine lv ?_
  iterate 4 refine ly ?_
  refine lcg Tryz.func35 (texts35 (c := k) (c' := k2) c.paths V (by omega) hr.paths hr2.paths) ?_
  rintro e w1 ⟨rfl, hx1⟩
  refine ⟨_, rfl, ?_⟩
  refine ly ?_
  refine lv ?_
  refine lE a1 [2, 3] 34 (v := .bool false) ?_ (he := by simp [*])
  intro a2 u2 e34
  replace sz := u2.sz.trans sz
  replace df := u2.df.trans df
  replace e2 := u2.get 2 e2
  replace e3 := u2.get 3 e3
  clear u1 u2
  refine wp_cond_false e34 (wp_skip (wp_seq (wp_seq (rW ?_))))
  refine lv ?_
  refine lE a2 [2, 3] 5 ?_
  intro a3 u3 e5
  replace sz := u3.sz.trans sz
  replace df := u3.df.trans df
  replace e2 := u3.get 2 e2
  replace e3 := u3.get 3 e3
  refine wp_block (wp_loop (fun a' Z => ∃ j : Nat, Ag [2, 3] a3 a' ∧ Ev a' (.tmp 5) = .int .i64 (j : Int) ∧ j ≤ c.sums.length ∧ Ext V Z) (fun a' _ => (c.sums.length - intOf (Ev a' (.tmp 5))).toNat) ⟨0, .rf, e5, Nat.zero_le _, hx1⟩ ?_)
  clear e5 hx1 qq0 qq1 qq2 qq3 pp0 pp1 pp2 pp3
  rintro a4 Z ⟨j, u4, e5, hj, hx⟩
  replace sz := u4.sz.trans sz
  replace df := u4.df.trans df
  replace e2 := u4.get 2 e2
  replace e3 := u4.get 3 e3
  have m5 := e5
  have qq3 := (hB.ext hx).cell' (u := .slice B c.sums.length q) 3 rfl
  refine wp_seq (wp_seq (rW ?_))
  iterate 5 refine lv ?_
  refine lE a4 [2, 3, 5] 39 ?_
  intro a5 u5 e39
  replace sz := u5.sz.trans sz
  replace df := u5.df.trans df
  replace e2 := u5.get 2 e2
  replace e3 := u5.get 3 e3
  replace e5 := u5.get 5 e5
  by_cases hlt : j < c.sums.length
  · refine wp_cond_true (e39.trans (by simp [hlt])) (wp_skip (wp_seq (wp_block (wp_seq ?_))))
    obtain ⟨b, off, rfl, -, hc⟩ := hr.sums.u64s hlt
    obtain ⟨b', off', rfl, -, hc'⟩ := hr2.sums.u64s hlt
    have hx1 := hx.drew'
    generalize c.sums.getD j 0 = y at *
    have hji : (j : Int) < c.sums.length := by omega
    refine rD (fun w' => Ext V w') (fun _ => true) 11 ?_
    generalize Z.drew = V1 at *
    have hS := hx1
    refine dt 0 [0, 1, 2, 3, 4, 5, 6, 7, 8, 9, 10] ?_
    refine tv ?_
    refine tv ?_ (hy := by intro w' hw; have := (hB.ext hw).cell' (u := .slice (some ⟨b, off, none⟩) c.sums.length q) 3 rfl; simp [execOp, go_sem, *]; rfl)
    iterate 2 refine tv ?_
    refine tv ?_ (hy := by intro w' hw; have := cell_ext hw hc; simp [execOp, go_sem, *]; rfl)
    refine tv ?_
    refine tv ?_ (hy := by intro w' hw; have := (hF.ext hw).cell' (u := .slice (some ⟨b', off', none⟩) c.sums.length q2) 3 rfl; simp [execOp, go_sem, *]; rfl)
    iterate 2 refine tv ?_
    refine tv ?_ (hy := by intro w' hw; have := cell_ext hw hc'; simp [execOp, go_sem, *]; rfl)
    refine tv (v := .bool false) ?_ (hy := by intro w' hw; simp [execOp, go_sem, *])
    refine t_e ?_
    refine d_E1 a5 [2, 3, 5] 52 (v := .bool false) ?_ (he := by simp [*])
    intro a6 u6 e52
    replace sz := u6.sz.trans sz
    replace df := u6.df.trans df
    replace e5 := u6.get 5 e5
    refine wp_cond_false e52 (wp_skip ?_)
    have hlw := wrI (a := (j : Int) + 1) (by omega) (by omega)
    refine rW ?_
    iterate 3 refine lv ?_
    refine lE a6 [2, 3] 5 (v := .int .i64 ((j : Int) + 1)) ?_ (he := by simp [*])
    intro a7 u7 e5'
    refine ⟨⟨j + 1, ((u4.trans (u5.mono (by rfl))).trans (u6.mono (by rfl))).trans (u7.mono (by rfl)), e5'.trans (by simp), hlt, hx1⟩, ?_⟩
    rw [e5', m5]
    simp only [intOf]
    omega
  · refine wp_cond_false (e39.trans (by simp [hlt])) (wp_exit ?_)
    refine wp_seq (rW ?_)
    refine lv ?_
    refine lE a5 [] 4 ?_
    intro a6 u6 e4
    exact wp_ret (hQ _ _ _ (u6.df.trans df) (by simp [results, Tryz.results16, go_sem, evT e4]; try rfl) ⟨rfl, hE.trans' hx⟩)
end Go.Proofs.YtfcplpeimcjhaaaGreatDoor
namespace Go.Proofs.YtfcplpeimcjhaaaGreatDoor
open Go.RowKit
def RetS (n : Nat) (w : World) (e : Ending) (w' : World) : Prop := ∃ t : ByteArray, e = .returned (.string t) ∧ t.size ≤ n ∧ Ext w w'
noncomputable def RM4 := RG Tryz.f4
noncomputable abbrev cM4 : Code := .seq (RM4 0) (.seq (.seq (RM4 1) (.cond (.tmp 8) (.seq (RM4 2) .ret) .skip)) (.seq (RM4 3) .ret))
theorem bM4 : Tryz.f4.body = some cM4 := by kernel_rfl
theorem size_ext (s : ByteArray) (n : Nat) : (s.extract 0 n).size ≤ n := by rw [ByteArray.size_extract]; omega
set_option maxHeartbeats 4000000 in
theorem short4 (s : ByteArray) (w : World) : Calls Tryz.prog 4 #[.string s, .int .i64 20] w (RetS 20 w) := by
  refine callsV Tryz.func4 bM4 rfl (by simp) (fun a Q sz df ea hQ => ?_)
  have e0 := ea 0 (.string s) rfl
  have e1 := ea 1 (.int .i64 20) rfl
  refine wp_seq (rW ?_)
  refine lv ?_
  refine lN a [0, 1] ?_
  intro a1 u1
  replace sz := u1.sz.trans sz
  replace df := u1.df.trans df
  replace e0 := u1.get 0 e0
  replace e1 := u1.get 1 e1
  refine wp_seq (wp_seq (rW ?_))
  iterate 4 refine lv ?_
  refine lE a1 [0, 1] 8 (v := .bool (decide (20 < s.size))) ?_ (he := by simp [*] <;> omega)
  intro a2 u2 e8
  replace sz := u2.sz.trans sz
  replace df := u2.df.trans df
  replace e0 := u2.get 0 e0
  replace e1 := u2.get 1 e1
  by_cases h : 20 < s.size
  · refine wp_cond_true (e8.trans (by simp [h])) (wp_seq (rW ?_))
    iterate 2 refine lv ?_
    refine lv (w1 := w) (v := .string (s.extract 0 20)) (hrun := by simp [execOp, go_sem, *]; intro h9; omega) ?_
    refine lv ?_
    refine lE a2 [] 4 (v := .string (s.extract 0 20)) ?_ (he := by simp [*])
    intro a3 u3 e4
    exact wp_ret (hQ _ _ _ (u3.df.trans df) (by simp [results, Tryz.results4, go_sem, evT e4]) ⟨s.extract 0 20, rfl, size_ext _ _, Ext.refl w⟩)
  · refine wp_cond_false (e8.trans (by simp [h])) (wp_skip (wp_seq (rW ?_)))
    iterate 2 refine lv ?_
    refine lE a2 [] 4 (v := .string s) ?_ (he := by simp [*])
    intro a3 u3 e4
    exact wp_ret (hQ _ _ _ (u3.df.trans df) (by simp [results, Tryz.results4, go_sem, evT e4]) ⟨s, rfl, by omega, Ext.refl w⟩)
noncomputable def RM6 := RG Tryz.f6
noncomputable abbrev cM6 : Code := .seq (RM6 0) (.seq (.seq (RM6 1) (.cond (.tmp 8) (.seq (RM6 2) .ret) .skip)) (.seq (RM6 3) (.seq (RM6 4) (.seq (.seq (RM6 5) (.block 0 (.loop (.seq (.seq (RM6 6) (.cond (.tmp 11) .skip (.exit 0))) (.seq (.block 1 (.seq (RM6 8) (.seq (.seq (RM6 9) (.cond (.tmp 17) (RM6 10) .skip)) (RM6 11)))) (RM6 7)))))) (.seq (.seq (RM6 12) (.cond (.tmp 28) (.seq (RM6 13) .ret) .skip)) (.seq (RM6 14) .ret))))))
theorem bM6 : Tryz.f6.body = some cM6 := by kernel_rfl
abbrev digs : ByteArray := { data := #[48, 49, 50, 51, 52, 53, 54, 55, 56, 57] }
theorem tdiv10 {m : Int} {j : Nat} (h : m.natAbs < 2 ^ (64 - j)) (h0 : m ≠ 0) : (m.tdiv 10).natAbs < 2 ^ (64 - (j + 1)) ∧ j < 64 := by
  have hj : j < 64 := by
    rcases Nat.lt_or_ge j 64 with h1 | h1
    · exact h1
    · rw [Nat.sub_eq_zero_of_le h1] at h
      omega
  refine ⟨?_, hj⟩
  obtain ⟨k, hk⟩ : ∃ k, 64 - (j + 1) = k := ⟨_, rfl⟩
  rw [show 64 - j = k + 1 by omega, Nat.pow_succ] at h
  rw [hk, Int.natAbs_tdiv]
  show m.natAbs / 10 < _
  omega
set_option maxHeartbeats 4000000 in
theorem decimal6 (n : Int) (hn : I64 n) (w : World) : Calls Tryz.prog 6 #[.int .i64 n] w (RetS 65 w) := by
  refine callsV Tryz.func6 bM6 rfl (by simp) (fun a Q sz df ea hQ => ?_)
  obtain ⟨hn1, hn2⟩ := hn
  have e0 := ea 0 (.int .i64 n) rfl
  refine wp_seq (rW ?_)
  refine lv ?_
  refine lN a [0] ?_
  intro a1 u1
  replace sz := u1.sz.trans sz
  replace df := u1.df.trans df
  replace e0 := u1.get 0 e0
  refine wp_seq (wp_seq (rW ?_))
  iterate 2 refine lv ?_
  refine lE a1 [0] 8 ?_
  intro a2 u2 e8
  replace sz := u2.sz.trans sz
  replace df := u2.df.trans df
  replace e0 := u2.get 0 e0
  by_cases h : n = 0
  · refine wp_cond_true (e8.trans (by simp [h])) (wp_seq (rW ?_))
    refine lv ?_
    refine lE a2 [] 2 (v := .string { data := #[48] }) ?_ (he := by simp [*])
    intro a3 u3 e2
    exact wp_ret (hQ _ _ _ (u3.df.trans df) (by simp [results, Tryz.results6, go_sem, evT e2]) ⟨{ data := #[48] }, rfl, by decide, Ext.refl w⟩)
  · refine wp_cond_false (e8.trans (by simp [h])) (wp_skip ?_)
    refine wp_seq (rW ?_)
    refine lv ?_
    refine lE a2 [0] 3 (v := .string digs) ?_ (he := by simp [*])
    intro a3 u3 e3
    replace sz := u3.sz.trans sz
    replace df := u3.df.trans df
    replace e0 := u3.get 0 e0
    refine wp_seq (rW ?_)
    refine lv ?_
    refine lE a3 [0, 3] 4 (v := .string ⟨#[]⟩) ?_ (he := by simp [*])
    intro a4 u4 e4
    replace sz := u4.sz.trans sz
    replace df := u4.df.trans df
    replace e0 := u4.get 0 e0
    replace e3 := u4.get 3 e3
    refine wp_seq (wp_seq (rW ?_))
    iterate 2 refine lv ?_
    refine lE2 a4 [0, 3] 4 5 (v := .string ⟨#[]⟩) (v' := .int .i64 n) ?_ (he := by simp [*]) (he' := by simp [*])
    clear e4
    intro a5 u5 e4 e5
    replace sz := u5.sz.trans sz
    replace df := u5.df.trans df
    replace e0 := u5.get 0 e0
    replace e3 := u5.get 3 e3
    refine wp_block (wp_loop (fun a' V => ∃ (m : Int) (j : Nat) (t : ByteArray), Ag [0, 3] a5 a' ∧ Ev a' (.tmp 4) = .string t ∧ Ev a' (.tmp 5) = .int .i64 m ∧ m.natAbs < 2 ^ (64 - j) ∧ j ≤ 64 ∧ t.size = j ∧ I64 m ∧ V = w) (fun a' _ => (intOf (Ev a' (.tmp 5))).natAbs) ⟨n, 0, ⟨#[]⟩, .rf, e4, e5, by omega, by omega, rfl, ⟨hn1, hn2⟩, rfl⟩ ?_)
    clear e4 e5
    rintro a6 V ⟨m, j, t, u6, e4, e5, hm, hj, ht, ⟨hm1, hm2⟩, rfl⟩
    replace sz := u6.sz.trans sz
    replace df := u6.df.trans df
    replace e0 := u6.get 0 e0
    replace e3 := u6.get 3 e3
    have m5 := e5
    refine wp_seq (wp_seq (rW ?_))
    iterate 2 refine lv ?_
    refine lE a6 [0, 3, 4, 5] 11 (v := .bool (m != 0)) ?_ (he := by simp [*])
    intro a7 u7 e11
    replace sz := u7.sz.trans sz
    replace df := u7.df.trans df
    replace e0 := u7.get 0 e0
    replace e3 := u7.get 3 e3
    replace e4 := u7.get 4 e4
    replace e5 := u7.get 5 e5
    by_cases hm0 : m = 0
    · refine wp_cond_false (e11.trans (by simp [hm0])) (wp_exit ?_)
      refine wp_seq (wp_seq (rW ?_))
      iterate 2 refine lv ?_
      refine lE a7 [0, 4] 28 (v := .bool (decide (n < 0))) ?_ (he := by simp [*])
      intro a8 u8 e28
      replace sz := u8.sz.trans sz
      replace df := u8.df.trans df
      replace e4 := u8.get 4 e4
      by_cases hs : n < 0
      · refine wp_cond_true (e28.trans (by simp [hs])) (wp_seq (rW ?_))
        refine lv ?_
        refine lv (w1 := V) (v := .string ({ data := #[45] } ++ t)) ?_ (hrun := by simp [execOp, go_sem, *] <;> omega)
        refine lv ?_
        refine lE a8 [] 2 (v := .string ({ data := #[45] } ++ t)) ?_ (he := by simp [*])
        intro a9 u9 e2
        exact wp_ret (hQ _ _ _ (u9.df.trans df) (by simp [results, Tryz.results6, go_sem, evT e2]) ⟨{ data := #[45] } ++ t, rfl, by rw [ByteArray.size_append]; show 1 + t.size ≤ 65; omega, Ext.refl V⟩)
      · refine wp_cond_false (e28.trans (by simp [hs])) (wp_skip (wp_seq (rW ?_)))
        iterate 2 refine lv ?_
        refine lE a8 [] 2 (v := .string t) ?_ (he := by simp [*])
        intro a9 u9 e2
        exact wp_ret (hQ _ _ _ (u9.df.trans df) (by simp [results, Tryz.results6, go_sem, evT e2]) ⟨t, rfl, by omega, Ext.refl V⟩)
    · obtain ⟨hd, hj2⟩ := tdiv10 hm hm0
      refine wp_cond_true (e11.trans (by simp [hm0])) (wp_skip (wp_seq (wp_block (wp_seq (rW ?_)))))
      have hqn : (m.tdiv 10).natAbs = m.natAbs / 10 := Int.natAbs_tdiv m 10
      obtain ⟨r, hr⟩ : ∃ r, m.tmod 10 = r := ⟨_, rfl⟩
      have hr1 : -10 < r ∧ r < 10 := by have h1 := Int.lt_tmod_of_pos m (b := 10) (by omega); have h2 := Int.tmod_lt_of_pos m (b := 10) (by omega); omega
      refine lv ?_
      refine lv (w1 := V) (v := .int .i64 r) ?_ (hrun := by simp [execOp, go_sem, *])
      refine lv ?_
      refine lE a7 [0, 3, 4, 5] 6 (v := .int .i64 r) ?_ (he := by simp [*])
      intro a8 u8 e6
      replace sz := u8.sz.trans sz
      replace df := u8.df.trans df
      replace e0 := u8.get 0 e0
      replace e3 := u8.get 3 e3
      replace e4 := u8.get 4 e4
      replace e5 := u8.get 5 e5
      refine wp_seq (wp_seq (rW ?_))
      iterate 2 refine lv ?_
      refine lE a8 [0, 3, 4, 5, 6] 17 (v := .bool (decide (r < 0))) ?_ (he := by simp [*])
      intro a9 u9 e17
      replace sz := u9.sz.trans sz
      replace df := u9.df.trans df
      replace e0 := u9.get 0 e0
      replace e3 := u9.get 3 e3
      replace e4 := u9.get 4 e4
      replace e5 := u9.get 5 e5
      replace e6 := u9.get 6 e6
      have hk : ∀ (b : Act) (d : Int), Ag [0, 3, 4, 5] a9 b → Ev b (.tmp 6) = .int .i64 d → 0 ≤ d → d < 10 → ∀ Q2 : Exit → Act → World → Prop, (∀ b' : Act, Ag [0, 3] a9 b' → (∃ t' : ByteArray, Ev b' (.tmp 4) = .string t' ∧ t'.size = j + 1) → Ev b' (.tmp 5) = .int .i64 m → Q2 .normal b' V) → Code.wp Tryz.prog (RM6 11) Q2 b V := by
        intro b d ub e6 hd0 hd1 Q2 hQ2
        clear e17
        replace sz := ub.sz.trans sz
        replace e0 := ub.get 0 e0
        replace e3 := ub.get 3 e3
        replace e4 := ub.get 4 e4
        replace e5 := ub.get 5 e5
        have hdz : digs.size = 10 := rfl
        refine rW ?_
        iterate 3 refine lv ?_
        have hw1 : IntKind.i64.wrap (d + 1) = d + 1 := wrI (by omega) (by omega)
        refine lv ?_
        have hsl : (digs.extract d.toNat (d + 1).toNat).size = 1 := by rw [ByteArray.size_extract]; omega
        refine lv (w1 := V) (v := .string (digs.extract d.toNat (d + 1).toNat)) ?_ (hrun := by simp [execOp, go_sem, *]; rw [if_pos ⟨by omega, by omega⟩, if_pos (by omega)])
        refine lv ?_
        generalize digs.extract d.toNat (d + 1).toNat = sl at *
        refine lv (w1 := V) (v := .string (sl ++ t)) ?_ (hrun := by simp [execOp, go_sem, *] <;> omega)
        refine lv ?_
        refine lE b [0, 3, 5] 4 (v := .string (sl ++ t)) ?_ (he := by simp [*])
        intro b2 u e4'
        exact hQ2 b2 ((ub.mono rfl).trans (u.mono rfl)) ⟨_, e4', by rw [ByteArray.size_append]; omega⟩ (u.get 5 e5)
      have hk2 : ∀ b : Act, Ag [0, 3] a9 b → (∃ t' : ByteArray, Ev b (.tmp 4) = .string t' ∧ t'.size = j + 1) → Ev b (.tmp 5) = .int .i64 m → ∀ Q2 : Exit → Act → World → Prop, (∀ b' : Act, Ag [0, 3] a9 b' → (∃ t' : ByteArray, Ev b' (.tmp 4) = .string t' ∧ t'.size = j + 1) → Ev b' (.tmp 5) = .int .i64 (m.tdiv 10) → Q2 .normal b' V) → Code.wp Tryz.prog (RM6 7) Q2 b V := by
        intro b ub ⟨t', e4, hts⟩ e5 Q2 hQ2
        have hw2 : IntKind.i64.wrap (m.tdiv 10) = m.tdiv 10 := wrI (by omega) (by omega)
        replace sz := ub.sz.trans sz
        clear e0 e3
        refine rW ?_
        refine lv ?_
        refine lv (w1 := V) (v := .int .i64 (m.tdiv 10)) ?_ (hrun := by simp [execOp, go_sem, *])
        refine lv ?_
        refine lE2 b [0, 3] 4 5 (v := .string t') (v' := .int .i64 (m.tdiv 10)) ?_ (he := by simp [*]) (he' := by simp [*])
        intro b2 u e4' e5'
        exact hQ2 b2 (ub.trans u) ⟨_, e4', hts⟩ e5'
      have hfin : ∀ b' : Act, Ag [0, 3] a9 b' → (∃ t' : ByteArray, Ev b' (.tmp 4) = .string t' ∧ t'.size = j + 1) → Ev b' (.tmp 5) = .int .i64 (m.tdiv 10) → (∃ (m : Int) (j : Nat) (t : ByteArray), Ag [0, 3] a5 b' ∧ Ev b' (.tmp 4) = .string t ∧ Ev b' (.tmp 5) = .int .i64 m ∧ m.natAbs < 2 ^ (64 - j) ∧ j ≤ 64 ∧ t.size = j ∧ I64 m ∧ V = V) ∧ (intOf (Ev b' (.tmp 5))).natAbs < (intOf (Ev a6 (.tmp 5))).natAbs := by
        intro b' ub ⟨t', e4, hts⟩ e5'
        refine ⟨⟨m.tdiv 10, j + 1, t', (((u6.trans (u7.mono rfl)).trans (u8.mono rfl)).trans (u9.mono rfl)).trans ub, e4, e5', hd, hj2, hts, by unfold I64; omega, rfl⟩, ?_⟩
        rw [e5', m5]
        simp only [intOf]
        omega
      by_cases hneg : r < 0
      · refine wp_cond_true (e17.trans (by simp [hneg])) (rW ?_)
        have hwn : IntKind.i64.wrap (-r) = -r := wrI (by omega) (by omega)
        refine lv ?_
        refine lv (w1 := V) (v := .int .i64 (-r)) ?_ (hrun := by simp [execOp, go_sem, *])
        refine lv ?_
        refine lE a9 [0, 3, 4, 5] 6 (v := .int .i64 (-r)) ?_ (he := by simp [*])
        clear e6
        intro a10 u10 e6
        refine hk a10 (-r) u10 e6 (by omega) (by omega) _ (fun b ub hb e5 => ?_)
        exact hk2 b ub hb e5 _ hfin
      · refine wp_cond_false (e17.trans (by simp [hneg])) (wp_skip ?_)
        refine hk a9 r .rf e6 (by omega) (by omega) _ (fun b ub hb e5 => ?_)
        exact hk2 b ub hb e5 _ hfin
end Go.Proofs.YtfcplpeimcjhaaaGreatDoor
