/- ExhaustBytes: for every input the law returns true, and each argument reads behind the call as it read before. Conditions: those that the row prints. -/
import Derived.Test.YtfcplpeimcjhaaaGreatDoorLP
import Derived.Test.YtfcplpeimcjhaaaGreatDoorMN
import Derived.Test.YtfcplpeimcjhaaaGreatDoorRows
import Derived.WalkKit
import Derived.ProofKit
import Derived.OpenShut
import Derived.SizedLaws
import Derived.Lay
import Derived.LaidMore
import Derived.ChangeMaps5
import Derived.Stop.Joined
namespace Go.Proofs.YtfcplpeimcjhaaaGreatDoor
open Go.ChangeMaps Go.ChangeShapes Go.WideShapes Go.ChangeAt Go.RowKit
theorem Tryz.own : ownKnob Tryz.prog.godebug = none := by kernel_rfl
theorem Tryz.laidOut : laidOutB Tryz.prog = true := by kernel_rfl
theorem Tryz.cells3 : Tryz.prog.cellsOf 3 = 1 := by kernel_rfl
theorem Tryz.bytes3 : Tryz.prog.bytesOf 3 = 8 := by kernel_rfl
theorem und23 : Tryz.prog.underlying 23 = some (.slice 5) := by kernel_rfl
theorem und9 : Tryz.prog.underlying 9 = some .string := by kernel_rfl
theorem und5 : Tryz.prog.underlying 5 = some (.int .u8) := by kernel_rfl
theorem cells5 : Tryz.prog.cellsOf 5 = 1 := by kernel_rfl
theorem bytes5 : Tryz.prog.bytesOf 5 = 1 := by kernel_rfl
theorem I64_of_wf {n : Int} (h : (Lit.int .i64 n).wf = true) : I64 n := by
  have h1 : IntKind.i64.min = -9223372036854775808 := rfl
  have h2 : IntKind.i64.max = 9223372036854775807 := rfl
  simp only [Lit.wf, Bool.and_eq_true, decide_eq_true_eq] at h
  unfold I64
  omega
theorem U8_of_wf {n : Int} (h : (Lit.int .u8 n).wf = true) : 0 ≤ n ∧ n < 256 := by
  have h1 : IntKind.u8.min = 0 := rfl
  have h2 : IntKind.u8.max = 255 := rfl
  simp only [Lit.wf, Bool.and_eq_true, decide_eq_true_eq] at h
  omega
set_option maxRecDepth 100000 in
/-- an argument that is a slice of ints -/
theorem arg_ints {H : Type} {enc : TypeId × Value → H} {W : World} {base : Nat} {v : Value} {d : DataW H} {p : List MemPlace} (hok : Value.okWide Tryz.prog W .any base 22 v) (h : DataW.Trod enc Tryz.prog W 0 (fun _ => true) true 22 v d p) (hlt : ∀ x ∈ p, x.block < W.heap.size)
    (hw : ∀ elems spare, d = .slice elems spare → (elems.length + spare.length) * 8 ≤ reachBytes) : ∃ l, Ints W (fun b => b < W.heap.size) v l := by
  obtain ⟨a0, len, cap, rfl⟩ := okWide_slice Tryz.underlying22 hok
  obtain ⟨fuel, hf⟩ := h
  rcases open_ints Tryz.underlying22 Tryz.underlying3 Tryz.cells3 hf with ⟨hcs, hx⟩ | ⟨a, len', cap', zs, hcs, _, hl, hm, hz, hx, hcell, hwz⟩
  · simp [Value.cells] at hcs
    obtain ⟨rfl, rfl, rfl⟩ := hcs
    exact ⟨[], none, 0, rfl, Nat.le_refl _, ⟨by simp, by omega⟩, by simp, ⟨rfl, fun h => absurd h (by simp)⟩⟩
  · simp [Value.cells] at hcs
    obtain ⟨rfl, rfl, rfl⟩ := hcs
    simp only [Prod.mk.injEq] at hx
    obtain ⟨rfl, rfl⟩ := hx
    simp only [if_true] at hz
    have hreach : cap * 8 ≤ 140737488351232 := by
      have := hw _ _ rfl
      simp only [lits, List.length_map, List.length_take, List.length_drop, reachBytes] at this
      omega
    have hlen : (zs.take len).length = len := by rw [List.length_take]; omega
    refine ⟨zs.take len, some a, cap, by rw [hlen], by rw [hlen]; exact hl, ⟨by rw [hlen]; omega, by omega⟩, fun x hx => I64_of_wf (hwz x (List.mem_of_mem_take hx)), by simp, ?_⟩
    intro hpos
    rw [hlen] at hpos
    obtain ⟨b, off, spot⟩ := a
    have hspot : spot = none := by simpa [Addr.add] using World.cell?_spot (hcell 0 (by omega))
    subst hspot
    refine ⟨b, off, rfl, hlt (.cell b off) (MemPlace.mem_row.2 ⟨0, by omega, by simp⟩), ?_⟩
    intro j u hu
    have hj : j < len := by
      have := (List.getElem?_eq_some_iff.1 hu).1
      rw [List.length_map, hlen] at this
      exact this
    have hc := hcell j (by omega)
    rw [add_plain] at hc
    rw [hc]
    rw [List.getElem?_map, List.getElem?_take_of_lt hj] at hu
    have hjz : j < zs.length := by omega
    simp only [List.getElem?_eq_getElem hjz, Option.map_some, Option.some.injEq] at hu
    rw [← hu]
    simp [List.getD, hjz]
set_option maxRecDepth 100000 in
/-- an argument that is a slice of bytes -/
theorem arg_bytes {H : Type} {enc : TypeId × Value → H} {W : World} {base : Nat} {v : Value} {d : DataW H} {p : List MemPlace} (hok : Value.okWide Tryz.prog W .any base 23 v) (h : DataW.Trod enc Tryz.prog W 0 (fun _ => true) true 23 v d p) (hlt : ∀ x ∈ p, x.block < W.heap.size)
    (hw : ∀ elems spare, d = .slice elems spare → elems.length + spare.length ≤ reachBytes) : ∃ l A c, v = .slice A l.length c ∧ (l.length ≤ 1000000000000000 ∧ l.length ≤ c ∧ c ≤ 9223372036854775807) ∧ Byt l ∧ Sl W (fun b => b < W.heap.size) 1 A l.length (l.map (Value.int .u8)) := by
  obtain ⟨a0, len, cap, rfl⟩ := okWide_slice und23 hok
  obtain ⟨fuel, hf⟩ := h
  rcases open_ints und23 und5 cells5 hf with ⟨hcs, hx⟩ | ⟨a, len', cap', zs, hcs, _, hl, hm, hz, hx, hcell, hwz⟩
  · simp [Value.cells] at hcs
    obtain ⟨rfl, rfl, rfl⟩ := hcs
    exact ⟨[], none, 0, rfl, ⟨by simp, by simp, by simp⟩, fun _ h => (List.not_mem_nil h).elim, rfl, fun h => absurd h (by simp)⟩
  · simp [Value.cells] at hcs
    obtain ⟨rfl, rfl, rfl⟩ := hcs
    simp only [Prod.mk.injEq] at hx
    obtain ⟨rfl, rfl⟩ := hx
    simp only [if_true] at hz
    have hreach : cap ≤ 140737488351232 := by
      have := hw _ _ rfl
      simp only [lits, List.length_map, List.length_take, List.length_drop, reachBytes] at this
      omega
    have hlen : (zs.take len).length = len := by rw [List.length_take]; omega
    refine ⟨zs.take len, some a, cap, by rw [hlen], by rw [hlen]; exact ⟨by omega, hl, by omega⟩, fun x hx => U8_of_wf (hwz x (List.mem_of_mem_take hx)), by simp, ?_⟩
    intro hpos
    rw [hlen] at hpos
    obtain ⟨b, off, spot⟩ := a
    have hspot : spot = none := by simpa [Addr.add] using World.cell?_spot (hcell 0 (by omega))
    subst hspot
    refine ⟨b, off, rfl, hlt (.cell b off) (MemPlace.mem_row.2 ⟨0, by omega, by simp⟩), ?_⟩
    intro j u hu
    have hj : j < len := by
      have := (List.getElem?_eq_some_iff.1 hu).1
      rw [List.length_map, hlen] at this
      exact this
    have hc := hcell j (by omega)
    rw [add_plain] at hc
    rw [hc]
    rw [List.getElem?_map, List.getElem?_take_of_lt hj] at hu
    have hjz : j < zs.length := by omega
    simp only [List.getElem?_eq_getElem hjz, Option.map_some, Option.some.injEq] at hu
    rw [← hu]
    simp [List.getD, hjz]
/-! ### what the row says of the tables -/
theorem laid_get {P : Program} {w : World} {n : String} {d : DataW Unit} : ∀ {l : List (String × DataW Unit)} {ps : List MemPlace}, DataW.LaidVars P w l ps → (n, d) ∈ l →
    ∃ g t cs fuel p, P.globalNamed n = some g ∧ (P.globals[g]?).map (·.type) = some t ∧ w.var? P n = some cs ∧ DataW.trod (fun _ => ()) P w 0 (fun _ => true) false fuel t cs.toList = some (d, p) ∧ ∀ x ∈ MemPlace.row ⟨g, 0, none⟩ cs.size, x ∈ ps
  | [], _, _, h => by cases h
  | (m, e) :: l, _, hL, h => by
    obtain ⟨g, t, cs, fuel, p, q, h1, h2, h3, h4, h5, rfl⟩ := hL
    rcases List.mem_cons.1 h with h6 | h6
    · cases h6
      exact ⟨g, t, cs, fuel, p, h1, h2, h3, h4, fun x hx => List.mem_append.2 (.inl (List.mem_append.2 (.inl hx)))⟩
    · obtain ⟨g', t', cs', fuel', p', k1, k2, k3, k4, k5⟩ := laid_get h5 h6
      exact ⟨g', t', cs', fuel', p', k1, k2, k3, k4, fun x hx => List.mem_append.2 (.inr (k5 x hx))⟩
theorem str_data (s : ByteArray) : Value.string s = str s.data.toList := by
  cases s; rfl
theorem strs_of_trod {H : Type} {enc : TypeId × Value → H} {P : Program} {w : World} {base : Nat} {sp : Nat → Bool} {held : Bool} {fuel n : Nat} {t e : TypeId} {cs : List Value} {p : List MemPlace} {D : List (List UInt8)} (ht : P.underlying t = some (.array n e)) (he : P.underlying e = some .string) (hc : P.cellsOf e = 1) (hn : P.cellsOf t = n)
    (h : DataW.trod enc P w base sp held fuel t cs = some (.agg (D.map fun b => .lit (.string b)), p)) : cs = D.map str := by
  obtain ⟨xs, m, rfl, hx, hlen, hxl, hel⟩ := DataW.trod_array ht h
  simp only [Prod.mk.injEq, DataW.agg.injEq] at hx
  obtain ⟨hx, -⟩ := hx
  rw [hn] at hlen
  have hD : D.length = n := by
    have := congrArg List.length hx
    simpa [hxl] using this
  apply List.ext_getElem?
  intro i
  by_cases hi : i < n
  · have h1 := hel i hi
    rw [hc, Nat.mul_one] at h1
    obtain ⟨x, hxi⟩ : ∃ x, xs[i]? = some x := ⟨_, List.getElem?_eq_getElem (by omega)⟩
    rw [hxi] at h1
    obtain ⟨s, e1, e2, _⟩ := DataW.trod_string he h1
    have e3 : cs[i]? = some (.string s) := by
      have e4 : ((cs.drop i).take 1)[0]? = some (Value.string s) := by rw [e1]; rfl
      simpa using e4
    have e4 : (D.map fun b => (DataW.lit (.string b) : DataW H))[i]? = some x.1 := by rw [hx, List.getElem?_map, hxi]; rfl
    rw [e2, List.getElem?_map] at e4
    rw [e3, List.getElem?_map]
    cases hd : D[i]? with
    | none => rw [hd] at e4; cases e4
    | some b =>
      rw [hd] at e4
      simp only [Option.map_some, Option.some.injEq, DataW.lit.injEq, Lit.string.injEq] at e4
      rw [e4, str_data]; rfl
  · rw [List.getElem?_eq_none (by omega), List.getElem?_eq_none (by simp; omega)]
theorem row_mem (g n : Nat) (hn : 0 < n) : MemPlace.cell g 0 ∈ MemPlace.row ⟨g, 0, none⟩ n := MemPlace.mem_row.2 ⟨0, hn, by simp⟩
theorem table_at {P : Program} {w : World} {n : String} {d : DataW Unit} {l : List (String × DataW Unit)} {ps : List MemPlace} {D : List (List UInt8)} {g : Nat} {t e : TypeId} (hL : DataW.LaidVars P w l ps) (hm : (n, d) ∈ l)
    (hz : ∀ b off, MemPlace.cell b off ∈ ps → ∃ c t, w.heap[b]? = some (.cells c t (0, 0))) (hd : d = .agg (D.map fun b => .lit (.string b))) (hg : P.globalNamed n = some g) (ht : (P.globals[g]?).map (·.type) = some t) (hu : P.underlying t = some (.array D.length e)) (he : P.underlying e = some .string) (hc : P.cellsOf e = 1) (hn : P.cellsOf t = D.length) (h0 : 0 < D.length) :
    ∃ t, w.heap[g]? = some (.cells (D.map str).toArray t (0, 0)) := by
  obtain ⟨g', t', cs, fuel, p, h1, h2, h3, h4, h5⟩ := laid_get hL hm
  rw [hg] at h1; cases h1
  rw [ht] at h2; cases h2
  subst hd
  have h6 := strs_of_trod hu he hc hn h4
  have h7 : cs.size = D.length := by
    have := congrArg List.length h6
    simpa using this
  obtain ⟨c, t2, h8⟩ := hz g 0 (h5 _ (row_mem g cs.size (by omega)))
  refine ⟨t2, ?_⟩
  simp only [World.var?, hg, Option.bind_some, h8, Option.some.injEq] at h3
  subst h3
  rw [h8, ← h6]
theorem tabs_of_laid {w : World} (h : laidMetH Tryz.prog Rows.exhaustBytesRow.laid w) : Tabs w := by
  rw [MakeChecks.laidMetH_plain _ _ _ (by kernel_rfl)] at h
  obtain ⟨ps, hL, _, hz⟩ := h
  have hz' : ∀ b off, MemPlace.cell b off ∈ ps → ∃ c t, w.heap[b]? = some (.cells c t (0, 0)) := fun b off hb => (hz b off hb).1
  refine ⟨?_, ?_⟩
  · exact table_at (D := D0) (n := "refuter/parser.reserved") (t := 431) (e := 9) hL (by simp [Rows.exhaustBytesRow]; rfl) hz' rfl (by kernel_rfl) (by kernel_rfl) (by kernel_rfl) (by kernel_rfl) (by kernel_rfl) (by kernel_rfl) (by decide)
  · exact table_at (D := D1) (n := "refuter/lexer.symbols") (t := 493) (e := 9) hL (by simp [Rows.exhaustBytesRow]; rfl) hz' rfl (by kernel_rfl) (by kernel_rfl) (by kernel_rfl) (by kernel_rfl) (by kernel_rfl) (by kernel_rfl) (by decide)
/-! ### a start that meets the row -/
theorem wit_met (os : Os) (args : Array Value) : laidMetH Tryz.prog Rows.exhaustBytesRow.laid (((World.laidAll Tryz.prog os Rows.exhaustBytesRow.laid).forCall (fun _ _ => 0) ⟨#[], args, []⟩).memory) := by
  rw [MakeChecks.laidMetH_plain _ _ _ (by kernel_rfl)]
  exact laidMet_laidAll _ (by kernel_rfl) (by kernel_rfl)
theorem wit_shape (os : Os) (args : Array Value) : ((World.laidAll Tryz.prog os Rows.exhaustBytesRow.laid).forCall (fun _ _ => 0) ⟨#[], args, []⟩).Shaped Tryz.prog := World.shaped_of_ZipB (by kernel_rfl) (by kernel_rfl)
set_option maxRecDepth 100000 in
theorem exhaustBytes_lifted (os : Os) (started : os.Started) (H : Type) (enc : TypeId × Value → H) :
    ReturnsInHanded {} Tryz.checked os 3 .any (fun w args => (Rows.exhaustBytesSpec.pre enc Tryz.prog Tryz.f3 Rows.exhaustBytesRow.domain false w args ∧ laidMetH Tryz.prog Rows.exhaustBytesRow.laid w) ∧ sizedMet enc Tryz.prog Tryz.f3 (OpenSpec.ofChange Rows.exhaustBytesSpec) false w args)
      (Rows.exhaustBytesSpec.post enc Tryz.prog Tryz.f3 false true false false) := by
  refine returnsInHanded_of_change_and (C := Tryz.checked) (X := fun w _ => laidMetH Tryz.prog Rows.exhaustBytesRow.laid w) (fun _ _ _ hh h => h.of_heap hh) Tryz.own started (by kernel_rfl) Tryz.func3
    (ChangeSpec.witness_shaped (enc := enc) (C := Tryz.checked) (os := os) (X := fun w _ => laidMetH Tryz.prog Rows.exhaustBytesRow.laid w) false (World.laidAll Tryz.prog os Rows.exhaustBytesRow.laid) #[.slice none 0 0, .string ⟨#[]⟩, .slice none 0 0, .int .i64 0, .int .u8 0] 8 (World.laidAll_os _ _ _)
      (wit_shape os _) (by kernel_rfl) (by kernel_rfl) (by kernel_rfl) (wit_met os _)) ?_
  intro W base args ds gs before hval0 hW _ hsz0 hL _
  have hsz : (DataW.weightsEach Tryz.prog (Tryz.f3.params.toList ++ Rows.exhaustBytesSpec.plain.varTypes Tryz.prog) (ds ++ gs)).all (· ≤ reachBytes) = true := hsz0
  clear hsz0
  have hval : ∀ (j : Nat) t v, Tryz.f3.params[j]? = some t → args[j]? = some v → Value.okWide Tryz.prog W .any base t v := hval0
  have hW' := hW
  obtain ⟨p, q, hA0, hV, rfl, _, _⟩ := hW
  have hA : DataW.TrodAll enc Tryz.prog W 0 (fun _ => true) true Tryz.f3.params.toList args.toList ds p := hA0
  rw [Tryz.params3] at hA hval hsz
  obtain ⟨v0, vs0, d0, ds0, p0, q0, hargs0, rfl, rfl, h0, r0⟩ := trodAll_cons hA
  obtain ⟨v1, vs1, d1, ds1, p1, q1, rfl, rfl, rfl, h1, r1⟩ := trodAll_cons r0
  obtain ⟨v2, vs2, d2, ds2, p2, q2, rfl, rfl, rfl, h2, r2⟩ := trodAll_cons r1
  obtain ⟨v3, vs3, d3, ds3, p3, q3, rfl, rfl, rfl, h3, r3⟩ := trodAll_cons r2
  obtain ⟨v4, vs4, d4, ds4, p4, q4, rfl, rfl, rfl, h4, r4⟩ := trodAll_cons r3
  obtain ⟨rfl, rfl, rfl⟩ := trodAll_nil r4
  obtain rfl : args = #[v0, v1, v2, v3, v4] := by cases args; simp_all
  obtain ⟨rfl, rfl⟩ := trodVars_none hV
  obtain ⟨a1, rfl, rfl, rfl, w1⟩ := open_string und9 (hval 1 9 v1 rfl rfl) h1
  obtain ⟨a3, rfl, rfl, rfl, w3⟩ := open_int Tryz.underlying3 (hval 3 3 v3 rfl rfl) h3
  obtain ⟨a4, rfl, rfl, rfl, w4⟩ := open_int und5 (hval 4 5 v4 rfl rfl) h4
  have hlt : ∀ x ∈ p0 ++ ([] ++ (p2 ++ ([] ++ ([] ++ [])))) ++ [], x.block < W.heap.size := fun x hx => by simpa using hW'.lt x hx
  have hlt0 : ∀ x ∈ p0, x.block < W.heap.size := fun x hx => hlt x (by simp [hx])
  have hlt2 : ∀ x ∈ p2, x.block < W.heap.size := fun x hx => hlt x (by simp [hx])
  obtain ⟨l, hl⟩ := arg_ints (hval 0 22 v0 rfl rfl) h0 hlt0 (fun elems spare he => by
    have := sized_slice hsz (j := 0) (t := 22) (e := 3) (elems := elems) (spare := spare) rfl (by simp [he]) Tryz.underlying22
    rw [Tryz.bytes3] at this
    exact this)
  obtain ⟨raw, A0, c0, rfl, hr, hbr, hs⟩ := arg_bytes (hval 2 23 v2 rfl rfl) h2 hlt2 (fun elems spare he => by
    have := sized_slice hsz (j := 2) (t := 23) (e := 5) (elems := elems) (spare := spare) rfl (by simp [he]) und23
    rw [bytes5] at this
    omega)
  have hT := tabs_of_laid hL
  refine (exhaust3 l raw a1 a3 a4 W hl (I64_of_wf w3) (U8_of_wf w4) hr hbr hs (fun V hV => lives_ext (hT.ext hV))).mono ?_
  rintro e W' ⟨rfl, hx⟩
  have k0 := Below.trod Tryz.laidOut (by kernel_rfl) (of_decide_eq_true (by kernel_rfl)) h0 hx hlt0
  have k2 := Below.trod Tryz.laidOut (by kernel_rfl) (of_decide_eq_true (by kernel_rfl)) h2 hx hlt2
  exact ⟨_, rfl, _, _, _, [], _, [], hW', trodAll_cons_mk (shut_bool Tryz.underlying4 _) trodAll_mk0, trodAll_cons_mk k0 (trodAll_cons_mk (shut_string und9 w1) (trodAll_cons_mk k2 (trodAll_cons_mk (shut_int Tryz.underlying3 w3) (trodAll_cons_mk (shut_int und5 w4) trodAll_mk0)))), rfl, hx.frame _, fun h => by cases h⟩
end Go.Proofs.YtfcplpeimcjhaaaGreatDoor
