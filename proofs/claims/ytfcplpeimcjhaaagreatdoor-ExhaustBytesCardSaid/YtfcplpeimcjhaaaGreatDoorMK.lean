/- The law's certificate: what its loop appends (regions 6, 7). Conditions: none. Guarded steps of a drawn region; regions 15 and 24 of the law. Conditions: none. Region 19 of the law (the three byte strings), the second loop's body. Conditions: none. -/
import Derived.Test.YtfcplpeimcjhaaaGreatDoorMH
namespace Go.Proofs.YtfcplpeimcjhaaaGreatDoor
open Go.RowKit
noncomputable def RM3 := RG Tryz.f3
theorem cell_fr2 {w w' : World} {M : Nat → Prop} (hf : Fr M w w') {b off : Nat} {u : Value} (hb : ¬ M b) (h : w.cell? ⟨b, off, none⟩ = some u) : w'.cell? ⟨b, off, none⟩ = some u := by
  rw [← h]; exact World.cell?_of_block (w := w) (hf.block b (lt_of_cell h) hb)
theorem own_ge {w : World} {base : Nat} {e : TypeId} {size : Nat} {v : Value} {n : Nat} {xs : List Value} (h : w.ownsRow base e size v n xs) {b : Nat} (hb : v.ownBlock = some b) : base ≤ b := by
  rcases h.2 with ⟨h1, _⟩ | ⟨g, cap, cur, h1, h2, _⟩
  · rw [h1] at hb; cases hb
  · rw [h1] at hb; cases hb; exact h2
/-- the certificate while it is made: its lists are owned -/
structure CBd (g base : Nat) (c : GC) (pv qv : Value) (w : World) : Prop where
  box : Blk w g 29 #[.string c.prop, .int .i64 c.size, pv, qv]
  pr : w.ownsRow base 9 1 pv c.paths.length (c.paths.map Value.string)
  qr : w.ownsRow base 31 1 qv c.sums.length (c.sums.map fun n : Nat => Value.int .u64 (n : Int))
  two : ∀ b, pv.ownBlock = some b → qv.ownBlock ≠ some b
  gb : g < base
  sz : base ≤ w.heap.size
theorem CBd.ext {g base : Nat} {c : GC} {pv qv : Value} {w w' : World} (h : CBd g base c pv qv w) (hx : Ext w w') : CBd g base c pv qv w' := ⟨h.box.ext hx, h.pr.ext_ hx, h.qr.ext_ hx, h.two, h.gb, Nat.le_trans h.sz hx.size⟩
section
variable {Q : Exit → Act → World → Prop} {a : Act} {w : World} {c : GC} {g base : Nat} {pv qv : Value} {b off n k i : Nat} {x : Int}
set_option maxHeartbeats 8000000 in
theorem reg6 (sz : a.tmps.size = Tryz.f3.ntmps) (e0 : Ev a (.tmp 0) = .slice (some ⟨b, off, none⟩) n k) (e12 : Ev a (.tmp 12) = .int .i64 (i : Int)) (e11 : Ev a (.tmp 11) = .pointer (some ⟨g, 0, none⟩)) (hi : i < n) (hc : w.cell? ⟨b, off + i, none⟩ = some (.int .i64 x)) (hx : I64 x) (hb : b < base) (h : CBd g base c pv qv w) (hp : c.paths.length ≤ 1000)
    (hK : ∀ a' w' t pv', Ag [0, 1, 2, 3, 4, 11, 12] a a' → ByteArray.size t ≤ 65 → CBd g base { c with paths := c.paths ++ [t] } pv' qv w' → Fr (fun q => q = g ∨ base ≤ q) w w' → Q .normal a' w') : Code.wp Tryz.prog (RM3 6) Q a w := by
  obtain ⟨hx1, hx2⟩ := hx
  have hx0 : Ext w w.drew := (Ext.refl w).drew'
  have h0 := h.ext hx0
  have hqn : (x.tdiv 2).natAbs = x.natAbs / 2 := Int.natAbs_tdiv x 2
  have hq : IntKind.i64.wrap (x.tdiv 2) = x.tdiv 2 := wrI (by omega) (by omega)
  have hq2 : I64 (x.tdiv 2) := ⟨by omega, by omega⟩
  obtain ⟨Ap, cp, rfl, -, -, -⟩ := Sl.of_own h.pr
  have c2 := h.box.cell' (u := .slice Ap c.paths.length cp) 2 rfl
  have hss := h.sz
  have hgb := h.gb
  refine rD (fun V => V.cell? ⟨g, 2, none⟩ = some (.slice Ap c.paths.length cp) ∧ V.cell? ⟨b, off + i, none⟩ = some (.int .i64 x)) (fun j => decide (j ≤ 9)) 12 ?_
  have HH := Lib.hid h
  have HH0 := Lib.hid h0
  clear h h0
  generalize w.drew = V0 at *
  have hS0 : V0.cell? ⟨g, 2, none⟩ = some (.slice Ap c.paths.length cp) ∧ V0.cell? ⟨b, off + i, none⟩ = some (.int .i64 x) := ⟨cell_ext hx0 c2, cell_ext hx0 hc⟩
  clear c2 hc
  refine dt 5 [0, 1, 2, 3, 4, 5, 6] (hS := hS0) ?_
  iterate 7 refine tv ?_
  refine t_e ?_
  refine dc 7 Tryz.func6 (decimal6 (x.tdiv 2) hq2 V0) ?_
  rintro e V1 ⟨t, rfl, ht, hx1'⟩
  refine ⟨_, rfl, fun _ => ⟨cell_ext hx1' hS0.1, cell_ext hx1' hS0.2⟩, ?_⟩
  have hxa := (Ext.refl V1).alloc' (.cells #[.string t] 9)
  refine dv 8 (w1 := V1.alloc (.cells #[.string t] 9)) (v := .slice (some ⟨V1.heap.size, 0, none⟩) 1 1) ?_ (hS := fun _ => ⟨cell_ext (hx1'.trans' hxa) hS0.1, cell_ext (hx1'.trans' hxa) hS0.2⟩) (hrun := by simp [execOp, go_sem, *]; try rfl)
  have h2 := HH0.out.ext (hx1'.trans' hxa)
  have hsl := Sl.new V1 [.string t] 9 1 1 rfl
  have hx2' := hx0.trans' (hx1'.trans' hxa)
  have H2 := Lib.hid h2
  have HS := Lib.hid (And.intro (cell_ext (hx1'.trans' hxa) hS0.1) (cell_ext (hx1'.trans' hxa) hS0.2))
  generalize V1.alloc (.cells #[.string t] 9) = V2 at *
  clear hS0
  refine da 9 (v := .slice Ap c.paths.length cp) (m := 1) (c := 1) Tryz.underlying26 (show (Tryz.prog.info? 9).map (fun i => (i.zero, i.size, i.bytes)) = some (some (.string ⟨#[]⟩), 1, 16) by kernel_rfl) h2.pr (T := fun _ => True) hsl (by omega) (by omega) h2.sz (by simp [Value.oneCell']) ?_
  intro v5 w5 ho5 hf5 hb5
  refine ⟨fun _ => ?_, ?_⟩
  · have hge : ∀ q, some q = (Value.slice Ap c.paths.length cp).ownBlock → base ≤ q := fun q hq => own_ge h2.pr hq.symm
    exact ⟨cell_fr2 hf5 (fun hq => by have := hge _ hq; omega) HS.out.1, cell_fr2 hf5 (fun hq => by have := hge _ hq; omega) HS.out.2⟩
  clear h2
  have h2 := H2.out
  have hge : ∀ q, some q = (Value.slice Ap c.paths.length cp).ownBlock → base ≤ q := fun q hq => own_ge h2.pr hq.symm
  have B5 := h2.box.fr hf5 (fun hq => by have := hge _ hq; omega)
  have b2 := B5.cell' (u := .slice Ap c.paths.length cp) 2 rfl
  have bf := B5.frozen 2
  obtain ⟨A5, c5, rfl, -, -, -⟩ := Sl.of_own ho5
  clear h2
  refine dv 10 ?_ (hS := fun h => absurd h (by decide))
  refine dq 11 (w1 := w5.setCell ⟨g, 2, none⟩ (.slice A5 (c.paths.length + 1) c5)) ?_ (hS := fun h => absurd h (by decide)) (hrun := by simp [execOp, go_sem, *]; try rfl)
  refine d_E a [0, 1, 2, 3, 4, 11, 12] ?_
  intro a6 u6
  have h2 := H2.out
  have hs5 := hf5.size
  have hf6 : Fr (fun q => q = g) w5 (w5.setCell ⟨g, 2, none⟩ (.slice A5 (c.paths.length + 1) c5)) := (Fr.refl (fun q => q = g) w5).setCell (p := ⟨g, 2, none⟩) (.inl rfl) _
  have hs6 := hf6.size
  have h2s := h2.sz
  refine hK a6 _ t (.slice A5 (c.paths.length + 1) c5) u6 ht ⟨by simpa using B5.set_ 2 (.slice A5 (c.paths.length + 1) c5), ?_, own_fr (own_fr h2.qr hf5 (fun q hq e => h2.two q e.symm hq)) hf6 (fun q hq e => by have := own_ge h2.qr hq; omega), fun q hq e => ?_, hgb, by omega⟩ ?_
  · have := own_fr ho5 hf6 (fun q hq e => by have := own_ge ho5 hq; omega)
    simpa using this
  · have hlt := h2.qr.block_lt e
    rcases hb5 with e5 | e5
    · exact h2.two q (e5.symm.trans hq) e
    · rw [e5] at hq; cases hq; omega
  · exact ((Fr.of_ext hx2').trans (hf5.mono fun q hq => .inr (hge q hq))).trans (hf6.mono fun q hq => .inl hq)
set_option maxHeartbeats 8000000 in
theorem reg7 (sz : a.tmps.size = Tryz.f3.ntmps) (e0 : Ev a (.tmp 0) = .slice (some ⟨b, off, none⟩) n k) (e12 : Ev a (.tmp 12) = .int .i64 (i : Int)) (e11 : Ev a (.tmp 11) = .pointer (some ⟨g, 0, none⟩)) (hi : i < n) (hc : w.cell? ⟨b, off + i, none⟩ = some (.int .i64 x)) (hx : I64 x) (hb : b < base) (h : CBd g base c pv qv w) (hp : c.sums.length ≤ 1000)
    (hK : ∀ a' w' t qv', Ag [0, 1, 2, 3, 4, 11, 12] a a' → t < 18446744073709551616 → CBd g base { c with sums := c.sums ++ [t] } pv qv' w' → Fr (fun q => q = g ∨ base ≤ q) w w' → Q .normal a' w') : Code.wp Tryz.prog (RM3 7) Q a w := by
  obtain ⟨hx1, hx2⟩ := hx
  have hx0 : Ext w w.drew := (Ext.refl w).drew'
  have h0 := h.ext hx0
  obtain ⟨t, ht, htl⟩ : ∃ t : Nat, IntKind.u64.wrap x = (t : Int) ∧ t < 18446744073709551616 := by
    have h1 : IntKind.u64.wrap x = x % 18446744073709551616 := rfl
    refine ⟨(x % 18446744073709551616).toNat, by omega, by omega⟩
  obtain ⟨Ap, cp, rfl, -, -, -⟩ := Sl.of_own h.qr
  have c2 := h.box.cell' (u := .slice Ap c.sums.length cp) 3 rfl
  have hss := h.sz
  have hgb := h.gb
  refine rD (fun V => V.cell? ⟨g, 3, none⟩ = some (.slice Ap c.sums.length cp) ∧ V.cell? ⟨b, off + i, none⟩ = some (.int .i64 x)) (fun j => decide (j ≤ 8)) 11 ?_
  have HH := Lib.hid h
  have HH0 := Lib.hid h0
  clear h h0
  generalize w.drew = V0 at *
  have hS0 : V0.cell? ⟨g, 3, none⟩ = some (.slice Ap c.sums.length cp) ∧ V0.cell? ⟨b, off + i, none⟩ = some (.int .i64 x) := ⟨cell_ext hx0 c2, cell_ext hx0 hc⟩
  clear c2 hc
  refine dt 4 [0, 1, 2, 3, 4, 5, 6] (hS := hS0) ?_
  iterate 6 refine tv ?_
  refine tv (v := .int .u64 (t : Int)) ?_ (hy := by intro w hw; simp [execOp, go_sem, *])
  refine t_e ?_
  have hxa := (Ext.refl V0).alloc' (.cells #[.int .u64 (t : Int)] 31)
  refine dv 7 (w1 := V0.alloc (.cells #[.int .u64 (t : Int)] 31)) (v := .slice (some ⟨V0.heap.size, 0, none⟩) 1 1) ?_ (hS := fun _ => ⟨cell_ext hxa hS0.1, cell_ext hxa hS0.2⟩) (hrun := by simp [execOp, go_sem, *]; try rfl)
  have h2 := HH0.out.ext hxa
  have hsl := Sl.new V0 [.int .u64 (t : Int)] 31 1 1 rfl
  have hx2' := hx0.trans' hxa
  have H2 := Lib.hid h2
  have HS := Lib.hid (And.intro (cell_ext hxa hS0.1) (cell_ext hxa hS0.2))
  generalize V0.alloc (.cells #[.int .u64 (t : Int)] 31) = V2 at *
  clear hS0
  refine da 8 (v := .slice Ap c.sums.length cp) (m := 1) (c := 1) Tryz.underlying27 (show (Tryz.prog.info? 31).map (fun i => (i.zero, i.size, i.bytes)) = some (some (.int .u64 0), 1, 8) by kernel_rfl) h2.qr (T := fun _ => True) hsl (by omega) (by omega) h2.sz (by simp [Value.oneCell']) ?_
  intro v5 w5 ho5 hf5 hb5
  refine ⟨fun _ => ?_, ?_⟩
  · have hge : ∀ q, some q = (Value.slice Ap c.sums.length cp).ownBlock → base ≤ q := fun q hq => own_ge h2.qr hq.symm
    exact ⟨cell_fr2 hf5 (fun hq => by have := hge _ hq; omega) HS.out.1, cell_fr2 hf5 (fun hq => by have := hge _ hq; omega) HS.out.2⟩
  clear h2
  have h2 := H2.out
  have hge : ∀ q, some q = (Value.slice Ap c.sums.length cp).ownBlock → base ≤ q := fun q hq => own_ge h2.qr hq.symm
  have B5 := h2.box.fr hf5 (fun hq => by have := hge _ hq; omega)
  have b2 := B5.cell' (u := .slice Ap c.sums.length cp) 3 rfl
  have bf := B5.frozen 3
  obtain ⟨A5, c5, rfl, -, -, -⟩ := Sl.of_own ho5
  clear h2
  refine dv 9 ?_ (hS := fun h => absurd h (by decide))
  refine dq 10 (w1 := w5.setCell ⟨g, 3, none⟩ (.slice A5 (c.sums.length + 1) c5)) ?_ (hS := fun h => absurd h (by decide)) (hrun := by simp [execOp, go_sem, *]; try rfl)
  refine d_E a [0, 1, 2, 3, 4, 11, 12] ?_
  intro a6 u6
  have h2 := H2.out
  have hs5 := hf5.size
  have hf6 : Fr (fun q => q = g) w5 (w5.setCell ⟨g, 3, none⟩ (.slice A5 (c.sums.length + 1) c5)) := (Fr.refl (fun q => q = g) w5).setCell (p := ⟨g, 3, none⟩) (.inl rfl) _
  have hs6 := hf6.size
  have h2s := h2.sz
  refine hK a6 _ t (.slice A5 (c.sums.length + 1) c5) u6 htl ⟨by simpa using B5.set_ 3 (.slice A5 (c.sums.length + 1) c5), own_fr (own_fr h2.pr hf5 (fun q hq e => h2.two q hq e.symm)) hf6 (fun q hq e => by have := own_ge h2.pr hq; omega), ?_, fun q hq e => ?_, hgb, by omega⟩ ?_
  · have := own_fr ho5 hf6 (fun q hq e => by have := own_ge ho5 hq; omega)
    simpa using this
  · have hlt := h2.pr.block_lt hq
    rcases hb5 with e5 | e5
    · exact h2.two q hq (e5.symm.trans e)
    · rw [e5] at e; cases e; omega
  · exact ((Fr.of_ext hx2').trans (hf5.mono fun q hq => .inr (hge q hq))).trans (hf6.mono fun q hq => .inl hq)
end
end Go.Proofs.YtfcplpeimcjhaaaGreatDoor
namespace Go.Proofs.YtfcplpeimcjhaaaGreatDoor
open Go.RowKit
section
variable {ops : Array Oper} {S : World → Prop} {a : Act} {w w1 : World} {o : Oper} {d gd j : Nat} {v : Value} {want b : Bool} {K' : Act → Prop} {J : List Nat} {i : Nat}
theorem t_y (hi:ops[i]?=some o)(hg:o.guard=some (j,want))(hj:(ops[j]?).bind (fun x=>x.dst)=some gd)(hd:o.dst=some d)(hs:gd<a.tmps.size)(he:Ev a (.tmp gd)=.bool b)(hb:(b == want)=true)(hy:∀ w,S w→(execOp (Ev a) o).run Tryz.prog w=.ok (.value v) w)(h:WT ops S K' J (Pt a d v)):WT ops S K' (i :: J) a :=
  ⟨⟨o,d,v,hi,hd,.inl ⟨by rw [wanted_of hg hj hs he,hb],hy⟩,h.out⟩⟩
theorem t_n (hi:ops[i]?=some o)(hg:o.guard=some (j,want))(hj:(ops[j]?).bind (fun x=>x.dst)=some gd)(hd:o.dst=some d)(hs:gd<a.tmps.size)(he:Ev a (.tmp gd)=.bool b)(hb:(b == want)=false)(h:WT ops S K' J (Pt a d undef)):WT ops S K' (i :: J) a :=
  ⟨⟨o,d,undef,hi,hd,.inr ⟨by rw [wanted_of hg hj hs he,hb],rfl⟩,h.out⟩⟩
end
section
variable {ops : Array Oper} {K : Act → World → Prop} {S : World → Prop} {bf : Nat → Bool} {n : Nat} {is : List Nat} {a : Act} {w w1 : World} {o : Oper}
theorem d_callG (i d gd:Nat){j:Nat}{want b:Bool}(hr:Region.ready .any ops (mkL ops.size is)=[i])(hi:ops[i]?=some o)(hg:o.guard=some (j,want))(hj:(ops[j]?).bind (fun x=>x.dst)=some gd)(hs:gd<a.tmps.size)(he:a.eval (.tmp gd)=.bool b)(hbw:(b == want)=true)(hd:o.dst=some d)(f:FuncId)(xs:Array Operand)(ats:Array TypeId)(hop:o.op=Op.call { callee:=Callee.value (Operand.func f),args:=xs,argTypes:=ats })(fn:Func)(hf:Tryz.prog.funcs[f]?=some fn)(hn:(fn.name == "runtime.NumGoroutine")=false) (hb:fn.body.isNone=false) (vs:Array Value) (hv:xs.map a.eval=vs)
    (h:Calls Tryz.prog f vs w fun e w'=>∃ v,e=.returned v∧(bf i=true→S w')∧WD ops K S bf n (i :: is) (a.put (some d) v) w'):WD ops K S bf (n+1) is a w :=
  d_wcall i d hr hi (by rw [wanted_of hg hj hs he,hbw]) hd f xs ats hop fn hf hn hb vs hv h
end
theorem dEv {ops:Array Oper}{K:Act→World→Prop}{S:World→Prop}{bf:Nat→Bool}{n:Nat}{is:List Nat}{a:Act}{w:World}{v:Value}(a0:Act)(L:List Nat)(d:Nat)(h:∀ a',Ag L a0 a'→Ev a' (.tmp d)=v→K a' w)(hr:Region.ready .any ops (mkL ops.size is)=[]:=by kernel_rfl)(hA:Ag L a0 a:=by (repeat refine .put ?_ rfl);exact .rf)(he:Ev a (.tmp d)=v:=by simp [*];rfl):WD ops K S bf n is a w:=d_nil hr (h a hA he)
theorem dcg {ops:Array Oper}{K:Act→World→Prop}{S:World→Prop}{bf:Nat→Bool}{n:Nat}{is:List Nat}{a:Act}{w:World}{o:Oper}{d gd j:Nat}{want b:Bool}{f:FuncId}{xs:Array Operand}{ats:Array TypeId}{fn:Func}{vs:Array Value}{R:Ending→World→Prop}(i:Nat)(hf:Tryz.prog.funcs[f]?=some fn)(hc:Calls Tryz.prog f vs w R)(h:∀ e w',R e w'→∃ v,e=.returned v∧(bf i=true→S w')∧WD ops K S bf n (i :: is) (Pt a d v) w')
    (hr:Region.ready .any ops (mkL ops.size is)=[i]:=by kernel_rfl)(hi:ops[i]?=some o:=by exact rfl)(hg:o.guard=some (j,want):=by exact rfl)(hj:(ops[j]?).bind (fun x=>x.dst)=some gd:=by exact rfl)(hd:o.dst=some d:=by exact rfl)(hs:gd<a.tmps.size:=by simp [*])(he:Ev a (.tmp gd)=.bool b:=by simp [*];rfl)(hb:(b == want)=true:=by exact rfl)(hop:o.op=Op.call { callee:=Callee.value (Operand.func f),args:=xs,argTypes:=ats }:=by exact rfl)(hn:(fn.name == "runtime.NumGoroutine")=false:=by rfl) (hbn:fn.body.isNone=false:=by rfl) (hv:xs.map (Ev a)=vs:=by simp [*]):WD ops K S bf (n+1) is a w:=d_callG i d gd hr hi hg hj hs he hb hd f xs ats hop fn hf hn hbn vs hv (hc.mono h)
/-- a guarded operation of a drawn region that is wanted, and that only reads -/
theorem ty {ops : Array Oper} {S : World → Prop} {a : Act} {o : Oper} {d gd j : Nat} {v : Value} {want b : Bool} {K' : Act → Prop} {J : List Nat} {i : Nat} (h : WT ops S K' J (Pt a d v)) (hi : ops[i]? = some o := by exact rfl) (hg : o.guard = some (j, want) := by exact rfl) (hj : (ops[j]?).bind (fun x => x.dst) = some gd := by exact rfl) (hd : o.dst = some d := by exact rfl) (hs : gd < a.tmps.size := by simp [*]) (he : Ev a (.tmp gd) = .bool b := by simp [*]; rfl) (hb : (b == want) = true := by exact rfl)
    (hy : ∀ w, S w → (execOp (Ev a) o).run Tryz.prog w = .ok (.value v) w := by (intro w hw; simp [execOp, go_sem, *]; try rfl)) : WT ops S K' (i :: J) a := t_y hi hg hj hd hs he hb hy h
theorem tn {ops : Array Oper} {S : World → Prop} {a : Act} {o : Oper} {d gd j : Nat} {want b : Bool} {K' : Act → Prop} {J : List Nat} {i : Nat} (h : WT ops S K' J (Pt a d undef)) (hi : ops[i]? = some o := by exact rfl) (hg : o.guard = some (j, want) := by exact rfl) (hj : (ops[j]?).bind (fun x => x.dst) = some gd := by exact rfl) (hd : o.dst = some d := by exact rfl) (hs : gd < a.tmps.size := by simp [*]) (he : Ev a (.tmp gd) = .bool b := by simp [*]; rfl) (hb : (b == want) = false := by exact rfl) : WT ops S K' (i :: J) a := t_n hi hg hj hd hs he hb h
theorem t_u {ops:Array Oper}{S:World→Prop}{K':Act→Prop}{J:List Nat}{i d gd j:Nat}{o:Oper}{want:Bool}{a:Act}(hi:ops[i]?=some o)(hg:o.guard=some (j,want))(hj:(ops[j]?).bind (fun x=>x.dst)=some gd)(hd:o.dst=some d)(hs:gd<a.tmps.size)(he:Ev a (.tmp gd)=undef)(h:WT ops S K' J (Pt a d undef)):WT ops S K' (i :: J) a:=by
  have h1:a.tmps[gd]?=some undef:=by
    have h2:a.tmps.getD gd undef=undef:=he
    simp only [Array.getD,hs,dite_true] at h2
    rw [Array.getElem?_eq_getElem hs]
    exact congrArg some h2
  have h3:yielded ops a.tmps j=none:=by
    unfold yielded
    rw [show ((ops[j]?).bind (fun x=>x.dst)).bind (fun x=>a.tmps[x]?)=some undef by rw [hj];exact h1]
    rfl
  exact ⟨⟨o,d,undef,hi,hd,.inr ⟨by simp [Region.wanted,hg,h3],rfl⟩,h.out⟩⟩
theorem tu {ops : Array Oper} {S : World → Prop} {K' : Act → Prop} {J : List Nat} {i d gd j : Nat} {o : Oper} {want : Bool} {a : Act} (h : WT ops S K' J (Pt a d undef)) (hi : ops[i]? = some o := by exact rfl) (hg : o.guard = some (j, want) := by exact rfl) (hj : (ops[j]?).bind (fun x => x.dst) = some gd := by exact rfl) (hd : o.dst = some d := by exact rfl) (hs : gd < a.tmps.size := by simp [*]) (he : Ev a (.tmp gd) = undef := by simp [*]) : WT ops S K' (i :: J) a := t_u hi hg hj hd hs he h
set_option maxHeartbeats 8000000 in
theorem reg15 {Q : Exit → Act → World → Prop} {a : Act} {w : World} {c : GC} {A B A1 B1 : Option Addr} {k q k1 q1 g g16 : Nat} {P P1 : Nat → Prop} (sz : a.tmps.size = Tryz.f3.ntmps) (e11 : Ev a (.tmp 11) = .pointer (some ⟨g, 0, none⟩)) (e16 : Ev a (.tmp 16) = .pointer (some ⟨g16, 0, none⟩)) (e17 : Ev a (.tmp 17) = .int .i64 0)
    (hc : ∀ V, Ext w V → V.cell? ⟨g, 0, none⟩ = some (.string c.prop) ∧ V.cell? ⟨g, 1, none⟩ = some (.int .i64 c.size) ∧ V.cell? ⟨g, 2, none⟩ = some (.slice A c.paths.length k) ∧ V.cell? ⟨g, 3, none⟩ = some (.slice B c.sums.length q) ∧ V.cell? ⟨g16, 0, none⟩ = some (.string c.prop) ∧ V.cell? ⟨g16, 1, none⟩ = some (.int .i64 c.size) ∧ V.cell? ⟨g16, 2, none⟩ = some (.slice A1 c.paths.length k1) ∧ V.cell? ⟨g16, 3, none⟩ = some (.slice B1 c.sums.length q1))
    (hX : CM w P c A k B q) (hR : CM w P1 c A1 k1 B1 q1)
    (h : ∀ a' w', Ag [2, 3, 4, 13] a a' → Ext w w' → Ev a' (.tmp 101) = .bool false → Q .normal a' w') : Code.wp Tryz.prog (RM3 15) Q a w := by
  have hx0 : Ext w w.drew := (Ext.refl w).drew'
  refine rD (fun V => V.cell? ⟨g, 0, none⟩ = some (.string c.prop) ∧ V.cell? ⟨g, 1, none⟩ = some (.int .i64 c.size) ∧ V.cell? ⟨g, 2, none⟩ = some (.slice A c.paths.length k) ∧ V.cell? ⟨g, 3, none⟩ = some (.slice B c.sums.length q) ∧ V.cell? ⟨g16, 0, none⟩ = some (.string c.prop) ∧ V.cell? ⟨g16, 1, none⟩ = some (.int .i64 c.size) ∧ V.cell? ⟨g16, 2, none⟩ = some (.slice A1 c.paths.length k1) ∧ V.cell? ⟨g16, 3, none⟩ = some (.slice B1 c.sums.length q1)) (fun _ => true) 9 ?_
  have hS := hc _ hx0
  replace hX := hX.ext hx0
  replace hR := hR.ext hx0
  generalize w.drew = w1 at *
  refine dt 4 [0, 1, 2, 3, 5] ?_
  iterate 3 refine tv ?_ (hy := by (intro w hw; simp [execOp, go_sem, *]; try rfl))
  iterate 2 refine ty ?_
  refine t_e ?_
  refine dcg 4 Tryz.func17 (plain17 c.prop c.size A1 c.paths.length k1 B1 c.sums.length q1 w1) ?_ (b := false) (gd := 95) (he := by simp [*])
  rintro e w3 ⟨rfl, hx3⟩
  have hx03 := hx0.trans' hx3
  clear hS
  have hS := hc _ hx03
  refine ⟨_, rfl, fun _ => hS, ?_⟩
  refine dcg 6 Tryz.func16 (same16 c A1 B1 A B k1 q1 k q P1 P w3 (hR.ext hx3) (hX.ext hx3)) ?_ (b := false) (gd := 95) (he := by simp [*])
  rintro e w4 ⟨rfl, hx4⟩
  have hx04 := hx03.trans' hx4
  clear hS
  have hS := hc _ hx04
  refine ⟨_, rfl, fun _ => hS, ?_⟩
  refine dt 0 [7, 8] ?_
  refine ty ?_
  refine tv ?_ (hy := by (intro w hw; simp [execOp, go_sem, *]; try rfl))
  refine t_e ?_
  refine dEv a [2, 3, 4, 13] 101 (v := .bool false) ?_ (he := by simp [*])
  intro a' u e
  exact h a' w4 u hx04 e
set_option maxHeartbeats 8000000 in
theorem reg24 {Q : Exit → Act → World → Prop} {a : Act} {w : World} {c : GC} {A A1 B1 : Option Addr} {k k1 q1 gA g21 i : Nat} {l : List Int} {er : Int} {T P1 : Nat → Prop} (sz : a.tmps.size = Tryz.f3.ntmps) (e19 : Ev a (.tmp 19) = .slice (some ⟨gA, 0, none⟩) 3 3) (e20 : Ev a (.tmp 20) = .int .i64 (i : Int)) (hi : i < 3) (e21 : Ev a (.tmp 21) = .pointer (some ⟨g21, 0, none⟩)) (e22 : Ev a (.tmp 22) = .int .i64 er)
    (hc : ∀ V, Ext w V → V.cell? ⟨gA, i, none⟩ = some (.slice A l.length k) ∧ V.cell? ⟨g21, 0, none⟩ = some (.string c.prop) ∧ V.cell? ⟨g21, 1, none⟩ = some (.int .i64 c.size) ∧ V.cell? ⟨g21, 2, none⟩ = some (.slice A1 c.paths.length k1) ∧ V.cell? ⟨g21, 3, none⟩ = some (.slice B1 c.sums.length q1))
    (hl : l.length ≤ 100000000000) (hsl : Sl w T 1 A l.length (l.map (Value.int .u8))) (hP : ∀ k, P1 k → k < w.heap.size) (hd : (er = 0 ∧ CM w P1 c A1 k1 B1 q1 ∧ encC c = l) ∨ (er = 2 ∧ c.paths.length = 0 ∧ c.prop.toList.isEmpty = true))
    (h : ∀ a' w', Ag [19, 20] a a' → Ext w w' → Ev a' (.tmp 164) = .bool false → Q .normal a' w') : Code.wp Tryz.prog (RM3 24) Q a w := by
  have hx0 : Ext w w.drew := (Ext.refl w).drew'
  refine rD (fun V => V.cell? ⟨gA, i, none⟩ = some (.slice A l.length k) ∧ V.cell? ⟨g21, 0, none⟩ = some (.string c.prop) ∧ V.cell? ⟨g21, 1, none⟩ = some (.int .i64 c.size) ∧ V.cell? ⟨g21, 2, none⟩ = some (.slice A1 c.paths.length k1) ∧ V.cell? ⟨g21, 3, none⟩ = some (.slice B1 c.sums.length q1)) (fun _ => true) 31 ?_
  have hS := hc _ hx0
  replace hP : ∀ k, P1 k → k < w.drew.heap.size := fun k hk => Nat.lt_of_lt_of_le (hP k hk) hx0.size
  replace hsl := hsl.keep (Keeps.of_ext hx0) (fun _ h => h)
  replace hd : (er = 0 ∧ CM w.drew P1 c A1 k1 B1 q1 ∧ encC c = l) ∨ (er = 2 ∧ c.paths.length = 0 ∧ c.prop.toList.isEmpty = true) := hd.imp (fun h => ⟨h.1, h.2.1.ext hx0, h.2.2⟩) (fun h => h)
  generalize w.drew = w1 at *
  have hi3 : (i : Int) < 3 := by omega
  rcases hd with ⟨rfl, hR, rfl⟩ | ⟨rfl, hz1, hz3⟩
  · refine dt 5 [0, 1, 2, 3, 4, 5, 6, 7, 8, 9, 10, 11, 12, 13, 14, 15, 16, 17, 18, 19, 20, 21, 23, 24, 25, 26] ?_
    iterate 3 refine tv ?_ (hy := by (intro w hw; simp [execOp, go_sem, *]; try rfl))
    iterate 3 refine tn ?_
    iterate 4 refine tu ?_
    iterate 2 refine tn ?_
    iterate 3 refine tu ?_
    refine tn ?_
    iterate 2 refine tv ?_ (hy := by (intro w hw; simp [execOp, go_sem, *]; try rfl))
    iterate 8 refine ty ?_
    refine t_e ?_
    refine dcg 22 Tryz.func7 (encode7 c A1 B1 k1 q1 P1 w1 hR hP) ?_ (b := true) (gd := 154) (he := by simp [*])
    rintro e w3 ⟨v3, rfl, hO⟩
    obtain ⟨A3, c3, rfl, -, -, hs3⟩ := hO.sl
    have hx3 := hO.ex
    have hx03 := hx0.trans' hx3
    clear hS
    have hS := hc _ hx03
    refine ⟨_, rfl, fun _ => hS, ?_⟩
    refine dcg 27 Tryz.func12 (same35 (c := c3) (c' := k) (encC c) (encC c) w3 (by omega) (by omega) hs3 (hsl.keep (Keeps.of_ext hx3) (fun _ h => h))) ?_ (b := true) (gd := 154) (he := by simp [*])
    rintro e w4 ⟨rfl, hx4⟩
    have hx04 := hx03.trans' hx4
    clear hS
    have hS := hc _ hx04
    refine ⟨_, rfl, fun _ => hS, ?_⟩
    refine dt 0 [28, 29, 30] ?_
    iterate 2 refine ty ?_
    refine tv ?_ (hy := by (intro w hw; simp [execOp, go_sem, *]; try rfl))
    refine t_e ?_
    refine dEv a [19, 20] 164 (v := .bool false) ?_ (he := by simp [*])
    intro a' u e
    exact h a' w4 u hx04 e
  · refine dt 0 [0, 1, 2, 3, 4, 5, 6, 7, 8, 9, 10, 11, 12, 13, 14, 15, 16, 17, 18, 19, 20, 21, 22, 23, 24, 25, 26, 27, 28, 29, 30] ?_
    iterate 3 refine tv ?_ (hy := by (intro w hw; simp [execOp, go_sem, *]; try rfl))
    iterate 13 refine ty ?_
    iterate 2 refine tv ?_ (hy := by (intro w hw; simp [execOp, go_sem, *]; try rfl))
    iterate 3 refine ty ?_
    iterate 8 refine tn ?_
    refine ty ?_
    refine tv ?_ (hy := by (intro w hw; simp [execOp, go_sem, *]; try rfl))
    refine t_e ?_
    refine dEv a [19, 20] 164 (v := .bool false) ?_ (he := by simp [*])
    intro a' u e
    exact h a' w1 u hx0 e
theorem zprop : GC.zero.prop.toList.isEmpty = true := by
  have h : GC.zero.prop.toList = [] := by
    show ByteArray.toList ⟨#[]⟩ = []
    rw [ByteArray.toList, ByteArray.toList.loop]
    rfl
  rw [h]; rfl
end Go.Proofs.YtfcplpeimcjhaaaGreatDoor
namespace Go.Proofs.YtfcplpeimcjhaaaGreatDoor
open Go.RowKit
set_option maxRecDepth 10000 in
set_option maxHeartbeats 8000000 in
theorem reg19 {Q : Exit → Act → World → Prop} {a : Act} {w : World} {raw bs : List Int} {Ar Ab : Option Addr} {cr cb' cap g18 : Nat} {T : Nat → Prop} (sz : a.tmps.size = Tryz.f3.ntmps) (e2 : Ev a (.tmp 2) = .slice Ar raw.length cr) (e13 : Ev a (.tmp 13) = .slice Ab bs.length cb') (e18 : Ev a (.tmp 18) = .slice (some ⟨g18, 0, none⟩) bs.length cap)
    (hrl : raw.length ≤ 1000000000000000 ∧ raw.length ≤ cr ∧ cr ≤ 9223372036854775807) (hb1 : bs.length ≤ cb' ∧ cb' ≤ 9223372036854775807) (hpos : 1 ≤ bs.length) (hraw : Sl w T 1 Ar raw.length (raw.map (Value.int .u8)))
    (h : ∀ a' w' gA A1 c1, Ag [] a a' → Ext w w' → Ev a' (.tmp 19) = .slice (some ⟨gA, 0, none⟩) 3 3 → Blk w' gA 23 #[.slice A1 (raw.take 40).length c1, .slice (some ⟨g18, 0, none⟩) bs.length cap, .slice Ab (bs.length - 1) cb'] → Sl w' (fun _ => True) 1 A1 (raw.take 40).length ((raw.take 40).map (Value.int .u8)) → Q .normal a' w') : Code.wp Tryz.prog (RM3 19) Q a w := by
  obtain ⟨rt, hrt⟩ : ∃ rt, raw.take 40 = rt := ⟨_, rfl⟩
  rw [hrt] at h
  have hx0 : Ext w w.drew := (Ext.refl w).drew'
  refine rD (fun _ => True) (fun _ => true) 10 ?_
  replace hraw := hraw.keep (Keeps.of_ext hx0) (fun _ h => h)
  generalize w.drew = w1 at *
  have hq1 : (0 : Int) ≤ (bs.length : Int) - 1 := by omega
  have hq2 : (bs.length : Int) - 1 ≤ (cb' : Int) := by omega
  have hq3 : ((bs.length : Int) - 1).toNat = bs.length - 1 := by omega
  refine dt 3 [0, 2, 3, 4, 5, 6, 7] (hS := trivial) ?_
  iterate 6 refine tv ?_
  refine tv (v := .slice Ab (bs.length - 1) cb') ?_ (hy := by (intro w hw; simp [execOp, go_sem, *]; intro h; omega))
  refine t_e ?_
  refine dc 1 Tryz.func18 (few37 (c := cr) raw 40 w1 hrl (by omega) hraw) ?_
  rintro e w2 ⟨v1, rfl, hO1⟩
  rw [hrt] at hO1
  obtain ⟨A1, c1, rfl, -, -, hF1⟩ := hO1.sl
  refine ⟨_, rfl, fun _ => trivial, ?_⟩
  have hx2 := hx0.trans' hO1.ex
  have hxa : Ext w2 (w2.alloc (.cells #[.slice A1 rt.length c1, .slice (some ⟨g18, 0, none⟩) bs.length cap, .slice Ab (bs.length - 1) cb'] 23)) := (Ext.refl _).alloc' _
  refine dv 8 (w1 := w2.alloc (.cells #[.slice A1 rt.length c1, .slice (some ⟨g18, 0, none⟩) bs.length cap, .slice Ab (bs.length - 1) cb'] 23)) ?_ (fun _ => trivial)
  refine dv 9 ?_ (fun _ => trivial)
  refine d_E1 a [] 19 ?_
  intro a' u e19
  refine h a' _ w2.heap.size A1 c1 u (hx2.trans' hxa) e19 ?_ ?_
  · have := Blk.new w2 23 #[.slice A1 rt.length c1, .slice (some ⟨g18, 0, none⟩) bs.length cap, .slice Ab (bs.length - 1) cb']
    simpa using this
  · exact (hF1.keep (Keeps.of_ext hxa) (fun _ _ => trivial))
noncomputable abbrev in3b : Code := .seq (RM3 23) (.seq (RM3 24) (.cond (.tmp 164) (.seq (RM3 25) .ret) .skip))
set_option maxHeartbeats 8000000 in
theorem body2 {Q : Exit → Act → World → Prop} {a : Act} {w : World} {A : Option Addr} {k gA i : Nat} {l : List Int} {T : Nat → Prop} (sz : a.tmps.size = Tryz.f3.ntmps) (e19 : Ev a (.tmp 19) = .slice (some ⟨gA, 0, none⟩) 3 3) (e20 : Ev a (.tmp 20) = .int .i64 (i : Int)) (hi : i < 3)
    (hc : ∀ V, Ext w V → V.cell? ⟨gA, i, none⟩ = some (.slice A l.length k)) (hl : l.length ≤ 1000000) (hb : Byt l) (hsl : Sl w T 1 A l.length (l.map (Value.int .u8)))
    (h : ∀ a' w', Ag [19, 20] a a' → Ext w w' → Q .normal a' w') : Code.wp Tryz.prog in3b Q a w := by
  have hq := hc w (Ext.refl w)
  have hi3 : (i : Int) < 3 := by omega
  refine wp_seq (rW ?_)
  iterate 2 refine lv ?_
  refine lv (w1 := w) (v := .pointer (some ⟨gA, i, none⟩)) ?_ (hrun := by simp [execOp, go_sem, *])
  refine lv ?_
  refine lc Tryz.func14 (decode14 (c := k) l w hl hb hsl) ?_
  rintro e w8 ⟨c, A9, k9, B9, q9, er, rfl, hR, hx8, hd⟩
  refine ⟨_, rfl, ?_⟩
  iterate 3 refine lv ?_
  refine l_box 33 [.string ⟨#[]⟩, .int .i64 0, .slice none 0 0, .slice none 0 0] (ccs c.prop c.size A9 c.paths.length k9 B9 c.sums.length q9) rfl ?_
  intro w9 hB hx9
  refine lv ?_
  refine lE2 a [19, 20] 21 22 ?_
  intro a6 u6 e21 e22
  replace sz := u6.sz.trans sz
  replace e19 := u6.get 19 e19
  replace e20 := u6.get 20 e20
  have hx10 := hx8.trans' hx9
  have hs9 := hx9.size
  refine wp_seq ?_
  refine reg24 (c := c) (A1 := A9) (k1 := k9) (B1 := B9) (q1 := q9) (k := k) (P1 := fun b => w.heap.size ≤ b ∧ b < w8.heap.size) sz e19 e20 hi e21 e22 (fun V hV => ?_) (by omega) (hsl.keep (Keeps.of_ext hx10) (fun _ h => h)) (fun k hk => by omega) ?_ ?_
  · have hB' := hB.ext hV
    exact ⟨hc V (hx10.trans' hV), hB'.cell' 0 rfl, hB'.cell' 1 rfl, hB'.cell' 2 rfl, hB'.cell' 3 rfl⟩
  · rcases hd with ⟨h1, h2⟩ | ⟨h1, -, h3, -⟩
    · obtain ⟨h4, h5⟩ := wf_of hb hl h2
      exact .inl ⟨h1, ⟨hR.cap, hR.paths.keep (Keeps.of_ext hx9) (fun _ h => h), hR.sums.keep (Keeps.of_ext hx9) (fun _ h => h), h4⟩, h5⟩
    · exact .inr ⟨h1, by rw [h3]; rfl, by rw [h3]; exact zprop⟩
  · intro a7 w10 u7 hx11 e164
    refine wp_cond_false (e164.trans (by simp)) (wp_skip ?_)
    exact h a7 w10 (u6.trans u7) (hx10.trans' hx11)
end Go.Proofs.YtfcplpeimcjhaaaGreatDoor
