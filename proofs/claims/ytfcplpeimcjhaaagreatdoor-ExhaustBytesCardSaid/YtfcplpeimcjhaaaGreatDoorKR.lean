/- Frames, calls, rounds: the laws. Conditions: none. -/
import Derived.Test.YtfcplpeimcjhaaaGreatDoorKQ
import Derived.RangeFuncNested
import Derived.RecoverIn
namespace Go.Ke
open Go.RowKit
inductive DR (ρ : Rho) : List DD → List Deferred → Prop
  | nil : DR ρ [] []
  | mark {D D' : Nat} {ds : List DD} {dd : List Deferred} (h : ρ D = some (D', 0)) (t : DR ρ ds dd) : DR ρ (.mark D :: ds) ({ target := .collected D', args := #[] } :: dd)
  | call {g : Nat} {xs : List Value} {cap da : Array Value} {ds : List DD} {dd : List Deferred} (h : LR ρ xs (da ++ cap).toList) (t : DR ρ ds dd) : DR ρ (.call g xs :: ds) ({ target := .fn (.func g) cap, args := da } :: dd)
def Res (ρ : Rho) (W : AW) (w : World) (n : Nat) (tm : T Value) (ds : List DD) (W' : AW) (a' : Act) (w' : World) : Prop := ∃ ρ', TR ρ' n tm.get a'.tmps ∧ DR ρ' ds a'.defers ∧ WR ρ' W' w' ∧ Up ρ W w ρ' W' w'
def Post (ρ : Rho) (W : AW) (w : World) (n : Nat) (r : CR) : Exit → Act → World → Prop
  | .normal, a', w' => ∃ tm ds W', r = .nrm tm ds W' ∧ Res ρ W w n tm ds W' a' w'
  | .exit id, a', w' => ∃ tm ds W', r = .ext id tm ds W' ∧ Res ρ W w n tm ds W' a' w'
  | .ret, a', w' => ∃ tm ds W', r = .ret tm ds W' ∧ Res ρ W w n tm ds W' a' w'
  | _, _, _ => False
def FF (ρ : Rho) (rd : Option Nat) (F : Fence) : Prop := match rd with
  | none => F = Fence.wide
  | some l => ∃ l' k, ρ l = some (l', k) ∧ F = Fence.wide.inRound l'
def LoopW (F : Fence) (n : Nat) (P : Program) (c : Code) (Q : Exit → Act → World → Prop) (a : Act) (w : World) : Prop := ∀ (b : Frame) (k : List Item) (cs : List Frame), b.roundOf = F.round → F.fn b.fn → F.room (cs.length + 1 + n) →
  ∃ e a' w', Q e a' w' ∧ ArrivesIn (Machine.fenced P F) P (lone (b.atR a (.inLoop c :: k)) cs w) b k cs e a' w'
def okR (r : CR) : Prop := ∀ s, r ≠ .er s
/-- what a table says is so -/
def TabOK (P : Program) (tab : Nat → List Value → AW → Option VC) : Prop := ∀ (g : Nat) (xs : List Value) (W : AW) (v : Value) (W' : AW) (ρ : Rho) (w : World) (xs' : Array Value) (m : Nat), tab g xs W = some (.ok v W') → LR ρ xs xs'.toList → WR ρ W w → GR ρ → (∀ args w, (callFunc g args).run P w = .ok (.enter g args) w) ∧ CallsIn Fence.wide m P g xs' w (fun e w' => ∃ v' ρ', e = .returned v' ∧ VR ρ' v v' ∧ WR ρ' W' w' ∧ Up ρ W w ρ' W' w')
structure Snd (P : Program) (ih : Ev) : Prop where
  code : ∀ (cx : Cx) (c : Code) (tm : T Value) (ds : List DD) (W : AW) (ρ : Rho) (w : World) (a : Act) (F : Fence) (m : Nat), okR (ih cx c tm ds W) → FF ρ cx.rd F → TR ρ cx.n tm.get a.tmps → DR ρ ds a.defers → WR ρ W w → c.wpIn F m P (Post ρ W w cx.n (ih cx c tm ds W)) a w
  loop : ∀ (cx : Cx) (c : Code) (tm : T Value) (ds : List DD) (W : AW) (ρ : Rho) (w : World) (a : Act) (F : Fence) (m : Nat), okR (ih cx (.loop c) tm ds W) → FF ρ cx.rd F → TR ρ cx.n tm.get a.tmps → DR ρ ds a.defers → WR ρ W w → LoopW F m P c (Post ρ W w cx.n (ih cx (.loop c) tm ds W)) a w
  tab : TabOK P ih.tab
section
variable {P : Program} {ih : Ev} {ρ ρ' : Rho} {W W' : AW} {w w' : World} {F : Fence} {m n : Nat} {v : Value} {xs : List Value} {tm tm' : T Value} {ds : List DD} {dd : List Deferred} {a : Act} {Q : Exit → Act → World → Prop}
theorem DR.mono (hl : Le ρ ρ') (h : DR ρ ds dd) : DR ρ' ds dd := by
  induction h with
  | nil => exact .nil
  | mark h _ ih => exact .mark (hl _ _ h) ih
  | call h _ ih => exact .call (h.mono hl) ih
theorem FF.mono {rd : Option Nat} (hl : Le ρ ρ') (h : FF ρ rd F) : FF ρ' rd F := by
  cases rd with
  | none => exact h
  | some l => obtain ⟨l', k, h1, h2⟩ := h; exact ⟨l', k, hl _ _ h1, h2⟩
theorem FF.fn {rd : Option Nat} (h : FF ρ rd F) (f : FuncId) : F.fn f := by
  cases rd with
  | none => cases h; exact trivial
  | some l => obtain ⟨l', k, h1, rfl⟩ := h; exact trivial
theorem FF.depth {rd : Option Nat} (h : FF ρ rd F) : F.depth = none := by
  cases rd with
  | none => cases h; rfl
  | some l => obtain ⟨l', k, h1, rfl⟩ := h; rfl
theorem FF.calls {rd : Option Nat} (h : FF ρ rd F) {g : FuncId} {args : Array Value} {R : Ending → World → Prop} (hc : CallsIn Fence.wide m P g args w R) : CallsIn F m P g args w R := by
  cases rd with
  | none => cases h; exact hc
  | some l => obtain ⟨l', k, h1, rfl⟩ := h; exact hc
theorem FF.rounds {rd : Option Nat} (h : FF ρ rd F) {l : Nat} {f : FuncId} {ts : Array Value} {x y : Code} {R : Ending → World → Prop} (hc : RoundIn Fence.wide m P l f ts x y w R) : RoundIn F m P l f ts x y w R := by
  cases rd with
  | none => cases h; exact hc
  | some l => obtain ⟨l', k, h1, rfl⟩ := h; exact hc
theorem Res.pre {W0 : AW} {w0 : World} {ρ0 : Rho} {W2 : AW} {a' : Act} (hu : Up ρ0 W0 w0 ρ W w) (h : Res ρ W w n tm ds W2 a' w') : Res ρ0 W0 w0 n tm ds W2 a' w' := by
  obtain ⟨ρ2, h1, h2, h3, h4⟩ := h
  exact ⟨ρ2, h1, h2, h3, hu.trans h4⟩
theorem Post.pre {W0 : AW} {w0 : World} {ρ0 : Rho} {r : CR} (hu : Up ρ0 W0 w0 ρ W w) : ∀ (e : Exit) (a' : Act) (w' : World), Post ρ W w n r e a' w' → Post ρ0 W0 w0 n r e a' w'
  | .normal, _, _, ⟨tm, ds, W2, h1, h2⟩ => ⟨tm, ds, W2, h1, h2.pre hu⟩
  | .exit _, _, _, ⟨tm, ds, W2, h1, h2⟩ => ⟨tm, ds, W2, h1, h2.pre hu⟩
  | .ret, _, _, ⟨tm, ds, W2, h1, h2⟩ => ⟨tm, ds, W2, h1, h2.pre hu⟩
/-! ### monads -/
theorem Eth_ok {α : Type} {x : E α} {k : α → CR} (h : okR (x.th k)) : ∃ a, x = .ok a ∧ okR (k a) := by
  cases x with
  | ok a => exact ⟨a, rfl, h⟩
  | er s => exact absurd rfl (h s)
theorem Vth_ok {x : VC} {k : Value → AW → CR} (h : okR (x.th k)) : ∃ v W, x = .ok v W ∧ okR (k v W) := by
  cases x with
  | ok v W => exact ⟨v, W, rfl, h⟩
  | er s => exact absurd rfl (h s)
theorem Evc_ok {α : Type} {x : E α} {k : α → VC} (h : x.vc k = .ok v W) : ∃ a, x = .ok a ∧ k a = .ok v W := by
  cases x with
  | ok a => exact ⟨a, rfl, h⟩
  | er s => cases h
theorem putD_ok {d : Option Tmp} {k : T Value → CR} (h : okR (putD n d tm v k)) : ∃ tm', putD n d tm v k = k tm' ∧ okR (k tm') ∧ ((d = none ∧ tm' = tm) ∨ ∃ t, d = some t ∧ t < n ∧ ∀ j, tm'.get j = if j = t then some v else tm.get j) := by
  cases d with
  | none => exact ⟨tm, rfl, h, .inl ⟨rfl, rfl⟩⟩
  | some t =>
    change okR (@Bool.rec (fun _ => CR) (.er "slot") ((tm.set 20 t v).th k) (Nat.blt t n)) at h
    cases hb : Nat.blt t n with
    | false => rw [hb] at h; exact absurd rfl (h _)
    | true =>
      rw [hb] at h
      obtain ⟨tm', h1, h2⟩ := Eth_ok h
      refine ⟨tm', ?_, h2, .inr ⟨t, rfl, by rwa [Nat.blt_eq] at hb, set_get 20 h1⟩⟩
      show @Bool.rec (fun _ => CR) (.er "slot") ((tm.set 20 t v).th k) (Nat.blt t n) = _
      rw [hb]
      show (tm.set 20 t v).th k = _
      rw [h1]
      rfl
theorem TR.put {g g' : Nat → Option Value} {d : Option Tmp} {v' : Value} (h : TR ρ n g a.tmps) (hv : VR ρ v v') (hd : (d = none ∧ g' = g) ∨ ∃ t, d = some t ∧ t < n ∧ ∀ j, g' j = if j = t then some v else g j) : TR ρ n g' (a.put d v').tmps := by
  rcases hd with ⟨rfl, rfl⟩ | ⟨t, rfl, ht, hg⟩
  · exact h
  · refine ⟨by simp [Act.put, h.1], fun j u hj => ?_, h.3⟩
    rw [hg] at hj
    by_cases hjt : j = t
    · subst hjt
      rw [if_pos rfl] at hj; cases hj
      exact ⟨v', by simp [Act.put, h.1, ht], hv⟩
    · rw [if_neg hjt] at hj
      obtain ⟨u', h1, h2⟩ := h.2 j u hj
      exact ⟨u', by simp only [Act.put]; rw [Array.getElem?_setIfInBounds_ne (Ne.symm hjt)]; exact h1, h2⟩
theorem pg {d : Option Tmp} (h : (d = none ∧ tm' = tm) ∨ ∃ t, d = some t ∧ t < n ∧ ∀ j, tm'.get j = if j = t then some v else tm.get j) : (d = none ∧ tm'.get = tm.get) ∨ ∃ t, d = some t ∧ t < n ∧ ∀ j, tm'.get j = if j = t then some v else tm.get j := by
  rcases h with ⟨h1, rfl⟩ | h
  · exact .inl ⟨h1, rfl⟩
  · exact .inr h
theorem put_defers (a : Act) (d : Option Tmp) (v : Value) : (a.put d v).defers = a.defers := by cases d <;> rfl
theorem sets_get : ∀ {l : List Value} {t t' : T Value} {i : Nat}, sets l t i = .ok t' → ∀ j, t'.get j = if i ≤ j ∧ j < i + l.length then l[j - i]? else t.get j
  | [], t, t', i, h, j => by cases h; rw [if_neg (by simp)]
  | v :: l, t, t', i, h, j => by
    obtain ⟨t1, h1, h2⟩ := bd_ok (x := t.set 20 i v) h
    rw [sets_get (l := l) h2, set_get 20 h1]
    simp only [List.length_cons]
    by_cases h3 : i + 1 ≤ j ∧ j < i + 1 + l.length
    · rw [if_pos h3, if_pos (by omega)]
      have : j - i = (j - (i + 1)) + 1 := by omega
      rw [this]; simp
    · rw [if_neg h3]
      by_cases h4 : j = i
      · subst h4; rw [if_pos rfl, if_pos (by omega)]; simp
      · rw [if_neg h4, if_neg (by omega)]
theorem zipS_ok {ps : List Tmp} : ∀ {vs : List Value} {vs' : List Value} {t t' : T Value} {ts : Array Value}, zipS n ps vs t = .ok t' → LR ρ vs vs' → TR ρ n t.get ts → TR ρ n t'.get ((ps.zip vs').foldl (fun (ts : Array Value) (p : Tmp × Value) => ts.setIfInBounds p.1 p.2) ts) ∧ ps.length = vs'.length := by
  induction ps with
  | nil =>
    intro vs vs' t t' ts e h hT
    cases h with
    | nil => cases e; exact ⟨hT, rfl⟩
    | cons => cases e
  | cons p ps ihp =>
    intro vs vs' t t' ts e h hT
    cases h with
    | nil => cases e
    | cons h1 h2 =>
      rename_i x x' l l'
      change bl (Nat.blt p n) ((t.set 20 p x).bd (zipS n ps l)) (.er "slot") = .ok t' at e
      rcases bl_ok e with ⟨h3, e1⟩ | ⟨_, e1⟩
      · rw [Nat.blt_eq] at h3
        obtain ⟨t1, h4, h5⟩ := bd_ok e1
        have hT2 : TR ρ n t1.get (ts.setIfInBounds p x') := by
          have := TR.put (a := ⟨ts, []⟩) (d := some p) hT h1 (.inr ⟨p, rfl, h3, set_get 20 h4⟩)
          exact this
        obtain ⟨g1, g2⟩ := ihp h5 h2 hT2
        exact ⟨g1, by simp [g2]⟩
      · cases e1
/-! ### results -/
theorem resV_ok {g : Nat → Option Value} {r : ResultVar} {ts : Array Value} (e : resV P g W r = .ok v) (h : TR ρ n g ts) (hW : WR ρ W w) : ∃ v', VR ρ v v' ∧ (match r with | .tmp t => (pure (ts.getD t undef) : Sem Value) | .cell a t => do loadVar t (← asAddr (ts.getD a undef))).run P w = .ok v' w := by
  cases r with
  | tmp t =>
    obtain ⟨v', h1, h2⟩ := h.2 t v (of_ok e)
    exact ⟨v', h2, by simp [Array.getD_eq_getD_getElem?, h1]⟩
  | cell a t =>
    obtain ⟨x, h1, e1⟩ := bd_ok e
    obtain ⟨x', h2, h3⟩ := h.2 a x (of_ok h1)
    obtain ⟨v', h4, h5⟩ := loadV_ok e1 h3 hW
    obtain ⟨p, h6, _⟩ := bd_ok e1
    rw [asA_ok h6] at h3
    obtain ⟨c, k, hc, hsp, rfl⟩ := h3.psome
    refine ⟨v', h4, ?_⟩
    simp only [Array.getD_eq_getD_getElem?, h2, Option.getD_some]
    simpa [asAddr, Instr.loadAt, Instr.sureAddr, Sem.run_bind] using h5
theorem resL_ok {g : Nat → Option Value} {ts : Array Value} (h : TR ρ n g ts) (hW : WR ρ W w) : ∀ {l : List ResultVar} {vs : List Value}, resL P g W l = .ok vs → ∃ vs', LR ρ vs vs' ∧ (l.mapM (fun (r : ResultVar) => match r with | .tmp t => (pure (ts.getD t undef) : Sem Value) | .cell a t => do loadVar t (← asAddr (ts.getD a undef)))).run P w = .ok vs' w
  | [], vs, e => by cases e; exact ⟨[], .nil, by simp⟩
  | r :: l, vs, e => by
    obtain ⟨v, h1, e1⟩ := bd_ok (x := resV P g W r) e
    obtain ⟨vs2, h2, e2⟩ := bd_ok e1
    cases e2
    obtain ⟨v', h3, h4⟩ := resV_ok h1 h hW
    obtain ⟨vs', h5, h6⟩ := resL_ok h hW h2
    refine ⟨v' :: vs', .cons h3 h5, ?_⟩
    rw [List.mapM_cons, Sem.run_bind, h4]
    simp only [Result.andThen_ok, Sem.run_bind, h6]
    rfl
theorem results_ok {fn : Func} {g : Nat → Option Value} {ts : Array Value} {vs : List Value} (e : resL P g W fn.results.toList = .ok vs) (h : TR ρ n g ts) (hW : WR ρ W w) : ∃ v', VR ρ (one' vs) v' ∧ (results fn ts).run P w = .ok v' w := by
  obtain ⟨vs', h1, h2⟩ := resL_ok h hW e
  have h3 : (fn.results.mapM (fun (r : ResultVar) => match r with | .tmp t => (pure (ts.getD t undef) : Sem Value) | .cell a t => do loadVar t (← asAddr (ts.getD a undef)))).run P w = .ok vs'.toArray w := by
    rw [Array.mapM_eq_mapM_toList, Sem.run_map, h2]
    rfl
  have h4 : (results fn ts).run P w = .ok (if h : vs'.toArray.size = 1 then vs'.toArray[0] else .tuple vs'.toArray) w := by
    unfold results
    rw [Sem.run_bind]
    exact (congrArg (fun r => Result.andThen r (fun (a : Array Value) w' => Sem.run P (pure (if h : a.size = 1 then a[0] else Value.tuple a)) w')) h3).trans rfl
  refine ⟨_, ?_, h4⟩
  cases h1 with
  | nil => exact VR.mkTuple .nil
  | cons h5 h6 =>
    cases h6 with
    | nil => exact h5
    | cons h7 h8 => exact VR.mkTuple (.cons h5 (.cons h7 h8))
theorem loop_ok {l l' k : Nat} {L : AL} (h : WR ρ W w) (e : W.loop l = .ok L) (hl : ρ l = some (l', k)) : ∃ R, w.heap[l']? = some (.loop R) ∧ OR ρ k (.loop L) (.loop R) ∧ W.heap.get l = some (.loop L) := by
  obtain ⟨ao, h1, e1⟩ := bd_ok e
  have h1 := of_ok h1
  cases ao <;> first | cases e1 | skip
  obtain ⟨_, ao2, o, h2, h3, h4⟩ := h.dom l l' k hl
  rw [h1] at h2; cases h2
  cases o <;> simp only [OR] at h4
  exact ⟨_, h3, h4, h1⟩
theorem setL_ok {l l' k : Nat} {L L2 : AL} {R : Loop} (h : WR ρ W w) (e1 : W.heap.get l = some (.loop L)) (hl : ρ l = some (l', k)) (hO : OR ρ k (.loop L2) (.loop R)) (e : W.setL l L2 = .ok W') : WR ρ W' (w.putObj l' (.loop R)) ∧ Up ρ W w ρ W' (w.putObj l' (.loop R)) := by
  obtain ⟨H, h1, h2⟩ := bd_ok e
  cases h2
  exact obj_ok h hl e1 rfl h1 (fun _ _ h => by cases h) hO
/-! ### deferred calls -/
theorem wantG_ok {ops : Array Oper} {g : Nat → Option Value} {j : Nat} {b r : Bool} (e : wantG ops.toList g j b = .ok r) (h : TR ρ n g a.tmps) : (yielded ops a.tmps j == some b) = r := by
  obtain ⟨o, h1, e1⟩ := bd_ok e
  have h1 := of_ok h1
  rw [nth_eq] at h1
  have h1 : ops[j]? = some o := by simpa using h1
  unfold yielded
  rw [h1, Option.bind_some]
  cases hd : o.dst with
  | none => rw [hd] at e1; cases e1; rfl
  | some d =>
    rw [hd] at e1
    obtain ⟨v, h2, e2⟩ := bd_ok (x := E.of "guard" (g d)) e1
    obtain ⟨v', h3, h4⟩ := h.2 d v (of_ok h2)
    rw [Option.bind_some, h3]
    split at e2
    · cases e2
      rw [h4.bool]
      rename_i c
      cases c <;> cases b <;> rfl
    · cases e2
      rename_i hnb
      have : ∀ c, v' ≠ .bool c := fun c hc => by
        subst hc
        cases h4
        exact hnb c rfl
      cases v' <;> first | rfl | exact absurd rfl (this _)
theorem wantV_ok {ops : Array Oper} {g : Nat → Option Value} {o : Oper} {r : Bool} (e : wantV ops.toList g o.guard = .ok r) (h : TR ρ n g a.tmps) : Region.wanted o (yielded ops a.tmps) = r := by
  unfold Region.wanted
  cases hg : o.guard with
  | none => rw [hg] at e; cases e; rfl
  | some p =>
    rw [hg] at e
    exact wantG_ok e h
theorem wpSIn_mono {c : Code} {cs : List Frame} {Q Q' : Exit → Act → List Frame → World → Prop} (h : c.wpSIn F m P Q a cs w) (hq : ∀ e a cs w, Q e a cs w → Q' e a cs w) : c.wpSIn F m P Q' a cs w := fun b k hb hr hF hroom =>
  let ⟨e, a', cs', w', hl, q, ha⟩ := h b k hb hr hF hroom
  ⟨e, a', cs', w', hl, hq _ _ _ _ q, ha⟩
def ResD (ρ : Rho) (W : AW) (w : World) (n : Nat) (tm : T Value) (W' : AW) (a' : Act) (w' : World) : Prop := a'.defers = [] ∧ ∃ ρ', TR ρ' n tm.get a'.tmps ∧ WR ρ' W' w' ∧ Up ρ W w ρ' W' w'
def PostD (ρ : Rho) (W : AW) (w : World) (n : Nat) (r : CR) (cs : List Frame) : Exit → Act → List Frame → World → Prop
  | .normal, a', cs', w' => cs' = cs ∧ ∃ tm ds W', r = .nrm tm ds W' ∧ ResD ρ W w n tm W' a' w'
  | .ret, a', cs', w' => cs' = cs ∧ ∃ tm ds W', r = .ret tm ds W' ∧ ResD ρ W w n tm W' a' w'
  | _, _, _, _ => False
theorem ResD.pre {W0 : AW} {w0 : World} {ρ0 : Rho} {W2 : AW} {a' : Act} (hu : Up ρ0 W0 w0 ρ W w) (h : ResD ρ W w n tm W2 a' w') : ResD ρ0 W0 w0 n tm W2 a' w' := by
  obtain ⟨h0, ρ2, h1, h3, h4⟩ := h
  exact ⟨h0, ρ2, h1, h3, hu.trans h4⟩
theorem PostD.pre {W0 : AW} {w0 : World} {ρ0 : Rho} {r : CR} {cs : List Frame} (hu : Up ρ0 W0 w0 ρ W w) : ∀ (e : Exit) (a' : Act) (cs' : List Frame) (w' : World), PostD ρ W w n r cs e a' cs' w' → PostD ρ0 W0 w0 n r cs e a' cs' w'
  | .normal, _, _, _, ⟨h0, tm, ds, W2, h1, h2⟩ => ⟨h0, tm, ds, W2, h1, h2.pre hu⟩
  | .ret, _, _, _, ⟨h0, tm, ds, W2, h1, h2⟩ => ⟨h0, tm, ds, W2, h1, h2.pre hu⟩
theorem isRec_ok {o : Oper} (h : isRec o.op = true) : (execOp a.eval o).run P w = .ok .recover w := by
  unfold isRec at h
  split at h
  · rename_i x y ho
    simp [execOp, ho, resolve, invoke, builtin]
  · cases h
theorem regD_ok {ops : Array Oper} {cs : List Frame} (hcs : recoverD cs = none) : ∀ (l : List Oper) (k : Nat) (ρ : Rho) (tm : T Value) (W : AW) (a : Act) (w : World) (Q : Exit → Act → List Frame → World → Prop), (∀ j, l[j]? = ops[k + j]?) → okR (regD P n ops.toList l tm W) → TR ρ n tm.get a.tmps → a.defers = [] → WR ρ W w →
    (∀ tm' ds' W' a' w', regD P n ops.toList l tm W = .nrm tm' ds' W' → ResD ρ W w n tm' W' a' w' → Q .normal a' cs w') → wpOpsSIn Fence.wide m P ops Q (List.range' k l.length) a cs w
  | [], k, ρ, tm, W, a, w, Q, hl, e, hT, hD, hW, hQ => hQ tm [] W a w rfl ⟨hD, ρ, hT, hW, .rfl ρ W w⟩
  | o :: l, k, ρ, tm, W, a, w, Q, hl, e, hT, hD, hW, hQ => by
    have h0 : ops[k]? = some o := by have := hl 0; simpa using this.symm
    have hl2 : ∀ j, l[j]? = ops[(k + 1) + j]? := fun j => by
      have := hl (j + 1)
      rw [show k + 1 + j = k + (j + 1) by omega, ← this]; simp
    have heq0 : regD P n ops.toList (o :: l) tm W = (wantV ops.toList tm.get o.guard).th fun b => @Bool.rec (fun _ => CR) (putD n o.dst tm undef fun tm => regD P n ops.toList l tm W) (@Bool.rec (fun _ => CR) ((oper P tm.get W o.op).th (skipR n o.dst tm (regD P n ops.toList l))) (putD n o.dst tm .nilIface fun tm => regD P n ops.toList l tm W) (isRec o.op)) b := rfl
    rw [heq0] at e hQ
    obtain ⟨b, h1, e1⟩ := Eth_ok e
    rw [h1] at hQ
    change ∀ tm' ds' W' a' w', @Bool.rec (fun _ => CR) (putD n o.dst tm undef fun tm => regD P n ops.toList l tm W) (@Bool.rec (fun _ => CR) ((oper P tm.get W o.op).th (skipR n o.dst tm (regD P n ops.toList l))) (putD n o.dst tm .nilIface fun tm => regD P n ops.toList l tm W) (isRec o.op)) b = .nrm tm' ds' W' → _ at hQ
    have hw := wantV_ok h1 hT
    show wpOpsSIn Fence.wide m P ops Q (k :: List.range' (k + 1) l.length) a cs w
    simp only [wpOpsSIn, h0]
    refine ⟨fun f _ => trivial, ?_⟩
    rw [hw]
    cases b with
    | false =>
      obtain ⟨tm', h2, h3, h4⟩ := putD_ok (k := fun tm => regD P n ops.toList l tm W) e1
      simp only [Bool.false_eq_true, if_false]
      exact regD_ok hcs l (k + 1) ρ tm' W _ w Q hl2 h3 (TR.put hT VR.undef (pg h4)) (by rw [put_defers]; exact hD) hW fun tm2 ds2 W2 a2 w2 k1 k2 => hQ tm2 ds2 W2 a2 w2 (h2.trans k1) k2
    | true =>
      simp only [if_true]
      cases hr : isRec o.op with
      | true =>
        rw [hr] at e1 hQ
        rw [isRec_ok hr]
        simp only [hcs]
        obtain ⟨tm', h2, h3, h4⟩ := putD_ok (k := fun tm => regD P n ops.toList l tm W) e1
        exact regD_ok hcs l (k + 1) ρ tm' W _ w Q hl2 h3 (TR.put hT (.flat rfl) (pg h4)) (by rw [put_defers]; exact hD) hW fun tm2 ds2 W2 a2 w2 k1 k2 => hQ tm2 ds2 W2 a2 w2 (h2.trans k1) k2
      | false =>
        rw [hr] at e1 hQ
        obtain ⟨r, h2, e2⟩ := Eth_ok (x := oper P tm.get W o.op) e1
        have heq1 : (oper P tm.get W o.op).th (skipR n o.dst tm (regD P n ops.toList l)) = skipR n o.dst tm (regD P n ops.toList l) r := by rw [h2]; rfl
        have hrr := oper_ok o h2 hT hW
        cases r with
        | val v W1 =>
          obtain ⟨v', w', ρ', h5, h6, h7, h8⟩ := hrr
          rw [h5]
          obtain ⟨tm', g2, g3, g4⟩ := putD_ok (k := fun tm => regD P n ops.toList l tm W1) e2
          exact regD_ok hcs l (k + 1) ρ' tm' W1 _ w' Q hl2 g3 (TR.put (hT.mono h8.le) h6 (pg g4)) (by rw [put_defers]; exact hD) h7 fun tm2 ds2 W2 a2 w2 k1 k2 => hQ tm2 ds2 W2 a2 w2 ((heq1.trans g2).trans k1) (k2.pre h8)
        | skip W1 =>
          obtain ⟨w', ρ', h5, h7, h8⟩ := hrr
          rw [h5]
          obtain ⟨tm', g2, g3, g4⟩ := putD_ok (k := fun tm => regD P n ops.toList l tm W1) e2
          exact regD_ok hcs l (k + 1) ρ' tm' W1 _ w' Q hl2 g3 (TR.put (hT.mono h8.le) VR.undef (pg g4)) (by rw [put_defers]; exact hD) h7 fun tm2 ds2 W2 a2 w2 k1 k2 => hQ tm2 ds2 W2 a2 w2 ((heq1.trans g2).trans k1) (k2.pre h8)
        | enter f xs W1 => exact absurd rfl (e2 _)
        | yield l1 xs W1 => exact absurd rfl (e2 _)
theorem codeD_ok {cs : List Frame} (hcs : recoverD cs = none) : ∀ (c : Code) (ρ : Rho) (tm : T Value) (W : AW) (a : Act) (w : World), okR (codeD P n c tm W) → TR ρ n tm.get a.tmps → a.defers = [] → WR ρ W w → c.wpSIn Fence.wide m P (PostD ρ W w n (codeD P n c tm W) cs) a cs w := by
  intro c
  induction c with
  | skip => exact fun ρ tm W a w e hT hD hW => wpSIn_of_wpIn rfl (wpIn_skip ⟨rfl, tm, [], W, rfl, hD, ρ, hT, hW, .rfl ρ W w⟩)
  | label l => exact fun ρ tm W a w e hT hD hW => wpSIn_of_wpIn rfl (wpIn_label ⟨rfl, tm, [], W, rfl, hD, ρ, hT, hW, .rfl ρ W w⟩)
  | ret => exact fun ρ tm W a w e hT hD hW => wpSIn_of_wpIn rfl (wpIn_ret ⟨rfl, tm, [], W, rfl, hD, ρ, hT, hW, .rfl ρ W w⟩)
  | region id ops d =>
    intro ρ tm W a w e hT hD hW
    cases d with
    | true => exact absurd rfl (e _)
    | false =>
      refine wpSIn_region ?_
      rw [List.range_eq_range', show ops.size = ops.toList.length by simp]
      exact regD_ok hcs ops.toList 0 ρ tm W a w _ (fun j => by simp) e hT hD hW fun tm' ds' W' a' w' h1 h2 => ⟨rfl, tm', ds', W', h1, h2⟩
  | seq x y ihx ihy =>
    intro ρ tm W a w e hT hD hW
    have heq : codeD P n (.seq x y) tm W = @CR.rec (fun _ => CR) (fun tm _ W => codeD P n y tm W) .ext .ret .er (codeD P n x tm W) := rfl
    rw [heq] at e ⊢
    have hok : okR (codeD P n x tm W) := fun s h => by rw [h] at e; exact e s rfl
    refine wpSIn_seq (wpSIn_mono (ihx ρ tm W a w hok hT hD hW) fun q a' cs' w' hp => ?_)
    cases q with
    | normal =>
      obtain ⟨rfl, tm1, ds1, W1, h1, h0, ρ1, h2, h3, h4⟩ := hp
      rw [h1] at e ⊢
      exact wpSIn_mono (ihy ρ1 tm1 W1 a' w' e h2 h0 h3) (PostD.pre h4)
    | ret =>
      obtain ⟨rfl, tm1, ds1, W1, h1, h2⟩ := hp
      exact ⟨rfl, tm1, ds1, W1, by rw [h1], h2⟩
    | exit id => exact hp.elim
    | goto l => exact hp.elim
    | panic c => exact hp.elim
    | outgrown => exact hp.elim
  | cond c x y ihx ihy =>
    intro ρ tm W a w e hT hD hW
    obtain ⟨v, h1, e1⟩ := Eth_ok (x := val tm.get c) e
    have hv := val_ok hT h1
    have hs : codeD P n (.cond c x y) tm W = cndD (codeD P n x) (codeD P n y) tm W v := by
      show (val tm.get c).th _ = _
      rw [h1]; rfl
    rw [hs]
    cases v <;> first | exact absurd rfl (e1 _) | skip
    rename_i b
    refine wpSIn_cond (t := b) hv.bool ?_
    cases b with
    | true => exact ihx ρ tm W a w e1 hT hD hW
    | false => exact ihy ρ tm W a w e1 hT hD hW
  | _ => intro ρ tm W a w e; exact absurd rfl (e _)
theorem Ebd {α β : Type} {x : E α} {k : α → E β} {b : β} (h : x.bd k = .ok b) : ∃ a, x = .ok a ∧ k a = .ok b := bd_ok h
theorem callD_ok {g : Nat} {xs' : Array Value} (e : callD P g xs W = .ok W') (hx : LR ρ xs xs'.toList) (h : WR ρ W w) (hG : GR ρ) (m : Nat) : (∀ args w, (callFunc g args).run P w = .ok (.enter g args) w) ∧ CallsDIn Fence.wide m P g xs' .returning w (fun e u' w' => ∃ v', e = .returned v' ∧ u' = .returning ∧ ∃ ρ', WR ρ' W' w' ∧ Up ρ W w ρ' W' w') := by
  obtain ⟨⟨fn, c⟩, h1, e1⟩ := bd_ok e
  obtain ⟨hf, hb, hcf⟩ := callee_ok h1
  refine ⟨hcf, ?_⟩
  rcases bl_ok e1 with ⟨hn, e2⟩ | ⟨_, e2⟩
  · have hn : xs.length ≤ fn.ntmps := Nat.le_of_ble_eq_true hn
    obtain ⟨tm, h2, e3⟩ := bd_ok (x := sets xs .nil 0) e2
    have hxl : xs.length = xs'.size := by rw [hx.length]; simp
    have hT : TR ρ fn.ntmps tm.get (xs' ++ Array.replicate (fn.ntmps - xs'.size) undef) := by
      refine ⟨by simp; omega, fun t u hu => ?_, hG⟩
      rw [sets_get h2] at hu
      split at hu
      · rename_i ht
        simp at hu
        obtain ⟨u', h3, h4⟩ := hx.get hu
        have h5 : t < xs'.size := by omega
        exact ⟨u', by rw [Array.getElem?_append, if_pos h5]; simpa using h3, h4⟩
      · simp [get_nil] at hu
    dsimp only at e3 hf hb
    have hok : okR (codeD P fn.ntmps c tm W) := fun s hs => by rw [hs] at e3; cases e3
    refine callsDIn_of_wpSIn hf hb trivial fun c₀ cs hu => ?_
    have hcs : recoverD (c₀ :: cs) = none := by
      simp [recoverD, hu]
    have hc0 : ({ c₀ with mode := .returning } : Frame) = c₀ := by cases c₀; cases hu; rfl
    refine wpSIn_mono (codeD_ok (m := m) hcs c ρ tm W { tmps := xs' ++ Array.replicate (fn.ntmps - xs'.size) undef, defers := [] } w hok hT rfl h) fun q a' cs' w' hp => ?_
    have fin : ∀ tm2 W2, leaveD P fn tm2 W2 = .ok W' → cs' = c₀ :: cs → ResD ρ W w fn.ntmps tm2 W2 a' w' → a'.defers = [] ∧ ∃ u', cs' = { c₀ with mode := u' } :: cs ∧ ∃ v, (results fn a'.tmps).run P w' = .ok v w' ∧ ∃ v', Ending.returned v = .returned v' ∧ u' = .returning ∧ ∃ ρ', WR ρ' W' w' ∧ Up ρ W w ρ' W' w' := by
      intro tm2 W2 hl hc ⟨hd, ρ2, g1, g2, g3⟩
      obtain ⟨vs, g4, g5⟩ := bd_ok hl
      cases g5
      obtain ⟨v', _, g6⟩ := results_ok g4 g1 g2
      exact ⟨hd, .returning, by rw [hc, hc0], v', g6, v', rfl, rfl, ρ2, g2, g3⟩
    cases q with
    | normal =>
      obtain ⟨hc, tm2, ds, W2, h3, h4⟩ := hp
      rw [h3] at e3
      exact fin tm2 W2 e3 hc h4
    | ret =>
      obtain ⟨hc, tm2, ds, W2, h3, h4⟩ := hp
      rw [h3] at e3
      exact fin tm2 W2 e3 hc h4
    | exit id => exact hp.elim
    | goto l => exact hp.elim
    | panic c => exact hp.elim
    | outgrown => exact hp.elim
  · cases e2
/-- the deferred calls and the marks -/
theorem leave_ok {fn : Func} {a' : Act} : ∀ {ds : List DD} {dd : List Deferred} {ρ : Rho} {W : AW} {w : World} {R : Ending → World → Prop}, DR ρ ds dd → leave P fn tm ds W = .ok v W' → TR ρ n tm.get a'.tmps → WR ρ W w → (∀ v' w' ρ', VR ρ' v v' → WR ρ' W' w' → Up ρ W w ρ' W' w' → R (.returned v') w') → LeavesInM Fence.wide m P fn a'.tmps R dd .returning w
  | [], _, ρ, W, w, R, .nil, e, hT, h, hR => by
    obtain ⟨W1, h1, e1⟩ := Evc_ok e
    cases h1
    obtain ⟨vs, h2, e2⟩ := Evc_ok e1
    cases e2
    obtain ⟨v', h3, h4⟩ := results_ok h2 hT h
    exact ⟨v', h4, hR v' w ρ h3 h (.rfl ρ _ w)⟩
  | .mark D :: ds, _, ρ, W, w, R, .mark hD ht, e, hT, h, hR => by
    obtain ⟨W1, h1, e1⟩ := Evc_ok e
    obtain ⟨ao, h2, e2⟩ := bd_ok (x := E.of "mark" (W.heap.get D)) h1
    have h2 := of_ok h2
    rcases bl_ok e2 with ⟨h3, e3⟩ | ⟨_, e3⟩
    · obtain ⟨H, h4, e4⟩ := bd_ok e3
      cases ao <;> first | cases h3 | skip
      obtain ⟨_, ao2, o, g1, g2, g3⟩ := h.dom D _ 0 hD
      rw [h2] at g1; cases g1
      have hob : o = .deferred (some []) := by
        cases o <;> simp only [OR] at g3
        rename_i c
        rcases c with _ | _ | _ <;> simp only at g3 <;> rfl
      subst hob
      obtain ⟨g4, g5⟩ := obj_ok (ao' := .dead) (o' := .deferred none) h hD h2 rfl h4 (fun _ _ h => by cases h) trivial
      refine ⟨fun h => (by cases h), .inl ⟨_, _, rfl, run_takeDeferred g2, ?_⟩⟩
      refine leave_ok (W := ⟨H, W.next⟩) ht ?_ hT g4 fun v' w' ρ' k1 k2 k3 => hR v' w' ρ' k1 k2 (g5.trans k3)
      have e4 : shut P ds ⟨H, W.next⟩ = .ok W1 := e4
      show (shut P ds ⟨H, W.next⟩).vc _ = _
      rw [e4]
      exact e1
    · cases e3
  | .call g xs :: ds, _, ρ, W, w, R, .call (cap := cap) (da := da) hx ht, e, hT, h, hR => by
    obtain ⟨W1, h1, e1⟩ := Evc_ok e
    obtain ⟨W2, h2, e2⟩ := bd_ok (x := callD P g xs W) h1
    obtain ⟨hcf, hcall⟩ := callD_ok h2 hx h hT.3 (m - 1)
    refine ⟨fun h => (by cases h), .inr ⟨fun h => (by cases h), .func g, cap, g, da ++ cap, rfl, hcf _ _, fun _ _ => trivial, CallsDIn.mono hcall fun e u' w' he => ?_⟩⟩
    obtain ⟨v1, rfl, rfl, ρ', g1, g2⟩ := he
    refine leave_ok (W := W2) (ht.mono g2.le) ?_ (hT.mono g2.le) g1 fun v' w2 ρ2 k1 k2 k3 => hR v' w2 ρ2 k1 k2 (g2.trans k3)
    have e2 : shut P ds W2 = .ok W1 := e2
    show (shut P ds W2).vc _ = _
    rw [e2]
    exact e1
theorem callG_ok (hi : Snd P ih) {g : Nat} {xs' : Array Value} (e : callG P ih g xs W = .ok v W') (hx : LR ρ xs xs'.toList) (h : WR ρ W w) (hG : GR ρ) (m : Nat) : (∀ args w, (callFunc g args).run P w = .ok (.enter g args) w) ∧ CallsIn Fence.wide m P g xs' w (fun e w' => ∃ v' ρ', e = .returned v' ∧ VR ρ' v v' ∧ WR ρ' W' w' ∧ Up ρ W w ρ' W' w') := by
  have e : @Option.rec VC (fun _ => VC) ((callee P g).vc fun p => callB P ih p.1 p.2 xs W) (fun r => r) (ih.tab g xs W) = .ok v W' := e
  cases ht : ih.tab g xs W with
  | some r =>
    rw [ht] at e
    have e : r = .ok v W' := e
    subst e
    exact hi.tab g xs W v W' ρ w xs' m ht hx h hG
  | none =>
  rw [ht] at e
  have e : ((callee P g).vc fun p => callB P ih p.1 p.2 xs W) = .ok v W' := e
  obtain ⟨⟨fn, c⟩, h1, e1⟩ := Evc_ok e
  obtain ⟨hf, hb, hcf⟩ := callee_ok h1
  refine ⟨hcf, ?_⟩
  change @Bool.rec (fun _ => VC) (.er "arguments") _ (Nat.ble xs.length fn.ntmps) = .ok v W' at e1
  cases hn : Nat.ble xs.length fn.ntmps with
  | false => rw [hn] at e1; cases e1
  | true =>
    rw [hn] at e1
    have hn := Nat.le_of_ble_eq_true hn
    obtain ⟨tm, h2, e2⟩ := Evc_ok (x := sets xs .nil 0) e1
    have hxl : xs.length = xs'.size := by rw [hx.length]; simp
    have hT : TR ρ fn.ntmps tm.get (xs' ++ Array.replicate (fn.ntmps - xs'.size) undef) := by
      refine ⟨by simp; omega, fun t u hu => ?_, hG⟩
      rw [sets_get h2] at hu
      split at hu
      · rename_i ht
        simp at hu
        obtain ⟨u', h3, h4⟩ := hx.get hu
        have h5 : t < xs'.size := by omega
        exact ⟨u', by rw [Array.getElem?_append, if_pos h5]; simpa using h3, h4⟩
      · simp [get_nil] at hu
    have hok : okR (ih ⟨fn.ntmps, none⟩ c tm [] W) := fun s hs => by rw [hs] at e2; cases e2
    have hw := hi.code ⟨fn.ntmps, none⟩ c tm [] W ρ w { tmps := xs' ++ Array.replicate (fn.ntmps - xs'.size) undef, defers := [] } Fence.wide m hok rfl hT .nil h
    refine callsIn_of_wp_marks hf hb trivial (wpIn_mono hw fun e a' w' hp => ?_)
    cases e with
    | normal =>
      obtain ⟨tm2, ds, W2, h3, ρ2, h4, h5, h6, h7⟩ := hp
      rw [h3] at e2
      exact leave_ok h5 e2 h4 h6 fun v' w'' ρ' k1 k2 k3 => ⟨v', ρ', rfl, k1, k2, h7.trans k3⟩
    | ret =>
      obtain ⟨tm2, ds, W2, h3, ρ2, h4, h5, h6, h7⟩ := hp
      rw [h3] at e2
      exact leave_ok h5 e2 h4 h6 fun v' w'' ρ' k1 k2 k3 => ⟨v', ρ', rfl, k1, k2, h7.trans k3⟩
    | exit id =>
      obtain ⟨tm2, ds, W2, h3, _⟩ := hp
      rw [h3] at e2; cases e2
    | goto l => exact hp.elim
    | panic c => exact hp.elim
    | outgrown => exact hp.elim
/-- the end of a round -/
theorem endR_ok {l l' k : Nat} {jump : Option Code} {b : Bool} (hj : jump.isNone = b) (e : endR l jump b W = .ok v W') (h : WR ρ W w) (hl : ρ l = some (l', k)) : ∃ w', (Instr.endRound l' jump).run P w = .ok (.bool b) w' ∧ v = .bool b ∧ WR ρ W' w' ∧ Up ρ W w ρ W' w' := by
  obtain ⟨L, h1, e1⟩ := Evc_ok e
  obtain ⟨W2, h2, e2⟩ := Evc_ok e1
  cases e2
  obtain ⟨R, h3, h4, h5⟩ := loop_ok h h1 hl
  have hr := run_endRound (P := P) jump h3
  rw [hj] at hr
  have h6 : OR ρ k (.loop { L with state := bl b .ready .done, pending := jump }) (.loop { R with state := if b = true then .ready else .done, pending := jump }) := by
    simp only [OR] at h4
    show _ ∧ _ ∧ _ ∧ _ ∧ _ ∧ _ ∧ _
    exact ⟨by cases b <;> rfl, rfl, h4.2.2.1, h4.2.2.2.1, h4.2.2.2.2.1, h4.2.2.2.2.2.1, h4.2.2.2.2.2.2⟩
  obtain ⟨g1, g2⟩ := setL_ok h h5 hl h6 h2
  exact ⟨_, hr, rfl, g1, g2⟩
theorem roundG_ok (hi : Snd P ih) {l l' k : Nat} {xs' : Array Value} (e : roundG P ih l xs W = .ok v W') (hx : LR ρ xs xs'.toList) (h : WR ρ W w) (hl : ρ l = some (l', k)) (m : Nat) :
    ∃ f ts x y, (Instr.yield l' xs').run P w = .ok (.round l' f ts x y) w ∧ RoundIn Fence.wide m P l' f ts x y w (fun e w' => ∃ v' ρ', e = .returned v' ∧ VR ρ' v v' ∧ WR ρ' W' w' ∧ Up ρ W w ρ' W' w') := by
  obtain ⟨L, h1, e1⟩ := Evc_ok e
  obtain ⟨tm, h2, e2⟩ := Evc_ok e1
  obtain ⟨R, h3, h4, h5⟩ := loop_ok h h1 hl
  simp only [OR] at h4
  obtain ⟨o1, o2, o3, o4, o5, o6, o7⟩ := h4
  obtain ⟨hT, hlen⟩ := zipS_ok h2 hx o7
  have hsz : xs'.size = R.params.size := by
    have : R.params.toList.length = xs'.toList.length := by rw [o3]; exact hlen
    simpa using this.symm
  have hTr : TR ρ L.n tm.get ((R.params.zip xs').foldl (fun ts (t, a) => ts.setIfInBounds t a) R.tmps) := by
    rw [← o3] at hT
    rw [← Array.foldl_toList, Array.toList_zip]
    exact hT
  refine ⟨_, _, _, _, run_yield h3 hsz, ?_⟩
  have hok : okR (ih ⟨L.n, some l⟩ L.assign tm [] W) := fun s hs => by rw [hs] at e2; cases e2
  have hw := hi.code ⟨L.n, some l⟩ L.assign tm [] W ρ w { tmps := (R.params.zip xs').foldl (fun ts (t, a) => ts.setIfInBounds t a) R.tmps, defers := [] } (Fence.wide.inRound l') m hok ⟨l', k, hl, rfl⟩ hTr .nil h
  rw [o4, o5]
  refine roundIn_of_wpIn trivial (wpIn_mono hw fun e1 a1 w1 hp => ?_)
  cases e1 with
  | normal =>
    obtain ⟨tm2, ds2, W2, h6, ρ2, h7, h8, h9, h10⟩ := hp
    rw [h6] at e2
    cases h8' : ds2 with
    | cons D ds3 => rw [h8'] at e2; cases e2
    | nil =>
      subst h8'
      generalize ha1 : a1.defers = dd1 at h8
      cases h8
      obtain ⟨L2, h11, e3⟩ := Evc_ok (x := W2.loop l) e2
      have hl2 := h10.le _ _ hl
      obtain ⟨R2, g1, g2, g3⟩ := loop_ok h9 h11 hl2
      simp only [OR] at g2
      obtain ⟨p1, p2, p3, p4, p5, p6, p7⟩ := g2
      cases hrd : Ke.ready L2 with
      | false => simp only [hrd] at e3; cases e3
      | true =>
        simp only [hrd] at e3
        obtain ⟨W3, h12, e4⟩ := Evc_ok e3
        have hst : L2.state = .ready := by
          unfold Ke.ready at hrd
          split at hrd
          · assumption
          · cases hrd
        have h13 : OR ρ2 k (.loop { L2 with state := .busy }) (.loop { R2 with state := .busy }) := ⟨rfl, p2, p3, p4, p5, p6, p7⟩
        obtain ⟨g4, g5⟩ := setL_ok h9 g3 hl2 h13 h12
        refine ⟨_, run_beginRound g1 (by rw [p1, hst]), ?_⟩
        have hok2 : okR (ih ⟨L.n, some l⟩ L.body tm2 [] W3) := fun s hs => by
          unfold roundB at e4
          rw [hs] at e4; cases e4
        have hw2 := hi.code ⟨L.n, some l⟩ L.body tm2 [] W3 ρ2 _ a1 (Fence.wide.inRound l') m hok2 ⟨l', k, hl2, rfl⟩ h7 (by rw [ha1]; exact .nil) g4
        refine wpIn_mono hw2 fun e5 a5 w5 hp5 => ?_
        have hu5 := (h10.trans g5)
        unfold roundB at e4
        cases e5 with
        | normal =>
          obtain ⟨tm6, ds6, W6, q1, ρ6, q2, q3, q4, q5⟩ := hp5
          rw [q1] at e4
          obtain ⟨w7, r1, rfl, r2, r3⟩ := endR_ok (P := P) (jump := none) (b := true) rfl e4 q4 (q5.le _ _ hl2)
          exact ⟨_, w7, r1, _, ρ6, rfl, .flat rfl, r2, (hu5.trans q5).trans r3⟩
        | ret =>
          obtain ⟨tm6, ds6, W6, q1, ρ6, q2, q3, q4, q5⟩ := hp5
          rw [q1] at e4
          obtain ⟨w7, r1, rfl, r2, r3⟩ := endR_ok (P := P) (jump := some .ret) (b := false) rfl e4 q4 (q5.le _ _ hl2)
          exact ⟨_, w7, r1, _, ρ6, rfl, .flat rfl, r2, (hu5.trans q5).trans r3⟩
        | exit id =>
          obtain ⟨tm6, ds6, W6, q1, ρ6, q2, q3, q4, q5⟩ := hp5
          rw [q1] at e4
          obtain ⟨w7, r1, rfl, r2, r3⟩ := endR_ok (P := P) (jump := some (.exit id)) (b := false) rfl e4 q4 (q5.le _ _ hl2)
          exact ⟨_, w7, r1, _, ρ6, rfl, .flat rfl, r2, (hu5.trans q5).trans r3⟩
        | goto t => exact hp5.elim
        | panic c => exact hp5.elim
        | outgrown => exact hp5.elim
  | exit id => obtain ⟨tm2, ds2, W2, h6, _⟩ := hp; rw [h6] at e2; cases e2
  | ret => obtain ⟨tm2, ds2, W2, h6, _⟩ := hp; rw [h6] at e2; cases e2
  | goto l => exact hp.elim
  | panic c => exact hp.elim
  | outgrown => exact hp.elim
/-! ### operations in a frame -/
theorem FF.sem {rd : Option Nat} (_ : FF ρ rd F) (o : Oper) (hd : ∀ c, o.op ≠ .defer c) : Oper.semAt F.round a.eval o = execOp a.eval o := Oper.semAt_eq _ _ _ hd
theorem oper_defer {g : Nat → Option Value} {o : Op} {r : R} (e : oper P g W o = .ok r) (c : Call) : o ≠ .defer c := by
  intro h
  subst h
  cases e
/-- one operation that is wanted; g: what the temporaries hold that it looks at -/
theorem exec_gen (hi : Snd P ih) {rd : Option Nat} (hF : FF ρ rd F) {o : Oper} {g : Nat → Option Value} {r : R} {k : T Value → AW → CR} (h1 : oper P g W o.op = .ok r) (e : okR (execR P ih n o.dst tm k r)) (hT : TR ρ n g a.tmps) (hW : WR ρ W w) (K : Act → World → Prop)
    (hk : ∀ tm' W' w' ρ' v v', execR P ih n o.dst tm k r = k tm' W' → okR (k tm' W') → VR ρ' v v' → ((o.dst = none ∧ tm' = tm) ∨ ∃ t, o.dst = some t ∧ t < n ∧ ∀ j, tm'.get j = if j = t then some v else tm.get j) → WR ρ' W' w' → Up ρ W w ρ' W' w' → K (a.put o.dst v') w') : o.wpIn F m P a w K Q := by
  have hrr := oper_ok o h1 hT hW
  refine ⟨fun f _ => hF.fn f, ?_⟩
  rw [hF.sem o (oper_defer h1)]
  cases r with
  | val v W' =>
    obtain ⟨v', w', ρ', h2, h3, h4, h5⟩ := hrr
    rw [h2]
    obtain ⟨tm', h6, h7, h8⟩ := putD_ok (k := fun tm => k tm W') e
    exact hk tm' W' w' ρ' v v' h6 h7 h3 h8 h4 h5
  | skip W' =>
    obtain ⟨w', ρ', h2, h4, h5⟩ := hrr
    rw [h2]
    obtain ⟨tm', h6, h7, h8⟩ := putD_ok (k := fun tm => k tm W') e
    exact hk tm' W' w' ρ' undef undef h6 h7 VR.undef h8 h4 h5
  | enter f xs W1 =>
    obtain ⟨xs', h2, rfl, h3⟩ := hrr
    obtain ⟨v, W', h4, e2⟩ := Vth_ok e
    obtain ⟨hcf, hcall⟩ := callG_ok hi h4 h2 hW hT.3 (m - 1)
    rw [h3, hcf]
    refine ⟨fun hd => (by rw [hF.depth] at hd; cases hd), CallsIn.mono (hF.calls hcall) fun e w' he => ?_⟩
    obtain ⟨v', ρ', rfl, h5, h6, h7⟩ := he
    obtain ⟨tm', h8, h9, h10⟩ := putD_ok (k := fun tm => k tm W') e2
    refine hk tm' W' w' ρ' v v' ?_ h9 h5 h10 h6 h7
    show (callG P ih f xs W1).th _ = _
    rw [h4]; exact h8
  | yield l xs W1 =>
    obtain ⟨l', kk, xs', hl, h2, rfl, h3⟩ := hrr
    obtain ⟨v, W', h4, e2⟩ := Vth_ok e
    obtain ⟨f, ts, x, y, hy, hround⟩ := roundG_ok hi h4 h2 hW hl (m - 1)
    rw [h3, hy]
    refine ⟨fun hd => (by rw [hF.depth] at hd; cases hd), RoundIn.mono (hF.rounds hround) fun e w' he => ?_⟩
    obtain ⟨v', ρ', rfl, h5, h6, h7⟩ := he
    obtain ⟨tm', h8, h9, h10⟩ := putD_ok (k := fun tm => k tm W') e2
    refine hk tm' W' w' ρ' v v' ?_ h9 h5 h10 h6 h7
    show (roundG P ih l xs W1).th _ = _
    rw [h4]; exact h8
theorem exec_eq {o : Oper} {r : R} {k : T Value → AW → CR} (h1 : oper P tm.get W o.op = .ok r) : exec P ih n o tm W k = execR P ih n o.dst tm k r := by
  show (oper P tm.get W o.op).th _ = _
  rw [h1]; rfl
theorem deferOf_ok {o : Op} {c : Call} (h : deferOf o = some c) : o = .defer c := by
  unfold deferOf at h
  split at h <;> cases h
  rfl
theorem deferOf_none {o : Op} (h : deferOf o = none) (c : Call) : o ≠ .defer c := fun e => by subst e; cases h
theorem defV_ok {g : Nat → Option Value} {c : Call} {d : DD} {o : Oper} (e : defV g c = .ok d) (ho : o.op = .defer c) (h : TR ρ n g a.tmps) (dd : List Deferred) (ds : List DD) (hD : DR ρ ds dd) (w : World) : ∃ d', (execOp a.eval o).run P w = .ok (.defer d') w ∧ DR ρ (d :: ds) (d' :: dd) := by
  obtain ⟨xs, h1, e1⟩ := bd_ok e
  have hxs := vals_ok h h1
  split at e1
  · rename_i f hc
    obtain ⟨fv, h2, e2⟩ := bd_ok e1
    have hf := val_ok h h2
    unfold defF at e2
    split at e2
    · cases e2
      obtain ⟨f', x1, y1, hf', g1, g2, g3⟩ := hf.func'
      cases hf'
      refine ⟨{ target := .fn (.func _) y1, args := x1 ++ c.args.map a.eval }, ?_, .call ?_ hD⟩
      · simp [execOp, ho, resolve, hc, g3, Deferred.ofValue]
      · simp only [Array.toList_append, Array.toList_map]
        exact (g1.append hxs).append g2
    · cases e2
  · cases e1
/-- a region without a draw -/
theorem region_ok (hi : Snd P ih) {cx : Cx} {ops : Array Oper} : ∀ {l : List Oper} {ρ : Rho} {ds : List DD} {tm : T Value} {W : AW} {a : Act} {w : World}, FF ρ cx.rd F → okR (region P ih cx ops.toList l ds tm W) → TR ρ cx.n tm.get a.tmps → DR ρ ds a.defers → WR ρ W w →
    (∀ tm' ds' a' w' W', region P ih cx ops.toList l ds tm W = .nrm tm' ds' W' → Res ρ W w cx.n tm' ds' W' a' w' → Q .normal a' w') → wpListIn F m P ops Q l a w
  | [], ρ, ds, tm, W, a, w, hF, e, hT, hD, hW, hQ => hQ tm ds a w W rfl ⟨ρ, hT, hD, hW, .rfl ρ W w⟩
  | o :: l, ρ, ds, tm, W, a, w, hF, e, hT, hD, hW, hQ => by
    refine wpListIn_step fun K hK => ?_
    obtain ⟨b, h1, e1⟩ := Eth_ok (x := wantV ops.toList tm.get o.guard) e
    have hw := wantV_ok h1 hT
    rw [hw]
    have heq : region P ih cx ops.toList (o :: l) ds tm W = @Bool.rec (fun _ => CR) (putD cx.n o.dst tm undef fun tm => region P ih cx ops.toList l ds tm W) (@Option.rec Call (fun _ => CR) (exec P ih cx.n o tm W (region P ih cx ops.toList l ds)) (fun c => @Option.rec Nat (fun _ => CR) ((defV tm.get c).th fun d => putD cx.n o.dst tm undef fun tm => region P ih cx ops.toList l (d :: ds) tm W) (fun _ => .er "defer in a round") cx.rd) (deferOf o.op)) b := by
      show (wantV ops.toList tm.get o.guard).th _ = _
      rw [h1]; rfl
    cases b with
    | false =>
      refine ⟨fun f _ => hF.fn f, ?_⟩
      obtain ⟨tm', h2, h3, h4⟩ := putD_ok (k := fun tm => region P ih cx ops.toList l ds tm W) e1
      refine hK _ _ ?_
      refine region_ok hi hF h3 (TR.put hT VR.undef (pg h4)) (by rw [put_defers]; exact hD) hW fun tm' ds' a' w' W' k1 k2 => hQ tm' ds' a' w' W' ((heq.trans h2).trans k1) k2
    | true =>
      simp only [if_true]
      cases hdo : deferOf o.op with
      | none =>
        simp only [hdo] at e1 heq
        obtain ⟨r, h2, e2⟩ := Eth_ok (x := oper P tm.get W o.op) e1
        refine exec_gen hi hF h2 e2 hT hW K fun tm' W' w' ρ' v v' k1 k2 k3 k4 k5 k6 => hK _ _ ?_
        exact region_ok hi (hF.mono k6.le) k2 (TR.put (hT.mono k6.le) k3 (pg k4)) (by rw [put_defers]; exact hD.mono k6.le) k5 fun tm2 ds2 a2 w2 W2 q1 q2 => hQ tm2 ds2 a2 w2 W2 (((heq.trans (exec_eq h2)).trans k1).trans q1) (q2.pre k6)
      | some c =>
        simp only [hdo] at e1 heq
        obtain ⟨nn, rd⟩ := cx
        cases rd with
        | some l0 => exact absurd rfl (e1 _)
        | none =>
          obtain ⟨d, h2, e2⟩ := Eth_ok (x := defV tm.get c) e1
          obtain ⟨tm', h3, h4, h5⟩ := putD_ok (k := fun tm => region P ih ⟨nn, none⟩ ops.toList l (d :: ds) tm W) e2
          obtain ⟨d', h6, h7⟩ := defV_ok (P := P) h2 (deferOf_ok hdo) hT a.defers ds hD w
          have heq2 : region P ih ⟨nn, none⟩ ops.toList (o :: l) ds tm W = region P ih ⟨nn, none⟩ ops.toList l (d :: ds) tm' W := by
            rw [heq]
            show (defV tm.get c).th _ = _
            rw [h2]; exact h3
          have hFw : F = Fence.wide := hF
          have hr : F.round = none := by rw [hFw]; rfl
          refine ⟨fun f _ => by rw [hFw]; trivial, ?_⟩
          rw [hr, Oper.semAt_none, h6, Oper.uponIn_defer]
          refine hK _ _ ?_
          refine region_ok hi (cx := ⟨nn, none⟩) hF h4 ?_ (by rw [put_defers]; exact h7) hW fun tm2 ds2 a2 w2 W2 q1 q2 => hQ tm2 ds2 a2 w2 W2 (heq2.trans q1) q2
          exact TR.put (a := { a with defers := d' :: a.defers }) hT VR.undef (pg h5)
end
end Go.Ke
