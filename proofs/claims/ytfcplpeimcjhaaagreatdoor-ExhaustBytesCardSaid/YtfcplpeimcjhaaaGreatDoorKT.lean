/- The evaluator is right: whatever it gives the model gives, in every world. Conditions: none. -/
import Derived.Test.YtfcplpeimcjhaaaGreatDoorKX
namespace Go.Ke
open Go.RowKit
section
variable {P : Program} {ih : Ev} {ρ ρ' : Rho} {W W' : AW} {w w' : World} {F : Fence} {m n : Nat} {v : Value} {xs : List Value} {tm tm' : T Value} {ds : List DD} {dd : List Deferred} {a : Act} {Q : Exit → Act → World → Prop} {c : Code}
theorem loopW_of (h : c.wpIn F n P (Exit.then (LoopW F n P c Q) Q) a w) : LoopW F n P c Q a w := by
  intro b k cs hro hb hr
  have h0 : (lone (b.atR a (.inLoop c :: k)) cs w).fenced P F := fenced_calm hb hr rfl
  obtain ⟨e, a₁, w₁, hq, harr⟩ := h b (.inLoop c :: k) cs hro hb hr
  cases e with
  | normal =>
    obtain ⟨e₂, a₂, w₂, hq₂, harr₂⟩ := hq b k cs hro hb hr
    exact ⟨e₂, a₂, w₂, hq₂, .of_steps (.head h0 stepR_inLoop harr) harr₂⟩
  | exit id => exact ⟨_, a₁, w₁, hq, .of_steps (.one h0 stepR_inLoop) (.pass (x := .inLoop c) rfl (fun _ _ => .inl (by simp)) harr)⟩
  | goto l => exact ⟨_, a₁, w₁, hq, .of_steps (.one h0 stepR_inLoop) (.pass (x := .inLoop c) rfl (fun _ _ => .inl (by simp)) harr)⟩
  | ret => exact ⟨_, a₁, w₁, hq, .of_steps (.one h0 stepR_inLoop) (.pass (x := .inLoop c) rfl (fun _ _ => .inl (by simp)) harr)⟩
  | panic ch => exact ⟨_, a₁, w₁, hq, .of_steps (.one h0 stepR_inLoop) (.pass (x := .inLoop c) rfl (fun _ _ => .inl (by simp)) harr)⟩
  | outgrown => exact ⟨_, a₁, w₁, hq, .of_steps (.one h0 stepR_inLoop) (.pass (x := .inLoop c) rfl (fun _ _ => .inl (by simp)) harr)⟩
theorem wpIn_loop_of (h : c.wpIn F n P (Exit.then (LoopW F n P c Q) Q) a w) : (Code.loop c).wpIn F n P Q a w := by
  intro b k cs hro hb hr
  have h0 : (lone (b.atR a (.code (.loop c) :: k)) cs w).fenced P F := fenced_calm hb hr rfl
  obtain ⟨e, a₁, w₁, hq, harr⟩ := h b (.inLoop c :: k) cs hro hb hr
  cases e with
  | normal =>
    obtain ⟨e₂, a₂, w₂, hq₂, harr₂⟩ := hq b k cs hro hb hr
    exact ⟨e₂, a₂, w₂, hq₂, .of_steps (.head h0 stepR_loop harr) harr₂⟩
  | exit id => exact ⟨_, a₁, w₁, hq, .of_steps (.one h0 stepR_loop) (.pass (x := .inLoop c) rfl (fun _ _ => .inl (by simp)) harr)⟩
  | goto l => exact ⟨_, a₁, w₁, hq, .of_steps (.one h0 stepR_loop) (.pass (x := .inLoop c) rfl (fun _ _ => .inl (by simp)) harr)⟩
  | ret => exact ⟨_, a₁, w₁, hq, .of_steps (.one h0 stepR_loop) (.pass (x := .inLoop c) rfl (fun _ _ => .inl (by simp)) harr)⟩
  | panic ch => exact ⟨_, a₁, w₁, hq, .of_steps (.one h0 stepR_loop) (.pass (x := .inLoop c) rfl (fun _ _ => .inl (by simp)) harr)⟩
  | outgrown => exact ⟨_, a₁, w₁, hq, .of_steps (.one h0 stepR_loop) (.pass (x := .inLoop c) rfl (fun _ _ => .inl (by simp)) harr)⟩
/-- the part that a loop's body plays in both -/
theorem body_ok (hi : Snd P ih) {cx : Cx} (e : okR (step P ih cx (.loop c) tm ds W)) (hF : FF ρ cx.rd F) (hT : TR ρ cx.n tm.get a.tmps) (hD : DR ρ ds a.defers) (hW : WR ρ W w) : c.wpIn F m P (Exit.then (LoopW F m P c (Post ρ W w cx.n (step P ih cx (.loop c) tm ds W))) (Post ρ W w cx.n (step P ih cx (.loop c) tm ds W))) a w := by
  have hs : step P ih cx (.loop c) tm ds W = @CR.rec (fun _ => CR) (ih cx (.loop c)) .ext .ret .er (ih cx c tm ds W) := rfl
  have hok : okR (ih cx c tm ds W) := fun s h => by rw [hs, h] at e; exact e s rfl
  refine wpIn_mono (hi.code cx c tm ds W ρ w a F m hok hF hT hD hW) fun x a' w' hp => ?_
  cases x with
  | normal =>
    obtain ⟨tm1, ds1, W1, h1, ρ1, h2, h3, h4, h5⟩ := hp
    have h6 : step P ih cx (.loop c) tm ds W = ih cx (.loop c) tm1 ds1 W1 := by rw [hs, h1]
    rw [h6] at e ⊢
    intro b k cs hro hb hr
    obtain ⟨x2, a2, w2, hq, ha⟩ := hi.loop cx c tm1 ds1 W1 ρ1 w' a' F m e (hF.mono h5.le) h2 h3 h4 b k cs hro hb hr
    exact ⟨x2, a2, w2, Post.pre h5 _ _ _ hq, ha⟩
  | exit id =>
    obtain ⟨tm1, ds1, W1, h1, h2⟩ := hp
    exact ⟨tm1, ds1, W1, by rw [hs, h1], h2⟩
  | ret =>
    obtain ⟨tm1, ds1, W1, h1, h2⟩ := hp
    exact ⟨tm1, ds1, W1, by rw [hs, h1], h2⟩
  | goto l => exact hp.elim
  | panic c => exact hp.elim
  | outgrown => exact hp.elim
/-- the call of a range over a function, and what follows -/
theorem rangeE_ok (hi : Snd P ih) {cx : Cx} {l l' k : Nat} {f : Value} {g : Operand} {a0 : Act} (e : okR (rangeE P ih cx l tm ds f W)) (hf : VR ρ f (a0.eval g)) (hl : ρ l = some (l', k)) (hF : FF ρ cx.rd F) (hT : TR ρ cx.n tm.get a.tmps) (hD : DR ρ ds a.defers) (hW : WR ρ W w) :
    ∃ d f' args, (resolve a0.eval (rangeCall g l') 0).run P w = .ok d w ∧ (invoke d.target d.args).run P w = .ok (.enter f' args) w ∧ CallsIn F (m - 1) P f' args w (rangePost F m P l' (Post ρ W w cx.n (rangeE P ih cx l tm ds f W)) a) := by
  obtain ⟨⟨h, x, y⟩, h1, e1⟩ := Eth_ok e
  obtain ⟨v, W1, h2, e2⟩ := Vth_ok e1
  obtain ⟨L, h3, e3⟩ := Eth_ok e2
  have hfv : ∃ xa ya, f = .func (.func h) xa ya ∧ xa.toList = x ∧ ya.toList = y := by
    unfold fnV at h1
    split at h1 <;> cases h1
    exact ⟨_, _, rfl, rfl, rfl⟩
  obtain ⟨xa, ya, rfl, rfl, rfl⟩ := hfv
  obtain ⟨f', x', y', hf', hx, hy, hev⟩ := hf.func'
  cases hf'
  have hargs : LR ρ (xa.toList ++ [Value.func (.yield l) #[] #[]] ++ ya.toList) (x' ++ #[Value.func (.yield l') #[] #[]] ++ y').toList := by
    simp only [Array.toList_append]
    exact (hx.append (.cons (VR.mkFunc (l := []) (l' := []) (m := []) (m' := []) (.yield hl) .nil .nil) .nil)).append hy
  obtain ⟨hcf, hcall⟩ := callG_ok hi h2 hargs hW hT.3 (m - 1)
  dsimp only at hcf hcall h2
  obtain ⟨A, hA⟩ : ∃ A, A = x' ++ #[Value.func (.yield l') #[] #[]] := ⟨_, rfl⟩
  rw [← hA] at hcall
  obtain ⟨B, hB⟩ : ∃ B, B = A ++ y' := ⟨_, rfl⟩
  rw [← hB] at hcall
  have hcall2 := FF.calls hF hcall
  refine ⟨{ target := .fn (.func h) y', args := A }, h, B, ?_, ?_, ?_⟩
  rotate_left 2
  refine CallsIn.mono hcall2 fun en w2 he => ?_
  rotate_left 1
  · have hc : ∀ v, a0.eval (.const v) = v := fun _ => rfl
    simp [resolve, hev, hc, Deferred.ofValue, hA]
  · simp only [invoke]
    rw [hcf, hB]
  · obtain ⟨v', ρ2, rfl, g1, g2, g3⟩ := he
    obtain ⟨R, g4, g5, g6⟩ := loop_ok g2 h3 (g3.le _ _ hl)
    simp only [OR] at g5
    obtain ⟨p1, p2, p3, p4, p5, p6, p7⟩ := g5
    have heq : rangeE P ih cx l tm ds (.func (.func h) xa ya) W = @Bool.rec (fun _ => CR) (.er "busy") ((W1.setL l { L with state := .exhausted }).th fun W => @Option.rec Code (fun _ => CR) (.nrm tm ds W) (fun c => ih cx c tm ds W) L.pending) (notBusy L) := by
      show (callG P ih h (xa.toList ++ [.func (.yield l) #[] #[]] ++ ya.toList) W).th _ = _
      rw [h2]
      show (W1.loop l).th _ = _
      rw [h3]; rfl
    change okR (@Bool.rec (fun _ => CR) (.er "busy") ((W1.setL l { L with state := .exhausted }).th fun W => @Option.rec Code (fun _ => CR) (.nrm tm ds W) (fun c => ih cx c tm ds W) L.pending) (notBusy L)) at e3
    cases hnb : notBusy L with
    | false => rw [hnb] at e3; exact absurd rfl (e3 _)
    | true =>
      rw [hnb] at e3
      obtain ⟨W3, h5, e4⟩ := Eth_ok e3
      have hst : R.state ≠ .busy := by
        rw [p1]
        intro hb
        unfold notBusy at hnb
        rw [hb] at hnb
        cases hnb
      obtain ⟨q1, q2⟩ := setL_ok (L2 := { L with state := .exhausted }) (R := { R with state := .exhausted }) g2 g6 (g3.le _ _ hl) ⟨rfl, p2, p3, p4, p5, p6, p7⟩ h5
      have hrr : rangeE P ih cx l tm ds (.func (.func h) xa ya) W = @Option.rec Code (fun _ => CR) (.nrm tm ds W3) (fun c => ih cx c tm ds W3) L.pending := by
        rw [heq, hnb]
        show (W1.setL l { L with state := .exhausted }).th _ = _
        rw [h5]; rfl
      rw [hrr]
      have hend := run_endLoop (P := P) g4 hst
      have hup := g3.trans q2
      generalize w2.putObj l' (.loop { R with state := .exhausted }) = w4 at hend q1 hup
      refine ⟨R.pending, w4, hend, ?_⟩
      rw [p2]
      change okR (@Option.rec Code (fun _ => CR) (.nrm tm ds W3) (fun c => ih cx c tm ds W3) L.pending) at e4
      revert e4
      cases L.pending with
      | none => exact fun _ => ⟨tm, ds, W3, rfl, ρ2, hT.mono hup.le, hD.mono hup.le, q1, hup⟩
      | some c => exact fun e4 => wpIn_mono (hi.code cx c tm ds W3 ρ2 _ a F m e4 (hF.mono hup.le) (hT.mono hup.le) (hD.mono hup.le) q1) (Post.pre hup)
theorem rangePost_mono {l : Nat} {Q' : Exit → Act → World → Prop} {a' : Act} (h : ∀ e a w, Q e a w → Q' e a w) : ∀ e w, rangePost F m P l Q a' e w → rangePost F m P l Q' a' e w
  | .returned _, w, ⟨jump, w4, h1, h2⟩ => by
    refine ⟨jump, w4, h1, ?_⟩
    cases jump with
    | none => exact h _ _ _ h2
    | some c => exact wpIn_mono h2 h
  | .panicked chain, w, h1 => h _ _ _ h1
  | .outgrown, w, ⟨a0, w0, h1⟩ => ⟨a0, w0, h _ _ _ h1⟩
theorem alloc_size (o : Obj) : (w.alloc o).heap.size = w.heap.size + 1 := by
  show (w.heap.push o).size = _
  simp
theorem rangeF_ok (hi : Snd P ih) {cx : Cx} {g : Operand} {ps : Array Tmp} {x y : Code} (e : okR (rangeF P ih cx g ps.toList x y tm ds W)) (hF : FF ρ cx.rd F) (hT : TR ρ cx.n tm.get a.tmps) (hD : DR ρ ds a.defers) (hW : WR ρ W w) : (Code.rangeFunc g ps x y).wpIn F m P (Post ρ W w cx.n (rangeF P ih cx g ps.toList x y tm ds W)) a w := by
  obtain ⟨n, rd⟩ := cx
  obtain ⟨f, h1, e1⟩ := Eth_ok e
  have hv := val_ok hT h1
  refine wpIn_rangeFunc fun fn hfn => ?_
  cases rd with
  | none =>
    have heq : rangeF P ih ⟨n, none⟩ g ps.toList x y tm ds W = newO W .defd fun D W => newO W (.loop ⟨.ready, none, n, tm, ps.toList, x, y, D⟩) fun l W => rangeE P ih ⟨n, none⟩ l tm (.mark D :: ds) f W := by
      show (val tm.get g).th _ = _
      rw [h1]; rfl
    rw [heq]
    change okR (newO W .defd fun D W => newO W (.loop ⟨.ready, none, n, tm, ps.toList, x, y, D⟩) fun l W => rangeE P ih ⟨n, none⟩ l tm (.mark D :: ds) f W) at e1
    obtain ⟨H1, s1, e2⟩ := Eth_ok (x := W.heap.set 40 W.next .defd) e1
    obtain ⟨g1, g2⟩ := new_ok (m := 0) (ob := .deferred (some [])) (w' := w.alloc (.deferred (some []))) hW s1 (fun _ _ h => by cases h) rfl ⟨rfl, rfl, rfl, rfl⟩
    obtain ⟨H2, s2, e3⟩ := Eth_ok (x := H1.set 40 (W.next + 1) _) e2
    have hD1 : upd ρ W.next w.heap.size 0 W.next = some (w.heap.size, 0) := upd_self
    have hle := Le.trans g2.le (g1.le_upd (w.alloc (.deferred (some []))).heap.size 0)
    obtain ⟨g3, g4⟩ := new_ok (m := 0) (W := ⟨H1, W.next + 1⟩) (ob := .loop { state := .ready, pending := none, fn := fn, tmps := a.tmps, params := ps, assign := x, body := y, defers := w.heap.size }) (w := w.alloc (.deferred (some []))) (w' := (w.alloc (.deferred (some []))).alloc (.loop { state := .ready, pending := none, fn := fn, tmps := a.tmps, params := ps, assign := x, body := y, defers := w.heap.size })) g1 s2 (fun _ _ h => by cases h) ⟨rfl, rfl, rfl, rfl, rfl, g1.le_upd _ _ _ _ hD1, hT.mono hle⟩ ⟨rfl, rfl, rfl, rfl⟩
    have hup := g2.trans g4
    obtain ⟨d, f', args, q1, q2, q3⟩ := rangeE_ok (a := { a with defers := { target := .collected w.heap.size, args := #[] } :: a.defers }) (a0 := a) (g := g) (m := m) hi e3 (hv.mono hup.le) upd_self (FF.mono hup.le hF) (hT.mono hup.le) (.mark (g4.le _ _ hD1) (hD.mono hup.le)) g3
    refine ⟨_, [{ target := .collected w.heap.size, args := #[] }], _, d, _, f', args, _, ?_, q1, fun f' _ => hF.fn f', q2, fun h => (by rw [hF.depth] at h; cases h), CallsIn.mono q3 fun e3 w3 he => rangePost_mono (fun e5 a5 w5 h5 => ?_) _ _ he⟩
    · cases hF
      rw [alloc_size]
      exact run_enterLoop_outer _ _ _ _ _
    · have hr2 : (newO W .defd fun D W => newO W (.loop ⟨.ready, none, n, tm, ps.toList, x, y, D⟩) fun l W => rangeE P ih ⟨n, none⟩ l tm (.mark D :: ds) f W) = rangeE P ih ⟨n, none⟩ (W.next + 1) tm (.mark W.next :: ds) f ⟨H2, W.next + 1 + 1⟩ := by
        show (W.heap.set 40 W.next .defd).th _ = _
        rw [s1]
        show (H1.set 40 (W.next + 1) _).th _ = _
        rw [s2]; rfl
      rw [hr2]
      exact Post.pre hup _ _ _ h5
  | some l0 =>
    have heq : rangeF P ih ⟨n, some l0⟩ g ps.toList x y tm ds W = (W.loop l0).th fun L0 => newO W (.loop ⟨.ready, none, n, tm, ps.toList, x, y, L0.defers⟩) fun l W => rangeE P ih ⟨n, some l0⟩ l tm ds f W := by
      show (val tm.get g).th _ = _
      rw [h1]; rfl
    rw [heq]
    obtain ⟨L0, s0, e2⟩ := Eth_ok (x := W.loop l0) e1
    obtain ⟨H2, s2, e3⟩ := Eth_ok (x := W.heap.set 40 W.next _) e2
    obtain ⟨l', k, hl0, rfl⟩ := id hF
    obtain ⟨R, r1, r2, r3⟩ := loop_ok hW s0 hl0
    simp only [OR] at r2
    have hle := hW.le_upd w.heap.size 0
    obtain ⟨g3, g4⟩ := new_ok (m := 0) (ob := .loop { state := .ready, pending := none, fn := fn, tmps := a.tmps, params := ps, assign := x, body := y, defers := R.defers }) (w' := w.alloc (.loop { state := .ready, pending := none, fn := fn, tmps := a.tmps, params := ps, assign := x, body := y, defers := R.defers })) hW s2 (fun _ _ h => by cases h) ⟨rfl, rfl, rfl, rfl, rfl, hle _ _ r2.2.2.2.2.2.1, hT.mono hle⟩ ⟨rfl, rfl, rfl, rfl⟩
    obtain ⟨d, f', args, q1, q2, q3⟩ := rangeE_ok (a := a) (a0 := a) (g := g) (m := m) hi e3 (hv.mono g4.le) upd_self (FF.mono g4.le hF) (hT.mono g4.le) (hD.mono g4.le) g3
    refine ⟨_, [], _, d, _, f', args, _, run_enterLoop_inner r1 _ _ _ _ _, q1, fun f' _ => hF.fn f', q2, fun h => (by rw [FF.depth hF] at h; cases h), CallsIn.mono q3 fun e3 w3 he => rangePost_mono (fun e5 a5 w5 h5 => ?_) _ _ he⟩
    have hr2 : ((W.loop l0).th fun L0 => newO W (.loop ⟨.ready, none, n, tm, ps.toList, x, y, L0.defers⟩) fun l W => rangeE P ih ⟨n, some l0⟩ l tm ds f W) = rangeE P ih ⟨n, some l0⟩ W.next tm ds f ⟨H2, W.next + 1⟩ := by
      rw [s0]
      show (W.heap.set 40 W.next _).th _ = _
      rw [s2]; rfl
    rw [hr2]
    exact Post.pre g4 _ _ _ h5
/-- one more step of fuel -/
theorem step_code (hi : Snd P ih) (hm : P.follows .mixedOrders = true) (cx : Cx) (c : Code) (e : okR (step P ih cx c tm ds W)) (hF : FF ρ cx.rd F) (hT : TR ρ cx.n tm.get a.tmps) (hD : DR ρ ds a.defers) (hW : WR ρ W w) : c.wpIn F m P (Post ρ W w cx.n (step P ih cx c tm ds W)) a w := by
  have hres : Res ρ W w cx.n tm ds W a w := ⟨ρ, hT, hD, hW, .rfl ρ W w⟩
  cases c with
  | skip => exact wpIn_skip ⟨tm, ds, W, rfl, hres⟩
  | label l => exact wpIn_label ⟨tm, ds, W, rfl, hres⟩
  | region id ops draw =>
    cases draw with
    | false => exact wpIn_region_list (region_ok hi hF e hT hD hW fun tm' ds' a' w' W' h1 h2 => ⟨tm', ds', W', h1, h2⟩)
    | true => exact drawn_ok (cx := cx) hi hm hF e hT hD hW fun tm' a' w' W' h1 h2 => ⟨tm', ds, W', h1, h2⟩
  | seq x y =>
    have hs : step P ih cx (.seq x y) tm ds W = @CR.rec (fun _ => CR) (ih cx y) .ext .ret .er (ih cx x tm ds W) := rfl
    have hok : okR (ih cx x tm ds W) := fun s h => by rw [hs, h] at e; exact e s rfl
    refine wpIn_seq (wpIn_mono (hi.code cx x tm ds W ρ w a F m hok hF hT hD hW) fun q a' w' hp => ?_)
    cases q with
    | normal =>
      obtain ⟨tm1, ds1, W1, h1, ρ1, h2, h3, h4, h5⟩ := hp
      have h6 : step P ih cx (.seq x y) tm ds W = ih cx y tm1 ds1 W1 := by rw [hs, h1]
      rw [h6] at e ⊢
      exact wpIn_mono (hi.code cx y tm1 ds1 W1 ρ1 w' a' F m e (hF.mono h5.le) h2 h3 h4) (Post.pre h5)
    | exit id =>
      obtain ⟨tm1, ds1, W1, h1, h2⟩ := hp
      exact ⟨tm1, ds1, W1, by rw [hs, h1], h2⟩
    | ret =>
      obtain ⟨tm1, ds1, W1, h1, h2⟩ := hp
      exact ⟨tm1, ds1, W1, by rw [hs, h1], h2⟩
    | goto l => exact hp.elim
    | panic c => exact hp.elim
    | outgrown => exact hp.elim
  | cond c x y =>
    obtain ⟨v, h1, e1⟩ := Eth_ok (x := val tm.get c) e
    have hv := val_ok hT h1
    have hs : step P ih cx (.cond c x y) tm ds W = cnd ih cx x y tm ds W v := by
      show (val tm.get c).th _ = _
      rw [h1]; rfl
    rw [hs]
    cases v <;> first | exact absurd rfl (e1 _) | skip
    rename_i b
    refine wpIn_cond (t := b) hv.bool ?_
    cases b with
    | true => exact hi.code cx x tm ds W ρ w a F m e1 hF hT hD hW
    | false => exact hi.code cx y tm ds W ρ w a F m e1 hF hT hD hW
  | block id c =>
    have hs : step P ih cx (.block id c) tm ds W = @CR.rec (fun _ => CR) .nrm (fun j tm ds W => @Bool.rec (fun _ => CR) (.ext j tm ds W) (.nrm tm ds W) (Nat.beq j id)) .ret .er (ih cx c tm ds W) := rfl
    have hok : okR (ih cx c tm ds W) := fun s h => by rw [hs, h] at e; exact e s rfl
    refine wpIn_block (wpIn_mono (hi.code cx c tm ds W ρ w a F m hok hF hT hD hW) fun q a' w' hp => ?_)
    cases q with
    | normal =>
      obtain ⟨tm1, ds1, W1, h1, h2⟩ := hp
      exact ⟨tm1, ds1, W1, by rw [hs, h1], h2⟩
    | exit j =>
      obtain ⟨tm1, ds1, W1, h1, h2⟩ := hp
      show if j = id then _ else _
      by_cases hj : j = id
      · rw [if_pos hj]
        refine ⟨tm1, ds1, W1, ?_, h2⟩
        rw [hs, h1, hj]
        show @Bool.rec (fun _ => CR) _ _ (Nat.beq id id) = _
        rw [Nat.beq_refl]
      · rw [if_neg hj]
        refine ⟨tm1, ds1, W1, ?_, h2⟩
        rw [hs, h1]
        show @Bool.rec (fun _ => CR) _ _ (Nat.beq j id) = _
        have : Nat.beq j id = false := by
          cases hb : Nat.beq j id with
          | false => rfl
          | true => exact absurd (Nat.eq_of_beq_eq_true hb) hj
        rw [this]
    | ret =>
      obtain ⟨tm1, ds1, W1, h1, h2⟩ := hp
      exact ⟨tm1, ds1, W1, by rw [hs, h1], h2⟩
    | goto l => exact hp.elim
    | panic c => exact hp.elim
    | outgrown => exact hp.elim
  | loop c => exact wpIn_loop_of (body_ok hi e hF hT hD hW)
  | rangeFunc f ps x y => exact rangeF_ok hi e hF hT hD hW
  | exit id => exact wpIn_exit ⟨tm, ds, W, rfl, hres⟩
  | ret => exact wpIn_ret ⟨tm, ds, W, rfl, hres⟩
  | _ => exact absurd rfl (e _)
theorem step_ok (hi : Snd P ih) (hm : P.follows .mixedOrders = true) : Snd P ⟨step P ih, ih.tab⟩ :=
  ⟨fun cx c _ _ W _ w a _ m e hF hT hD hW => step_code hi hm cx c e hF hT hD hW, fun cx _ _ _ W _ w a _ m e hF hT hD hW => loopW_of (body_ok hi e hF hT hD hW), hi.tab⟩
theorem run_tab (tab : Nat → List Value → AW → Option VC) : ∀ N, (run P tab N).tab = tab
  | 0 => rfl
  | _ + 1 => rfl
theorem run_ok (hm : P.follows .mixedOrders = true) {tab : Nat → List Value → AW → Option VC} (ht : TabOK P tab) : ∀ N, Snd P (run P tab N)
  | 0 => ⟨fun cx c tm ds W ρ w a F m e => absurd rfl (e _), fun cx c tm ds W ρ w a F m e => absurd rfl (e _), ht⟩
  | N + 1 => by
    have h := step_ok (run_ok hm ht N) hm
    rw [run_tab] at h
    exact h
theorem noTab_ok : TabOK P noTab := fun _ _ _ _ _ _ _ _ _ h => by cases h
/-! ### a closed call -/
/-- the start: the blocks of the package variables -/
theorem start_ok {H : T AO} {k : Nat → Nat} (h1 : ∀ b, b < NG → ∃ ao o, H.get b = some ao ∧ w.heap[b]? = some o ∧ OR (fun b => if b < NG then some (b, k b) else none) (k b) ao o ∧ ∀ al cs, ao = .live al cs → al = []) (h2 : ∀ b, NG ≤ b → H.get b = none) : WR (fun b => if b < NG then some (b, k b) else none) ⟨H, NG⟩ w := by
  have hu : ∀ b c n, (if b < NG then some (b, k b) else none) = some (c, n) → b < NG ∧ c = b ∧ n = k b := by
    intro b c n h
    split at h
    · cases h; exact ⟨by assumption, rfl, rfl⟩
    · cases h
  refine ⟨fun b c n h => ?_, fun b b' c n n' al cs e1 e2 hne _ => ?_, fun b p al cs e1 e2 x hx => ?_, fun b b' c n n' ao e1 e2 _ _ => ?_, h2⟩
  · obtain ⟨h3, rfl, rfl⟩ := hu b c n h
    obtain ⟨ao, o, h4, h5, h6, _⟩ := h1 c h3
    exact ⟨h3, ao, o, h4, h5, h6⟩
  · obtain ⟨_, rfl, _⟩ := hu b c n e1
    obtain ⟨_, h3, _⟩ := hu b' c n' e2
    exact absurd h3 hne
  · obtain ⟨h3, _, _⟩ := hu b p.1 p.2 e1
    obtain ⟨ao, o, h4, _, _, h7⟩ := h1 b h3
    have e2 : H.get b = _ := e2
    rw [h4] at e2
    cases e2
    rw [h7 _ _ rfl] at hx
    cases hx
  · obtain ⟨_, rfl, _⟩ := hu b c n e1
    obtain ⟨_, h3, _⟩ := hu b' c n' e2
    exact h3
theorem start_gl (k : Nat → Nat) : GR (fun b => if b < NG then some (b, k b) else none) := fun b hb => ⟨k b, if_pos hb⟩
theorem closed_ok (hi : Snd P ih) {f : Nat} {xs' : Array Value} (e : callG P ih f xs W = .ok v W') (hx : LR ρ xs xs'.toList) (hW : WR ρ W w) (hG : GR ρ) : Calls P f xs' w fun r w' => ∃ v' ρ', r = .returned v' ∧ VR ρ' v v' ∧ WR ρ' W' w' ∧ Up ρ W w ρ' W' w' :=
  callsIn_wide.1 (callG_ok hi e hx hW hG 0).2
def isTrue (r : VC) : Bool := match r with
  | .ok (.bool true) _ => true
  | _ => false
theorem closed_true (hi : Snd P ih) {f : Nat} (e : isTrue (callG P ih f [] W) = true) (hW : WR ρ W w) (hG : GR ρ) : Calls P f #[] w fun r w' => ∃ ρ' W', r = .returned (.bool true) ∧ WR ρ' W' w' ∧ Up ρ W w ρ' W' w' := by
  cases h : callG P ih f [] W with
  | er s => rw [h] at e; cases e
  | ok v W' =>
    rw [h] at e
    unfold isTrue at e
    split at e
    · rename_i h2
      cases h2
      refine Calls.mono (closed_ok hi h .nil hW hG) fun r w' hr => ?_
      obtain ⟨v', ρ', rfl, h3, h4, h5⟩ := hr
      exact ⟨ρ', W', by rw [h3.bool], h4, h5⟩
    · cases e
end
end Go.Ke
