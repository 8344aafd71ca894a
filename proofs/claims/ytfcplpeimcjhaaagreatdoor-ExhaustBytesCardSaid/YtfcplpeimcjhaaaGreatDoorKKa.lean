/- Equality of structs, keys of maps, maps. Conditions: none. -/
import Derived.Test.YtfcplpeimcjhaaaGreatDoorKK
import Derived.Laws.StructEq
import Derived.RangeFuncRecord
namespace Go.Ke
open Go.RowKit
noncomputable section
/-! ### equality of structs -/
def eqF (ih : TypeId → Value → Value → E Bool) (P : Program) (xs ys : List Value) (fs : List Field) : E Bool := @List.rec Field (fun _ => E Bool) (.ok true) (fun f _ r => bl (f.name == "_") r ((partV P f.type xs f.offset).bd fun a => (partV P f.type ys f.offset).bd fun b => (ih f.type a b).bd fun c => bl c r (.ok false))) fs
def eqU (P : Program) (ih : TypeId → Value → Value → E Bool) (t : TypeId) (x y : Value) (u : TypeDesc) : E Bool := match u, x, y with
  | .bool, .bool a, .bool b => .ok (a == b)
  | .int _, .int k a, .int k' b => bl (Nat.beq k.ctorIdx k'.ctorIdx) (.ok (ieq a b)) (.er "eqA kinds")
  | .string, .string a, .string b => .ok (leq (ub a) (ub b))
  | .struct fs, .agg xs, .agg ys => bl (P.stoodInHeld t) (.er "eqA held") (eqF ih P xs.toList ys.toList fs.toList)
  | _, _, _ => .er "eqA"
def eqA (P : Program) (n : Nat) : TypeId → Value → Value → E Bool := @Nat.rec (fun _ => TypeId → Value → Value → E Bool) (fun _ _ _ => .er "eqA") (fun _ ih t x y => (under P t).bd fun u => eqU P ih t x y u) n
def gF (ih : TypeId → E Unit) (fs : List Field) : E Unit := @List.rec Field (fun _ => E Unit) (.ok ()) (fun f _ r => (ih f.type).bd fun _ => r) fs
def gU' (ih : TypeId → E Unit) (u : TypeDesc) : E Unit := match u with
  | .struct fs => gF ih fs.toList
  | .interface _ => .er "guard"
  | .array _ _ => .er "guard"
  | _ => .ok ()
def gT (P : Program) (n : Nat) : TypeId → E Unit := @Nat.rec (fun _ => TypeId → E Unit) (fun _ => .er "guard") (fun _ ih t => (under P t).bd (gU' ih)) n
def aggB (v : Value) : Bool := match v with
  | .agg cs => flats cs.toList
  | _ => false
/-- a value without addresses -/
def keyB (v : Value) : Bool := bl (flat v) true (aggB v)
def eqS (P : Program) (t : TypeId) (a b : Value) : E Bool := bl (keyB a) (bl (keyB b) (bl (Nat.ble 20 P.depth) ((gT P 20 t).bd fun _ => eqA P 100 t a b) (.er "depth")) (.er "struct")) (.er "struct")
def binA (P : Program) (op : BinOp) (t : TypeId) (a b : Value) : E Value := match op, a, b with
  | .eql, .agg _, .agg _ => (eqS P t a b).bd fun r => .ok (.bool r)
  | .neq, .agg _, .agg _ => (eqS P t a b).bd fun r => .ok (.bool (bl r false true))
  | _, _, _ => .er "struct"
/-! ### keys -/
def ckF (ih : TypeId → Value → E Unit) (P : Program) (cs : List Value) (fs : List Field) : E Unit := @List.rec Field (fun _ => E Unit) (.ok ()) (fun f _ r => bl (f.name == "_") r ((partV P f.type cs f.offset).bd fun a => (ih f.type a).bd fun _ => r)) fs
def ckU (P : Program) (ih : TypeId → Value → E Unit) (v : Value) (u : TypeDesc) : E Unit := match u, v with
  | .struct fs, .agg cs => ckF ih P cs.toList fs.toList
  | .int _, _ => .ok ()
  | .string, _ => .ok ()
  | .bool, _ => .ok ()
  | _, _ => .er "key"
def ckK (P : Program) (n : Nat) : TypeId → Value → E Unit := @Nat.rec (fun _ => TypeId → Value → E Unit) (fun _ _ => .er "key") (fun _ ih t v => (under P t).bd (ckU P ih v)) n
def keq (P : Program) (t : TypeId) (k k' : Value) : E Bool := (eqA P 100 t k k').bd fun b => bl b (bl (veq k k') (.ok true) (.er "keys")) (.ok false)
/-- a key that a map can have -/
def sb1 (v : Value) : Bool := match v with
  | .bool _ => true
  | .int _ _ => true
  | .string _ => true
  | _ => false
def sbL (l : List Value) : Bool := @List.rec Value (fun _ => Bool) true (fun v _ r => bl (sb1 v) r false) l
def sbB (v : Value) : Bool := match v with
  | .agg cs => sbL cs.toList
  | v => sb1 v
def keyE (P : Program) (t : TypeId) (k : Value) : E Unit := bl (keyB k) (bl (sbB k) (ckK P 100 t k) (.er "key")) (.er "key")
def mfind (P : Program) (t : TypeId) (k : Value) (es : List (Value × Value)) : E (Option Value) := @List.rec (Value × Value) (fun _ => E (Option Value)) (.ok none) (fun p _ r => (keq P t k p.1).bd fun b => r.bd fun o => .ok (bl b (some p.2) o)) es
/-- what the entries are when k has the value v -/
def mrep (P : Program) (t : TypeId) (k v : Value) (es : List (Value × Value)) : E (List (Value × Value)) := @List.rec (Value × Value) (fun _ => E (List (Value × Value))) (.ok []) (fun p _ r => (keq P t k p.1).bd fun b => r.bd fun o => .ok (bl b (k, v) p :: o)) es
def zeroV (P : Program) (t : TypeId) : E Value := (zero P t).bd fun z => bl (keyB z) (.ok z) (.er "zero")
def lkV (ok : Bool) (v : Value) (b : Bool) : Value := bl ok (.tuple ⟨[v, .bool b]⟩) v
def mapT (u : TypeDesc) : E (TypeId × TypeId) := match u with
  | .map k e => .ok (k, e)
  | _ => .er "map type"
def keyT (P : Program) (t : TypeId) : E TypeId := (under P t).bd fun u => (mapT u).bd fun q => .ok q.1
def asM (v : Value) : E (Option Nat) := match v with
  | .map b => .ok b
  | _ => .er "map"
def mgetV (P : Program) (W : AW) (t : TypeId) (m k : Value) (ok : Bool) : E Value := (under P t).bd fun u => (mapT u).bd fun q => (keyE P q.1 k).bd fun _ => (asM m).bd fun b => @Option.rec Nat (fun _ => E Value) ((zeroV P q.2).bd fun z => .ok (lkV ok z false))
  (fun b => (W.es b).bd fun es => (mfind P q.1 k es).bd fun o => @Option.rec Value (fun _ => E Value) ((zeroV P q.2).bd fun z => .ok (lkV ok z false)) (fun v => .ok (lkV ok v true)) o) b
def mputV (P : Program) (W : AW) (t : TypeId) (m k v : Value) : E AW := (under P t).bd fun u => (mapT u).bd fun q => (keyE P q.1 k).bd fun _ => (asM m).bd fun b => @Option.rec Nat (fun _ => E AW) (.er "nil map")
  (fun b => (W.es b).bd fun es => (mfind P q.1 k es).bd fun o => (@Option.rec Value (fun _ => E (List (Value × Value))) (.ok (es ++ [(k, v)])) (fun _ => mrep P q.1 k v es) o).bd fun es' => (W.heap.set 40 b (.map es')).bd fun H => .ok ⟨H, W.next⟩) b
end
section
variable {P : Program} {ρ : Rho} {t : TypeId} {x x' y y' v v' k k' : Value} {n : Nat} {W W' : AW} {w : World}
theorem partV_same {cs : List Value} {off : Nat} (e : partV P t cs off = .ok v) (w : World) : (part t cs.toArray off).run P w = .ok v w := by
  obtain ⟨u, h1, e⟩ := bd_ok e
  have hu := under_ok h1
  rcases bl_ok e with ⟨h2, e⟩ | ⟨h2, e⟩
  · obtain ⟨n, h5, e⟩ := bd_ok e
    obtain ⟨l, h3, e⟩ := bd_ok e
    cases e
    obtain ⟨ti, h6, rfl⟩ := size_ok h5
    obtain ⟨h4, rfl⟩ := tk_ok h3
    rw [dr_eq]
    have hex : cs.toArray.extract off (off + ti.size) = ((cs.drop off).take ti.size).toArray := by
      apply Array.ext'
      simp [List.extract_eq_take_drop]
    simp [part, Sem.run_bind, run_isAgg hu, h2, sizeOf, typeInfo, h6]
  · have e := of_ok e
    rw [nth_eq] at e
    simp [part, Sem.run_bind, run_isAgg hu, h2, e]
theorem partA_same {cs : Array Value} {off : Nat} (e : partV P t cs.toList off = .ok v) (w : World) : (part t cs off).run P w = .ok v w := by
  have := partV_same e w
  simpa using this
theorem kind_eq {k k' : IntKind} (h : Nat.beq k.ctorIdx k'.ctorIdx = true) : k = k' := by
  have h4 := Nat.eq_of_beq_eq_true h
  cases k <;> cases k' <;> first | rfl | (exact absurd h4 (by decide))
theorem eqF_ok {ih : TypeId → Value → Value → E Bool} {d : Nat} (hih : ∀ t x y b, ih t x y = .ok b → ∀ w, (Op.equalIn d t x y).run P w = .ok b w) {xs ys : Array Value} : ∀ {fs : List Field} {b : Bool}, eqF ih P xs.toList ys.toList fs = .ok b → ∀ w, (Op.eqFields d xs ys fs).run P w = .ok b w
  | [], b, e, w => by cases e; simp [Op.eqFields]
  | f :: fs, b, e, w => by
    have e : bl (f.name == "_") (eqF ih P xs.toList ys.toList fs) ((partV P f.type xs.toList f.offset).bd fun a => (partV P f.type ys.toList f.offset).bd fun b => (ih f.type a b).bd fun c => bl c (eqF ih P xs.toList ys.toList fs) (.ok false)) = .ok b := e
    rcases bl_ok e with ⟨h, e1⟩ | ⟨h, e1⟩
    · have h : f.name = "_" := by simpa using h
      simp only [Op.eqFields]
      rw [if_neg (by simp [h])]
      exact eqF_ok hih e1 w
    · have h : f.name ≠ "_" := by simpa using h
      obtain ⟨a, h1, e2⟩ := bd_ok e1
      obtain ⟨b2, h3, e3⟩ := bd_ok e2
      obtain ⟨c, h4, e4⟩ := bd_ok e3
      simp only [Op.eqFields]
      rw [if_pos h]
      simp only [Sem.run_bind, partA_same h1 w, partA_same h3 w, Result.andThen_ok, hih _ _ _ _ h4 w]
      rcases bl_ok e4 with ⟨rfl, e5⟩ | ⟨rfl, e5⟩
      · simp only [Bool.not_true, Bool.false_eq_true, if_false]
        exact eqF_ok hih e5 w
      · cases e5
        simp
theorem eqA_ok : ∀ (n : Nat) {t : TypeId} {x y : Value} {b : Bool}, eqA P n t x y = .ok b → ∀ d w, (Op.equalIn (d + n) t x y).run P w = .ok b w
  | 0, t, x, y, b, e, d, w => by cases e
  | n + 1, t, x, y, b, e, d, w => by
    obtain ⟨u, h1, e1⟩ := bd_ok (x := under P t) e
    have hu := under_ok h1
    show (Op.equalIn ((d + n) + 1) t x y).run P w = _
    change eqU P (eqA P n) t x y u = _ at e1
    unfold eqU at e1
    split at e1
    · cases e1
      exact run_equalIn_bool w (d + n) t _ _ hu
    · rcases bl_ok e1 with ⟨h2, e2⟩ | ⟨_, e2⟩ <;> cases e2
      cases kind_eq h2
      rw [run_equalIn_int w (d + n) t _ _ _ _ hu, ieq_eq, int_beq]
    · cases e1
      rw [run_equalIn_string w (d + n) t _ _ hu, ub_toList, ub_toList, leq_eq]
    · rcases bl_ok e1 with ⟨_, e2⟩ | ⟨h2, e2⟩
      · cases e2
      · rename_i fs xs ys
        have hf : P.fieldsOf t = fs := by unfold Program.fieldsOf; rw [hu]
        rw [run_equalIn_agg w (d + n) t xs ys (by rw [hf]; exact hu) h2, hf]
        exact eqF_ok (fun t x y b h w => eqA_ok n h d w) e2 w
    · cases e1
theorem eqF_refl {ih : TypeId → Value → Value → E Bool} (hih : ∀ t x b, ih t x x = .ok b → b = true) {xs : List Value} : ∀ {fs : List Field} {b : Bool}, eqF ih P xs xs fs = .ok b → b = true
  | [], b, e => by cases e; rfl
  | f :: fs, b, e => by
    have e : bl (f.name == "_") (eqF ih P xs xs fs) ((partV P f.type xs f.offset).bd fun a => (partV P f.type xs f.offset).bd fun b => (ih f.type a b).bd fun c => bl c (eqF ih P xs xs fs) (.ok false)) = .ok b := e
    rcases bl_ok e with ⟨h, e1⟩ | ⟨h, e1⟩
    · exact eqF_refl hih e1
    · obtain ⟨a, h1, e2⟩ := bd_ok e1
      obtain ⟨b2, h3, e3⟩ := bd_ok e2
      obtain ⟨c, h4, e4⟩ := bd_ok e3
      rw [h1] at h3; cases h3
      cases hih _ _ _ h4
      exact eqF_refl hih e4
theorem leq_refl : ∀ l : List Nat, leq l l = true
  | [] => rfl
  | a :: l => by
    show bl (Nat.beq a a) (leq l l) false = true
    rw [Nat.beq_refl, leq_refl l]; rfl
theorem eqU_refl {ih : TypeId → Value → Value → E Bool} (hih : ∀ t x b, ih t x x = .ok b → b = true) {u : TypeDesc} {x : Value} {b : Bool} (e : eqU P ih t x x u = .ok b) : b = true := by
  cases u <;> first | (cases e; done) | skip
  all_goals (cases x <;> first | (cases e; done) | skip)
  · cases e; simp
  · rcases bl_ok e with ⟨h2, e2⟩ | ⟨_, e2⟩ <;> cases e2
    rw [ieq_eq]; simp
  · cases e
    exact leq_refl _
  · rcases bl_ok e with ⟨_, e2⟩ | ⟨h2, e2⟩
    · cases e2
    · exact eqF_refl hih e2
theorem eqA_refl : ∀ (n : Nat) {t : TypeId} {x : Value} {b : Bool}, eqA P n t x x = .ok b → b = true
  | 0, t, x, b, e => by cases e
  | n + 1, t, x, b, e => by
    obtain ⟨u, h1, e1⟩ := bd_ok (x := under P t) e
    exact eqU_refl (fun t x b h => eqA_refl n h) e1
theorem LR.flat_eq : ∀ {l l' : List Value}, LR ρ l l' → flats l = true → l' = l
  | _, _, .nil, _ => rfl
  | _, _, .cons (v := u) (l := l) h t, hf => by
    have hf : bl (flat u) (flats l) false = true := hf
    obtain ⟨h1, h2⟩ := bl_and hf
    rw [h.of_flat h1, LR.flat_eq t h2]
theorem VR.of_key (h : VR ρ v v') (hk : keyB v = true) : v' = v := by
  cases hf : Ke.flat v with
  | true => exact h.of_flat hf
  | false =>
    unfold keyB at hk
    rw [hf] at hk
    change aggB v = true at hk
    unfold aggB at hk
    split at hk
    · obtain ⟨x', h1, rfl⟩ := h.agg'
      have := h1.flat_eq hk
      congr 1
      exact Array.ext' this
    · cases hk
theorem VR.key (hk : keyB v = true) : VR ρ v v := by
  cases hf : Ke.flat v with
  | true => exact .flat hf
  | false =>
    unfold keyB at hk
    rw [hf] at hk
    change aggB v = true at hk
    unfold aggB at hk
    split at hk
    · rename_i cs
      have h1 := flats_ok (ρ := ρ) hk
      exact .agg rfl (fun i a b h2 h3 => h1.at i a b (by simpa using h2) (by simpa using h3))
    · cases hk
theorem gF_ok {ih : TypeId → E Unit} : ∀ {fs : List Field} {r : Unit}, gF ih fs = .ok r → ∀ f ∈ fs, ih f.type = .ok ()
  | [], _, _, f, hf => by cases hf
  | f :: fs, r, e, f', hf => by
    obtain ⟨_, h1, e1⟩ := bd_ok (x := ih f.type) e
    rcases List.mem_cons.1 hf with rfl | hf
    · exact h1
    · exact gF_ok e1 f' hf
theorem gT_ok : ∀ (n : Nat) {t : TypeId}, gT P n t = .ok () → ∀ d, P.eqGuardType (d + n) t = false
  | 0, t, e, d => by cases e
  | n + 1, t, e, d => by
    obtain ⟨u, h1, e1⟩ := bd_ok (x := under P t) e
    have hu := under_ok h1
    change gU' (gT P n) u = _ at e1
    show P.eqGuardType ((d + n) + 1) t = false
    unfold gU' at e1
    split at e1
    · rename_i fs
      have h2 := gF_ok e1
      simp only [Program.eqGuardType, hu]
      rw [← Array.any_toList, List.any_eq_false]
      intro f hf
      simp [gT_ok n (h2 f hf) d]
    · cases e1
    · cases e1
    · rename_i q1 q2 q3
      unfold Program.eqGuardType
      rw [hu]
      cases u <;> first | rfl | exact absurd rfl (q1 _) | exact absurd rfl (q2 _) | exact absurd rfl (q3 _ _)
theorem eqS_ok {b : Bool} {op : BinOp} {p q : Array Value} (e : eqS P t (.agg p) (.agg q) = .ok b) (hx : VR ρ (.agg p) x') (hy : VR ρ (.agg q) y') (X Y : Operand) (w : World) : x' = .agg p ∧ y' = .agg q ∧ (eqGuard op t X Y (.agg p) (.agg q)).run P w = .ok () w ∧ (Op.equalIn 10000 t (.agg p) (.agg q)).run P w = .ok b w := by
  unfold eqS at e
  rcases bl_ok e with ⟨h1, e1⟩ | ⟨_, e1⟩
  · rcases bl_ok e1 with ⟨h2, e2⟩ | ⟨_, e2⟩
    · rcases bl_ok e2 with ⟨h3, e3⟩ | ⟨_, e3⟩
      · obtain ⟨_, h4, e4⟩ := bd_ok e3
        have h3 : 20 ≤ P.depth := Nat.le_of_ble_eq_true h3
        have h5 := gT_ok 20 h4 (P.depth - 20)
        rw [Nat.sub_add_cancel h3] at h5
        exact ⟨hx.of_key h1, hy.of_key h2, run_eqGuard_agg w op t X Y p q h5, eqA_ok 100 e4 9900 w⟩
      · cases e3
    · cases e2
  · cases e1
theorem binA_ok {op : BinOp} {X Y : Operand} (e : binA P op t x y = .ok v) (hx : VR ρ x x') (hy : VR ρ y y') : VR ρ v v ∧ ∀ w, (do eqGuard op t X Y x' y'; binOp op t x' y' : Sem Value).run P w = .ok v w := by
  unfold binA at e
  split at e
  · obtain ⟨r, h1, h2⟩ := bd_ok e
    cases h2
    refine ⟨.flat rfl, fun w => ?_⟩
    obtain ⟨rfl, rfl, h3, h4⟩ := eqS_ok (op := .eql) h1 hx hy X Y w
    rw [Sem.run_bind, h3]
    simp [run_eql_struct, h4]
  · obtain ⟨r, h1, h2⟩ := bd_ok e
    cases h2
    refine ⟨.flat rfl, fun w => ?_⟩
    obtain ⟨rfl, rfl, h3, h4⟩ := eqS_ok (op := .neq) h1 hx hy X Y w
    rw [Sem.run_bind, h3]
    simp [run_neq_struct, h4, bl_not]
  · cases e
/-! ### keys -/
theorem keq_ok {b : Bool} (e : keq P t k k' = .ok b) : eqA P 100 t k k' = .ok b ∧ (b = true ↔ k = k') := by
  obtain ⟨c, h1, e1⟩ := bd_ok e
  rcases bl_ok e1 with ⟨rfl, e2⟩ | ⟨rfl, e2⟩
  · rcases bl_ok e2 with ⟨h2, e3⟩ | ⟨_, e3⟩ <;> cases e3
    exact ⟨h1, fun _ => veq_ok h2, fun _ => rfl⟩
  · cases e2
    refine ⟨h1, fun h => (by cases h), fun h => ?_⟩
    subst h
    exact eqA_refl 100 h1
theorem ckF_ok {ih : TypeId → Value → E Unit} {d : Nat} {em : Bool} (hih : ∀ t x, ih t x = .ok () → ∀ w, (Instr.checkKey em d t x).run P w = .ok () w) {cs : Array Value} : ∀ {fs : List Field}, ckF ih P cs.toList fs = .ok () → ∀ w, (forIn fs PUnit.unit (fun (f : Field) (_ : PUnit) => (if f.name ≠ "_" then do
      let a ← part f.type cs f.offset
      Instr.checkKey em d f.type a
      pure (ForInStep.yield PUnit.unit) else pure (ForInStep.yield PUnit.unit) : Sem (ForInStep PUnit)))).run P w = .ok PUnit.unit w
  | [], e, w => by simp
  | f :: fs, e, w => by
    have e : bl (f.name == "_") (ckF ih P cs.toList fs) ((partV P f.type cs.toList f.offset).bd fun a => (ih f.type a).bd fun _ => ckF ih P cs.toList fs) = .ok () := e
    rw [List.forIn_cons]
    rcases bl_ok e with ⟨h, e1⟩ | ⟨h, e1⟩
    · have h : f.name = "_" := by simpa using h
      rw [if_neg (by simp [h])]
      simp only [Sem.run_bind, Sem.run_pure, Result.andThen_ok]
      exact ckF_ok hih e1 w
    · have h : f.name ≠ "_" := by simpa using h
      obtain ⟨a, h1, e2⟩ := bd_ok e1
      obtain ⟨b2, h3, e3⟩ := bd_ok e2
      rw [if_pos h]
      simp only [Sem.run_bind, partA_same h1 w, Result.andThen_ok, hih _ _ h3 w, Sem.run_pure]
      exact ckF_ok hih e3 w
theorem ckK_ok : ∀ (n : Nat) {t : TypeId} {v : Value}, ckK P n t v = .ok () → ∀ (em : Bool) (d : Nat) (w : World), (Instr.checkKey em (d + n) t v).run P w = .ok () w
  | 0, t, v, e, em, d, w => by cases e
  | n + 1, t, v, e, em, d, w => by
    obtain ⟨u, h1, e1⟩ := bd_ok (x := under P t) e
    have hu := under_ok h1
    change ckU P (ckK P n) v u = _ at e1
    show (Instr.checkKey em ((d + n) + 1) t v).run P w = _
    unfold ckU at e1
    split at e1
    · rename_i fs cs
      have h2 := ckF_ok (fun t x h w => ckK_ok n h em d w) e1 w
      simp only [Instr.checkKey, Sem.run_bind, run_underlying hu, Result.andThen_ok]
      rw [← Array.forIn_toList]
      have h3 := congrArg (fun r => Result.andThen r (fun _ w' => Result.ok () w')) h2
      simpa using h3
    · simp [Instr.checkKey, Sem.run_bind, run_underlying hu]
    · simp [Instr.checkKey, Sem.run_bind, run_underlying hu]
    · simp [Instr.checkKey, Sem.run_bind, run_underlying hu]
    · cases e1
theorem keyE_ok (e : keyE P t k = .ok ()) : keyB k = true ∧ sbB k = true ∧ (∃ u, P.underlying t = some u) ∧ ∀ em w, (Instr.checkKey em 10000 t k).run P w = .ok () w := by
  rcases bl_ok e with ⟨h1, e1⟩ | ⟨_, e1⟩
  · rcases bl_ok e1 with ⟨h3, e2⟩ | ⟨_, e2⟩
    · obtain ⟨u, h2, _⟩ := bd_ok (x := under P t) e2
      exact ⟨h1, h3, ⟨u, under_ok h2⟩, fun em w => ckK_ok 100 e2 em 9900 w⟩
    · cases e2
  · cases e1
theorem sb1_ok {n : Nat} (h : sb1 v = true) : Instr.sameBits n v v = true := by
  cases v <;> first | (cases h; done) | (cases n <;> simp [Instr.sameBits, beq_toListBytes])
theorem sbL_ok {n : Nat} : ∀ {l : List Value}, sbL l = true → (l.zip l).all (fun (p : Value × Value) => Instr.sameBits n p.1 p.2) = true
  | [], _ => rfl
  | v :: l, h => by
    obtain ⟨h1, h2⟩ := bl_and (a := sb1 v) (b := sbL l) h
    rw [List.zip_cons_cons, List.all_cons, sb1_ok h1, sbL_ok h2]; rfl
theorem sbB_ok {n : Nat} (h : sbB v = true) : Instr.sameBits (n + 1) v v = true := by
  unfold sbB at h
  split at h
  · rename_i cs
    have := sbL_ok (n := n) h
    simp only [Instr.sameBits, BEq.rfl, Bool.true_and]
    exact this
  · exact sb1_ok h
/-! ### finding -/
open Classical in
noncomputable def fsp (k : Value) : List MapEntry → Nat → Option (Nat × Value)
  | [], _ => none
  | e :: es, i => if e.key = k then some (i, e.val) else fsp k es (i + 1)
theorem fsp_some {k : Value} : ∀ {l : List MapEntry} {i j : Nat} {v : Value}, fsp k l i = some (j, v) → i ≤ j ∧ ∃ e, l[j - i]? = some e ∧ e.key = k ∧ e.val = v
  | [], i, j, v, h => by cases h
  | e :: l, i, j, v, h => by
    unfold fsp at h
    split at h
    · cases h
      exact ⟨Nat.le_refl _, e, by simp, by assumption, rfl⟩
    · obtain ⟨h1, e', h2, h3⟩ := fsp_some h
      refine ⟨by omega, e', ?_, h3⟩
      have : j - i = (j - (i + 1)) + 1 := by omega
      rw [this]; simpa using h2
theorem fsp_none {k : Value} : ∀ {l : List MapEntry} {i : Nat}, fsp k l i = none → ∀ e ∈ l, e.key ≠ k
  | [], i, h, e, he => by cases he
  | e :: l, i, h, e', he => by
    unfold fsp at h
    split at h
    · cases h
    · rcases List.mem_cons.1 he with rfl | he
      · assumption
      · exact fsp_none h e' he
theorem same_ok {u : TypeDesc} {b : Bool} (hu : P.underlying t = some u) (e : eqA P 100 t k k' = .ok b) : Instr.sameNow u k k' = some b ∨ ∃ fs, u = .struct fs := by
  obtain ⟨u', h1, e1⟩ := bd_ok (x := under P t) (f := fun u => eqU P (eqA P 99) t k k' u) e
  have h1 := under_ok h1
  rw [hu] at h1; cases h1
  unfold eqU at e1
  split at e1
  · cases e1; exact .inl rfl
  · rcases bl_ok e1 with ⟨h2, e2⟩ | ⟨_, e2⟩ <;> cases e2
    cases kind_eq h2
    refine .inl ?_
    simp only [Instr.sameNow, if_true, ieq_eq, int_beq]
  · cases e1
    refine .inl ?_
    simp only [Instr.sameNow]
    rw [ub_toList, ub_toList, leq_eq, beq_toListBytes]
  · exact .inr ⟨_, rfl⟩
  · cases e1
theorem findNow_ok {u : TypeDesc} (hu : P.underlying t = some u) (hs : ∀ fs, u ≠ .struct fs) : ∀ {l : List MapEntry} {i : Nat}, (∀ e ∈ l, ∃ b, keq P t k e.key = .ok b) → Instr.findNow u k l i = some (fsp k l i)
  | [], i, h => rfl
  | e :: l, i, h => by
    obtain ⟨b, hb⟩ := h e (List.mem_cons_self ..)
    obtain ⟨h1, h2⟩ := keq_ok hb
    have h3 : Instr.sameNow u k e.key = some b := (same_ok hu h1).resolve_right fun ⟨fs, hf⟩ => hs fs hf
    have ih := findNow_ok (l := l) (i := i + 1) hu hs fun e he => h e (List.mem_cons_of_mem _ he)
    unfold Instr.findNow fsp
    rw [h3]
    cases b with
    | true => rw [if_pos (h2.1 rfl).symm]
    | false =>
      rw [if_neg (fun hk => by have := h2.2 hk.symm; cases this)]
      exact ih
theorem findAsking_ok (w : World) : ∀ {l : List MapEntry} {i : Nat}, (∀ e ∈ l, ∃ b, keq P t k e.key = .ok b) → (Instr.findAsking t k l i).run P w = .ok (fsp k l i) w
  | [], i, h => by simp [Instr.findAsking, fsp]
  | e :: l, i, h => by
    obtain ⟨b, hb⟩ := h e (List.mem_cons_self ..)
    obtain ⟨h1, h2⟩ := keq_ok hb
    have ih := findAsking_ok w (l := l) (i := i + 1) fun e he => h e (List.mem_cons_of_mem _ he)
    have h3 : (Op.equal t k e.key).run P w = .ok b w := eqA_ok 100 h1 9900 w
    unfold Instr.findAsking fsp
    simp only [Sem.run_bind, h3, Result.andThen_ok]
    cases b with
    | true =>
      rw [if_pos rfl, if_pos (h2.1 rfl).symm]
      simp
    | false =>
      rw [if_neg (by simp), if_neg (fun hk => by have := h2.2 hk.symm; cases this)]
      exact ih
theorem findKey_ok {u : TypeDesc} (hu : P.underlying t = some u) (w : World) {l : List MapEntry} (h : ∀ e ∈ l, ∃ b, keq P t k e.key = .ok b) : (Instr.findKey t k l).run P w = .ok (fsp k l 0) w := by
  unfold Instr.findKey
  simp only [Sem.run_bind, run_underlying hu, Result.andThen_ok]
  by_cases hs : ∃ fs, u = .struct fs
  · obtain ⟨fs, rfl⟩ := hs
    cases l with
    | nil => simp [Instr.findNow, fsp]
    | cons e l =>
      have : Instr.findNow (.struct fs) k (e :: l) 0 = none := by
        unfold Instr.findNow
        simp [Instr.sameNow]
      rw [this]
      exact findAsking_ok w h
  · rw [findNow_ok hu (fun fs hf => hs ⟨fs, hf⟩) h]
    simp
theorem mfind_ok : ∀ {es : List (Value × Value)} {o : Option Value}, mfind P t k es = .ok o → (∀ p ∈ es, ∃ b, keq P t k p.1 = .ok b) ∧ (∀ v, o = some v → (k, v) ∈ es) ∧ (o = none → ∀ p ∈ es, p.1 ≠ k)
  | [], o, e => by cases e; exact ⟨fun p h => (by cases h), fun v h => (by cases h), fun _ p h => (by cases h)⟩
  | p :: es, o, e => by
    obtain ⟨b, h1, e1⟩ := bd_ok (x := keq P t k p.1) e
    obtain ⟨o', h2, e2⟩ := bd_ok (x := mfind P t k es) e1
    cases e2
    obtain ⟨g1, g2, g3⟩ := mfind_ok h2
    obtain ⟨_, h3⟩ := keq_ok h1
    refine ⟨fun q hq => ?_, fun v hv => ?_, fun hn q hq => ?_⟩
    · rcases List.mem_cons.1 hq with rfl | hq
      · exact ⟨b, h1⟩
      · exact g1 q hq
    · cases b with
      | true =>
        have hv : some p.2 = some v := hv
        cases hv
        rw [h3.1 rfl]; exact List.mem_cons_self ..
      | false => exact List.mem_cons_of_mem _ (g2 v hv)
    · cases b with
      | true => cases hn
      | false =>
        rcases List.mem_cons.1 hq with rfl | hq
        · intro he
          have := h3.2 he.symm
          cases this
        · exact g3 hn q hq
theorem mrep_ok {v : Value} : ∀ {es r : List (Value × Value)}, mrep P t k v es = .ok r → r.map (·.1) = es.map (·.1) ∧ ∀ k1 v1, (k1, v1) ∈ r ↔ (k1 = k ∧ v1 = v ∧ k ∈ es.map (·.1)) ∨ (k1 ≠ k ∧ (k1, v1) ∈ es)
  | [], r, e => by cases e; exact ⟨rfl, fun k1 v1 => by simp⟩
  | p :: es, r, e => by
    obtain ⟨b, h1, e1⟩ := bd_ok (x := keq P t k p.1) e
    obtain ⟨o', h2, e2⟩ := bd_ok (x := mrep P t k v es) e1
    cases e2
    obtain ⟨g1, g2⟩ := mrep_ok h2
    obtain ⟨_, h3⟩ := keq_ok h1
    cases b with
    | true =>
      have hk := h3.1 rfl
      refine ⟨?_, fun k1 v1 => ?_⟩
      · show k :: o'.map (·.1) = p.1 :: es.map (·.1)
        rw [g1, ← hk]
      · show (k1, v1) ∈ (k, v) :: o' ↔ _
        rw [List.mem_cons, g2, List.map_cons, List.mem_cons, List.mem_cons]
        constructor
        · rintro (h | ⟨h4, h5, h6⟩ | ⟨h4, h5⟩)
          · cases h; exact .inl ⟨rfl, rfl, .inl hk⟩
          · exact .inl ⟨h4, h5, .inr h6⟩
          · exact .inr ⟨h4, .inr h5⟩
        · rintro (⟨h4, h5, _⟩ | ⟨h4, h5 | h5⟩)
          · exact .inl (by rw [h4, h5])
          · exact absurd (by rw [hk, ← h5]) h4
          · exact .inr (.inr ⟨h4, h5⟩)
    | false =>
      have hk : k ≠ p.1 := fun he => by have := h3.2 he; cases this
      refine ⟨?_, fun k1 v1 => ?_⟩
      · show p.1 :: o'.map (·.1) = p.1 :: es.map (·.1)
        rw [g1]
      · show (k1, v1) ∈ p :: o' ↔ _
        rw [List.mem_cons, g2, List.map_cons, List.mem_cons, List.mem_cons]
        constructor
        · rintro (h | ⟨h4, h5, h6⟩ | ⟨h4, h5⟩)
          · exact .inr ⟨fun he => hk (by rw [← he, ← h]), .inl h⟩
          · exact .inl ⟨h4, h5, .inr h6⟩
          · exact .inr ⟨h4, .inr h5⟩
        · rintro (⟨h4, h5, h6 | h6⟩ | ⟨h4, h5 | h5⟩)
          · exact absurd h6 hk
          · exact .inr (.inl ⟨h4, h5, h6⟩)
          · exact .inl h5
          · exact .inr (.inr ⟨h4, h5⟩)
theorem nodup_key {E : List MapEntry} (h : (E.map (·.key)).Nodup) {a b : MapEntry} (ha : a ∈ E) (hb : b ∈ E) (e : a.key = b.key) : a = b := by
  induction E with
  | nil => cases ha
  | cons x E ih =>
    rw [List.map_cons, List.nodup_cons] at h
    rcases List.mem_cons.1 ha with h1 | h1 <;> rcases List.mem_cons.1 hb with h2 | h2
    · rw [h1, h2]
    · rw [← h1] at h; exact absurd (List.mem_map.2 ⟨b, h2, e.symm⟩) h.1
    · rw [← h2] at h; exact absurd (List.mem_map.2 ⟨a, h1, e⟩) h.1
    · exact ih h.2 h1 h2
/-! ### the map in memory -/
theorem obj_ok {D D' k : Nat} {ao ao' : AO} {o' : Obj} {H : T AO} (h : WR ρ W w) (hD : ρ D = some (D', k)) (e : W.heap.get D = some ao) (hC : ao.isC = false) (e2 : W.heap.set 40 D ao' = .ok H) (hl : ∀ al cs, ao' ≠ .live al cs) (hO : OR ρ k ao' o') : WR ρ ⟨H, W.next⟩ (w.putObj D' o') ∧ Up ρ W w ρ ⟨H, W.next⟩ (w.putObj D' o') := by
  have hget : ∀ x, H.get x = if x = D then some ao' else W.heap.get x := fun x => set_get 40 e2 x
  have uniq : ∀ b n1, ρ b = some (D', n1) → b = D := fun b n1 hb => h.inj b D D' n1 k ao hb hD e hC
  have hlt := h.lt hD
  have tyo : ∀ (c : Nat) (C : Array Value) (t : TypeId) (fz : Nat × Nat), w.heap[c]? = some (.cells C t fz) → ∃ C', (w.putObj D' o').heap[c]? = some (.cells C' t fz) ∧ C'.size = C.size := fun c C t fz hc => by
    refine ⟨C, ?_, rfl⟩
    rw [World.putObj_heap_other fun ecd => ?_]
    · exact hc
    · subst ecd
      obtain ⟨_, ao1, o1, k2, k3, k4⟩ := h.dom D c k hD
      rw [e] at k2; cases k2
      rw [hc] at k3; cases k3
      cases ao <;> first | exact k4.elim | cases hC
  refine ⟨⟨?_, ?_, ?_, ?_, ?_⟩, ⟨.rfl ρ, Nat.le_refl _, ?_, by simp, ?_, fun b c n e => .inl ⟨b, n, e⟩, ⟨rfl, rfl, rfl⟩, tyo⟩⟩
  · intro b1 c1 n1 hb1
    obtain ⟨k1, ao1, o1, k2, k3, k4⟩ := h.dom b1 c1 n1 hb1
    refine ⟨k1, ?_⟩
    by_cases hbb : b1 = D
    · subst hbb
      rw [hD] at hb1; cases hb1
      exact ⟨ao', o', by rw [hget, if_pos rfl], World.putObj_heap_same hlt, hO⟩
    · have : c1 ≠ D' := fun e => hbb (uniq b1 n1 (e ▸ hb1))
      exact ⟨ao1, o1, by rw [hget, if_neg hbb]; exact k2, by rw [World.putObj_heap_other this]; exact k3, k4⟩
  · intro b1 b2 c1 n1 n2 al cs hb1 hb2 hne hg
    rw [hget] at hg
    by_cases hbb : b2 = D
    · rw [if_pos hbb] at hg; cases hg; exact absurd rfl (hl al cs)
    · rw [if_neg hbb] at hg
      show H.get b1 = some .dead ∨ (_ ∧ ∃ cs', H.get b1 = _ ∧ _)
      have old := h.al b1 b2 c1 n1 n2 al cs hb1 hb2 hne hg
      have : b1 ≠ D := fun e1 => by
        subst e1
        rw [hD] at hb1; cases hb1
        exact hbb (uniq b2 n2 hb2)
      rw [hget, if_neg this]; exact old
  · intro b1 p al cs hb1 hg x hx
    rw [hget] at hg
    by_cases hbb : b1 = D
    · rw [if_pos hbb] at hg; cases hg; exact absurd rfl (hl al cs)
    · rw [if_neg hbb] at hg
      exact h.ald b1 p al cs hb1 hg x hx
  · intro b1 b2 c1 n1 n2 ao2 hb1 hb2 hg hC2
    rw [hget] at hg
    by_cases hbb : b2 = D
    · subst hbb
      rw [hD] at hb2; cases hb2
      exact uniq b1 n1 hb1
    · rw [if_neg hbb] at hg
      exact h.inj b1 b2 c1 n1 n2 ao2 hb1 hb2 hg hC2
  · intro b1 hb
    show H.get b1 = none
    have hb : W.next ≤ b1 := hb
    have := (h.dom D D' k hD).1
    rw [hget, if_neg (fun e => by rw [e] at hb; exact absurd this (by omega)), h.top b1 hb]
  · intro b1 _ hn
    refine ⟨hn, fun _ e9 => ?_⟩
    show H.get b1 = _
    rw [hget, if_neg (fun e => by rw [e, hD] at hn; cases hn)]
    exact e9
  · intro c1 _ hn
    exact World.putObj_heap_other (fun e => hn D k (by rw [e]; exact hD))
theorem es_ok {b c m : Nat} {es : List (Value × Value)} (h : WR ρ W w) (hb : ρ b = some (c, m)) (e : W.es b = .ok es) : W.heap.get b = some (.map es) ∧ ∃ E clock, w.heap[c]? = some (.map E clock) ∧ MR ρ es E.toList := by
  obtain ⟨ao, h1, h2⟩ := bd_ok e
  have h1 := of_ok h1
  obtain ⟨_, ao', ob, h3, h4, h5⟩ := h.dom b c m hb
  rw [h1] at h3; cases h3
  cases ao <;> first | cases h2 | skip
  cases ob <;> simp only [OR] at h5
  exact ⟨h1, _, _, h4, h5⟩
theorem asM_ok {b : Option Nat} (e : asM v = .ok b) : v = .map b := by
  unfold asM at e
  split at e <;> cases e
  rfl
theorem mapT_ok {u : TypeDesc} {q : TypeId × TypeId} (e : mapT u = .ok q) : u = .map q.1 q.2 := by
  unfold mapT at e
  split at e <;> cases e
  rfl
theorem zeroV_ok (e : zeroV P t = .ok v) : VR ρ v v ∧ ∀ w, (zeroValue t).run P w = .ok v w := by
  obtain ⟨z, h1, e1⟩ := bd_ok e
  obtain ⟨i, h2, h3⟩ := zero_ok h1
  rcases bl_ok e1 with ⟨h4, e2⟩ | ⟨_, e2⟩ <;> cases e2
  exact ⟨VR.key h4, fun w => by simp [zeroValue, typeInfo, h2, h3]⟩
theorem lkV_ok {ok b : Bool} (h : VR ρ v v') : VR ρ (lkV ok v b) (if ok = true then .tuple #[v', .bool b] else v') := by
  cases ok with
  | true => exact VR.mkTuple (.cons h (.cons (.flat rfl) .nil))
  | false => exact h
theorem mget_ok {m m' : Value} {ok : Bool} (e : mgetV P W t m k ok = .ok v) (hm : VR ρ m m') (hk : VR ρ k k') (h : WR ρ W w) : ∃ v', VR ρ v v' ∧ (Instr.lookup t m' k' ok).run P w = .ok v' w := by
  obtain ⟨u, h1, e1⟩ := bd_ok e
  obtain ⟨q, h2, e2⟩ := bd_ok e1
  obtain ⟨_, h3, e3⟩ := bd_ok e2
  obtain ⟨b, h4, e4⟩ := bd_ok e3
  have hu := under_ok h1
  rw [mapT_ok h2] at hu
  obtain ⟨g1, g0, ⟨uk, g2⟩, g3⟩ := keyE_ok h3
  rw [hk.of_key g1]
  rw [asM_ok h4] at hm
  cases b with
  | none =>
    rw [hm.of_flat rfl]
    obtain ⟨z, h5, e5⟩ := bd_ok (x := zeroV P q.2) e4
    cases e5
    obtain ⟨h6, h7⟩ := zeroV_ok (ρ := ρ) h5
    refine ⟨_, lkV_ok (ok := ok) (b := false) h6, ?_⟩
    have h8 := findKey_ok (P := P) (k := k) g2 w (l := []) (fun e he => by cases he)
    simp only [Instr.lookup, Sem.run_bind, run_underlying hu, Result.andThen_ok, Sem.run_pure]
    simp only [g3, Result.andThen_ok, h8, fsp, h7, Sem.run_bind, Sem.run_pure]
  | some b =>
    have e4 : (W.es b).bd (fun es => (mfind P q.1 k es).bd fun o => @Option.rec Value (fun _ => E Value) ((zeroV P q.2).bd fun z => .ok (lkV ok z false)) (fun v => .ok (lkV ok v true)) o) = .ok v := e4
    obtain ⟨es, h5, e5⟩ := bd_ok e4
    obtain ⟨o, h6, e6⟩ := bd_ok e5
    obtain ⟨c, n, hc, rfl⟩ : ∃ c n, ρ b = some (c, n) ∧ m' = .map (some c) := by
      cases hm with
      | flat h => simp [Ke.flat] at h
      | map h => exact ⟨_, _, h, rfl⟩
    obtain ⟨_, E, clock, g4, g5⟩ := es_ok h hc h5
    obtain ⟨f1, f2, f3⟩ := mfind_ok h6
    have f4 : ∀ e ∈ E.toList, ∃ b, keq P q.1 k e.key = .ok b := fun e he => by
      obtain ⟨v1, j1, _⟩ := g5.fr e he
      exact f1 _ j1
    have h8 := findKey_ok (P := P) (k := k) g2 w f4
    have hget : (getObj c).run P w = .ok (.map E clock) w := by simp [getObj, Sem.run, g4]
    have hrun : ∀ r, fsp k E.toList 0 = r → (Instr.lookup t (.map (some c)) k ok).run P w = (match r with | some (_, v) => (pure (if ok = true then .tuple #[v, .bool true] else v) : Sem Value) | none => do let z ← zeroValue q.2; pure (if ok = true then .tuple #[z, .bool false] else z)).run P w := by
      intro r hr
      simp only [Instr.lookup, Sem.run_bind, run_underlying hu, Result.andThen_ok, Sem.run_pure, hget]
      simp only [g3, Result.andThen_ok, h8, hr]
      cases r with
      | none => simp only [Sem.run_bind]; rfl
      | some p => rfl
    cases o with
    | none =>
      obtain ⟨z, h9, e7⟩ := bd_ok (x := zeroV P q.2) e6
      cases e7
      obtain ⟨j1, j2⟩ := zeroV_ok (ρ := ρ) h9
      refine ⟨_, lkV_ok (ok := ok) (b := false) j1, ?_⟩
      have hn : fsp k E.toList 0 = none := by
        cases hf : fsp k E.toList 0 with
        | none => rfl
        | some p =>
          obtain ⟨_, e', q1, q2, _⟩ := fsp_some hf
          obtain ⟨v1, q3, _⟩ := g5.fr e' (List.mem_of_getElem? q1)
          exact absurd q2 (f3 rfl _ q3)
      rw [hrun _ hn]
      simp only [Sem.run_bind, j2, Result.andThen_ok, Sem.run_pure]
    | some v1 =>
      cases e6
      have j1 := f2 v1 rfl
      obtain ⟨e', j2, j3, j4⟩ := g5.to k v1 j1
      refine ⟨_, lkV_ok (ok := ok) (b := true) j4, ?_⟩
      cases hf : fsp k E.toList 0 with
      | none => exact absurd j3 (fsp_none hf e' j2)
      | some p =>
        obtain ⟨i, v2⟩ := p
        obtain ⟨_, e2, q1, q2, q3⟩ := fsp_some hf
        have q4 : e2 = e' := by
          have hn := g5.ne
          have q5 := List.mem_of_getElem? q1
          exact nodup_key hn q5 j2 (q2.trans j3.symm)
        subst q4
        rw [hrun _ hf, ← q3]
        simp only [Sem.run_pure]
theorem nodup_at {α : Type} {l : List α} (h : l.Nodup) {i j : Nat} (hi : i < l.length) (hj : j < l.length) (hij : i < j) (e : l[i]? = l[j]?) : False := by
  have := List.pairwise_iff_getElem.1 h i j hi hj hij
  rw [List.getElem?_eq_getElem hi, List.getElem?_eq_getElem hj] at e
  exact this (Option.some.inj e)
theorem mr_new {es : List (Value × Value)} {E : List MapEntry} {bn : Nat} (h : MR ρ es E) (hk : ∀ p ∈ es, p.1 ≠ k) (hv : VR ρ v v') : MR ρ (es ++ [(k, v)]) (E ++ [⟨k, v', bn⟩]) := by
  have hE : ∀ e ∈ E, e.key ≠ k := fun e he => by
    obtain ⟨u, h1, _⟩ := h.fr e he
    exact hk _ h1
  refine ⟨by simp [h.sz], ?_, ?_, fun k1 v1 hm => ?_, fun e he => ?_⟩
  · rw [List.map_append, List.nodup_append]
    refine ⟨h.nd, by simp, fun a ha b hb => ?_⟩
    obtain ⟨p, hp, rfl⟩ := List.mem_map.1 ha
    have : b = k := by simpa using hb
    rw [this]; exact hk p hp
  · rw [List.map_append, List.nodup_append]
    refine ⟨h.ne, by simp, fun a ha b hb => ?_⟩
    obtain ⟨p, hp, rfl⟩ := List.mem_map.1 ha
    have : b = k := by simpa using hb
    rw [this]; exact hE p hp
  · rcases List.mem_append.1 hm with hm | hm
    · obtain ⟨e, h1, h2⟩ := h.to k1 v1 hm
      exact ⟨e, List.mem_append_left _ h1, h2⟩
    · have : (k1, v1) = (k, v) := by simpa using hm
      cases this
      exact ⟨⟨k, v', bn⟩, List.mem_append_right _ (List.mem_singleton.2 rfl), rfl, hv⟩
  · rcases List.mem_append.1 he with he | he
    · obtain ⟨u, h1, h2⟩ := h.fr e he
      exact ⟨u, List.mem_append_left _ h1, h2⟩
    · have : e = ⟨k, v', bn⟩ := by simpa using he
      subst this
      exact ⟨v, List.mem_append_right _ (List.mem_singleton.2 rfl), hv⟩
theorem mr_old {es r : List (Value × Value)} {E : List MapEntry} {i : Nat} {e0 : MapEntry} (h : MR ρ es E) (hi : E[i]? = some e0) (h0 : e0.key = k) (hr : r.map (·.1) = es.map (·.1)) (hm : ∀ k1 v1, (k1, v1) ∈ r ↔ (k1 = k ∧ v1 = v ∧ k ∈ es.map (·.1)) ∨ (k1 ≠ k ∧ (k1, v1) ∈ es)) (hv : VR ρ v v') :
    MR ρ r (E.modify i fun e => { e with key := k, val := v' }) := by
  have hmem : k ∈ es.map (·.1) := by
    obtain ⟨u, h1, _⟩ := h.fr e0 (List.mem_of_getElem? hi)
    rw [h0] at h1
    exact List.mem_map.2 ⟨_, h1, rfl⟩
  have hkey : (E.modify i fun e => { e with key := k, val := v' }).map (·.key) = E.map (·.key) := by
    apply List.ext_getElem?
    intro j
    rw [List.getElem?_map, List.getElem?_map, List.getElem?_modify]
    by_cases hj : i = j
    · subst hj
      rw [hi]; simp [h0]
    · cases E[j]? <;> simp [hj]
  have hin : ∀ e, e ∈ E → e.key ≠ k → e ∈ E.modify i fun e => { e with key := k, val := v' } := by
    intro e he hne
    obtain ⟨j, hj⟩ := List.getElem?_of_mem he
    refine List.mem_of_getElem? (i := j) ?_
    rw [List.getElem?_modify, hj]
    have : i ≠ j := fun hij => by
      subst hij
      rw [hi] at hj; cases hj
      exact hne h0
    simp [this]
  have hat : (⟨k, v', e0.born⟩ : MapEntry) ∈ E.modify i fun e => { e with key := k, val := v' } := by
    refine List.mem_of_getElem? (i := i) ?_
    rw [List.getElem?_modify, hi]
    simp
  refine ⟨?_, by rw [hr]; exact h.nd, by rw [hkey]; exact h.ne, fun k1 v1 h1 => ?_, fun e he => ?_⟩
  · have : r.length = es.length := by
      have := congrArg List.length hr
      simpa using this
    rw [this, h.sz, List.length_modify]
  · rcases (hm k1 v1).1 h1 with ⟨rfl, rfl, _⟩ | ⟨h2, h3⟩
    · exact ⟨_, hat, rfl, hv⟩
    · obtain ⟨e, h4, h5, h6⟩ := h.to k1 v1 h3
      exact ⟨e, hin e h4 (by rw [h5]; exact h2), h5, h6⟩
  · obtain ⟨j, hj⟩ := List.getElem?_of_mem he
    rw [List.getElem?_modify] at hj
    by_cases hij : i = j
    · subst hij
      rw [hi] at hj
      have : e = ⟨k, v', e0.born⟩ := by simpa using hj.symm
      subst this
      exact ⟨v, (hm k v).2 (.inl ⟨rfl, rfl, hmem⟩), hv⟩
    · have hj : E[j]? = some e := by
        cases hq : E[j]? with
        | none => rw [hq] at hj; cases hj
        | some e' => rw [hq] at hj; simp [hij] at hj; rw [hj]
      obtain ⟨u, h2, h3⟩ := h.fr e (List.mem_of_getElem? hj)
      refine ⟨u, (hm _ _).2 (.inr ⟨fun hk => ?_, h2⟩), h3⟩
      have h4 := nodup_key h.ne (List.mem_of_getElem? hj) (List.mem_of_getElem? hi) (hk.trans h0.symm)
      subst h4
      have h5 : i < (E.map (·.key)).length := by simpa using (List.getElem?_eq_some_iff.1 hi).1
      have h6 : j < (E.map (·.key)).length := by simpa using (List.getElem?_eq_some_iff.1 hj).1
      have h7 : (E.map (·.key))[i]? = (E.map (·.key))[j]? := by rw [List.getElem?_map, List.getElem?_map, hi, hj]
      rcases Nat.lt_or_gt_of_ne hij with hl | hl
      · exact nodup_at h.ne h5 h6 hl h7
      · exact nodup_at h.ne h6 h5 hl h7.symm
theorem run_setMap {c clock : Nat} {E : Array MapEntry} (o : Obj) (h : w.heap[c]? = some (.map E clock)) : (setObj c o).run P w = .ok () (w.putObj c o) := by simp [setObj, Sem.run, h, World.putObj]
theorem mput_ok {m m' : Value} (e : mputV P W t m k v = .ok W') (hm : VR ρ m m') (hk : VR ρ k k') (hv : VR ρ v v') (h : WR ρ W w) : ∃ w', (Instr.mapUpdate t m' k' v').run P w = .ok () w' ∧ WR ρ W' w' ∧ Up ρ W w ρ W' w' := by
  obtain ⟨u, h1, e1⟩ := bd_ok e
  obtain ⟨q, h2, e2⟩ := bd_ok e1
  obtain ⟨_, h3, e3⟩ := bd_ok e2
  obtain ⟨b, h4, e4⟩ := bd_ok e3
  have hu := under_ok h1
  rw [mapT_ok h2] at hu
  obtain ⟨g1, g0, ⟨uk, g2⟩, g3⟩ := keyE_ok h3
  rw [hk.of_key g1]
  rw [asM_ok h4] at hm
  cases b with
  | none => cases e4
  | some b =>
    have e4 : (W.es b).bd (fun es => (mfind P q.1 k es).bd fun o => (@Option.rec Value (fun _ => E (List (Value × Value))) (.ok (es ++ [(k, v)])) (fun _ => mrep P q.1 k v es) o).bd fun es' => (W.heap.set 40 b (.map es')).bd fun H => .ok (⟨H, W.next⟩ : AW)) = .ok W' := e4
    obtain ⟨es, h5, e5⟩ := bd_ok e4
    obtain ⟨o, h6, e6⟩ := bd_ok e5
    obtain ⟨es', h7, e7⟩ := bd_ok e6
    obtain ⟨H, h8, e8⟩ := bd_ok e7
    cases e8
    obtain ⟨c, n, hc, rfl⟩ : ∃ c n, ρ b = some (c, n) ∧ m' = .map (some c) := by
      cases hm with
      | flat h => simp [Ke.flat] at h
      | map h => exact ⟨_, _, h, rfl⟩
    obtain ⟨g6, E, clock, g4, g5⟩ := es_ok h hc h5
    obtain ⟨f1, f2, f3⟩ := mfind_ok h6
    have f4 : ∀ e ∈ E.toList, ∃ b, keq P q.1 k e.key = .ok b := fun e he => by
      obtain ⟨v1, j1, _⟩ := g5.fr e he
      exact f1 _ j1
    have f5 := findKey_ok (P := P) (k := k) g2 w f4
    have hget : (getObj c).run P w = .ok (.map E clock) w := by simp [getObj, Sem.run, g4]
    have hput := fun (E' : Array MapEntry) (cl : Nat) (hE : MR ρ es' E'.toList) => obj_ok (ao' := .map es') (o' := .map E' cl) h hc g6 rfl h8 (fun _ _ h => by cases h) hE
    cases o with
    | none =>
      cases h7
      have hn : fsp k E.toList 0 = none := by
        cases hf : fsp k E.toList 0 with
        | none => rfl
        | some p =>
          obtain ⟨_, e', q1, q2, _⟩ := fsp_some hf
          obtain ⟨v1, q3, _⟩ := g5.fr e' (List.mem_of_getElem? q1)
          exact absurd q2 (f3 rfl _ q3)
      rw [hn] at f5
      obtain ⟨j1, j2⟩ := hput (E.push ⟨k, v', clock⟩) (clock + 1) (by simpa using mr_new (bn := clock) g5 (f3 rfl) hv)
      refine ⟨_, ?_, j1, j2⟩
      simp only [Instr.mapUpdate, Sem.run_bind, run_underlying hu, Result.andThen_ok, hget]
      simp only [g3, Result.andThen_ok, f5, run_setMap _ g4]
    | some v1 =>
      have h7 : mrep P q.1 k v es = .ok es' := h7
      obtain ⟨r1, r2⟩ := mrep_ok h7
      obtain ⟨e', j2, j3, j4⟩ := g5.to k v1 (f2 v1 rfl)
      cases hf : fsp k E.toList 0 with
      | none => exact absurd j3 (fsp_none hf e' j2)
      | some p =>
        obtain ⟨i, v2⟩ := p
        rw [hf] at f5
        obtain ⟨_, e0, q1, q2, q3⟩ := fsp_some hf
        have q1 : E.toList[i]? = some e0 := by simpa using q1
        obtain ⟨j5, j6⟩ := hput (E.modify i fun e => { e with key := k, val := v' }) clock (by
          rw [Array.toList_modify]
          exact mr_old g5 q1 q2 r1 r2 hv)
        refine ⟨_, ?_, j5, j6⟩
        have q4 : E[i]? = some e0 := by simpa using q1
        have hst : (Instr.keyThatStays k k).run P w = .ok k w := by
          unfold Instr.keyThatStays
          rw [if_pos (sbB_ok g0)]
          simp
        simp only [Instr.mapUpdate, Sem.run_bind, run_underlying hu, Result.andThen_ok, hget]
        simp only [g3, Result.andThen_ok, f5, q4, Option.map_some, Option.getD_some, q2]
        rw [Sem.run_bind, hst]
        simp only [Result.andThen_ok, run_setMap _ g4]
end
end Go.Ke
