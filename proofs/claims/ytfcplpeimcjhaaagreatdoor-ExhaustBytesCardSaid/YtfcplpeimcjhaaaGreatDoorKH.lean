/- Binary operations. Conditions: none. Values that are surely the same. Conditions: none. Operations that only reckon, one by one. Conditions: none. The operations that only reckon. Conditions: none. -/
import Derived.Test.YtfcplpeimcjhaaaGreatDoorKE
import Derived.Laws.StructEq
namespace Go.Ke
open Go.RowKit
noncomputable section
def binIM (op : BinOp) (k : IntKind) (a b : Int) : E Value := match op with
  | .add => .ok (.int k (wr k (Int.add a b)))
  | .sub => .ok (.int k (wr k (Int.sub a b)))
  | .mul => .ok (.int k (wr k (Int.mul a b)))
  | .quo => bl (ieq b 0) (.er "div") (.ok (.int k (wr k (a.tdiv b))))
  | .rem => bl (ieq b 0) (.er "div") (.ok (.int k (a.tmod b)))
  | .and => .ok (.int k (wr k (BitVec.ofInt k.bits a &&& BitVec.ofInt k.bits b).toNat))
  | .or => .ok (.int k (wr k (BitVec.ofInt k.bits a ||| BitVec.ofInt k.bits b).toNat))
  | .xor => .ok (.int k (wr k (BitVec.ofInt k.bits a ^^^ BitVec.ofInt k.bits b).toNat))
  | .andNot => .ok (.int k (wr k (BitVec.ofInt k.bits a &&& ~~~BitVec.ofInt k.bits b).toNat))
  | .eql => .ok (.bool (ieq a b))
  | .neq => .ok (.bool (bl (ieq a b) false true))
  | .lss => .ok (.bool (ilt a b))
  | .leq => .ok (.bool (bl (ilt b a) false true))
  | .gtr => .ok (.bool (ilt b a))
  | .geq => .ok (.bool (bl (ilt a b) false true))
  | _ => .er "binI"
def binI (op : BinOp) (k : IntKind) (a b : Int) : E Value := @BinOp.rec (fun _ => IntKind → Int → Int → E Value) (fun k a b => .ok (.int k (wr k (Int.add a b)))) (fun k a b => .ok (.int k (wr k (Int.sub a b)))) (fun k a b => .ok (.int k (wr k (Int.mul a b)))) (fun k a b => bl (ieq b 0) (.er "div") (.ok (.int k (wr k (a.tdiv b))))) (fun k a b => bl (ieq b 0) (.er "div") (.ok (.int k (a.tmod b)))) (fun k a b => .ok (.int k (wr k (BitVec.ofInt k.bits a &&& BitVec.ofInt k.bits b).toNat))) (fun k a b => .ok (.int k (wr k (BitVec.ofInt k.bits a ||| BitVec.ofInt k.bits b).toNat))) (fun k a b => .ok (.int k (wr k (BitVec.ofInt k.bits a ^^^ BitVec.ofInt k.bits b).toNat))) (fun _ _ _ => .er "binI") (fun _ _ _ => .er "binI") (fun k a b => .ok (.int k (wr k (BitVec.ofInt k.bits a &&& ~~~BitVec.ofInt k.bits b).toNat))) (fun _ a b => .ok (.bool (ieq a b))) (fun _ a b => .ok (.bool (bl (ieq a b) false true))) (fun _ a b => .ok (.bool (ilt a b))) (fun _ a b => .ok (.bool (bl (ilt b a) false true))) (fun _ a b => .ok (.bool (ilt b a))) (fun _ a b => .ok (.bool (bl (ilt a b) false true))) op k a b
def shI (op : BinOp) (k : IntKind) (a b : Int) : E Value := bl (ilt b 0) (.er "shift") (match op with
  | .shl => .ok (.int k (wr k (Int.mul a (Int.ofNat (Nat.pow 2 (min b.toNat k.bits))))))
  | .shr => .ok (.int k (a.fdiv (Int.ofNat (Nat.pow 2 (min b.toNat k.bits)))))
  | _ => .er "shI")
def binSM (op : BinOp) (a b : ByteArray) : E Value := match op with
  | .add => bl (Nat.blt (a.data.toList.length + b.data.toList.length) 9223372036854775807) (.ok (.string ⟨⟨a.data.toList ++ b.data.toList⟩⟩)) (.er "add")
  | .eql => .ok (.bool (leq (ub a) (ub b)))
  | .neq => .ok (.bool (bl (leq (ub a) (ub b)) false true))
  | .lss => .ok (.bool (llt (ub a) (ub b)))
  | .leq => .ok (.bool (bl (llt (ub b) (ub a)) false true))
  | .gtr => .ok (.bool (llt (ub b) (ub a)))
  | .geq => .ok (.bool (bl (llt (ub a) (ub b)) false true))
  | _ => .er "binS"
def binS (op : BinOp) (a b : ByteArray) : E Value := @BinOp.rec (fun _ => ByteArray → ByteArray → E Value) (fun a b => bl (Nat.blt (a.data.toList.length + b.data.toList.length) 9223372036854775807) (.ok (.string ⟨⟨a.data.toList ++ b.data.toList⟩⟩)) (.er "add")) (fun _ _ => .er "binS") (fun _ _ => .er "binS") (fun _ _ => .er "binS") (fun _ _ => .er "binS") (fun _ _ => .er "binS") (fun _ _ => .er "binS") (fun _ _ => .er "binS") (fun _ _ => .er "binS") (fun _ _ => .er "binS") (fun _ _ => .er "binS") (fun a b => .ok (.bool (leq (ub a) (ub b)))) (fun a b => .ok (.bool (bl (leq (ub a) (ub b)) false true))) (fun a b => .ok (.bool (llt (ub a) (ub b)))) (fun a b => .ok (.bool (bl (llt (ub b) (ub a)) false true))) (fun a b => .ok (.bool (llt (ub b) (ub a)))) (fun a b => .ok (.bool (bl (llt (ub a) (ub b)) false true))) op a b
def binIIM (op : BinOp) (k k' : IntKind) (m n : Int) : E Value := match op with
    | .shl => shI .shl k m n
    | .shr => shI .shr k m n
    | op => bl (Nat.beq k.ctorIdx k'.ctorIdx) (binI op k m n) (.er "kinds")
def binII (op : BinOp) (k k2 : IntKind) (m n : Int) : E Value := @BinOp.rec (fun _ => IntKind → IntKind → Int → Int → E Value) (fun k k2 m n => bl (Nat.beq k.ctorIdx k2.ctorIdx) (binI .add k m n) (.er "kinds")) (fun k k2 m n => bl (Nat.beq k.ctorIdx k2.ctorIdx) (binI .sub k m n) (.er "kinds")) (fun k k2 m n => bl (Nat.beq k.ctorIdx k2.ctorIdx) (binI .mul k m n) (.er "kinds")) (fun k k2 m n => bl (Nat.beq k.ctorIdx k2.ctorIdx) (binI .quo k m n) (.er "kinds")) (fun k k2 m n => bl (Nat.beq k.ctorIdx k2.ctorIdx) (binI .rem k m n) (.er "kinds")) (fun k k2 m n => bl (Nat.beq k.ctorIdx k2.ctorIdx) (binI .and k m n) (.er "kinds")) (fun k k2 m n => bl (Nat.beq k.ctorIdx k2.ctorIdx) (binI .or k m n) (.er "kinds")) (fun k k2 m n => bl (Nat.beq k.ctorIdx k2.ctorIdx) (binI .xor k m n) (.er "kinds")) (fun k _ m n => shI .shl k m n) (fun k _ m n => shI .shr k m n) (fun k k2 m n => bl (Nat.beq k.ctorIdx k2.ctorIdx) (binI .andNot k m n) (.er "kinds")) (fun k k2 m n => bl (Nat.beq k.ctorIdx k2.ctorIdx) (binI .eql k m n) (.er "kinds")) (fun k k2 m n => bl (Nat.beq k.ctorIdx k2.ctorIdx) (binI .neq k m n) (.er "kinds")) (fun k k2 m n => bl (Nat.beq k.ctorIdx k2.ctorIdx) (binI .lss k m n) (.er "kinds")) (fun k k2 m n => bl (Nat.beq k.ctorIdx k2.ctorIdx) (binI .leq k m n) (.er "kinds")) (fun k k2 m n => bl (Nat.beq k.ctorIdx k2.ctorIdx) (binI .gtr k m n) (.er "kinds")) (fun k k2 m n => bl (Nat.beq k.ctorIdx k2.ctorIdx) (binI .geq k m n) (.er "kinds")) op k k2 m n
end
theorem binI_eq (op : BinOp) (k : IntKind) (a b : Int) : binI op k a b = binIM op k a b := by cases op <;> rfl
theorem binS_eq (op : BinOp) (a b : ByteArray) : binS op a b = binSM op a b := by cases op <;> rfl
theorem binII_eq (op : BinOp) (k k2 : IntKind) (m n : Int) : binII op k k2 m n = binIIM op k k2 m n := by cases op <;> rfl
theorem int_beq (a b : Int) : (a == b) = decide (a = b) := by
  by_cases h : a = b <;> simp [h]
theorem not_lt' (a b : Int) : decide (a ≤ b) = !decide (b < a) := by by_cases h : a ≤ b <;> simp [h] <;> omega
theorem bl_not (b : Bool) : bl b false true = !b := by cases b <;> rfl
section
variable {P : Program} {op : BinOp} {t : TypeId} {x y : Operand} {k k' : IntKind} {a b : Int} {v : Value}
theorem binI_ok (e : binI op k a b = .ok v) (w : World) : (do eqGuard op t x y (.int k a) (.int k b); binOp op t (.int k a) (.int k b) : Sem Value).run P w = .ok v w := by
  rw [binI_eq] at e
  cases op <;> simp only [binIM, wr_eq, ieq_eq, ilt_eq, bl_not] at e <;> first
    | (cases e; simp [eqGuard, binOp, go_sem, int_beq]; done)
    | (rcases bl_ok e with ⟨h1, h2⟩ | ⟨h1, h2⟩ <;> cases h2; have h1 := of_decide_eq_false h1; simp [eqGuard, binOp, go_sem, h1]; done)
    | (cases e; done)
    | (cases e; simp [eqGuard, binOp, go_sem]; rfl)
    | (cases e; simp [eqGuard, binOp, go_sem, not_lt'])
theorem pow_cast (n : Nat) : ((2 : Int) ^ n) = ((2 ^ n : Nat) : Int) := by simp
theorem shI_ok (e : shI op k a b = .ok v) (w : World) : (do eqGuard op t x y (.int k a) (.int k' b); binOp op t (.int k a) (.int k' b) : Sem Value).run P w = .ok v w := by
  unfold shI at e
  rcases bl_ok e with ⟨_, h2⟩ | ⟨h1, h2⟩
  · cases h2
  · rw [ilt_eq] at h1
    have h1 := of_decide_eq_false h1
    cases op <;> simp only [wr_eq] at h2 <;> first
      | (cases h2; done)
      | (cases h2; simp [eqGuard, binOp, Op.shift, h1, go_sem])
theorem ub_toList (s : ByteArray) : ub s = s.toList.map UInt8.toNat := by
  unfold ub
  congr 1
  exact (ByteArray.toList_eq s).symm
theorem leq_eq : ∀ (a b : List UInt8), leq (a.map UInt8.toNat) (b.map UInt8.toNat) = (a == b)
  | [], [] => rfl
  | [], y :: b => rfl
  | x :: a, [] => rfl
  | x :: a, y :: b => by
    show bl (Nat.beq x.toNat y.toNat) (leq (a.map UInt8.toNat) (b.map UInt8.toNat)) false = _
    rw [leq_eq a b]
    cases h : Nat.beq x.toNat y.toNat with
    | true =>
      have := UInt8.toNat_inj.1 (Nat.eq_of_beq_eq_true h)
      subst this; simp [bl]
    | false =>
      have : x ≠ y := fun e => Nat.ne_of_beq_eq_false h (by rw [e])
      simp [bl, this]
theorem llt_eq : ∀ (a b : List UInt8), llt (a.map UInt8.toNat) (b.map UInt8.toNat) = Op.bytesLess a b
  | [], [] => rfl
  | [], y :: b => rfl
  | x :: a, [] => rfl
  | x :: a, y :: b => by
    show bl (Nat.blt x.toNat y.toNat) true (bl (Nat.beq x.toNat y.toNat) (llt (a.map UInt8.toNat) (b.map UInt8.toNat)) false) = (decide (x < y) || (x == y && Op.bytesLess a b))
    rw [llt_eq a b]
    have h1 : Nat.blt x.toNat y.toNat = decide (x < y) := by rw [Bool.eq_iff_iff, Nat.blt_eq, decide_eq_true_iff, UInt8.lt_iff_toNat_lt]
    rw [h1]
    cases h : Nat.beq x.toNat y.toNat with
    | true =>
      have := UInt8.toNat_inj.1 (Nat.eq_of_beq_eq_true h)
      subst this; simp [bl]
    | false =>
      have : x ≠ y := fun e => Nat.ne_of_beq_eq_false h (by rw [e])
      cases decide (x < y) <;> simp [bl, this]
theorem bytesLess_tot : ∀ (a b : List UInt8), Op.bytesLess b a = !(Op.bytesLess a b || a == b)
  | [], [] => rfl
  | [], y :: b => rfl
  | x :: a, [] => rfl
  | x :: a, y :: b => by
    show (decide (y < x) || (y == x && Op.bytesLess b a)) = !((decide (x < y) || (x == y && Op.bytesLess a b)) || (x :: a) == (y :: b))
    rw [bytesLess_tot a b]
    by_cases h : x = y
    · subst h
      have : ¬ x < x := UInt8.lt_irrefl x
      simp [this]
    · have h' : ¬ y = x := fun e => h e.symm
      have h1 : ¬ x.toNat = y.toNat := fun e => h (UInt8.toNat_inj.1 e)
      by_cases h2 : x < y
      · have h3 : ¬ y < x := by rw [UInt8.lt_iff_toNat_lt] at *; omega
        simp [h', h2, h3]
      · have h3 : y < x := by rw [UInt8.lt_iff_toNat_lt] at *; omega
        simp [h, h2, h3]
theorem binS_ok {s r : ByteArray} (e : binS op s r = .ok v) (w : World) : (do eqGuard op t x y (.string s) (.string r); binOp op t (.string s) (.string r) : Sem Value).run P w = .ok v w := by
  rw [binS_eq] at e
  cases op <;> simp only [binSM, bl_not, ub_toList, leq_eq, llt_eq] at e <;> first
    | (cases e; done)
    | (cases e; simp [eqGuard, binOp, Op.stringOp, go_sem]; done)
    | (cases e; rw [bytesLess_tot s.toList r.toList]; simp [eqGuard, binOp, Op.stringOp, go_sem]; done)
    | skip
  · rcases bl_ok e with ⟨h1, h2⟩ | ⟨h1, h2⟩ <;> cases h2
    rw [Nat.blt_eq] at h1
    have h3 : ¬ (9223372036854775807 : Int) < (s.size : Int) + (r.size : Int) := by
      have e1 : s.size = s.data.toList.length := (Array.length_toList ..).symm
      have e2 : r.size = r.data.toList.length := (Array.length_toList ..).symm
      omega
    have h4 : s ++ r = ⟨⟨s.data.toList ++ r.data.toList⟩⟩ := by
      apply ByteArray.ext
      apply Array.ext'
      simp
    simp [eqGuard, binOp, Op.stringOp, go_sem, h3, h4]
end
end Go.Ke
namespace Go.Ke
noncomputable section
/-- values that are surely the same -/
def veq1 (a b : Value) : Bool := match a, b with
  | .bool x, .bool y => bl x y (bl y false true)
  | .int k m, .int k' n => bl (Nat.beq k.ctorIdx k'.ctorIdx) (ieq m n) false
  | .string s, .string r => leq (ub s) (ub r)
  | .pointer none, .pointer none => true
  | .pointer (some p), .pointer (some q) => bl (Nat.beq p.block q.block) (bl (Nat.beq p.off q.off) (bl p.spot.isNone q.spot.isNone false) false) false
  | .slice none l k, .slice none l' k' => bl (Nat.beq l l') (Nat.beq k k') false
  | .slice (some p) l k, .slice (some q) l' k' => bl (Nat.beq p.block q.block) (bl (Nat.beq p.off q.off) (bl (bl p.spot.isNone q.spot.isNone false) (bl (Nat.beq l l') (Nat.beq k k') false) false) false) false
  | .nilFunc, .nilFunc => true
  | .nilIface, .nilIface => true
  | .map none, .map none => true
  | .map (some p), .map (some q) => Nat.beq p q
  | _, _ => false
def veqL (l : List Value) : List Value → Bool := @List.rec Value (fun _ => List Value → Bool) (fun m => @List.rec Value (fun _ => Bool) true (fun _ _ _ => false) m) (fun a _ ih m => @List.rec Value (fun _ => Bool) false (fun b m _ => bl (veq1 a b) (ih m) false) m) l
def veq0 (a b : Value) : Bool := match a, b with
  | .agg x, .agg y => veqL x.toList y.toList
  | .func (.func f) p q, .func (.func h) r s => bl (Nat.beq f h) (bl (veqL p.toList r.toList) (veqL q.toList s.toList) false) false
  | .func (.yield f) p q, .func (.yield h) r s => bl (Nat.beq f h) (bl (veqL p.toList r.toList) (veqL q.toList s.toList) false) false
  | a, b => veq1 a b
def vqL (f : Value → Value → Bool) (l : List Value) : List Value → Bool := @List.rec Value (fun _ => List Value → Bool) (fun m => @List.rec Value (fun _ => Bool) true (fun _ _ _ => false) m) (fun a _ ih m => @List.rec Value (fun _ => Bool) false (fun b m _ => bl (f a b) (ih m) false) m) l
def vq1 (f : Value → Value → Bool) (a b : Value) : Bool := match a, b with
  | .agg x, .agg y => vqL f x.toList y.toList
  | .tuple x, .tuple y => vqL f x.toList y.toList
  | a, b => veq0 a b
/-- values that are the same, parts in parts -/
def vq (n : Nat) : Value → Value → Bool := @Nat.rec (fun _ => Value → Value → Bool) veq0 (fun _ ih => vq1 ih) n
def veq (a b : Value) : Bool := vq 2 a b
end
/-! ### values that are the same -/
theorem leq_eq' {a b : List UInt8} (h : leq (a.map UInt8.toNat) (b.map UInt8.toNat) = true) : a = b := by
  rw [leq_eq] at h; exact eq_of_beq h
theorem bl_and {a b : Bool} (h : bl a b false = true) : a = true ∧ b = true := by cases a with
  | true => exact ⟨rfl, h⟩
  | false => cases h
theorem addr_eq {p q : Addr} (h1 : Nat.beq p.block q.block = true) (h2 : Nat.beq p.off q.off = true) (h3 : p.spot.isNone = true) (h4 : q.spot.isNone = true) : p = q := by
  have h1 := Nat.eq_of_beq_eq_true h1
  have h2 := Nat.eq_of_beq_eq_true h2
  obtain ⟨pb, po, ps⟩ := p
  obtain ⟨qb, qo, qs⟩ := q
  cases ps <;> cases qs <;> simp_all
theorem veq1_ok {a b : Value} (h : veq1 a b = true) : a = b := by
  unfold veq1 at h
  split at h
  · rename_i x y; cases x <;> cases y <;> first | rfl | cases h
  · rename_i k m k' n
    obtain ⟨h1, h2⟩ := bl_and h
    rw [ieq_eq] at h2
    have h3 := of_decide_eq_true h2
    have h4 := Nat.eq_of_beq_eq_true h1
    have : k = k' := by cases k <;> cases k' <;> first | rfl | (exact absurd h4 (by decide))
    rw [this, h3]
  · rename_i s r
    have : s = r := by
      apply ByteArray.ext
      apply Array.ext'
      exact leq_eq' h
    rw [this]
  · rfl
  · obtain ⟨h1, h⟩ := bl_and h
    obtain ⟨h2, h⟩ := bl_and h
    obtain ⟨h3, h4⟩ := bl_and h
    rw [addr_eq h1 h2 h3 h4]
  · obtain ⟨h1, h2⟩ := bl_and h
    rw [Nat.eq_of_beq_eq_true h1, Nat.eq_of_beq_eq_true h2]
  · obtain ⟨h1, h⟩ := bl_and h
    obtain ⟨h2, h⟩ := bl_and h
    obtain ⟨h3, h⟩ := bl_and h
    obtain ⟨h3, h4⟩ := bl_and h3
    obtain ⟨h5, h6⟩ := bl_and h
    rw [addr_eq h1 h2 h3 h4, Nat.eq_of_beq_eq_true h5, Nat.eq_of_beq_eq_true h6]
  · rfl
  · rfl
  · rfl
  · rw [Nat.eq_of_beq_eq_true h]
  · cases h
theorem veqL_ok : ∀ {l m : List Value}, veqL l m = true → l = m
  | [], [], _ => rfl
  | [], _ :: _, h => by cases h
  | _ :: _, [], h => by cases h
  | a :: l, b :: m, h => by
    obtain ⟨h1, h2⟩ := bl_and (a := veq1 a b) (b := veqL l m) h
    rw [veq1_ok h1, veqL_ok h2]
theorem veq0_ok {a b : Value} (h : veq0 a b = true) : a = b := by
  unfold veq0 at h
  split at h
  · have := veqL_ok h
    rw [Array.ext' this]
  · obtain ⟨h1, h2⟩ := bl_and h
    obtain ⟨h3, h4⟩ := bl_and h2
    rw [Nat.eq_of_beq_eq_true h1, Array.ext' (veqL_ok h3), Array.ext' (veqL_ok h4)]
  · obtain ⟨h1, h2⟩ := bl_and h
    obtain ⟨h3, h4⟩ := bl_and h2
    rw [Nat.eq_of_beq_eq_true h1, Array.ext' (veqL_ok h3), Array.ext' (veqL_ok h4)]
  · exact veq1_ok h
theorem vqL_ok {f : Value → Value → Bool} (hf : ∀ a b, f a b = true → a = b) : ∀ {l m : List Value}, vqL f l m = true → l = m
  | [], [], _ => rfl
  | [], _ :: _, h => by cases h
  | _ :: _, [], h => by cases h
  | a :: l, b :: m, h => by
    obtain ⟨h1, h2⟩ := bl_and (a := f a b) (b := vqL f l m) h
    rw [hf _ _ h1, vqL_ok hf h2]
theorem vq_ok : ∀ (n : Nat) (a b : Value), vq n a b = true → a = b
  | 0, _, _, h => veq0_ok h
  | n + 1, a, b, h => by
    have h : vq1 (vq n) a b = true := h
    unfold vq1 at h
    split at h
    · rw [Array.ext' (vqL_ok (vq_ok n) h)]
    · rw [Array.ext' (vqL_ok (vq_ok n) h)]
    · exact veq0_ok h
theorem veq_ok {a b : Value} (h : veq a b = true) : a = b := vq_ok 2 a b h
end Go.Ke
namespace Go.Ke
open Go.RowKit
noncomputable section
def under (P : Program) (t : TypeId) : E TypeDesc := E.of "under" (P.underlying t)
def size (P : Program) (t : TypeId) : E Nat := @Option.rec TypeInfo (fun _ => E Nat) (.er "size") (fun i => .ok i.size) (P.info? t)
def zero (P : Program) (t : TypeId) : E Value := @Option.rec TypeInfo (fun _ => E Value) (.er "zero") (fun i => E.of "zero" i.zero) (P.info? t)
def agg? (u : TypeDesc) : Bool := match u with
  | .struct _ => true
  | .array _ _ => true
  | _ => false
def asBM (v : Value) : E Bool := match v with
  | .bool b => .ok b
  | _ => .er "bool"
def asB (v : Value) : E Bool := @Value.rec (fun _ => E Bool) (fun _ => Unit) (fun _ => Unit) (fun b => .ok b) (fun _ _ => .er "bool") (fun _ _ => .er "bool") (fun _ _ _ => .er "bool") (fun _ => .er "bool") (fun _ => .er "bool") (fun _ _ _ => .er "bool") (fun _ => .er "bool") (fun _ => .er "bool") (fun _ _ _ _ _ => .er "bool") (.er "bool") (fun _ _ _ => .er "bool") (.er "bool") (fun _ _ => .er "bool") (fun _ _ => .er "bool") (fun _ _ => ()) () (fun _ _ _ _ => ()) v
def asIM (v : Value) : E Int := match v with
  | .int _ n => .ok n
  | _ => .er "int"
def asI (v : Value) : E Int := @Value.rec (fun _ => E Int) (fun _ => Unit) (fun _ => Unit) (fun _ => .er "int") (fun _ n => .ok n) (fun _ _ => .er "int") (fun _ _ _ => .er "int") (fun _ => .er "int") (fun _ => .er "int") (fun _ _ _ => .er "int") (fun _ => .er "int") (fun _ => .er "int") (fun _ _ _ _ _ => .er "int") (.er "int") (fun _ _ _ => .er "int") (.er "int") (fun _ _ => .er "int") (fun _ _ => .er "int") (fun _ _ => ()) () (fun _ _ _ _ => ()) v
def asNM (v : Value) : E Nat := match v with
  | .int _ n => @Int.rec (fun _ => E Nat) .ok (fun _ => .er "negative") n
  | _ => .er "int"
def asN (v : Value) : E Nat := @Value.rec (fun _ => E Nat) (fun _ => Unit) (fun _ => Unit) (fun _ => .er "int") (fun _ n => @Int.rec (fun _ => E Nat) .ok (fun _ => .er "negative") n) (fun _ _ => .er "int") (fun _ _ _ => .er "int") (fun _ => .er "int") (fun _ => .er "int") (fun _ _ _ => .er "int") (fun _ => .er "int") (fun _ => .er "int") (fun _ _ _ _ _ => .er "int") (.er "int") (fun _ _ _ => .er "int") (.er "int") (fun _ _ => .er "int") (fun _ _ => .er "int") (fun _ _ => ()) () (fun _ _ _ _ => ()) v
def asAM (v : Value) : E Addr := match v with
  | .pointer (some a) => .ok a
  | _ => .er "address"
def asA (v : Value) : E Addr := @Value.rec (fun _ => E Addr) (fun _ => Unit) (fun _ => Unit) (fun _ => .er "address") (fun _ _ => .er "address") (fun _ _ => .er "address") (fun _ _ _ => .er "address") (fun _ => .er "address") (fun a => @Option.rec Addr (fun _ => E Addr) (.er "address") .ok a) (fun _ _ _ => .er "address") (fun _ => .er "address") (fun _ => .er "address") (fun _ _ _ _ _ => .er "address") (.er "address") (fun _ _ _ => .er "address") (.er "address") (fun _ _ => .er "address") (fun _ _ => .er "address") (fun _ _ => ()) () (fun _ _ _ _ => ()) v
def asCM (v : Value) : E (List Value) := match v with
  | .agg cs => .ok cs.toList
  | _ => .er "agg"
def asC (v : Value) : E (List Value) := @Value.rec (fun _ => E (List Value)) (fun _ => Unit) (fun _ => Unit) (fun _ => .er "agg") (fun _ _ => .er "agg") (fun _ _ => .er "agg") (fun _ _ _ => .er "agg") (fun _ => .er "agg") (fun _ => .er "agg") (fun _ _ _ => .er "agg") (fun _ => .er "agg") (fun _ => .er "agg") (fun _ _ _ _ _ => .er "agg") (.er "agg") (fun _ _ _ => .er "agg") (.er "agg") (fun cs _ => .ok cs.toList) (fun _ _ => .er "agg") (fun _ _ => ()) () (fun _ _ _ _ => ()) v
def cellsM (v : Value) : List Value := match v with
  | .agg cs => cs.toList
  | v => [v]
def cells (v : Value) : List Value := @Value.rec (fun _ => List Value) (fun _ => Unit) (fun _ => Unit) (fun x0 => [.bool x0]) (fun x0 x1 => [.int x0 x1]) (fun x0 x1 => [.float x0 x1]) (fun x0 x1 x2 => [.complex x0 x1 x2]) (fun x0 => [.string x0]) (fun x0 => [.pointer x0]) (fun x0 x1 x2 => [.slice x0 x1 x2]) (fun x0 => [.map x0]) (fun x0 => [.chan x0]) (fun x0 x1 x2 _ _ => [.func x0 x1 x2]) [.nilFunc] (fun x0 x1 _ => [.iface x0 x1]) [.nilIface] (fun x0 _ => x0.toList) (fun x0 _ => [.tuple x0]) (fun _ _ => ()) () (fun _ _ _ _ => ()) v
def isNil (v : Value) : E Bool := match v with
  | .pointer none => .ok true
  | .pointer _ => .ok false
  | .slice none _ _ => .ok true
  | .slice _ _ _ => .ok false
  | .map none => .ok true
  | .map _ => .ok false
  | .nilFunc => .ok true
  | .func .. => .ok false
  | .nilIface => .ok true
  | .iface .. => .ok false
  | _ => .er "nil"
def kst (x : Operand) : Bool := match x with
  | .const _ => true
  | _ => false
/-- equality besides that of integers and strings: of truth values; with nil, one of the two a constant -/
def eqV (P : Program) (t : TypeId) (x y : Operand) (a b : Value) : E Bool := (under P t).bd fun u => match u, a, b with
  | .bool, .bool a, .bool b => .ok (a == b)
  | .pointer _, .pointer none, .pointer b => .ok b.isNone
  | .pointer _, .pointer (some _), .pointer none => .ok false
  | .slice _, .slice none _ _, .slice b _ _ => .ok b.isNone
  | .slice _, .slice (some _) _ _, .slice none _ _ => .ok false
  | .map _ _, .map none, .map b => .ok b.isNone
  | .map _ _, .map (some _), .map none => .ok false
  | .func _ _ _, .nilFunc, .nilFunc => .ok true
  | .func _ _ _, .nilFunc, .func _ _ _ => .ok false
  | .func _ _ _, .func _ _ _, .nilFunc => .ok false
  | .interface _, .nilIface, .nilIface => bl (kst x) (.ok true) (bl (kst y) (.ok true) (.er "nil"))
  | .interface _, .nilIface, .iface _ _ => .ok false
  | .interface _, .iface _ _, .nilIface => .ok false
  | _, _, _ => .er "eqV"
def eqO (P : Program) (op : BinOp) (t : TypeId) (x y : Operand) (a b : Value) : E Value := match op with
  | .eql => (eqV P t x y a b).bd fun r => .ok (.bool r)
  | .neq => (eqV P t x y a b).bd fun r => .ok (.bool (bl r false true))
  | _ => .er "binV"
def binI2 (b : Value) : BinOp → IntKind → Int → E Value := @Value.rec (fun _ => BinOp → IntKind → Int → E Value) (fun _ => Unit) (fun _ => Unit) (fun _ => fun _ _ _ => .er "binV") (fun k2 n => fun op k m => binII op k k2 m n) (fun _ _ => fun _ _ _ => .er "binV") (fun _ _ _ => fun _ _ _ => .er "binV") (fun _ => fun _ _ _ => .er "binV") (fun _ => fun _ _ _ => .er "binV") (fun _ _ _ => fun _ _ _ => .er "binV") (fun _ => fun _ _ _ => .er "binV") (fun _ => fun _ _ _ => .er "binV") (fun _ _ _ _ _ => fun _ _ _ => .er "binV") (fun _ _ _ => .er "binV") (fun _ _ _ => fun _ _ _ => .er "binV") (fun _ _ _ => .er "binV") (fun _ _ => fun _ _ _ => .er "binV") (fun _ _ => fun _ _ _ => .er "binV") (fun _ _ => ()) () (fun _ _ _ _ => ()) b
def binS2 (b : Value) : BinOp → ByteArray → E Value := @Value.rec (fun _ => BinOp → ByteArray → E Value) (fun _ => Unit) (fun _ => Unit) (fun _ => fun _ _ => .er "binV") (fun _ _ => fun _ _ => .er "binV") (fun _ _ => fun _ _ => .er "binV") (fun _ _ _ => fun _ _ => .er "binV") (fun r => fun op s => binS op s r) (fun _ => fun _ _ => .er "binV") (fun _ _ _ => fun _ _ => .er "binV") (fun _ => fun _ _ => .er "binV") (fun _ => fun _ _ => .er "binV") (fun _ _ _ _ _ => fun _ _ => .er "binV") (fun _ _ => .er "binV") (fun _ _ _ => fun _ _ => .er "binV") (fun _ _ => .er "binV") (fun _ _ => fun _ _ => .er "binV") (fun _ _ => fun _ _ => .er "binV") (fun _ _ => ()) () (fun _ _ _ _ => ()) b
def binV (P : Program) (op : BinOp) (t : TypeId) (x y : Operand) (a b : Value) : E Value := @Value.rec (fun _ => Program → BinOp → TypeId → Operand → Operand → Value → E Value) (fun _ => Unit) (fun _ => Unit) (fun z0 P op t x y b => eqO P op t x y (.bool z0) b) (fun k m P op t x y b => binI2 b op k m) (fun z0 z1 P op t x y b => eqO P op t x y (.float z0 z1) b) (fun z0 z1 z2 P op t x y b => eqO P op t x y (.complex z0 z1 z2) b) (fun s P op t x y b => binS2 b op s) (fun z0 P op t x y b => eqO P op t x y (.pointer z0) b) (fun z0 z1 z2 P op t x y b => eqO P op t x y (.slice z0 z1 z2) b) (fun z0 P op t x y b => eqO P op t x y (.map z0) b) (fun z0 P op t x y b => eqO P op t x y (.chan z0) b) (fun z0 z1 z2 _ _ P op t x y b => eqO P op t x y (.func z0 z1 z2) b) (fun  P op t x y b => eqO P op t x y (.nilFunc) b) (fun z0 z1 _ P op t x y b => eqO P op t x y (.iface z0 z1) b) (fun  P op t x y b => eqO P op t x y (.nilIface) b) (fun z0 _ P op t x y b => eqO P op t x y (.agg z0) b) (fun z0 _ P op t x y b => eqO P op t x y (.tuple z0) b) (fun _ _ => ()) () (fun _ _ _ _ => ()) a P op t x y b
end
section
variable {P : Program} {ρ : Rho} {t : TypeId} {x y : Operand} {a b a' b' v : Value} {op : BinOp}
theorem under_ok {u : TypeDesc} (e : under P t = .ok u) : P.underlying t = some u := of_ok e
theorem size_ok {n : Nat} (e : size P t = .ok n) : ∃ i, P.info? t = some i ∧ i.size = n := by
  unfold size at e
  cases h : P.info? t with
  | none => rw [h] at e; cases e
  | some i => rw [h] at e; cases e; exact ⟨i, rfl, rfl⟩
theorem zero_ok (e : zero P t = .ok v) : ∃ i, P.info? t = some i ∧ i.zero = some v := by
  unfold zero at e
  cases h : P.info? t with
  | none => rw [h] at e; cases e
  | some i => rw [h] at e; exact ⟨i, rfl, of_ok e⟩
theorem asB_ok {r : Bool} (e : asB v = .ok r) : v = .bool r := by cases v <;> cases e; rfl
theorem asI_ok {n : Int} (e : asI v = .ok n) : ∃ k, v = .int k n := by cases v <;> cases e; exact ⟨_, rfl⟩
theorem asN_ok {n : Nat} (e : asN v = .ok n) : ∃ k, v = .int k (n : Int) := by
  cases v <;> try (cases e; done)
  rename_i k m
  cases m with
  | ofNat m => cases e; exact ⟨k, rfl⟩
  | negSucc m => cases e
theorem asA_ok {p : Addr} (e : asA v = .ok p) : v = .pointer (some p) := by
  have : asA v = asAM v := by cases v <;> first | rfl | (rename_i a; cases a <;> rfl)
  rw [this] at e
  unfold asAM at e
  split at e <;> cases e
  rfl
theorem asC_ok {l : List Value} (e : asC v = .ok l) : ∃ c, v = .agg c ∧ c.toList = l := by
  have : asC v = asCM v := by cases v <;> rfl
  rw [this] at e
  unfold asCM at e
  split at e <;> cases e
  exact ⟨_, rfl, rfl⟩
set_option maxHeartbeats 4000000 in
theorem eqV_ok {r : Bool} (e : eqV P t x y a b = .ok r) (ha : VR ρ a a') (hb : VR ρ b b') (h : op = .eql ∨ op = .neq) (w : World) : (eqGuard op t x y a' b').run P w = .ok () w ∧ (Op.equal t a' b').run P w = .ok r w ∧ binOp .eql t a' b' = (do pure (.bool (← Op.equal t a' b'))) ∧ binOp .neq t a' b' = (do pure (.bool (!(← Op.equal t a' b')))) := by
  obtain ⟨u, h1, h2⟩ := bd_ok e
  have hu := under_ok h1
  have he : ∀ a b, (Op.equal t a b) = Op.equalIn (9999 + 1) t a b := fun _ _ => rfl
  suffices hs : (eqGuard op t x y a' b').run P w = .ok () w ∧ (∀ d, (Op.equalIn (d + 1) t a' b').run P w = .ok r w) ∧ binOp .eql t a' b' = (do pure (.bool (← Op.equal t a' b'))) ∧ binOp .neq t a' b' = (do pure (.bool (!(← Op.equal t a' b')))) from ⟨hs.1, by rw [he]; exact hs.2.1 _, hs.2.2⟩
  clear he
  split at h2
  · cases h2
    rw [ha.bool, hb.bool]
    rcases h with rfl | rfl <;> exact ⟨by simp [eqGuard, go_sem], fun d => run_equalIn_bool w d t _ _ hu, rfl, rfl⟩
  · rename_i q
    cases h2
    rw [ha.pnone]
    cases q with
    | none =>
      rw [hb.pnone]
      rcases h with rfl | rfl <;> exact ⟨by simp [eqGuard, go_sem], fun d => by simp [Op.equalIn, run_underlying hu, go_sem], rfl, rfl⟩
    | some q =>
      obtain ⟨c, n, _, _, rfl⟩ := hb.psome
      rcases h with rfl | rfl <;> exact ⟨by simp [eqGuard, go_sem], fun d => by simp [Op.equalIn, run_underlying hu, go_sem], rfl, rfl⟩
  · cases h2
    obtain ⟨c, n, _, _, rfl⟩ := ha.psome
    rw [hb.pnone]
    rcases h with rfl | rfl <;> exact ⟨by simp [eqGuard, go_sem], fun d => by simp [Op.equalIn, run_underlying hu, go_sem], rfl, rfl⟩
  · rename_i q _ _
    cases h2
    rw [ha.snone]
    cases q with
    | none =>
      rw [hb.snone]
      rcases h with rfl | rfl <;> exact ⟨by simp [eqGuard, go_sem], fun d => by simp [Op.equalIn, run_underlying hu, go_sem], rfl, rfl⟩
    | some q =>
      obtain ⟨c, n, _, k, _, _, rfl, _⟩ := hb.ssome
      rcases h with rfl | rfl <;> exact ⟨by simp [eqGuard, go_sem], fun d => by simp [Op.equalIn, run_underlying hu, go_sem], rfl, rfl⟩
  · cases h2
    obtain ⟨c, n, _, k, _, _, rfl, _⟩ := ha.ssome
    rw [hb.snone]
    rcases h with rfl | rfl <;> exact ⟨by simp [eqGuard, go_sem], fun d => by simp [Op.equalIn, run_underlying hu, go_sem], rfl, rfl⟩
  · rename_i q
    cases h2
    rw [ha.of_flat rfl]
    cases q with
    | none =>
      rw [hb.of_flat rfl]
      rcases h with rfl | rfl <;> exact ⟨by simp [eqGuard, go_sem], fun d => by simp [Op.equalIn, run_underlying hu, go_sem], rfl, rfl⟩
    | some q =>
      cases hb with
      | flat h => simp [flat] at h
      | map _ => rcases h with rfl | rfl <;> exact ⟨by simp [eqGuard, go_sem], fun d => by simp [Op.equalIn, run_underlying hu, go_sem], rfl, rfl⟩
  · cases h2
    rw [hb.of_flat rfl]
    cases ha with
    | flat h => simp [flat] at h
    | map _ => rcases h with rfl | rfl <;> exact ⟨by simp [eqGuard, go_sem], fun d => by simp [Op.equalIn, run_underlying hu, go_sem], rfl, rfl⟩
  · cases h2
    rw [ha.of_flat rfl, hb.of_flat rfl]
    rcases h with rfl | rfl <;> exact ⟨by simp [eqGuard, go_sem], fun d => by simp [Op.equalIn, run_underlying hu, go_sem], rfl, rfl⟩
  · cases h2
    rw [ha.of_flat rfl]
    obtain ⟨_, _, _, _, _, _, rfl⟩ := hb.func'
    rcases h with rfl | rfl <;> exact ⟨by simp [eqGuard, go_sem], fun d => by simp [Op.equalIn, run_underlying hu, go_sem], rfl, rfl⟩
  · cases h2
    rw [hb.of_flat rfl]
    obtain ⟨_, _, _, _, _, _, rfl⟩ := ha.func'
    rcases h with rfl | rfl <;> exact ⟨by simp [eqGuard, go_sem], fun d => by simp [Op.equalIn, run_underlying hu, go_sem], rfl, rfl⟩
  · rw [ha.of_flat rfl, hb.of_flat rfl]
    have hg : (eqGuard op t x y .nilIface .nilIface).run P w = .ok () w := by
      rcases bl_ok h2 with ⟨h3, _⟩ | ⟨_, h2⟩
      · cases x <;> first | cases h3 | skip
        rcases h with rfl | rfl <;> simp [eqGuard, go_sem]
      · rcases bl_ok h2 with ⟨h3, _⟩ | ⟨_, h2⟩
        · cases y <;> first | cases h3 | skip
          rcases h with rfl | rfl <;> simp [eqGuard, go_sem]
        · cases h2
    have hr : r = true := by
      rcases bl_ok h2 with ⟨_, h3⟩ | ⟨_, h2⟩
      · cases h3; rfl
      · rcases bl_ok h2 with ⟨_, h3⟩ | ⟨_, h3⟩ <;> cases h3
        rfl
    subst hr
    exact ⟨hg, fun d => by simp [Op.equalIn, run_underlying hu, go_sem], rfl, rfl⟩
  · cases h2
    rw [ha.of_flat rfl]
    obtain ⟨_, _, rfl⟩ := hb.iface'
    rcases h with rfl | rfl <;> exact ⟨by simp [eqGuard, go_sem], fun d => by simp [Op.equalIn, run_underlying hu, go_sem], rfl, rfl⟩
  · cases h2
    rw [hb.of_flat rfl]
    obtain ⟨_, _, rfl⟩ := ha.iface'
    rcases h with rfl | rfl <;> exact ⟨by simp [eqGuard, go_sem], fun d => by simp [Op.equalIn, run_underlying hu, go_sem], rfl, rfl⟩
  · cases h2
end
end Go.Ke
namespace Go.Ke
open Go.RowKit
noncomputable section
def unV (op : UnOp) (x : Value) : E Value := match op, x with
  | .not, .bool b => .ok (.bool (bl b false true))
  | .neg, .int k n => .ok (.int k (wr k (Int.sub 0 n)))
  | _, _ => .er "unV"
def nilV (x : Value) : E Value := match x with
  | .pointer (some a) => .ok (.pointer (some a))
  | .func (.func f) a b => .ok (.func (.func f) a b)
  | .func (.yield f) a b => .ok (.func (.yield f) a b)
  | _ => .er "nil"
def strF (u : TypeDesc) : E (List Field) := match u with
  | .struct fs => .ok fs.toList
  | _ => .er "struct"
def fieldAV (P : Program) (s : TypeId) (x : Value) (f : Nat) : E Value :=
  (under P s).bd fun u => (strF u).bd fun fs => (E.of "field" (nth fs f)).bd fun f => (asA x).bd fun a => (size P f.type).bd fun n => bl (Nat.beq n 0) (.er "size 0") (.ok (.pointer (some ⟨a.block, Nat.add a.off f.offset, none⟩)))
def partV (P : Program) (t : TypeId) (cs : List Value) (off : Nat) : E Value :=
  (under P t).bd fun u => bl (agg? u) ((size P t).bd fun n => (tk n (dr off cs)).bd fun l => .ok (.agg ⟨l⟩)) (E.of "part" (nth cs off))
def fieldV (P : Program) (s : TypeId) (x : Value) (f : Nat) : E Value :=
  (under P s).bd fun u => (strF u).bd fun fs => (E.of "field" (nth fs f)).bd fun f => (asC x).bd fun cs => partV P f.type cs f.offset
def idxA (u : TypeDesc) (x : Value) : E (Addr × Nat × TypeId) := match u, x with
  | .slice e, .slice (some a) l _ => .ok (a, l, e)
  | .array l e, .pointer (some a) => .ok (a, l, e)
  | _, _ => .er "indexAddr"
def indexAV (P : Program) (t : TypeId) (x i : Value) : E Value :=
  (under P t).bd fun u => (idxA u x).bd fun p => (asN i).bd fun i => bl (Nat.blt i p.2.1) ((size P p.2.2).bd fun n => .ok (.pointer (some ⟨p.1.block, Nat.add p.1.off (Nat.mul i n), none⟩))) (.er "range")
def indexV (P : Program) (t : TypeId) (x i : Value) : E Value :=
  (under P t).bd fun u => (asN i).bd fun i => match u, x with
    | .string, .string s => (E.of "range" (nth s.data.toList i)).bd fun b => .ok (.int .u8 (Int.ofNat b.toNat))
    | .array n e, .agg cs => bl (Nat.blt i n) ((size P e).bd fun sz => partV P e cs.toList (Nat.mul i sz)) (.er "range")
    | _, _ => .er "index"
def extractV (x : Value) (i : Nat) : E Value := match x with
  | .tuple vs => E.of "extract" (nth vs.toList i)
  | _ => .er "extract"
def lenV (P : Program) (t : TypeId) (x : Value) : E Value := (under P t).bd fun u => match u, x with
  | .string, .string s => .ok (.int .i64 (Int.ofNat s.data.toList.length))
  | .slice _, .slice _ n _ => .ok (.int .i64 (Int.ofNat n))
  | _, _ => .er "len"
def convV (P : Program) (d : TypeId) (x : Value) : E Value := (under P d).bd fun u => match u, x with
  | .int k, .int _ n => .ok (.int k (wr k n))
  | .string, .string s => .ok (.string s)
  | _, _ => .er "convert"
def optN (d : Nat) (x : Option Value) : E Nat := @Option.rec Value (fun _ => E Nat) (.ok d) asN x
/-- a part of a slice: its address, length, capacity, from l to h; s: the size of an element -/
def cutS (a : Addr) (n k l h s : Nat) : E Value := bl (Nat.ble l h)
  (bl (Nat.beq k 2) (bl (Nat.beq h 0) (.ok (.slice (some ⟨a.block, a.off, none⟩) 0 2)) (.er "slice of nothing"))
    (bl (Nat.beq (Nat.mod k 3) 0)
      (bl (Nat.ble h n) (bl (Nat.beq k (Nat.mul 3 s)) (bl (Nat.beq l n) (.ok (.slice (some ⟨a.block, a.off, none⟩) 0 2)) (.ok (.slice (some ⟨a.block, Nat.add a.off (Nat.mul l s), none⟩) (Nat.sub h l) k))) (.er "slice size")) (.er "slice h"))
      (bl (Nat.beq (Nat.mod k 3) 1) (bl (Nat.ble h (Nat.div k 3)) (.ok (.slice (some (bl (Nat.beq l (Nat.div k 3)) ⟨a.block, a.off, none⟩ ⟨a.block, Nat.add a.off (Nat.mul l s), none⟩)) (Nat.sub h l) (Nat.sub k (Nat.mul 3 l)))) (.er "slice h")) (.er "slice k"))))
  (.er "slice l")
def sliceV (P : Program) (t : TypeId) (x : Value) (lo hi mx : Option Value) : E Value := (under P t).bd fun u => match u, x, mx with
  | .string, .string s, none => (optN 0 lo).bd fun l => (optN s.data.toList.length hi).bd fun h => bl (Nat.ble l h) (bl (Nat.ble h s.data.toList.length) ((tk (Nat.sub h l) (dr l s.data.toList)).bd fun r => .ok (.string ⟨⟨r⟩⟩)) (.er "slice")) (.er "slice")
  | .slice e, .slice none n k, none => (optN 0 lo).bd fun l => (optN n hi).bd fun h => (size P e).bd fun _ => bl (Nat.ble l h) (bl (Nat.ble h n) (bl (Nat.ble n k) (.ok (.slice none (Nat.sub h l) (Nat.sub k l))) (.er "slice")) (.er "slice")) (.er "slice")
  | .slice e, .slice (some a) n k, none => (optN 0 lo).bd fun l => (optN n hi).bd fun h => (size P e).bd fun s => cutS a n k l h s
  | _, _, _ => .er "slice"
end
inductive OV (ρ : Rho) : Option Value → Option Value → Prop
  | none : OV ρ none none
  | some {v v' : Value} (h : VR ρ v v') : OV ρ (some v) (some v')
section
variable {P : Program} {ρ : Rho} {t : TypeId} {x y : Operand} {a b a' b' v : Value} {op : BinOp}
theorem binII_ok {k k' : IntKind} {m n : Int} (e : binII op k k' m n = .ok v) : flat v = true ∧ ∀ w, (do eqGuard op t x y (.int k m) (.int k' n); binOp op t (.int k m) (.int k' n) : Sem Value).run P w = .ok v w := by
  rw [binII_eq] at e
  unfold binIIM at e
  have hfl : flat v = true := by
    cases op <;> first
      | (rcases bl_ok e with ⟨_, h2⟩ | ⟨_, h2⟩ <;> (try cases h2) <;> rfl)
      | skip
    all_goals (simp only at e; rcases bl_ok e with ⟨_, h2⟩ | ⟨_, h2⟩ <;> first | (cases h2; done) | skip)
    all_goals (rw [binI_eq] at h2; unfold binIM at h2; simp only at h2; first | (cases h2; rfl) | (rcases bl_ok h2 with ⟨_, h3⟩ | ⟨_, h3⟩ <;> cases h3; rfl))
  refine ⟨hfl, fun w => ?_⟩
  cases op <;> simp only at e <;> first
    | exact shI_ok e w
    | (rcases bl_ok e with ⟨h1, h2⟩ | ⟨_, h2⟩
       · have h1 := Nat.eq_of_beq_eq_true h1
         have : k = k' := by cases k <;> cases k' <;> first | rfl | cases h1
         subst this
         exact binI_ok h2 w
       · cases h2)
theorem eqO_ok (e : eqO P op t x y a b = .ok v) (ha : VR ρ a a') (hb : VR ρ b b') : VR ρ v v ∧ ∀ w, (do eqGuard op t x y a' b'; binOp op t a' b' : Sem Value).run P w = .ok v w := by
  unfold eqO at e
  split at e
  · obtain ⟨r, h1, h2⟩ := bd_ok e
    cases h2
    refine ⟨.flat rfl, fun w => ?_⟩
    obtain ⟨h3, h4, h5, _⟩ := eqV_ok (op := .eql) h1 ha hb (.inl rfl) w
    simp [h3, h4, h5, go_sem]
  · obtain ⟨r, h1, h2⟩ := bd_ok e
    cases h2
    refine ⟨.flat rfl, fun w => ?_⟩
    obtain ⟨h3, h4, _, h5⟩ := eqV_ok (op := .neq) h1 ha hb (.inr rfl) w
    simp [h3, h4, h5, go_sem, bl_not]
  · cases e
theorem binV_ok (e : binV P op t x y a b = .ok v) (ha : VR ρ a a') (hb : VR ρ b b') : VR ρ v v ∧ ∀ w, (do eqGuard op t x y a' b'; binOp op t a' b' : Sem Value).run P w = .ok v w := by
  cases a <;> first
    | exact eqO_ok (P := P) e ha hb
    | skip
  · rename_i k m
    cases b <;> first | (cases e; done) | skip
    rename_i k' n
    rw [ha.int, hb.int]
    have e : binII op k k' m n = .ok v := e
    obtain ⟨h1, h2⟩ := binII_ok (P := P) (t := t) (x := x) (y := y) e
    exact ⟨.flat h1, h2⟩
  · rename_i s
    cases b <;> first | (cases e; done) | skip
    rename_i r
    rw [ha.string, hb.string]
    have e : binS op s r = .ok v := e
    have hfl : flat v = true := by
      rw [binS_eq] at e
      unfold binSM at e
      cases op <;> simp only at e <;> first | (cases e; done) | (cases e; rfl) | (rcases bl_ok e with ⟨_, h3⟩ | ⟨_, h3⟩ <;> cases h3; rfl)
    exact ⟨.flat hfl, fun w => binS_ok e w⟩
end
end Go.Ke
