/- Short words for laws of the library. Conditions: none. -/
import Derived.Lib.Hide
namespace Go.Proofs.YtkoeecdjijfjnaaGreat
theorem aV4 {p : Prop} (h : p) : Go.RowKit.Hid p := h
theorem aV5 {α : Type} [BEq α] [LawfulBEq α] {a b : α} (h : a ≠ b) : (a == b) = false := beq_eq_false_iff_ne.2 h
theorem aV6 {α : Type} [BEq α] [LawfulBEq α] {a b : α} (h : a = b) : (a == b) = true := beq_iff_eq.2 h
theorem aV7 {p : Prop} [Decidable p] (h : p) : decide p = true := decide_eq_true h
theorem aV8 {p : Prop} [Decidable p] (h : ¬ p) : decide p = false := decide_eq_false h
end Go.Proofs.YtkoeecdjijfjnaaGreat
