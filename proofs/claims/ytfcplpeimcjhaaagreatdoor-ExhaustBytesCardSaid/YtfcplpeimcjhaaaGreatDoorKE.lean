/- An evaluator that the kernel reckons: trees, values, worlds. Conditions: none. Values and worlds of the evaluator, and how they stand to the model's. Conditions: none. Reading, writing and making blocks: the evaluator's step is matched by the model's. Conditions: none. New blocks, and what append gives. Conditions: none. Operations that only reckon: the evaluator's answer is the model's. Conditions: none. -/
import Derived.OrdersIn
import Derived.RangeFuncLeaves
import Derived.Deep.AppendSrc
import Derived.KernelRfl
import Derived.Deep.MidRow
import Derived.Laws.NewFold
import Derived.WalkKit
namespace Go.Ke
noncomputable section
inductive E (α : Type) | ok (a : α) | er (s : String)
def E.bd {α β : Type} (x : E α) (f : α → E β) : E β := @E.rec α (fun _ => E β) f .er x
def E.of {α : Type} (s : String) (o : Option α) : E α := @Option.rec α (fun _ => E α) (.er s) .ok o
def bl {α : Type} (b : Bool) (x y : α) : α := @Bool.rec (fun _ => α) y x b
section
variable {α β : Type} {x : E α} {f : α → E β} {b : β} {o : Option α} {a : α} {s : String}
theorem bd_ok (h : x.bd f = .ok b) : ∃ a, x = .ok a ∧ f a = .ok b := by
  cases x with
  | ok a => exact ⟨a, rfl, h⟩
  | er s => cases h
theorem of_ok (h : E.of s o = .ok a) : o = some a := by
  cases o with
  | none => cases h
  | some x => cases h; rfl
theorem bl_ok {c : Bool} {x y : E α} (h : bl c x y = .ok a) : (c = true ∧ x = .ok a) ∨ (c = false ∧ y = .ok a) := by
  cases c with
  | true => exact .inl ⟨rfl, h⟩
  | false => exact .inr ⟨rfl, h⟩
end
/-! ### trees -/
inductive T (α : Type) | nil | node (l : T α) (v : Option α) (r : T α)
/-- the way to a place in a tree -/
inductive Bin | z | o (b : Bin) | t (b : Bin)
def path (n : Nat) : Nat → Bin := @Nat.rec (fun _ => Nat → Bin) (fun _ => .z) (fun _ ih i => bl (Nat.beq i 0) .z (bl (Nat.beq (Nat.mod i 2) 1) (.o (ih (Nat.div i 2))) (.t (ih (Nat.sub (Nat.div i 2) 1))))) n
def pth (i : Nat) : Bin := path i i
def Bin.num (b : Bin) : Nat := @Bin.rec (fun _ => Nat) 0 (fun _ n => 2 * n + 1) (fun _ n => 2 * n + 2) b
theorem path_num : ∀ (n i : Nat), i ≤ n → (path n i).num = i
  | 0, i, h => by
    have : i = 0 := by omega
    subst this; rfl
  | n + 1, i, h => by
    show (bl (Nat.beq i 0) Bin.z (bl (Nat.beq (i % 2) 1) (.o (path n (i / 2))) (.t (path n (i / 2 - 1))))).num = i
    by_cases h0 : i = 0
    · subst h0; rfl
    · have h1 : Nat.beq i 0 = false := by cases i with | zero => exact absurd rfl h0 | succ k => rfl
      rw [h1]
      by_cases h2 : i % 2 = 1
      · rw [h2]
        show 2 * (path n (i / 2)).num + 1 = i
        rw [path_num n (i / 2) (by omega)]; omega
      · have h3 : i % 2 = 0 := by omega
        rw [h3]
        show 2 * (path n (i / 2 - 1)).num + 2 = i
        rw [path_num n (i / 2 - 1) (by omega)]; omega
theorem pth_inj {i j : Nat} (h : pth i = pth j) : i = j := by
  have h1 := path_num i i (Nat.le_refl _)
  have h2 := path_num j j (Nat.le_refl _)
  rw [← h1, ← h2]
  exact congrArg Bin.num h
def T.lf {α : Type} (t : T α) : T α := @T.rec α (fun _ => T α) .nil (fun l _ _ _ _ => l) t
def T.rt {α : Type} (t : T α) : T α := @T.rec α (fun _ => T α) .nil (fun _ _ r _ _ => r) t
def T.vl {α : Type} (t : T α) : Option α := @T.rec α (fun _ => Option α) none (fun _ v _ _ _ => v) t
def T.at {α : Type} (p : Bin) : T α → Option α := @Bin.rec (fun _ => T α → Option α) (fun t => t.vl) (fun _ ih t => ih t.lf) (fun _ ih t => ih t.rt) p
def T.get {α : Type} (t : T α) (i : Nat) : Option α := T.at (pth i) t
def T.put {α : Type} (p : Bin) (x : α) : T α → (T α → E (T α)) → E (T α) :=
  @Bin.rec (fun _ => T α → (T α → E (T α)) → E (T α)) (fun t k => @T.rec α (fun _ => E (T α)) (k (.node .nil (some x) .nil)) (fun l _ r _ _ => k (.node l (some x) r)) t)
    (fun _ ih t k => @T.rec α (fun _ => E (T α)) (ih .nil fun l => k (.node l none .nil)) (fun l v r _ _ => ih l fun l => k (.node l v r)) t)
    (fun _ ih t k => @T.rec α (fun _ => E (T α)) (ih .nil fun r => k (.node .nil none r)) (fun l v r _ _ => ih r fun r => k (.node l v r)) t) p
def T.set {α : Type} (_n : Nat) (t : T α) (i : Nat) (x : α) : E (T α) := T.put (pth i) x t .ok
theorem at_nil {α : Type} : ∀ p : Bin, T.at p (T.nil : T α) = none
  | .z => rfl
  | .o p => at_nil p
  | .t p => at_nil p
theorem get_nil {α : Type} (i : Nat) : (T.nil : T α).get i = none := at_nil _
theorem put_ok' {α : Type} {x : α} : ∀ (p : Bin) (t : T α) (k : T α → E (T α)), ∃ t', T.put p x t k = k t' ∧ ∀ q, (q = p → T.at q t' = some x) ∧ (q ≠ p → T.at q t' = T.at q t)
  | .z, t, k => by
    cases t with
    | nil => exact ⟨.node .nil (some x) .nil, rfl, fun q => ⟨fun h => by subst h; rfl, fun h => by cases q with
      | z => exact absurd rfl h
      | o q => rfl
      | t q => rfl⟩⟩
    | node l v r => exact ⟨.node l (some x) r, rfl, fun q => ⟨fun h => by subst h; rfl, fun h => by cases q with
      | z => exact absurd rfl h
      | o q => rfl
      | t q => rfl⟩⟩
  | .o p, t, k => by
    have key : ∀ (l r : T α) (v : Option α) (l' : T α), (∀ q, (q = p → T.at q l' = some x) ∧ (q ≠ p → T.at q l' = T.at q l)) → ∀ q, (q = .o p → T.at q (.node l' v r) = some x) ∧ (q ≠ .o p → T.at q (.node l' v r) = T.at q (.node l v r)) := by
      intro l r v l' hl q
      cases q with
      | z => exact ⟨fun h => (by cases h), fun _ => rfl⟩
      | o q => exact ⟨fun h => (hl q).1 (by cases h; rfl), fun h => (hl q).2 (fun e => h (by rw [e]))⟩
      | t q => exact ⟨fun h => (by cases h), fun _ => rfl⟩
    cases t with
    | nil =>
      obtain ⟨l', h1, h2⟩ := put_ok' (x := x) p .nil (fun l => k (.node l none .nil))
      refine ⟨.node l' none .nil, h1, fun q => ?_⟩
      have h3 := key .nil .nil none l' h2 q
      refine ⟨h3.1, fun h => (h3.2 h).trans ?_⟩
      cases q <;> rfl
    | node l v r =>
      obtain ⟨l', h1, h2⟩ := put_ok' (x := x) p l (fun l => k (.node l v r))
      exact ⟨.node l' v r, h1, key l r v l' h2⟩
  | .t p, t, k => by
    have key : ∀ (l r : T α) (v : Option α) (r' : T α), (∀ q, (q = p → T.at q r' = some x) ∧ (q ≠ p → T.at q r' = T.at q r)) → ∀ q, (q = .t p → T.at q (.node l v r') = some x) ∧ (q ≠ .t p → T.at q (.node l v r') = T.at q (.node l v r)) := by
      intro l r v r' hr q
      cases q with
      | z => exact ⟨fun h => (by cases h), fun _ => rfl⟩
      | t q => exact ⟨fun h => (hr q).1 (by cases h; rfl), fun h => (hr q).2 (fun e => h (by rw [e]))⟩
      | o q => exact ⟨fun h => (by cases h), fun _ => rfl⟩
    cases t with
    | nil =>
      obtain ⟨r', h1, h2⟩ := put_ok' (x := x) p .nil (fun r => k (.node .nil none r))
      refine ⟨.node .nil none r', h1, fun q => ?_⟩
      have h3 := key .nil .nil none r' h2 q
      refine ⟨h3.1, fun h => (h3.2 h).trans ?_⟩
      cases q <;> rfl
    | node l v r =>
      obtain ⟨r', h1, h2⟩ := put_ok' (x := x) p r (fun r => k (.node l v r))
      exact ⟨.node l v r', h1, key l r v r' h2⟩
theorem set_get {α : Type} (n : Nat) {t t' : T α} {i : Nat} {x : α} (h : t.set n i x = .ok t') (j : Nat) : t'.get j = if j = i then some x else t.get j := by
  obtain ⟨t2, h1, h2⟩ := put_ok' (x := x) (pth i) t E.ok
  have h3 : E.ok t2 = E.ok t' := h1.symm.trans h
  cases h3
  by_cases hj : j = i
  · rw [if_pos hj]
    exact (h2 (pth j)).1 (by rw [hj])
  · rw [if_neg hj]
    exact (h2 (pth j)).2 fun e => hj (pth_inj e)
/-! ### lists -/
def nth {α : Type} (l : List α) : Nat → Option α := @List.rec α (fun _ => Nat → Option α) (fun _ => none) (fun a _ ih i => @Nat.rec (fun _ => Option α) (some a) (fun j _ => ih j) i) l
theorem nth_eq {α : Type} : ∀ (l : List α) (i : Nat), nth l i = l[i]?
  | [], i => by simp [nth]
  | a :: l, 0 => rfl
  | a :: l, i + 1 => by show nth l i = _; rw [nth_eq l i]; simp
def dr {α : Type} (n : Nat) : List α → List α := @Nat.rec (fun _ => List α → List α) (fun l => l) (fun _ ih l => @List.rec α (fun _ => List α) [] (fun _ t _ => ih t) l) n
theorem dr_eq {α : Type} : ∀ (n : Nat) (l : List α), dr n l = l.drop n
  | 0, l => rfl
  | n + 1, [] => by simp [dr]
  | n + 1, a :: l => by show dr n l = _; rw [dr_eq n l]; simp
def tk {α : Type} (n : Nat) : List α → E (List α) := @Nat.rec (fun _ => List α → E (List α)) (fun _ => .ok []) (fun _ ih l => @List.rec α (fun _ => E (List α)) (.er "tk") (fun a t _ => (ih t).bd fun r => .ok (a :: r)) l) n
theorem tk_ok {α : Type} : ∀ {n : Nat} {l r : List α}, tk n l = .ok r → n ≤ l.length ∧ r = l.take n
  | 0, l, r, h => by cases h; simp
  | n + 1, [], r, h => by cases h
  | n + 1, a :: l, r, h => by
    obtain ⟨x, h1, h2⟩ := bd_ok h
    cases h2
    obtain ⟨h3, rfl⟩ := tk_ok h1
    simp; omega
/-- xs over the beginning of a list -/
def ov {α : Type} (xs : List α) : List α → E (List α) := @List.rec α (fun _ => List α → E (List α)) (fun l => .ok l) (fun x _ ih l => @List.rec α (fun _ => E (List α)) (.er "ov") (fun _ t _ => (ih t).bd fun r => .ok (x :: r)) l) xs
def pa {α : Type} (n : Nat) (xs : List α) : List α → E (List α) := @Nat.rec (fun _ => List α → E (List α)) (ov xs) (fun _ ih l => @List.rec α (fun _ => E (List α)) (.er "pa") (fun a t _ => (ih t).bd fun r => .ok (a :: r)) l) n
theorem ov_ok {α : Type} : ∀ {xs l r : List α}, ov xs l = .ok r → xs.length ≤ l.length ∧ r = xs ++ l.drop xs.length
  | [], l, r, h => by cases h; simp
  | x :: xs, [], r, h => by cases h
  | x :: xs, a :: l, r, h => by
    obtain ⟨y, h1, h2⟩ := bd_ok h
    cases h2
    obtain ⟨h3, rfl⟩ := ov_ok h1
    simp; omega
theorem pa_ok {α : Type} : ∀ {n : Nat} {xs l r : List α}, pa n xs l = .ok r → n + xs.length ≤ l.length ∧ r = l.take n ++ xs ++ l.drop (n + xs.length)
  | 0, xs, l, r, h => by
    obtain ⟨h1, rfl⟩ := ov_ok (xs := xs) (l := l) h
    simp; omega
  | n + 1, xs, [], r, h => by cases h
  | n + 1, xs, a :: l, r, h => by
    obtain ⟨y, h1, h2⟩ := bd_ok h
    cases h2
    obtain ⟨h3, rfl⟩ := pa_ok (n := n) h1
    have : n + 1 + xs.length = (n + xs.length) + 1 := by omega
    rw [this]
    simp; omega
end
end Go.Ke
namespace Go.Ke
abbrev Rho := Nat → Option (Nat × Nat)
def flat : Value → Bool
  | .bool _ | .int .. | .float .. | .complex .. | .string _ | .pointer none | .slice none _ _ | .map none | .chan none | .nilFunc | .nilIface => true
  | _ => false
inductive FR (ρ : Rho) : Fn → Fn → Prop
  | func (f) : FR ρ (.func f) (.func f)
  | yield {l l' n : Nat} (h : ρ l = some (l', n)) : FR ρ (.yield l) (.yield l')
/-- a capacity: 3 c + 1: it is c; 3 s: it is not known, s the size of an element; 2: a slice without elements, of which nothing is known -/
def CK (o k k' n : Nat) : Prop := k = 3 * k' + 1 ∨ ∃ s, k = 3 * s ∧ o + k' * s ≤ n
inductive VR (ρ : Rho) : Value → Value → Prop
  | flat {v : Value} (h : flat v = true) : VR ρ v v
  | ptr {b c n o : Nat} (h : ρ b = some (c, n)) : VR ρ (.pointer (some ⟨b, o, none⟩)) (.pointer (some ⟨c, o, none⟩))
  | sl {b c n o l k k' : Nat} (h : ρ b = some (c, n)) (hk : CK o k k' n) (hl : l ≤ k') : VR ρ (.slice (some ⟨b, o, none⟩) l k) (.slice (some ⟨c, o, none⟩) l k')
  | sl0 {b c n o o' k' : Nat} (h : ρ b = some (c, n)) : VR ρ (.slice (some ⟨b, o, none⟩) 0 2) (.slice (some ⟨c, o', none⟩) 0 k')
  | map {b c n : Nat} (h : ρ b = some (c, n)) : VR ρ (.map (some b)) (.map (some c))
  | func {f f' : Fn} {x x' y y' : Array Value} (hf : FR ρ f f') (hx : x.size = x'.size) (hx2 : ∀ (i : Nat) (v v' : Value), x[i]? = some v → x'[i]? = some v' → VR ρ v v') (hy : y.size = y'.size) (hy2 : ∀ (i : Nat) (v v' : Value), y[i]? = some v → y'[i]? = some v' → VR ρ v v') : VR ρ (.func f x y) (.func f' x' y')
  | iface (t : TypeId) {v v' : Value} (h : VR ρ v v') : VR ρ (.iface t v) (.iface t v')
  | agg {x x' : Array Value} (hx : x.size = x'.size) (hx2 : ∀ (i : Nat) (v v' : Value), x[i]? = some v → x'[i]? = some v' → VR ρ v v') : VR ρ (.agg x) (.agg x')
  | tuple {x x' : Array Value} (hx : x.size = x'.size) (hx2 : ∀ (i : Nat) (v v' : Value), x[i]? = some v → x'[i]? = some v' → VR ρ v v') : VR ρ (.tuple x) (.tuple x')
inductive LR (ρ : Rho) : List Value → List Value → Prop
  | nil : LR ρ [] []
  | cons {v v' : Value} {l l' : List Value} (h : VR ρ v v') (t : LR ρ l l') : LR ρ (v :: l) (v' :: l')
def Le (ρ ρ' : Rho) : Prop := ∀ b p, ρ b = some p → ρ' b = some p
section
variable {ρ ρ' ρ'' : Rho} {v v' : Value} {l l' m m' : List Value}
theorem Le.rfl (ρ : Rho) : Le ρ ρ := fun _ _ h => h
theorem Le.trans (h : Le ρ ρ') (k : Le ρ' ρ'') : Le ρ ρ'' := fun b c e => k b c (h b c e)
theorem FR.mono (hl : Le ρ ρ') {f f' : Fn} (h : FR ρ f f') : FR ρ' f f' := by
  cases h with
  | func f => exact .func f
  | yield h => exact .yield (hl _ _ h)
theorem VR.mono (hl : Le ρ ρ') (h : VR ρ v v') : VR ρ' v v' := by
  induction h with
  | flat h => exact .flat h
  | ptr h => exact .ptr (hl _ _ h)
  | sl h hk h2 => exact .sl (hl _ _ h) hk h2
  | sl0 h => exact .sl0 (hl _ _ h)
  | map h => exact .map (hl _ _ h)
  | func hf hx _ hy _ ihx ihy => exact .func (hf.mono hl) hx ihx hy ihy
  | iface t _ ih => exact .iface t ih
  | agg hx _ ih => exact .agg hx ih
  | tuple hx _ ih => exact .tuple hx ih
theorem LR.mono (hl : Le ρ ρ') (h : LR ρ l l') : LR ρ' l l' := by
  induction h with
  | nil => exact .nil
  | cons h _ ih => exact .cons (h.mono hl) ih
theorem LR.length (h : LR ρ l l') : l.length = l'.length := by
  induction h with
  | nil => rfl
  | cons _ _ ih => simp [ih]
theorem LR.at (h : LR ρ l l') : ∀ (i : Nat) (v v' : Value), l[i]? = some v → l'[i]? = some v' → VR ρ v v' := by
  induction h with
  | nil => intro i v v' h; simp at h
  | cons h _ ih =>
    intro i v v' h1 h2
    cases i with
    | zero => simp at h1 h2; subst h1; subst h2; exact h
    | succ i => exact ih i v v' (by simpa using h1) (by simpa using h2)
theorem LR.get (h : LR ρ l l') {i : Nat} {v : Value} (hv : l[i]? = some v) : ∃ v', l'[i]? = some v' ∧ VR ρ v v' := by
  have hi : i < l'.length := by rw [← h.length]; exact (List.getElem?_eq_some_iff.1 hv).1
  exact ⟨_, List.getElem?_eq_getElem hi, h.at i v _ hv (List.getElem?_eq_getElem hi)⟩
theorem LR.of (hn : l.length = l'.length) (h : ∀ (i : Nat) (v v' : Value), l[i]? = some v → l'[i]? = some v' → VR ρ v v') : LR ρ l l' := by
  induction l generalizing l' with
  | nil => cases l' with
    | nil => exact .nil
    | cons => simp at hn
  | cons a l ih => cases l' with
    | nil => simp at hn
    | cons b l' => exact .cons (h 0 a b rfl rfl) (ih (by simpa using hn) fun i v v' h1 h2 => h (i + 1) v v' (by simpa using h1) (by simpa using h2))
theorem LR.append (h : LR ρ l l') (k : LR ρ m m') : LR ρ (l ++ m) (l' ++ m') := by
  induction h with
  | nil => exact k
  | cons h _ ih => exact .cons h ih
theorem LR.take (n : Nat) (h : LR ρ l l') : LR ρ (l.take n) (l'.take n) := by
  induction h generalizing n with
  | nil => simp; exact .nil
  | cons h _ ih => cases n with
    | zero => exact .nil
    | succ n => exact .cons h (ih n)
theorem LR.drop (n : Nat) (h : LR ρ l l') : LR ρ (l.drop n) (l'.drop n) := by
  induction h generalizing n with
  | nil => simp; exact .nil
  | cons h t ih => cases n with
    | zero => exact .cons h t
    | succ n => exact ih n
theorem VR.mkAgg (h : LR ρ l l') : VR ρ (.agg l.toArray) (.agg l'.toArray) := .agg (by simp [h.length]) (fun i v v' h1 h2 => h.at i v v' (by simpa using h1) (by simpa using h2))
theorem VR.mkTuple (h : LR ρ l l') : VR ρ (.tuple l.toArray) (.tuple l'.toArray) := .tuple (by simp [h.length]) (fun i v v' h1 h2 => h.at i v v' (by simpa using h1) (by simpa using h2))
theorem VR.mkFunc {f f' : Fn} (hf : FR ρ f f') (h : LR ρ l l') (k : LR ρ m m') : VR ρ (.func f l.toArray m.toArray) (.func f' l'.toArray m'.toArray) := .func hf (by simp [h.length]) (fun i v v' h1 h2 => h.at i v v' (by simpa using h1) (by simpa using h2)) (by simp [k.length]) (fun i v v' h1 h2 => k.at i v v' (by simpa using h1) (by simpa using h2))
theorem LR.arr {x x' : Array Value} (hx : x.size = x'.size) (h : ∀ (i : Nat) (v v' : Value), x[i]? = some v → x'[i]? = some v' → VR ρ v v') : LR ρ x.toList x'.toList := .of (by simpa using hx) (fun i v v' h1 h2 => h i v v' (by simpa using h1) (by simpa using h2))
/-- a value that has no parts of an address -/
theorem VR.of_flat (h : VR ρ v v') (hf : Ke.flat v = true) : v' = v := by
  cases h <;> first | rfl | (simp [Ke.flat] at hf)
theorem VR.int {k : IntKind} {n : Int} (h : VR ρ (.int k n) v') : v' = .int k n := h.of_flat rfl
theorem VR.bool {b : Bool} (h : VR ρ (.bool b) v') : v' = .bool b := h.of_flat rfl
theorem VR.string {s : ByteArray} (h : VR ρ (.string s) v') : v' = .string s := h.of_flat rfl
theorem VR.pnone (h : VR ρ (.pointer none) v') : v' = .pointer none := h.of_flat rfl
theorem VR.snone {l k : Nat} (h : VR ρ (.slice none l k) v') : v' = .slice none l k := h.of_flat rfl
theorem VR.psome {a : Addr} (h : VR ρ (.pointer (some a)) v') : ∃ c n, ρ a.block = some (c, n) ∧ a.spot = none ∧ v' = .pointer (some ⟨c, a.off, none⟩) := by
  cases h with
  | flat h => simp [Ke.flat] at h
  | ptr h => exact ⟨_, _, h, rfl, rfl⟩
theorem VR.ssome {a : Addr} {n k : Nat} (h : VR ρ (.slice (some a) n k) v') : ∃ c m o' k', ρ a.block = some (c, m) ∧ a.spot = none ∧ v' = .slice (some ⟨c, o', none⟩) n k' ∧ ((o' = a.off ∧ CK a.off k k' m ∧ n ≤ k') ∨ (n = 0 ∧ k = 2)) := by
  cases h with
  | flat h => simp [Ke.flat] at h
  | sl h hk hl => exact ⟨_, _, _, _, h, rfl, rfl, .inl ⟨rfl, hk, hl⟩⟩
  | sl0 h => exact ⟨_, _, _, _, h, rfl, rfl, .inr ⟨rfl, rfl⟩⟩
theorem VR.func' {f : Fn} {x y : Array Value} (h : VR ρ (.func f x y) v') : ∃ f' x' y', FR ρ f f' ∧ LR ρ x.toList x'.toList ∧ LR ρ y.toList y'.toList ∧ v' = .func f' x' y' := by
  cases h with
  | flat h => simp [Ke.flat] at h
  | func hf hx hx2 hy hy2 => exact ⟨_, _, _, hf, .arr hx hx2, .arr hy hy2, rfl⟩
theorem VR.iface' {t : TypeId} {x : Value} (h : VR ρ (.iface t x) v') : ∃ x', VR ρ x x' ∧ v' = .iface t x' := by
  cases h with
  | flat h => simp [Ke.flat] at h
  | iface t h => exact ⟨_, h, rfl⟩
theorem VR.agg' {x : Array Value} (h : VR ρ (.agg x) v') : ∃ x', LR ρ x.toList x'.toList ∧ v' = .agg x' := by
  cases h with
  | flat h => simp [Ke.flat] at h
  | agg hx hx2 => exact ⟨_, .arr hx hx2, rfl⟩
theorem VR.tuple' {x : Array Value} (h : VR ρ (.tuple x) v') : ∃ x', LR ρ x.toList x'.toList ∧ v' = .tuple x' := by
  cases h with
  | flat h => simp [Ke.flat] at h
  | tuple hx hx2 => exact ⟨_, .arr hx hx2, rfl⟩
theorem VR.undef : VR ρ undef undef := .tuple rfl (fun i v v' h => by simp at h)
end
/-! ### objects and worlds -/
structure AL where
  state : LoopState
  pending : Option Code
  n : Nat
  tm : T Value
  params : List Tmp
  assign : Code
  body : Code
  defers : Nat
inductive AO
  | dead
  | stale (cs : List Value)
  | live (al : List Nat) (cs : List Value)
  | loop (L : AL)
  | defd
  | map (es : List (Value × Value))
def AO.isC : AO → Bool
  | .loop _ | .defd | .map _ => false
  | _ => true
structure AW where
  heap : T AO
  next : Nat
/-- how many package variables the evaluator knows: their blocks are the world's own -/
def NG : Nat := 2
def GR (ρ : Rho) : Prop := ∀ b, b < NG → ∃ m, ρ b = some (b, m)
theorem GR.mono {ρ ρ' : Rho} (hl : Le ρ ρ') (h : GR ρ) : GR ρ' := fun b hb => let ⟨m, h1⟩ := h b hb; ⟨m, hl _ _ h1⟩
structure TR (ρ : Rho) (n : Nat) (g : Nat → Option Value) (ts : Array Value) : Prop where
  sz : ts.size = n
  at_ : ∀ (t : Nat) (v : Value), g t = some v → ∃ v', ts[t]? = some v' ∧ VR ρ v v'
  gl : GR ρ
/-- cells: those that are known, none frozen -/
structure CC (ρ : Rho) (cs : List Value) (C : Array Value) (fz : Nat × Nat) (n : Nat) : Prop where
  at_ : ∀ (i : Nat) (v : Value), cs[i]? = some v → ∃ v', C[i]? = some v' ∧ VR ρ v v'
  size : C.size = n
  nf : n ≤ fz.1 ∨ fz.2 ≤ fz.1
/-- a map: its entries in whatever order -/
structure MR (ρ : Rho) (es : List (Value × Value)) (E : List MapEntry) : Prop where
  sz : es.length = E.length
  nd : (es.map (·.1)).Nodup
  ne : (E.map (·.key)).Nodup
  to : ∀ k v, (k, v) ∈ es → ∃ e ∈ E, e.key = k ∧ VR ρ v e.val
  fr : ∀ e ∈ E, ∃ v, (e.key, v) ∈ es ∧ VR ρ v e.val
def OR (ρ : Rho) (n : Nat) : AO → Obj → Prop
  | .dead, _ => True
  | .stale cs, .cells C _ fz => CC ρ cs C fz n
  | .live _ cs, .cells C _ fz => CC ρ cs C fz n
  | .loop L, .loop R => R.state = L.state ∧ R.pending = L.pending ∧ R.params.toList = L.params ∧ R.assign = L.assign ∧ R.body = L.body ∧ ρ L.defers = some (R.defers, 0) ∧ TR ρ L.n L.tm.get R.tmps
  | .defd, .deferred (some []) => n = 0
  | .map es, .map E _ => MR ρ es E.toList
  | _, _ => False
structure WR (ρ : Rho) (W : AW) (w : World) : Prop where
  dom : ∀ (b c n : Nat), ρ b = some (c, n) → b < W.next ∧ ∃ ao o, W.heap.get b = some ao ∧ w.heap[c]? = some o ∧ OR ρ n ao o
  al : ∀ (b b' c n n' : Nat) (al : List Nat) (cs : List Value), ρ b = some (c, n) → ρ b' = some (c, n') → b ≠ b' → W.heap.get b' = some (.live al cs) → W.heap.get b = some .dead ∨ (b ∈ al ∧ ∃ cs', W.heap.get b = some (.stale cs') ∧ cs'.length ≤ cs.length)
  ald : ∀ (b : Nat) (p : Nat × Nat) (al : List Nat) (cs : List Value), ρ b = some p → W.heap.get b = some (.live al cs) → ∀ x ∈ al, ∃ p', ρ x = some p'
  inj : ∀ (b b' c n n' : Nat) (ao : AO), ρ b = some (c, n) → ρ b' = some (c, n') → W.heap.get b' = some ao → ao.isC = false → b = b'
  top : ∀ b, W.next ≤ b → W.heap.get b = none
/-- a step of both worlds -/
structure Up (ρ : Rho) (W : AW) (w : World) (ρ' : Rho) (W' : AW) (w' : World) : Prop where
  le : Le ρ ρ'
  next : W.next ≤ W'.next
  out : ∀ b, b < W.next → ρ b = none → ρ' b = none ∧ ∀ ao, W.heap.get b = some ao → W'.heap.get b = some ao
  size : w.heap.size ≤ w'.heap.size
  same : ∀ c, c < w.heap.size → (∀ b n, ρ b ≠ some (c, n)) → w'.heap[c]? = w.heap[c]?
  img : ∀ b c n, ρ' b = some (c, n) → (∃ b0 n0, ρ b0 = some (c, n0)) ∨ w.heap.size ≤ c
  env : w'.os = w.os ∧ w'.tape = w.tape ∧ w'.output = w.output
  ty : ∀ (c : Nat) (C : Array Value) (t : TypeId) (fz : Nat × Nat), w.heap[c]? = some (.cells C t fz) → ∃ C', w'.heap[c]? = some (.cells C' t fz) ∧ C'.size = C.size
/-- a new block -/
def Ps (w w' : World) (ob : Obj) : Prop := w'.heap = w.heap.push ob ∧ w'.os = w.os ∧ w'.tape = w.tape ∧ w'.output = w.output
section
variable {ρ ρ' ρ'' : Rho} {W W' W'' : AW} {w w' w'' : World} {v v' : Value}
theorem Up.rfl (ρ : Rho) (W : AW) (w : World) : Up ρ W w ρ W w := ⟨.rfl ρ, Nat.le_refl _, fun _ _ h => ⟨h, fun _ e => e⟩, Nat.le_refl _, fun _ _ _ => Eq.refl _, fun b _ n h => .inl ⟨b, n, h⟩, ⟨Eq.refl _, Eq.refl _, Eq.refl _⟩, fun _ C _ _ h => ⟨C, h, Eq.refl _⟩⟩
theorem Up.trans (h : Up ρ W w ρ' W' w') (k : Up ρ' W' w' ρ'' W'' w'') : Up ρ W w ρ'' W'' w'' := by
  refine ⟨h.le.trans k.le, Nat.le_trans h.next k.next, ?_, Nat.le_trans h.size k.size, ?_, ?_, ⟨k.env.1.trans h.env.1, k.env.2.1.trans h.env.2.1, k.env.2.2.trans h.env.2.2⟩, fun c C t fz e => let ⟨C1, e1, s1⟩ := h.ty c C t fz e; let ⟨C2, e2, s2⟩ := k.ty c C1 t fz e1; ⟨C2, e2, s2.trans s1⟩⟩
  · intro b hb h0
    obtain ⟨h1, h2⟩ := h.out b hb h0
    obtain ⟨h3, h4⟩ := k.out b (Nat.lt_of_lt_of_le hb h.next) h1
    exact ⟨h3, fun ao e => h4 ao (h2 ao e)⟩
  · intro c hc h0
    have h1 : ∀ b n, ρ' b ≠ some (c, n) := fun b n e => by
      rcases h.img b c n e with ⟨b0, n0, e0⟩ | h2
      · exact h0 b0 n0 e0
      · omega
    exact (k.same c (Nat.lt_of_lt_of_le hc h.size) h1).trans (h.same c hc h0)
  · intro b c n e
    rcases k.img b c n e with ⟨b0, n0, e0⟩ | h1
    · exact h.img b0 c n0 e0
    · exact .inr (Nat.le_trans h.size h1)
theorem TR.mono {n : Nat} {g : Nat → Option Value} {ts : Array Value} (hl : Le ρ ρ') (h : TR ρ n g ts) : TR ρ' n g ts := ⟨h.1, fun t v e => let ⟨v', h1, h2⟩ := h.2 t v e; ⟨v', h1, h2.mono hl⟩, h.3.mono hl⟩
theorem CC.mono {cs : List Value} {C : Array Value} {fz : Nat × Nat} {n : Nat} (hl : Le ρ ρ') (h : CC ρ cs C fz n) : CC ρ' cs C fz n := ⟨fun i v e => let ⟨v', h1, h2⟩ := h.at_ i v e; ⟨v', h1, h2.mono hl⟩, h.size, h.nf⟩
theorem MR.mono {es : List (Value × Value)} {E : List MapEntry} (hl : Le ρ ρ') (h : MR ρ es E) : MR ρ' es E :=
  ⟨h.sz, h.nd, h.ne, fun k v hm => let ⟨e, h1, h2, h3⟩ := h.to k v hm; ⟨e, h1, h2, h3.mono hl⟩, fun e he => let ⟨v, h1, h2⟩ := h.fr e he; ⟨v, h1, h2.mono hl⟩⟩
theorem OR.mono {ao : AO} {o : Obj} {n : Nat} (hl : Le ρ ρ') (h : OR ρ n ao o) : OR ρ' n ao o := by
  cases ao <;> cases o <;> simp only [OR] at h ⊢ <;> first
    | exact h.mono hl
    | exact ⟨h.1, h.2.1, h.2.2.1, h.2.2.2.1, h.2.2.2.2.1, hl _ _ h.2.2.2.2.2.1, h.2.2.2.2.2.2.mono hl⟩
    | trivial
    | exact h
    | (rename_i x; rcases x with _ | _ | _ <;> exact h)
end
end Go.Ke
namespace Go.Ke
noncomputable section
def AO.cs (ao : AO) : E (List Value) := @AO.rec (fun _ => E (List Value)) (.er "dead") (fun cs => .ok cs) (fun _ cs => .ok cs) (fun _ => .er "cs") (.er "cs") (fun _ => .er "cs") ao
def AW.cs (W : AW) (b : Nat) : E (List Value) := (E.of "no block" (W.heap.get b)).bd AO.cs
def AW.load1 (W : AW) (a : Addr) : E Value := (W.cs a.block).bd fun cs => E.of "load" (nth cs a.off)
def AW.loadN (W : AW) (a : Addr) (n : Nat) : E (List Value) := (W.cs a.block).bd fun cs => tk n (dr a.off cs)
/-- the entries of a map -/
def AO.es (ao : AO) : E (List (Value × Value)) := @AO.rec (fun _ => E (List (Value × Value))) (.er "no map") (fun _ => .er "no map") (fun _ _ => .er "no map") (fun _ => .er "no map") (.er "no map") (fun es => .ok es) ao
def AW.es (W : AW) (b : Nat) : E (List (Value × Value)) := (E.of "no block" (W.heap.get b)).bd AO.es
def killA (al : List Nat) : T AO → E (T AO) := @List.rec Nat (fun _ => T AO → E (T AO)) (fun h => .ok h) (fun b _ ih h => (h.set 40 b .dead).bd ih) al
def one1 (l : List Value) : Bool := @List.rec Value (fun _ => Bool) true (fun v _ ih => bl v.oneCell' ih false) l
def AW.putB (W : AW) (b o : Nat) (xs : List Value) (ao : AO) : E AW := @AO.rec (fun _ => E AW) (.er "dead") (fun _ => .er "stale") (fun al cs => bl (one1 xs) ((pa o xs cs).bd fun cs' => (killA al W.heap).bd fun h => (h.set 40 b (.live [] cs')).bd fun h => .ok ⟨h, W.next⟩) (.er "agg")) (fun _ => .er "put") (.er "put") (fun _ => .er "put") ao
def AW.put (W : AW) (b o : Nat) (xs : List Value) : E AW := (E.of "no block" (W.heap.get b)).bd (W.putB b o xs)
def AW.newK {β : Type} (W : AW) (ao : AO) (k : Nat → AW → E β) : E β := (W.heap.set 40 W.next ao).bd fun h => k W.next ⟨h, Nat.add W.next 1⟩
end
def upd (ρ : Rho) (b c n : Nat) : Rho := fun x => if x = b then some (c, n) else ρ x
theorem one1_ok : ∀ {l : List Value}, one1 l = true → ∀ v ∈ l, v.oneCell' = true
  | [], _, v, hv => by simp at hv
  | x :: l, h, v, hv => by
    change bl x.oneCell' (one1 l) false = true at h
    cases hx : x.oneCell' with
    | false => rw [hx] at h; cases h
    | true =>
      rw [hx] at h
      rcases List.mem_cons.1 hv with rfl | hv
      · exact hx
      · exact one1_ok (l := l) h v hv
section
variable {ρ ρ' : Rho} {W W' : AW} {w w' : World} {P : Program} {b c m o : Nat} {cs xs xs' : List Value}
theorem VR.one {v v' : Value} (h : VR ρ v v') : v'.oneCell' = v.oneCell' := by
  cases h <;> first | rfl | skip
theorem cs_ok (h : WR ρ W w) (hb : ρ b = some (c, m)) (e : W.cs b = .ok cs) : ∃ C t fz, w.heap[c]? = some (.cells C t fz) ∧ CC ρ cs C fz m := by
  obtain ⟨ao, h1, h2⟩ := bd_ok e
  have h1 := of_ok h1
  obtain ⟨_, ao', ob, h3, h4, h5⟩ := h.dom b c m hb
  rw [h1] at h3; cases h3
  cases ao <;> first | cases h2 | skip
  · cases ob <;> simp only [OR] at h5
    exact ⟨_, _, _, h4, h5⟩
  · cases ob <;> simp only [OR] at h5
    exact ⟨_, _, _, h4, h5⟩
theorem cell_of {C : Array Value} {t : TypeId} {fz : Nat × Nat} {v : Value} (h : w.heap[c]? = some (.cells C t fz)) (hv : C[o]? = some v) : w.cell? ⟨c, o, none⟩ = some v := by
  simp [World.cell?, h, hv]
theorem load1_ok (h : WR ρ W w) {a : Addr} {v : Value} (e : W.load1 a = .ok v) (hb : ρ a.block = some (c, m)) : ∃ v', w.cell? ⟨c, a.off, none⟩ = some v' ∧ VR ρ v v' := by
  obtain ⟨cs, h1, h2⟩ := bd_ok e
  obtain ⟨C, t, fz, h3, h4⟩ := cs_ok h hb h1
  have h2 := of_ok h2
  rw [nth_eq] at h2
  obtain ⟨v', h5, h6⟩ := h4.at_ _ _ h2
  exact ⟨v', cell_of h3 h5, h6⟩
theorem loadN_ok (h : WR ρ W w) {a : Addr} {n : Nat} {l : List Value} (e : W.loadN a n = .ok l) (hb : ρ a.block = some (c, m)) : ∃ l', w.rangeAt c a.off l' ∧ LR ρ l l' ∧ l.length = n := by
  obtain ⟨cs, h1, h2⟩ := bd_ok e
  obtain ⟨C, t, fz, h3, h4⟩ := cs_ok h hb h1
  obtain ⟨h5, rfl⟩ := tk_ok h2
  rw [dr_eq] at h5 ⊢
  have hlen : ((cs.drop a.off).take n).length = n := by simp at h5 ⊢; omega
  have hget : ∀ i v, ((cs.drop a.off).take n)[i]? = some v → cs[a.off + i]? = some v := by
    intro i v hv
    rw [List.getElem?_take] at hv
    split at hv
    · rwa [List.getElem?_drop] at hv
    · cases hv
  refine ⟨(C.toList.drop a.off).take n, ?_, ?_, hlen⟩
  · intro j v hv
    refine cell_of h3 ?_
    rw [List.getElem?_take] at hv
    split at hv
    · rw [List.getElem?_drop] at hv; simpa using hv
    · cases hv
  · refine LR.of ?_ ?_
    · rw [hlen]
      by_cases h0 : n = 0
      · simp [h0]
      · have hx : (cs[a.off + (n - 1)]?).isSome := by
          have : a.off + (n - 1) < cs.length := by simp at h5; omega
          simp [this]
        obtain ⟨v, hv⟩ := Option.isSome_iff_exists.1 hx
        obtain ⟨v', h6, _⟩ := h4.at_ _ _ hv
        have := (Array.getElem?_eq_some_iff.1 h6).1
        simp; omega
    · intro i v v' h6 h7
      obtain ⟨v2, h8, h9⟩ := h4.at_ _ _ (hget i v h6)
      rw [List.getElem?_take] at h7
      split at h7
      · rw [List.getElem?_drop] at h7
        rw [show C[a.off + i]? = C.toList[a.off + i]? by simp] at h8
        rw [h7] at h8; cases h8; exact h9
      · cases h7
/-! ### writing -/
theorem killA_get : ∀ {al : List Nat} {h h' : T AO}, killA al h = .ok h' → ∀ x, h'.get x = if x ∈ al then some .dead else h.get x
  | [], h, h', e, x => by cases e; simp
  | b :: al, h, h', e, x => by
    obtain ⟨h1, e1, e2⟩ := bd_ok (x := h.set 40 b .dead) e
    rw [killA_get (al := al) e2 x, set_get 40 e1 x]
    by_cases hx : x ∈ al
    · simp [hx]
    · by_cases hb : x = b
      · simp [hb]
      · simp [hx, hb]
theorem heap_setCell {C : Array Value} {t : TypeId} {fz : Nat × Nat} (h : w.heap[c]? = some (.cells C t fz)) (o : Nat) (v : Value) : (w.setCell ⟨c, o, none⟩ v).heap[c]? = some (.cells (C.setIfInBounds o v) t fz) := by
  obtain ⟨hlt, hk⟩ := Array.getElem?_eq_some_iff.1 h
  show (w.heap.modify c _)[c]? = _
  rw [Array.getElem?_eq_getElem (by rw [Array.size_modify]; exact hlt), Array.getElem_modify_self, hk]
  simp
theorem heap_setCells : ∀ (vs : List Value) (o : Nat) {w : World} {C : Array Value} {t : TypeId} {fz : Nat × Nat}, w.heap[c]? = some (.cells C t fz) → o + vs.length ≤ C.size → ∃ C', (w.setCells c o vs).heap[c]? = some (.cells C' t fz) ∧ C'.size = C.size ∧ ∀ i, C'[i]? = if o ≤ i ∧ i < o + vs.length then vs[i - o]? else C[i]?
  | [], o, w, C, t, fz, h, _ => ⟨C, h, rfl, fun i => by rw [if_neg]; simp⟩
  | v :: vs, o, w, C, t, fz, h, hl => by
    simp only [List.length_cons] at hl
    obtain ⟨C', h1, h2, h3⟩ := heap_setCells vs (o + 1) (heap_setCell h o v) (by simp; omega)
    refine ⟨C', h1, by simpa using h2, fun i => ?_⟩
    rw [h3]
    simp only [List.length_cons]
    by_cases h4 : o + 1 ≤ i ∧ i < o + 1 + vs.length
    · rw [if_pos h4, if_pos (by omega)]
      have : i - o = (i - (o + 1)) + 1 := by omega
      rw [this]; simp
    · rw [if_neg h4]
      by_cases h5 : i = o
      · subst h5
        have hi : i < C.size := by omega
        rw [if_pos (by omega)]
        simp [hi]
      · rw [if_neg (by omega), Array.getElem?_setIfInBounds_ne (by omega)]
theorem heap_setCell_ne (v : Value) {i : Nat} (h : i ≠ c) (o : Nat) : (w.setCell ⟨c, o, none⟩ v).heap[i]? = w.heap[i]? := by
  show (w.heap.modify c _)[i]? = _
  rw [Array.getElem?_modify, if_neg (Ne.symm h)]
theorem heap_setCells_ne {i : Nat} (h : i ≠ c) : ∀ (vs : List Value) (o : Nat) (w : World), (w.setCells c o vs).heap[i]? = w.heap[i]?
  | [], _, _ => rfl
  | v :: vs, o, w => (heap_setCells_ne h vs (o + 1) (w.setCell ⟨c, o, none⟩ v)).trans (heap_setCell_ne v h o)
theorem size_setCells' : ∀ (vs : List Value) (o : Nat) (w : World), (w.setCells c o vs).heap.size = w.heap.size
  | [], _, _ => rfl
  | v :: vs, o, w => (size_setCells' vs (o + 1) (w.setCell ⟨c, o, none⟩ v)).trans (by simp [World.setCell])
theorem env_setCells : ∀ (vs : List Value) (o : Nat) (w : World), (w.setCells c o vs).os = w.os ∧ (w.setCells c o vs).tape = w.tape ∧ (w.setCells c o vs).output = w.output
  | [], _, _ => ⟨rfl, rfl, rfl⟩
  | v :: vs, o, w => env_setCells vs (o + 1) (w.setCell ⟨c, o, none⟩ v)
theorem ty_setCells {vs : List Value} {o : Nat} {w : World} {C : Array Value} {t : TypeId} {fz : Nat × Nat} (h : w.heap[c]? = some (.cells C t fz)) (hl : o + vs.length ≤ C.size) (c1 : Nat) (C1 : Array Value) (t1 : TypeId) (fz1 : Nat × Nat) (h1 : w.heap[c1]? = some (.cells C1 t1 fz1)) : ∃ C', (w.setCells c o vs).heap[c1]? = some (.cells C' t1 fz1) ∧ C'.size = C1.size := by
  by_cases hc : c1 = c
  · subst hc
    rw [h] at h1; cases h1
    obtain ⟨C', g1, g2, _⟩ := heap_setCells vs o h hl
    exact ⟨C', g1, g2⟩
  · exact ⟨C1, (heap_setCells_ne hc vs o w).trans h1, rfl⟩
theorem CC.len {C : Array Value} {fz : Nat × Nat} (h : CC ρ cs C fz m) : cs.length ≤ m := by
  rw [← h.size]
  by_cases h0 : cs.length = 0
  · omega
  · have h1 : cs.length - 1 < cs.length := by omega
    obtain ⟨v', h2, _⟩ := h.at_ _ _ (List.getElem?_eq_getElem h1)
    have := (Array.getElem?_eq_some_iff.1 h2).1
    omega
theorem CC.there {C : Array Value} {t : TypeId} {fz : Nat × Nat} {k : Nat} (h : CC ρ cs C fz m) (h4 : w.heap[c]? = some (.cells C t fz)) (hk : o + k ≤ m) : w.there c o k := by
  intro j hj
  have hj2 : o + j < C.size := by rw [h.size]; omega
  refine ⟨by rw [cell_of h4 (Array.getElem?_eq_getElem hj2)]; rfl, ?_⟩
  have := h.nf
  have := h.size
  simp only [World.frozen?, h4]
  simp
  omega
/-- writing into a live block -/
theorem put_ok (h : WR ρ W w) (e : W.put b o xs = .ok W') (hb : ρ b = some (c, m)) (hx : LR ρ xs xs') : w.there c o xs'.length ∧ (∀ v ∈ xs', v.oneCell' = true) ∧ WR ρ W' (w.setCells c o xs') ∧ Up ρ W w ρ W' (w.setCells c o xs') := by
  obtain ⟨ao, e1, e2⟩ := bd_ok e
  have e1 := of_ok e1
  obtain ⟨_, ao', ob, h3, h4, h5⟩ := h.dom b c m hb
  rw [e1] at h3; cases h3
  cases ao with
  | dead => cases e2
  | stale cs => cases e2
  | loop L => cases e2
  | defd => cases e2
  | map es => cases e2
  | live al cs =>
    change bl (one1 xs) ((pa o xs cs).bd fun cs' => (killA al W.heap).bd fun h => (h.set 40 b (.live [] cs')).bd fun h => .ok (⟨h, W.next⟩ : AW)) (.er "agg") = E.ok W' at e2
    rcases bl_ok e2 with ⟨e3, e4⟩ | ⟨_, e4⟩
    · obtain ⟨cs', e5, e6⟩ := bd_ok e4
      obtain ⟨h1, e7, e8⟩ := bd_ok e6
      obtain ⟨h2, e9, e10⟩ := bd_ok e8
      cases e10
      obtain ⟨hl, rfl⟩ := pa_ok e5
      have hget : ∀ x, h2.get x = if x = b then some (.live [] (cs.take o ++ xs ++ cs.drop (o + xs.length))) else if x ∈ al then some .dead else W.heap.get x := fun x => by rw [set_get 40 e9 x, killA_get e7 x]
      cases ob <;> simp only [OR] at h5
      rename_i C t' fz
      have h6 := h5
      have hlen := hx.length
      have hC := h6.len
      have hCs := h6.size
      obtain ⟨C', g1, g2, g3⟩ := heap_setCells xs' o h4 (by omega)
      have old : ∀ b1 n1, ρ b1 = some (c, n1) → b1 ≠ b → h2.get b1 = some .dead := by
        intro b1 n1 hb1 hne
        rw [hget, if_neg hne]
        rcases h.al b1 b c n1 m al cs hb1 hb hne e1 with hd | ⟨hm, _⟩
        · split <;> simp [*]
        · simp [hm]
      refine ⟨h6.there h4 (by omega), ?_, ⟨?_, ?_, ?_, ?_, ?_⟩, ⟨.rfl ρ, Nat.le_refl _, ?_, by rw [size_setCells']; exact Nat.le_refl _, ?_, fun b _ n e => .inl ⟨b, n, e⟩, env_setCells _ _ _, ty_setCells h4 (by omega)⟩⟩
      · intro v hv
        obtain ⟨i, hi, rfl⟩ := List.getElem_of_mem hv
        obtain ⟨u, hu⟩ : ∃ u, xs[i]? = some u := ⟨_, List.getElem?_eq_getElem (by omega)⟩
        have := hx.at i u _ hu (List.getElem?_eq_getElem hi)
        rw [this.one]
        exact one1_ok e3 _ (List.mem_of_getElem? hu)
      · intro b1 c1 n1 hb1
        obtain ⟨k1, ao1, o1, k2, k3, k4⟩ := h.dom b1 c1 n1 hb1
        refine ⟨k1, ?_⟩
        by_cases hbb : b1 = b
        · subst hbb
          rw [hb] at hb1; cases hb1
          refine ⟨AO.live [] (cs.take o ++ xs ++ cs.drop (o + xs.length)), _, by rw [hget, if_pos rfl], g1, ?_, by rw [g2, hCs], h6.nf⟩
          intro i v hv
          rw [g3]
          rw [List.append_assoc, List.getElem?_append] at hv
          have hto : (cs.take o).length = o := by simp; omega
          rw [hto] at hv
          split at hv
          · rename_i hi
            rw [List.getElem?_take, if_pos hi] at hv
            obtain ⟨v', h7, h8⟩ := h6.at_ _ _ hv
            exact ⟨v', by rw [if_neg (by omega)]; exact h7, h8⟩
          · rename_i hi
            rw [List.getElem?_append] at hv
            split at hv
            · rename_i hi2
              obtain ⟨v', h7, h8⟩ := hx.get hv
              exact ⟨v', by rw [if_pos (by omega)]; exact h7, h8⟩
            · rename_i hi2
              rw [List.getElem?_drop] at hv
              have : o + xs.length + (i - o - xs.length) = i := by omega
              rw [this] at hv
              obtain ⟨v', h7, h8⟩ := h6.at_ _ _ hv
              exact ⟨v', by rw [if_neg (by omega)]; exact h7, h8⟩
        · by_cases hcc : c1 = c
          · subst hcc
            exact ⟨.dead, _, old b1 n1 hb1 hbb, g1, trivial⟩
          · rw [heap_setCells_ne hcc, hget, if_neg hbb]
            by_cases hm : b1 ∈ al
            · exact ⟨.dead, o1, by rw [if_pos hm], k3, trivial⟩
            · exact ⟨ao1, o1, by rw [if_neg hm]; exact k2, k3, k4⟩
      · intro b1 b2 c1 n1 n2 al2 cs2 hb1 hb2 hne hg
        rw [hget] at hg
        by_cases hbb : b2 = b
        · subst hbb
          rw [hb] at hb2; cases hb2
          exact .inl (old b1 n1 hb1 hne)
        · rw [if_neg hbb] at hg
          by_cases hm : b2 ∈ al
          · rw [if_pos hm] at hg; cases hg
          · rw [if_neg hm] at hg
            show h2.get b1 = some .dead ∨ _
            rcases h.al b1 b2 c1 n1 n2 al2 cs2 hb1 hb2 hne hg with hd | ⟨hm2, cs3, hs, hl3⟩
            · refine .inl ?_
              have : b1 ≠ b := fun e => by rw [e, e1] at hd; cases hd
              rw [hget, if_neg this]; split <;> simp [*]
            · have : b1 ≠ b := fun e => by rw [e, e1] at hs; cases hs
              by_cases hm1 : b1 ∈ al
              · exact .inl (by rw [hget, if_neg this, if_pos hm1])
              · exact .inr ⟨hm2, cs3, by show h2.get b1 = _; rw [hget, if_neg this, if_neg hm1]; exact hs, hl3⟩
      · intro b1 p al1 cs1 hb1 hg x hxm
        rw [hget] at hg
        by_cases hbb : b1 = b
        · rw [if_pos hbb] at hg; cases hg; cases hxm
        · rw [if_neg hbb] at hg
          by_cases hm : b1 ∈ al
          · rw [if_pos hm] at hg; cases hg
          · rw [if_neg hm] at hg
            exact h.ald b1 p al1 cs1 hb1 hg x hxm
      · intro b1 b2 c1 n1 n2 ao2 hb1 hb2 hg hC
        rw [hget] at hg
        by_cases hbb : b2 = b
        · rw [if_pos hbb] at hg; cases hg; cases hC
        · rw [if_neg hbb] at hg
          by_cases hm : b2 ∈ al
          · rw [if_pos hm] at hg; cases hg; cases hC
          · rw [if_neg hm] at hg
            exact h.inj b1 b2 c1 n1 n2 ao2 hb1 hb2 hg hC
      · intro b1 hn
        show h2.get b1 = none
        have hn : W.next ≤ b1 := hn
        have hbn := (h.dom b c m hb).1
        rw [hget, if_neg (fun e => by rw [e] at hn; exact absurd hbn (by omega)), if_neg, h.top b1 hn]
        intro hm
        obtain ⟨p', hp'⟩ := h.ald b _ al cs hb e1 b1 hm
        have := (h.dom b1 p'.1 p'.2 hp').1
        omega
      · intro b1 _ hn
        refine ⟨hn, fun _ e9 => ?_⟩
        show h2.get b1 = _
        rw [hget, if_neg (fun e => by rw [e, hb] at hn; cases hn), if_neg]
        · exact e9
        intro hm
        obtain ⟨p', hp'⟩ := h.ald b _ al cs hb e1 b1 hm
        rw [hn] at hp'; cases hp'
      · intro c1 _ hn
        exact heap_setCells_ne (fun e => hn b m (by rw [hb, e])) _ _ _
    · cases e4
end
end Go.Ke
namespace Go.Ke
section
variable {ρ ρ' : Rho} {W W' : AW} {w w' : World} {P : Program} {b c m o : Nat} {cs xs xs' : List Value} {ao : AO} {ob : Obj} {H : T AO}
theorem newK_ok {β : Type} {k : Nat → AW → E β} {r : β} (e : W.newK ao k = .ok r) : ∃ H, W.heap.set 40 W.next ao = .ok H ∧ k W.next ⟨H, W.next + 1⟩ = .ok r := bd_ok e
theorem WR.fresh (h : WR ρ W w) : ρ W.next = none := by
  cases e : ρ W.next with
  | none => rfl
  | some p => exact absurd (h.dom _ p.1 p.2 e).1 (by omega)
theorem WR.lt (h : WR ρ W w) (e : ρ b = some (c, m)) : c < w.heap.size := by
  obtain ⟨_, _, _, _, h4, _⟩ := h.dom b c m e
  exact (Array.getElem?_eq_some_iff.1 h4).1
theorem WR.le_upd (h : WR ρ W w) (c m : Nat) : Le ρ (upd ρ W.next c m) := fun b c' e => by
  have : b ≠ W.next := fun e2 => by rw [e2, h.fresh] at e; cases e
  simp [upd, this, e]
theorem upd_self : upd ρ b c m b = some (c, m) := by simp [upd]
theorem new_ok (h : WR ρ W w) (e : W.heap.set 40 W.next ao = .ok H) (hal : ∀ al cs, ao = .live al cs → ∀ x ∈ al, ∃ p, ρ x = some p) (hO : OR (upd ρ W.next w.heap.size m) m ao ob) (hp : Ps w w' ob) :
    WR (upd ρ W.next w.heap.size m) ⟨H, W.next + 1⟩ w' ∧ Up ρ W w (upd ρ W.next w.heap.size m) ⟨H, W.next + 1⟩ w' := by
  have hw := hp.1
  have hget : ∀ x, H.get x = if x = W.next then some ao else W.heap.get x := fun x => set_get 40 e x
  have hu : ∀ b1 c1 n1, upd ρ W.next w.heap.size m b1 = some (c1, n1) → (b1 = W.next ∧ c1 = w.heap.size ∧ n1 = m) ∨ (b1 ≠ W.next ∧ ρ b1 = some (c1, n1) ∧ c1 < w.heap.size) := by
    intro b1 c1 n1 e1
    by_cases hb : b1 = W.next
    · simp [upd, hb] at e1; exact .inl ⟨hb, e1.1.symm, e1.2.symm⟩
    · simp [upd, hb] at e1; exact .inr ⟨hb, e1, h.lt e1⟩
  have hold : ∀ c1, c1 < w.heap.size → w'.heap[c1]? = w.heap[c1]? := fun c1 hc => by rw [hw, Array.getElem?_push]; rw [if_neg (by omega)]
  refine ⟨⟨?_, ?_, ?_, ?_, ?_⟩, ⟨h.le_upd _ _, Nat.le_succ _, ?_, by rw [hw]; simp, fun c1 hc _ => hold c1 hc, ?_, hp.2, fun c1 C t fz h1 => ⟨C, (hold c1 (Array.getElem?_eq_some_iff.1 h1).1).trans h1, rfl⟩⟩⟩
  · intro b1 c1 n1 e1
    rcases hu b1 c1 n1 e1 with ⟨rfl, rfl, rfl⟩ | ⟨hb, e2, hc⟩
    · exact ⟨Nat.lt_succ_self _, ao, ob, by rw [hget, if_pos rfl], by rw [hw]; simp, hO⟩
    · obtain ⟨k1, ao1, o1, k2, k3, k4⟩ := h.dom b1 c1 n1 e2
      exact ⟨Nat.lt_succ_of_lt k1, ao1, o1, by rw [hget, if_neg hb]; exact k2, by rw [hold c1 hc]; exact k3, k4.mono (h.le_upd _ _)⟩
  · intro b1 b2 c1 n1 n2 al cs e1 e2 hne hg
    rw [hget] at hg
    rcases hu b1 c1 n1 e1 with ⟨rfl, rfl, _⟩ | ⟨hb1, e3, hc1⟩
    · rcases hu b2 _ _ e2 with ⟨rfl, _⟩ | ⟨_, _, hc⟩
      · exact absurd rfl hne
      · omega
    · rcases hu b2 c1 n2 e2 with ⟨rfl, rfl, _⟩ | ⟨hb2, e4, _⟩
      · omega
      · rw [if_neg hb2] at hg
        show H.get b1 = _ ∨ (_ ∧ ∃ cs', H.get b1 = _ ∧ _)
        rw [hget, if_neg hb1]
        exact h.al b1 b2 c1 n1 n2 al cs e3 e4 hne hg
  · intro b1 p al cs e1 hg x hx
    rw [hget] at hg
    rcases hu b1 p.1 p.2 e1 with ⟨rfl, _⟩ | ⟨hb1, e3, hc1⟩
    · rw [if_pos rfl] at hg
      cases hg
      obtain ⟨c', hc'⟩ := hal al cs rfl x hx
      exact ⟨c', h.le_upd _ _ _ _ hc'⟩
    · rw [if_neg hb1] at hg
      obtain ⟨c', hc'⟩ := h.ald b1 p al cs e3 hg x hx
      exact ⟨c', h.le_upd _ _ _ _ hc'⟩
  · intro b1 b2 c1 n1 n2 ao2 e1 e2 hg hC
    rw [hget] at hg
    rcases hu b1 c1 n1 e1 with ⟨rfl, rfl, _⟩ | ⟨hb1, e3, hc1⟩
    · rcases hu b2 _ _ e2 with ⟨rfl, _⟩ | ⟨_, _, hc⟩
      · rfl
      · omega
    · rcases hu b2 c1 n2 e2 with ⟨rfl, rfl, _⟩ | ⟨hb2, e4, _⟩
      · omega
      · rw [if_neg hb2] at hg
        exact h.inj b1 b2 c1 n1 n2 ao2 e3 e4 hg hC
  · intro b1 hb
    show H.get b1 = none
    have hb : W.next + 1 ≤ b1 := hb
    rw [hget, if_neg (by omega), h.top b1 (by omega)]
  · intro b1 hb hn
    have hb1 : b1 ≠ W.next := by omega
    exact ⟨by simp [upd, hb1, hn], fun _ e9 => by show H.get b1 = _; rw [hget, if_neg hb1]; exact e9⟩
  · intro b1 c1 n1 e1
    rcases hu b1 c1 n1 e1 with ⟨rfl, rfl, _⟩ | ⟨hb1, e3, _⟩
    · exact .inr (Nat.le_refl _)
    · exact .inl ⟨b1, n1, e3⟩
/-- only the heap counts -/
theorem WR.heap (h : WR ρ W w) (hw : w'.heap = w.heap) : WR ρ W w' := ⟨fun b c n e => by rw [hw]; exact h.dom b c n e, h.al, h.ald, h.inj, h.top⟩
theorem Up.heap (h : Up ρ W w ρ' W' w') {w2 : World} (hw : w2.heap = w'.heap) (he : w2.os = w'.os ∧ w2.tape = w'.tape ∧ w2.output = w'.output) : Up ρ W w ρ' W' w2 := ⟨h.le, h.next, h.out, by rw [hw]; exact h.size, fun c h1 h2 => by rw [hw]; exact h.same c h1 h2, h.img, ⟨he.1.trans h.env.1, he.2.1.trans h.env.2.1, he.2.2.trans h.env.2.2⟩, fun c C t fz e => by rw [hw]; exact h.ty c C t fz e⟩
/-- a live block turns stale -/
theorem stale_ok {al : List Nat} (h : WR ρ W w) (hb : ρ b = some (c, m)) (e1 : W.heap.get b = some (.live al cs)) (e : W.heap.set 40 b (.stale cs) = .ok H) : WR ρ ⟨H, W.next⟩ w ∧ Up ρ W w ρ ⟨H, W.next⟩ w := by
  have hget : ∀ x, H.get x = if x = b then some (.stale cs) else W.heap.get x := fun x => set_get 40 e x
  refine ⟨⟨?_, ?_, ?_, ?_, ?_⟩, ⟨.rfl ρ, Nat.le_refl _, ?_, Nat.le_refl _, fun _ _ _ => rfl, fun b c n e => .inl ⟨b, n, e⟩, ⟨rfl, rfl, rfl⟩, fun _ C _ _ h => ⟨C, h, rfl⟩⟩⟩
  · intro b1 c1 n1 hb1
    obtain ⟨k1, ao1, o1, k2, k3, k4⟩ := h.dom b1 c1 n1 hb1
    refine ⟨k1, ?_⟩
    by_cases hbb : b1 = b
    · subst hbb
      rw [e1] at k2; cases k2
      exact ⟨_, o1, by rw [hget, if_pos rfl], k3, by cases o1 <;> simp only [OR] at k4 ⊢; exact k4⟩
    · exact ⟨ao1, o1, by rw [hget, if_neg hbb]; exact k2, k3, k4⟩
  · intro b1 b2 c1 n1 n2 al2 cs2 hb1 hb2 hne hg
    rw [hget] at hg
    by_cases hbb : b2 = b
    · rw [if_pos hbb] at hg; cases hg
    · rw [if_neg hbb] at hg
      show H.get b1 = some .dead ∨ (_ ∧ ∃ cs', H.get b1 = _ ∧ _)
      have old := h.al b1 b2 c1 n1 n2 al2 cs2 hb1 hb2 hne hg
      have : b1 ≠ b := fun e => by
        subst e
        rcases old with hd | ⟨_, cs3, hs, _⟩
        · rw [e1] at hd; cases hd
        · rw [e1] at hs; cases hs
      rw [hget, if_neg this]
      exact old
  · intro b1 p al1 cs1 hb1 hg x hxm
    rw [hget] at hg
    by_cases hbb : b1 = b
    · rw [if_pos hbb] at hg; cases hg
    · rw [if_neg hbb] at hg
      exact h.ald b1 p al1 cs1 hb1 hg x hxm
  · intro b1 b2 c1 n1 n2 ao2 hb1 hb2 hg hC
    rw [hget] at hg
    by_cases hbb : b2 = b
    · rw [if_pos hbb] at hg; cases hg; cases hC
    · rw [if_neg hbb] at hg
      exact h.inj b1 b2 c1 n1 n2 ao2 hb1 hb2 hg hC
  · intro b1 hn
    show H.get b1 = none
    have hn : W.next ≤ b1 := hn
    have hbn := (h.dom b c m hb).1
    rw [hget, if_neg (fun e => by rw [e] at hn; exact absurd hbn (by omega)), h.top b1 hn]
  · intro b1 _ hn
    refine ⟨hn, fun _ e9 => ?_⟩
    show H.get b1 = _
    rw [hget, if_neg (fun e => by rw [e, hb] at hn; cases hn)]
    exact e9
end
end Go.Ke
namespace Go.Ke
noncomputable section
def val (g : Nat → Option Value) (x : Operand) : E Value := @Operand.rec (fun _ => E Value) (fun t => E.of "tmp" (g t)) (fun v => bl (flat v) (E.ok v) (.er "const")) (fun k => bl (Nat.blt k NG) (.ok (.pointer (some ⟨k, 0, none⟩))) (.er "global")) (fun f => .ok (.func (.func f) #[] #[])) x
def vals (g : Nat → Option Value) (l : List Operand) : E (List Value) := @List.rec Operand (fun _ => E (List Value)) (.ok []) (fun x _ ih => (val g x).bd fun v => ih.bd fun r => .ok (v :: r)) l
def ilt (a b : Int) : Bool := @Int.rec (fun _ => Bool) (fun m => @Int.rec (fun _ => Bool) (fun n => Nat.blt m n) (fun _ => false) b) (fun m => @Int.rec (fun _ => Bool) (fun _ => true) (fun n => Nat.blt n m) b) a
def ieq (a b : Int) : Bool := @Int.rec (fun _ => Bool) (fun m => @Int.rec (fun _ => Bool) (fun n => Nat.beq m n) (fun _ => false) b) (fun m => @Int.rec (fun _ => Bool) (fun _ => false) (fun n => Nat.beq m n) b) a
def lim (k : IntKind) : Nat := @IntKind.rec (fun _ => Nat) 128 32768 2147483648 9223372036854775808 256 65536 4294967296 18446744073709551616 k
def wr (k : IntKind) (n : Int) : Int := @Int.rec (fun _ => Int) (fun m => bl (Nat.blt m (lim k)) (Int.ofNat m) (k.wrap (Int.ofNat m))) (fun m => k.wrap (Int.negSucc m)) n
def ub (s : ByteArray) : List Nat := s.data.toList.map UInt8.toNat
def leq (a : List Nat) : List Nat → Bool := @List.rec Nat (fun _ => List Nat → Bool) (fun b => @List.rec Nat (fun _ => Bool) true (fun _ _ _ => false) b) (fun x _ ih b => @List.rec Nat (fun _ => Bool) false (fun y b _ => bl (Nat.beq x y) (ih b) false) b) a
def llt (a : List Nat) : List Nat → Bool := @List.rec Nat (fun _ => List Nat → Bool) (fun b => @List.rec Nat (fun _ => Bool) false (fun _ _ _ => true) b) (fun x _ ih b => @List.rec Nat (fun _ => Bool) false (fun y b _ => bl (Nat.blt x y) true (bl (Nat.beq x y) (ih b) false)) b) a
end
section
variable {ρ : Rho} {n : Nat} {g : Nat → Option Value} {a : Act}
theorem val_ok (h : TR ρ n g a.tmps) {x : Operand} {v : Value} (e : val g x = .ok v) : VR ρ v (a.eval x) := by
  cases x with
  | tmp t =>
    have e : E.of "tmp" (g t) = .ok v := e
    obtain ⟨v', h1, h2⟩ := h.2 t v (of_ok e)
    have : a.eval (.tmp t) = v' := by simp [Act.eval, Array.getD_eq_getD_getElem?, h1]
    rw [this]; exact h2
  | const u =>
    have e : bl (flat u) (E.ok u) (.er "const") = .ok v := e
    rcases bl_ok e with ⟨h1, h2⟩ | ⟨_, h2⟩
    · cases h2; exact .flat h1
    · cases h2
  | global k =>
    have e : bl (Nat.blt k NG) (E.ok (Value.pointer (some ⟨k, 0, none⟩))) (.er "global") = .ok v := e
    rcases bl_ok e with ⟨h1, h2⟩ | ⟨_, h2⟩
    · cases h2
      rw [Nat.blt_eq] at h1
      obtain ⟨m, h3⟩ := h.3 k h1
      exact .ptr h3
    · cases h2
  | func f =>
    cases e
    exact .func (.func f) rfl (fun i v v' h => by simp at h) rfl (fun i v v' h => by simp at h)
theorem vals_ok (h : TR ρ n g a.tmps) : ∀ {l : List Operand} {vs : List Value}, vals g l = .ok vs → LR ρ vs (l.map a.eval)
  | [], vs, e => by cases e; exact .nil
  | x :: l, vs, e => by
    obtain ⟨v, h1, h2⟩ := bd_ok (x := val g x) e
    obtain ⟨r, h3, h4⟩ := bd_ok h2
    cases h4
    exact .cons (val_ok h h1) (vals_ok h h3)
end
theorem ilt_eq (a b : Int) : ilt a b = decide (a < b) := by
  rw [Bool.eq_iff_iff, decide_eq_true_iff]
  cases a with
  | ofNat m => cases b with
    | ofNat n => show Nat.blt m n = true ↔ _; rw [Nat.blt_eq]; simp
    | negSucc n => show false = true ↔ _; simp; omega
  | negSucc m => cases b with
    | ofNat n => show true = true ↔ _; simp; omega
    | negSucc n => show Nat.blt n m = true ↔ _; rw [Nat.blt_eq]; omega
theorem ieq_eq (a b : Int) : ieq a b = decide (a = b) := by
  cases a with
  | ofNat m => cases b with
    | ofNat n =>
      show Nat.beq m n = _
      cases h : Nat.beq m n with
      | true => have := Nat.eq_of_beq_eq_true h; simp [this]
      | false => have := Nat.ne_of_beq_eq_false h; simp; omega
    | negSucc n => simp [ieq]
  | negSucc m => cases b with
    | ofNat n => simp [ieq]
    | negSucc n =>
      show Nat.beq m n = _
      cases h : Nat.beq m n with
      | true => have := Nat.eq_of_beq_eq_true h; simp [this]
      | false => have := Nat.ne_of_beq_eq_false h; simp; omega
theorem wr_eq (k : IntKind) (n : Int) : wr k n = k.wrap n := by
  cases n with
  | negSucc m => rfl
  | ofNat m =>
    show bl (Nat.blt m (lim k)) (Int.ofNat m) (k.wrap (Int.ofNat m)) = _
    cases h : Nat.blt m (lim k) with
    | false => rfl
    | true =>
      have h1 : m < lim k := by have := Nat.le_of_ble_eq_true h; omega
      show Int.ofNat m = _
      cases k <;> simp [lim] at h1 <;> simp [IntKind.wrap, IntKind.bits, IntKind.signed] <;> omega
end Go.Ke
