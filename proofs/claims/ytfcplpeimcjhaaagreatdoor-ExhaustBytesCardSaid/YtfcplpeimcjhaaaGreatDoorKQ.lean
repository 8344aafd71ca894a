/- The evaluator of code. Conditions: none. -/
import Derived.Test.YtfcplpeimcjhaaaGreatDoorKP
import Derived.TacticsIn
namespace Go.Ke
open Go.RowKit
noncomputable section
structure Cx where
  n : Nat
  rd : Option Nat
/-- what is deferred: the mark of a range over a function, a call -/
inductive DD | mark (D : Nat) | call (g : Nat) (xs : List Value)
inductive CR | nrm (tm : T Value) (ds : List DD) (W : AW) | ext (id : Nat) (tm : T Value) (ds : List DD) (W : AW) | ret (tm : T Value) (ds : List DD) (W : AW) | er (s : String)
inductive VC | ok (v : Value) (W : AW) | er (s : String)
/-- an evaluator of code, and the calls that are known ahead -/
structure Ev where
  go : Cx → Code → T Value → List DD → AW → CR
  tab : Nat → List Value → AW → Option VC
instance : CoeFun Ev (fun _ => Cx → Code → T Value → List DD → AW → CR) := ⟨Ev.go⟩
def VC.th (x : VC) (k : Value → AW → CR) : CR := @VC.rec (fun _ => CR) k .er x
def E.th {α : Type} (x : E α) (k : α → CR) : CR := @E.rec α (fun _ => CR) k .er x
def E.vc {α : Type} (x : E α) (k : α → VC) : VC := @E.rec α (fun _ => VC) k .er x
def putD (n : Nat) (d : Option Tmp) (tm : T Value) (v : Value) (k : T Value → CR) : CR := @Option.rec Tmp (fun _ => CR) (k tm) (fun d => @Bool.rec (fun _ => CR) (.er "slot") ((tm.set 20 d v).th k) (Nat.blt d n)) d
def sets (l : List Value) : T Value → Nat → E (T Value) := @List.rec Value (fun _ => T Value → Nat → E (T Value)) (fun t _ => .ok t) (fun v _ ih t i => (t.set 20 i v).bd fun t => ih t (Nat.add i 1)) l
def zipS (n : Nat) (ps : List Tmp) : List Value → T Value → E (T Value) := @List.rec Tmp (fun _ => List Value → T Value → E (T Value)) (fun vs t => @List.rec Value (fun _ => E (T Value)) (.ok t) (fun _ _ _ => .er "params") vs) (fun p _ ih vs t => @List.rec Value (fun _ => E (T Value)) (.er "params") (fun v vs _ => bl (Nat.blt p n) ((t.set 20 p v).bd (ih vs)) (.er "slot")) vs) ps
def resV (P : Program) (g : Nat → Option Value) (W : AW) (r : ResultVar) : E Value := match r with
  | .tmp t => E.of "result" (g t)
  | .cell a t => (E.of "result" (g a)).bd fun x => loadV P W t x
def resL (P : Program) (g : Nat → Option Value) (W : AW) (l : List ResultVar) : E (List Value) := @List.rec ResultVar (fun _ => E (List Value)) (.ok []) (fun r _ ih => (resV P g W r).bd fun v => ih.bd fun l => .ok (v :: l)) l
def one' (l : List Value) : Value := match l with
  | [v] => v
  | l => .tuple ⟨l⟩
def isDefd (ao : AO) : Bool := match ao with
  | .defd => true
  | _ => false
def asL (ao : AO) : E AL := match ao with
  | .loop L => .ok L
  | _ => .er "loop"
/-- recover, where nothing panics -/
def isRec (o : Op) : Bool := match o with
  | .call ⟨.builtin .recover, _, _⟩ => true
  | _ => false
def skipR (n : Nat) (d : Option Tmp) (tm : T Value) (k : T Value → AW → CR) (r : R) : CR := @R.rec (fun _ => CR) (fun v W => putD n d tm v fun tm => k tm W) (fun W => putD n d tm undef fun tm => k tm W) (fun _ _ _ => .er "call in a deferred call") (fun _ _ _ => .er "call in a deferred call") r
/-- a guard -/
def wantG (ops : List Oper) (g : Nat → Option Value) (j : Nat) (b : Bool) : E Bool := (E.of "guard" (nth ops j)).bd fun o => @Option.rec Tmp (fun _ => E Bool) (.ok false) (fun d => (E.of "guard" (g d)).bd fun v => match v with
  | .bool c => .ok (bl c b (bl b false true))
  | _ => .ok false) o.dst
def wantV (ops : List Oper) (g : Nat → Option Value) (q : Option (Nat × Bool)) : E Bool := @Option.rec (Nat × Bool) (fun _ => E Bool) (.ok true) (fun p => wantG ops g p.1 p.2) q
def regD (P : Program) (n : Nat) (ops : List Oper) (l : List Oper) : T Value → AW → CR := @List.rec Oper (fun _ => T Value → AW → CR) (fun tm W => .nrm tm [] W) (fun o _ next tm W => (wantV ops tm.get o.guard).th fun b => @Bool.rec (fun _ => CR) (putD n o.dst tm undef fun tm => next tm W) (@Bool.rec (fun _ => CR) ((oper P tm.get W o.op).th (skipR n o.dst tm next)) (putD n o.dst tm .nilIface fun tm => next tm W) (isRec o.op)) b) l
def cndD (a b : T Value → AW → CR) (tm : T Value) (W : AW) (x : Value) : CR := match x with
  | .bool c => @Bool.rec (fun _ => CR) (b tm W) (a tm W) c
  | _ => .er "cond"
/-- the code of a deferred call -/
def codeD (P : Program) (n : Nat) (c : Code) : T Value → AW → CR := @Code.rec (fun _ => T Value → AW → CR) (fun tm W => .nrm tm [] W) (fun _ ops d => @Bool.rec (fun _ => T Value → AW → CR) (regD P n ops.toList ops.toList) (fun _ _ => .er "draw in a deferred call") d) (fun _ _ x y tm W => @CR.rec (fun _ => CR) (fun tm _ W => y tm W) .ext .ret .er (x tm W)) (fun c _ _ x y tm W => (val tm.get c).th (cndD x y tm W)) (fun _ _ _ _ _ => .er "code of a deferred call") (fun _ _ _ _ => .er "code of a deferred call") (fun _ _ _ _ _ _ _ _ => .er "code of a deferred call") (fun _ _ _ => .er "code of a deferred call") (fun _ _ _ _ => .er "code of a deferred call") (fun _ tm W => .nrm tm [] W) (fun _ _ _ => .er "code of a deferred call") (fun tm W => .ret tm [] W) (fun _ _ _ => .er "code of a deferred call") c
def leaveD (P : Program) (fn : Func) (tm : T Value) (W : AW) : E AW := (resL P tm.get W fn.results.toList).bd fun _ => .ok W
def callD (P : Program) (g : Nat) (xs : List Value) (W : AW) : E AW := (callee P g).bd fun p => bl (Nat.ble xs.length p.1.ntmps) ((sets xs .nil 0).bd fun tm => @CR.rec (fun _ => E AW) (fun tm _ W => leaveD P p.1 tm W) (fun _ _ _ _ => .er "exit") (fun tm _ W => leaveD P p.1 tm W) .er (codeD P p.1.ntmps p.2 tm W)) (.er "arguments")
/-- the marks among the deferred calls -/
def shut1 (P : Program) (d : DD) (W : AW) (k : AW → E AW) : E AW := @DD.rec (fun _ => E AW) (fun D => (E.of "mark" (W.heap.get D)).bd fun ao => bl (isDefd ao) ((W.heap.set 40 D .dead).bd fun H => k ⟨H, W.next⟩) (.er "mark")) (fun g xs => (callD P g xs W).bd k) d
def shut (P : Program) (ds : List DD) : AW → E AW := @List.rec DD (fun _ => AW → E AW) .ok (fun d _ ih W => shut1 P d W ih) ds
def leave (P : Program) (fn : Func) (tm : T Value) (ds : List DD) (W : AW) : VC := (shut P ds W).vc fun W => (resL P tm.get W fn.results.toList).vc fun l => .ok (one' l) W
def callB (P : Program) (ih : Ev) (fn : Func) (c : Code) (xs : List Value) (W : AW) : VC := @Bool.rec (fun _ => VC) (.er "arguments") ((sets xs .nil 0).vc fun tm => @CR.rec (fun _ => VC) (leave P fn) (fun _ _ _ _ => .er "exit") (leave P fn) .er (ih ⟨fn.ntmps, none⟩ c tm [] W)) (Nat.ble xs.length fn.ntmps)
def callG (P : Program) (ih : Ev) (g : Nat) (xs : List Value) (W : AW) : VC := @Option.rec VC (fun _ => VC) ((callee P g).vc fun p => callB P ih p.1 p.2 xs W) (fun r => r) (ih.tab g xs W)
def ready (L : AL) : Bool := match L.state with
  | .ready => true
  | _ => false
def notBusy (L : AL) : Bool := match L.state with
  | .busy => false
  | _ => true
def AW.loop (W : AW) (l : Nat) : E AL := (E.of "loop" (W.heap.get l)).bd asL
def AW.setL (W : AW) (l : Nat) (L : AL) : E AW := (W.heap.set 40 l (.loop L)).bd fun H => .ok ⟨H, W.next⟩
def endR (l : Nat) (jump : Option Code) (b : Bool) (W : AW) : VC := (W.loop l).vc fun L => (W.setL l { L with state := bl b .ready .done, pending := jump }).vc fun W => .ok (.bool b) W
def noDs (ds : List DD) (k : CR) : CR := @List.rec DD (fun _ => CR) k (fun _ _ _ => .er "mark in a round") ds
def roundB (_ : Program) (ih : Ev) (l : Nat) (L : AL) (tm : T Value) (W : AW) : VC := @CR.rec (fun _ => VC) (fun _ _ W => endR l none true W) (fun id _ _ W => endR l (some (.exit id)) false W) (fun _ _ W => endR l (some .ret) false W) .er (ih ⟨L.n, some l⟩ L.body tm [] W)
def roundG (P : Program) (ih : Ev) (l : Nat) (xs : List Value) (W : AW) : VC := (W.loop l).vc fun L => (zipS L.n L.params xs L.tm).vc fun tm => @CR.rec (fun _ => VC)
  (fun tm ds W => @List.rec DD (fun _ => VC) ((W.loop l).vc fun L2 => @Bool.rec (fun _ => VC) (.er "not ready") ((W.setL l { L2 with state := .busy }).vc fun W => roundB P ih l L tm W) (ready L2)) (fun _ _ _ => .er "mark") ds)
  (fun _ _ _ _ => .er "assign") (fun _ _ _ => .er "assign") .er (ih ⟨L.n, some l⟩ L.assign tm [] W)
def execR (P : Program) (ih : Ev) (n : Nat) (d : Option Tmp) (tm : T Value) (k : T Value → AW → CR) (r : R) : CR := @R.rec (fun _ => CR) (fun v W => putD n d tm v fun tm => k tm W) (fun W => putD n d tm undef fun tm => k tm W) (fun f xs W => (callG P ih f xs W).th fun v W => putD n d tm v fun tm => k tm W) (fun l xs W => (roundG P ih l xs W).th fun v W => putD n d tm v fun tm => k tm W) r
def exec (P : Program) (ih : Ev) (n : Nat) (o : Oper) (tm : T Value) (W : AW) (k : T Value → AW → CR) : CR := (oper P tm.get W o.op).th (execR P ih n o.dst tm k)
def deferOf (o : Op) : Option Call := match o with
  | .defer c => some c
  | _ => none
def defF (f : Value) (xs : List Value) : E DD := match f with
  | .func (.func h) a b => .ok (.call h (a.toList ++ xs ++ b.toList))
  | _ => .er "defer"
def defV (g : Nat → Option Value) (c : Call) : E DD := (vals g c.args.toList).bd fun xs => match c.callee with
  | .value f => (val g f).bd fun f => defF f xs
  | _ => .er "defer"
def region (P : Program) (ih : Ev) (cx : Cx) (ops : List Oper) (l : List Oper) : List DD → T Value → AW → CR := @List.rec Oper (fun _ => List DD → T Value → AW → CR) (fun ds tm W => .nrm tm ds W) (fun o _ next ds tm W => (wantV ops tm.get o.guard).th fun b => @Bool.rec (fun _ => CR) (putD cx.n o.dst tm undef fun tm => next ds tm W) (@Option.rec Call (fun _ => CR) (exec P ih cx.n o tm W (next ds)) (fun c => @Option.rec Nat (fun _ => CR) ((defV tm.get c).th fun d => putD cx.n o.dst tm undef fun tm => next (d :: ds) tm W) (fun _ => .er "defer in a round") cx.rd) (deferOf o.op)) b) l
/-! ### regions that draw their order -/
def dm (o : Oper) : Nat := @List.rec Edge (fun _ => Nat) 0 (fun e _ s => bl (Region.binds .any e) (Nat.lor s (Nat.pow 2 e.on)) s) o.after.toList
def bm (acc : List Nat) (o : Oper) : Nat := @List.rec Edge (fun _ => Nat) 0 (fun e _ s => bl (Region.binds .any e) (Nat.lor (Nat.lor s (Nat.pow 2 e.on)) ((nth acc e.on).getD 0)) s) o.after.toList
def bms (l : List Oper) : List Nat → List Nat := @List.rec Oper (fun _ => List Nat → List Nat) (fun acc => acc) (fun o _ ih acc => ih (acc ++ [bm acc o])) l
def tb (D i : Nat) : Bool := Nat.beq (Nat.land (Nat.shiftRight D i) 1) 1
def sub (m D : Nat) : Bool := Nat.beq (Nat.land m D) m
def calms (P : Program) (l : List (Nat × Oper)) : Nat → Nat × List (Nat × Oper) := @List.rec (Nat × Oper) (fun _ => Nat → Nat × List (Nat × Oper)) (fun D => (D, [])) (fun p _ ih D => bl (tb D p.1) (ih D) (bl (Nat.blt (kind P p.2.op) 3) (bl (sub (dm p.2) D) (@Prod.rec Nat (List (Nat × Oper)) (fun _ => Nat × List (Nat × Oper)) (fun D' r => (D', p :: r)) (ih (Nat.lor D (Nat.pow 2 p.1)))) (ih D)) (ih D))) l
/-- those that may be done now and are not done -/
def opens (l : List (Nat × Oper)) (D : Nat) : List (Nat × Oper) := @List.rec (Nat × Oper) (fun _ => List (Nat × Oper)) [] (fun p _ r => bl (tb D p.1) r (bl (sub (dm p.2) D) (p :: r) r)) l
/-- the loads that are done and may yet be done behind an operation with the mask B -/
def floats (P : Program) (l : List (Nat × Oper)) (D B : Nat) : List Oper := @List.rec (Nat × Oper) (fun _ => List Oper) [] (fun p _ r => bl (tb D p.1) (bl (Nat.beq (kind P p.2.op) 1) (bl (tb B p.1) r (p.2 :: r)) r) r) l
inductive PI | calm (i : Nat) (o : Oper) | eff (i : Nat) (o : Oper) (chk : List Oper) | ins (l : List (Nat × Oper))
def mkC (l : List (Nat × Oper)) (r : List PI) : List PI := @List.rec (Nat × Oper) (fun _ => List PI) r (fun p _ r => .calm p.1 p.2 :: r) l
/-- an entry of a map literal: the map's type, the map, the key, the value -/
def insOf (o : Op) : Option (TypeId × Operand × Operand × Operand) := match o with
  | .insert t m k v => some (t, m, k, v)
  | _ => none
def plainL (P : Program) (o : Op) : Bool := match o with
  | .load _ _ => true
  | o => bl (Nat.beq (kind P o) 1) false true
/-- no look at a map among those that are done -/
def noLook (P : Program) (l : List (Nat × Oper)) (D : Nat) : Bool := @List.rec (Nat × Oper) (fun _ => Bool) true (fun p _ r => bl (tb D p.1) (bl (plainL P p.2.op) r false) r) l
def insO (o : Oper) : Bool := @Option.rec (TypeId × Operand × Operand × Operand) (fun _ => Bool) false (fun _ => @Option.rec (Nat × Bool) (fun _ => Bool) (@Option.rec Tmp (fun _ => Bool) true (fun _ => false) o.dst) (fun _ => false) o.guard) (insOf o.op)
def insAll (g : List (Nat × Oper)) : Bool := @List.rec (Nat × Oper) (fun _ => Bool) true (fun p _ r => bl (insO p.2) r false) g
def maskOf (g : List (Nat × Oper)) (D : Nat) : Nat := @List.rec (Nat × Oper) (fun _ => Nat) D (fun p _ r => Nat.lor r (Nat.pow 2 p.1)) g
/-- whatever of g is done, nothing else may be done before all of g is -/
def subs (l : List (Nat × Oper)) (full : Nat) (g : List (Nat × Oper)) : Nat → Bool := @List.rec (Nat × Oper) (fun _ => Nat → Bool) (fun D => bl (Nat.beq D full) true (@List.rec (Nat × Oper) (fun _ => Bool) true (fun p _ r => bl (tb full p.1) r false) (opens l D))) (fun p _ ih D => bl (ih D) (ih (Nat.lor D (Nat.pow 2 p.1))) false) g
def plan (P : Program) (l : List (Nat × Oper)) (B : List Nat) (full : Nat) (n : Nat) : Nat → E (List PI) := @Nat.rec (fun _ => Nat → E (List PI)) (fun _ => .er "plan") (fun _ ih D => @Prod.rec Nat (List (Nat × Oper)) (fun _ => E (List PI)) (fun D1 r => @List.rec (Nat × Oper) (fun _ => E (List PI)) (bl (Nat.beq D1 full) (.ok (mkC r [])) (.er "plan: left over")) (fun p t _ => @List.rec (Nat × Oper) (fun _ => E (List PI)) (bl (Nat.beq (kind P p.2.op) 3) ((ih (Nat.lor D1 (Nat.pow 2 p.1))).bd fun rest => .ok (mkC r (.eff p.1 p.2 (floats P l D1 ((nth B p.1).getD 0)) :: rest))) (.er "plan: open")) (fun _ _ _ => bl (insAll (p :: t)) (bl (noLook P l D1) (bl (subs l (maskOf (p :: t) D1) (p :: t) D1) ((ih (maskOf (p :: t) D1)).bd fun rest => .ok (mkC r (.ins (p :: t) :: rest))) (.er "plan: two act, and more")) (.er "plan: two act, and a look")) (.er "plan: two act")) t) (opens l D1)) (calms P l D)) n
def idx (l : List Oper) : Nat → List (Nat × Oper) := @List.rec Oper (fun _ => Nat → List (Nat × Oper)) (fun _ => []) (fun o _ ih i => (i, o) :: ih (Nat.add i 1)) l
/-- the temporaries that an operation looks at -/
def opnd (x : Operand) (r : List Nat) : List Nat := match x with
  | .tmp t => t :: r
  | _ => r
def uses (ops : List Oper) (o : Oper) : List Nat := @List.rec Operand (fun _ => List Nat) (@Option.rec (Nat × Bool) (fun _ => List Nat) [] (fun q => ((nth ops q.1).bind Oper.dst).toList) o.guard) (fun x _ r => opnd x r) o.op.operands.toList
/-- who writes a temporary -/
def writers (l : List (Nat × Oper)) : T Nat → E (T Nat) := @List.rec (Nat × Oper) (fun _ => T Nat → E (T Nat)) .ok (fun p _ ih t => @Option.rec Tmp (fun _ => E (T Nat)) (ih t) (fun d => @Option.rec Nat (fun _ => E (T Nat)) ((t.set 20 d p.1).bd ih) (fun _ => .er "written twice") (t.get d)) p.2.dst) l
def cmpU (wm : T Nat) (B : List Nat) (i : Nat) (us : List Nat) : Bool := @List.rec Nat (fun _ => Bool) true (fun t _ ih => @Option.rec Nat (fun _ => Bool) ih (fun j => bl (Nat.beq j i) ih (bl (tb ((nth B i).getD 0) j) ih (bl (tb ((nth B j).getD 0) i) ih false))) (wm.get t)) us
def strU (wm : T Nat) (B : List Nat) (i : Nat) (us : List Nat) : Bool := @List.rec Nat (fun _ => Bool) true (fun t _ ih => @Option.rec Nat (fun _ => Bool) ih (fun j => bl (Nat.beq j i) false (bl (tb ((nth B i).getD 0) j) ih false)) (wm.get t)) us
def back (o : Oper) (i : Nat) : Bool := @List.rec Edge (fun _ => Bool) true (fun e _ ih => bl (Region.binds .any e) (bl (Nat.blt e.on i) ih false) ih) o.after.toList
def okU (P : Program) (wm : T Nat) (B : List Nat) (ops : List Oper) (l : List (Nat × Oper)) : Bool := @List.rec (Nat × Oper) (fun _ => Bool) true (fun p _ ih => bl (back p.2 p.1) (bl (bl (Nat.beq (kind P p.2.op) 1) (strU wm B p.1 (uses ops p.2)) (cmpU wm B p.1 (uses ops p.2))) ih false) false) l
def planOf (P : Program) (ops : List Oper) : E (List PI) := (writers (idx ops 0) .nil).bd fun wm => bl (okU P wm (bms ops []) ops (idx ops 0)) (plan P (idx ops 0) (bms ops []) (Nat.sub (Nat.pow 2 ops.length) 1) (Nat.add ops.length 1) 0) (.er "uses")
def execC (n : Nat) (d : Option Tmp) (tm : T Value) (k : T Value → AW → CR) (r : R) : CR := @R.rec (fun _ => CR) (fun v W => putD n d tm v fun tm => k tm W) (fun _ => .er "calm") (fun _ _ _ => .er "calm") (fun _ _ _ => .er "calm") r
def calmD (P : Program) (n : Nat) (ops : List Oper) (o : Oper) (tm : T Value) (W : AW) (k : T Value → AW → CR) : CR := (wantV ops tm.get o.guard).th fun b => @Bool.rec (fun _ => CR) (putD n o.dst tm undef fun tm => k tm W) ((oper P tm.get W o.op).th (execC n o.dst tm k)) b
def chkD (P : Program) (ops : List Oper) (tm : T Value) (W : AW) (k : CR) (chk : List Oper) : CR := @List.rec Oper (fun _ => CR) k (fun o _ ih => (wantV ops tm.get o.guard).th fun b => @Bool.rec (fun _ => CR) ih ((o_load P tm.get W o.op).th fun v => @Option.rec Tmp (fun _ => CR) ih (fun d => (E.of "chk" (tm.get d)).th fun u => @Bool.rec (fun _ => CR) (.er "a load that hangs on the order") ih (veq v u)) o.dst) b) chk
/-- a key and a value for each, all into one map -/
def insV (g : Nat → Option Value) (o : Op) : E (TypeId × Value × Value × Value) := (E.of "insert" (insOf o)).bd fun q => (val g q.2.1).bd fun m => (val g q.2.2.1).bd fun k => (val g q.2.2.2).bd fun v => .ok (q.1, m, k, v)
def insE (P : Program) (g : Nat → Option Value) (t : TypeId) (b : Nat) (l : List (Nat × Oper)) : E (List (Value × Value)) := @List.rec (Nat × Oper) (fun _ => E (List (Value × Value))) (.ok []) (fun p _ r => (insV g p.2.op).bd fun q => bl (Nat.beq q.1 t) ((asM q.2.1).bd fun c => @Option.rec Nat (fun _ => E (List (Value × Value))) (.er "insert: nil") (fun c => bl (Nat.beq c b) ((keyT P t).bd fun kt => (keyE P kt q.2.2.1).bd fun _ => r.bd fun es => .ok ((q.2.2.1, q.2.2.2) :: es)) (.er "insert: another map")) c) (.er "insert: type")) l
/-- keys that differ -/
def apart1 (P : Program) (t : TypeId) (k : Value) (es : List (Value × Value)) (r : Bool) : E Bool := @List.rec (Value × Value) (fun _ => E Bool) (.ok r) (fun p _ ih => (keq P t k p.1).bd fun b => (keq P t p.1 k).bd fun c => bl b (.er "insert: same keys") (bl c (.er "insert: same keys") ih)) es
def apart (P : Program) (t : TypeId) (es : List (Value × Value)) : E Bool := @List.rec (Value × Value) (fun _ => E Bool) (.ok true) (fun p r ih => ih.bd (apart1 P t p.1 r)) es
def insR (P : Program) (g : Nat → Option Value) (l : List (Nat × Oper)) (W : AW) (q : TypeId × Value × Value × Value) : E AW := (asM q.2.1).bd fun c => @Option.rec Nat (fun _ => E AW) (.er "insert: nil") (fun b => (insE P g q.1 b l).bd fun es => (keyT P q.1).bd fun kt => (apart P kt es).bd fun _ => (W.es b).bd fun es0 => @List.rec (Value × Value) (fun _ => E AW) ((W.heap.set 40 b (.map es)).bd fun H => .ok ⟨H, W.next⟩) (fun _ _ _ => .er "insert: not the first") es0) c
def insW (P : Program) (g : Nat → Option Value) (W : AW) (l : List (Nat × Oper)) : E AW := @List.rec (Nat × Oper) (fun _ => E AW) (.er "insert") (fun p t _ => (insV g p.2.op).bd (insR P g (p :: t) W)) l
def runP (P : Program) (ih : Ev) (n : Nat) (ops : List Oper) (ds : List DD) (pl : List PI) : T Value → AW → CR := @List.rec PI (fun _ => T Value → AW → CR) (fun tm W => .nrm tm ds W) (fun p _ next tm W => @PI.rec (fun _ => CR) (fun _ o => calmD P n ops o tm W next) (fun _ o chk => (wantV ops tm.get o.guard).th fun b => @Bool.rec (fun _ => CR) (putD n o.dst tm undef fun tm => next tm W) (exec P ih n o tm W fun tm W => chkD P ops tm W (next tm W) chk) b) (fun l => (insW P tm.get W l).th (next tm)) p) pl
/-! ### code -/
def fnV (f : Value) : E (Nat × List Value × List Value) := match f with
  | .func (.func g) a b => .ok (g, a.toList, b.toList)
  | _ => .er "range over what is no function"
def rangeE (P : Program) (ih : Ev) (cx : Cx) (l : Nat) (tm : T Value) (ds : List DD) (f : Value) (W : AW) : CR := (fnV f).th fun p => (callG P ih p.1 (p.2.1 ++ [.func (.yield l) #[] #[]] ++ p.2.2) W).th fun _ W => (W.loop l).th fun L => @Bool.rec (fun _ => CR) (.er "busy") ((W.setL l { L with state := .exhausted }).th fun W => @Option.rec Code (fun _ => CR) (.nrm tm ds W) (fun c => ih cx c tm ds W) L.pending) (notBusy L)
def newO (W : AW) (ao : AO) (k : Nat → AW → CR) : CR := (W.heap.set 40 W.next ao).th fun H => k W.next ⟨H, Nat.add W.next 1⟩
def rangeF (P : Program) (ih : Ev) (cx : Cx) (f : Operand) (ps : List Tmp) (assign body : Code) (tm : T Value) (ds : List DD) (W : AW) : CR := (val tm.get f).th fun f => @Option.rec Nat (fun _ => CR)
  (newO W .defd fun D W => newO W (.loop ⟨.ready, none, cx.n, tm, ps, assign, body, D⟩) fun l W => rangeE P ih cx l tm (.mark D :: ds) f W)
  (fun l0 => (W.loop l0).th fun L0 => newO W (.loop ⟨.ready, none, cx.n, tm, ps, assign, body, L0.defers⟩) fun l W => rangeE P ih cx l tm ds f W) cx.rd
def cnd (ih : Ev) (cx : Cx) (a b : Code) (tm : T Value) (ds : List DD) (W : AW) (x : Value) : CR := match x with
  | .bool c => @Bool.rec (fun _ => CR) (ih cx b tm ds W) (ih cx a tm ds W) c
  | _ => .er "cond"
def regionE (P : Program) (ih : Ev) (cx : Cx) (ops : List Oper) (draw : Bool) (tm : T Value) (ds : List DD) (W : AW) : CR := @Bool.rec (fun _ => CR) (region P ih cx ops ops ds tm W) ((planOf P ops).th fun pl => runP P ih cx.n ops ds pl tm W) draw
def step (P : Program) (ih : Ev) (cx : Cx) (c : Code) (tm : T Value) (ds : List DD) (W : AW) : CR := @Code.rec (fun _ => Program → Ev → Cx → T Value → List DD → AW → CR)
  (fun _ _ _ tm ds W => .nrm tm ds W)
  (fun _ ops draw P ih cx tm ds W => regionE P ih cx ops.toList draw tm ds W)
  (fun a b _ _ _ ih cx tm ds W => @CR.rec (fun _ => CR) (ih cx b) .ext .ret .er (ih cx a tm ds W))
  (fun c a b _ _ _ ih cx tm ds W => (val tm.get c).th (cnd ih cx a b tm ds W))
  (fun id c _ _ ih cx tm ds W => @CR.rec (fun _ => CR) .nrm (fun j tm ds W => @Bool.rec (fun _ => CR) (.ext j tm ds W) (.nrm tm ds W) (Nat.beq j id)) .ret .er (ih cx c tm ds W))
  (fun c _ _ ih cx tm ds W => @CR.rec (fun _ => CR) (ih cx (.loop c)) .ext .ret .er (ih cx c tm ds W))
  (fun f ps a b _ _ P ih cx tm ds W => rangeF P ih cx f ps.toList a b tm ds W)
  (fun id _ _ _ tm ds W => .ext id tm ds W)
  (fun _ _ _ _ _ _ _ _ => .er "scope")
  (fun _ _ _ _ tm ds W => .nrm tm ds W)
  (fun _ _ _ _ _ _ _ => .er "goto")
  (fun _ _ _ tm ds W => .ret tm ds W)
  (fun _ _ _ _ _ _ _ => .er "refused") c P ih cx tm ds W
def run (P : Program) (tab : Nat → List Value → AW → Option VC) (n : Nat) : Ev := @Nat.rec (fun _ => Ev) ⟨fun _ _ _ _ _ => .er "fuel", tab⟩ (fun _ ih => ⟨step P ih, tab⟩) n
def noTab : Nat → List Value → AW → Option VC := fun _ _ _ => none
end
end Go.Ke
