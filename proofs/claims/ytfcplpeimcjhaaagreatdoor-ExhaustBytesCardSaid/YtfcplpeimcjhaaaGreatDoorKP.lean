/- One operation, whatever it is. Conditions: none. -/
import Derived.Test.YtfcplpeimcjhaaaGreatDoorKY
import Derived.Lib.ConvBytes
import Derived.Laws.BytesArg
namespace Go.Ke
open Go.RowKit
noncomputable section
def pv (W : AW) (e : E Value) : E R := e.bd fun v => .ok (.val v W)
def optV (g : Nat → Option Value) (x : Option Operand) : E (Option Value) := @Option.rec Operand (fun _ => E (Option Value)) (.ok none) (fun x => (val g x).bd fun v => .ok (some v)) x
def sliceT (us : TypeDesc) : Bool := match us with
  | .slice _ => false
  | _ => true
/-- a function that has a body -/
def callee (P : Program) (g : Nat) : E (Func × Code) := (E.of "no function" (nth P.funcs.toList g)).bd fun fn => bl (fn.name == "runtime.NumGoroutine") (.er "goroutines") ((E.of "no body" fn.body).bd fun c => .ok (fn, c))
def callV (f : Value) (xs : List Value) (W : AW) : E R := match f with
  | .func (.func g) a b => .ok (.enter g (a.toList ++ xs ++ b.toList) W)
  | .func (.yield l) a _ => .ok (.yield l (a.toList ++ xs) W)
  | _ => .er "call"
def two (l : List Value) : E (Value × Value) := match l with
  | [x, y] => .ok (x, y)
  | _ => .er "two"
def uno (l : List Value) : E Value := match l with
  | [x] => .ok x
  | _ => .er "one"
def builtinV (P : Program) (b : Builtin) (ts : List TypeId) (W : AW) (xs : List Value) : E R := match b with
  | .append => (two xs).bd fun p => (match ts with
    | [t, u] => appV P W t u p.1 p.2
    | _ => .er "append")
  | .copy => (two xs).bd fun p => (match ts with
    | [t, u] => copyV P W t u p.1 p.2
    | _ => .er "copy")
  | .clear => (uno xs).bd fun x => (match ts with
    | [t] => clearV P W t x
    | _ => .er "clear")
  | .cap => .er "cap"
  | .panic => .er "panic"
  | .delete => .er "delete"
  | _ => .er "builtin"
def o_call (P : Program) (g : Nat → Option Value) (W : AW) (c : Call) : E R := (vals g c.args.toList).bd fun xs => match c.callee with
  | .value f => (val g f).bd fun f => callV f xs W
  | .builtin b => builtinV P b c.argTypes.toList W xs
  | _ => .er "invoke"
def o_pick (g : Nat → Option Value) (c a b : Operand) : E Value := (val g c).bd fun c => (asB c).bd fun c => bl c (val g a) (val g b)
def isAgg (v : Value) : Bool := match v with
  | .agg _ => true
  | _ => false
def o_bin (P : Program) (g : Nat → Option Value) (op : BinOp) (t : TypeId) (x y : Operand) : E Value := (val g x).bd fun a => (val g y).bd fun b => bl (isAgg a) (binA P op t a b) (binV P op t x y a b)
def o_slice (P : Program) (g : Nat → Option Value) (t : TypeId) (x : Operand) (lo hi mx : Option Operand) : E Value := @Option.rec Operand (fun _ => E Value) ((val g x).bd fun x => (optV g lo).bd fun lo => (optV g hi).bd fun hi => sliceV P t x lo hi none) (fun _ => .er "slice3") mx
def o_func (g : Nat → Option Value) (f : Fn) (a c : List Operand) : E Value := match f with
  | .func h => (vals g a).bd fun a => (vals g c).bd fun c => .ok (.func (.func h) ⟨a⟩ ⟨c⟩)
  | _ => .er "func"
def o_iface (P : Program) (g : Nat → Option Value) (t : TypeId) (x : Operand) : E Value := (under P t).bd fun u => match u with
  | .interface _ => .er "interface"
  | _ => (val g x).bd fun x => .ok (.iface t x)
def o_conv (P : Program) (g : Nat → Option Value) (s d : TypeId) (x : Operand) : E Value := (val g x).bd fun x => (under P s).bd fun us => bl (sliceT us) (convV P d x) (.er "convert")
/-- bytes to a string -/
def asU8 (v : Value) : E UInt8 := match v with
  | .int .u8 (.ofNat n) => .ok (UInt8.ofNat n)
  | _ => .er "byte"
def bytesOf (l : List Value) : E (List UInt8) := @List.rec Value (fun _ => E (List UInt8)) (.ok []) (fun v _ r => (asU8 v).bd fun b => r.bd fun bs => .ok (b :: bs)) l
def sliceE (u : TypeDesc) : E TypeId := match u with
  | .slice e => .ok e
  | _ => .er "slice type"
def isU8 (u : TypeDesc) : Bool := match u with
  | .int .u8 => true
  | _ => false
def isStr (u : TypeDesc) : Bool := match u with
  | .string => true
  | _ => false
def bytesT (P : Program) (t : TypeId) : E TypeId := (under P t).bd fun u => (sliceE u).bd fun e => (under P e).bd fun v => bl (isU8 v) (.ok e) (.er "bytes")
def strT (P : Program) (t : TypeId) : E Unit := (under P t).bd fun u => bl (isStr u) (.ok ()) (.er "string type")
def strS (W : AW) (v : Value) : E Value := match v with
  | .slice none _ _ => .ok (.string ⟨⟨[]⟩⟩)
  | .slice (some a) n _ => bl (Nat.beq n 0) (.ok (.string ⟨⟨[]⟩⟩)) ((W.loadN a n).bd fun l => (bytesOf l).bd fun bs => .ok (.string ⟨⟨bs⟩⟩))
  | _ => .er "string of"
def convS (P : Program) (W : AW) (s d : TypeId) (v : Value) : E Value := (bytesT P s).bd fun _ => (strT P d).bd fun _ => strS W v
def strB (v : Value) : E AC := match v with
  | .string b => .ok (bytesV b.data.toList, .sl b.data.toList.length 3)
  | _ => .er "bytes of"
def convB (P : Program) (s d : TypeId) (v : Value) : E AC := (under P s).bd fun _ => (bytesT P d).bd fun _ => strB v
def mlen (P : Program) (W : AW) (ts : List TypeId) (xs : List Value) : E Value := match ts, xs with
  | [t], [x] => (under P t).bd fun u => (mapT u).bd fun _ => (asM x).bd fun b => @Option.rec Nat (fun _ => E Value) (.ok (.int .i64 0)) (fun b => (W.es b).bd fun es => .ok (.int .i64 (Int.ofNat es.length))) b
  | _, _ => .er "len"
def o_mlen (P : Program) (g : Nat → Option Value) (W : AW) (c : Call) : E Value := (vals g c.args.toList).bd fun xs => match c.callee with
  | .builtin .len => mlen P W c.argTypes.toList xs
  | _ => .er "builtin"
def mputR (P : Program) (W : AW) (t : TypeId) (m k v : Value) : E R := (mputV P W t m k v).bd fun W => .ok (.skip W)
/-- 0: only reckons; 1: reads; 2: makes a block; 3: acts -/
def opn (o : Op) : String := @Op.rec (fun _ => String) (fun _ => "move") (fun _ => "assign") (fun _ _ _ => "pick") (fun _ => "alloc") (fun _ _ => "box") (fun _ _ => "build") (fun _ _ _ => "buildSlice") (fun _ _ _ _ => "insert") (fun _ _ => "load") (fun _ _ _ => "store") (fun _ => "ready") (fun _ => "waits") (fun _ => "nilCheck") (fun _ _ _ _ _ => "binOp") (fun _ _ _ => "unOp") (fun _ _ _ => "convert") (fun _ _ => "sliceToArrayPointer") (fun _ _ => "makeInterface") (fun _ _ _ => "makeFunc") (fun _ _ => "makeMap") (fun _ _ => "makeChan") (fun _ _ _ => "makeSlice") (fun _ _ _ _ _ => "slice") (fun _ _ _ => "fieldAddr") (fun _ _ _ => "field") (fun _ _ _ => "indexAddr") (fun _ _ _ => "index") (fun _ _ _ _ => "lookup") (fun _ _ _ _ => "mapUpdate") (fun _ _ _ => "mapEntry") (fun _ _ _ _ => "entryStore") (fun _ _ => "range") (fun _ _ => "next") (fun _ => "entry") (fun _ _ _ _ => "typeAssert") (fun _ _ => "extract") (fun _ => "call") (fun _ => "go") (fun _ => "defer") (fun _ => "panic") (fun _ _ => "send") (fun _ _ _ => "recv") (fun _ _ => "select") o
def lenK (P : Program) (ts : List TypeId) : Nat := match ts with
  | [t] => (match P.underlying t with
    | some (.map _ _) => 1
    | _ => 0)
  | _ => 0
def kindB (P : Program) (ts : List TypeId) (b : Builtin) : Nat := match b with
  | .len => lenK P ts
  | .min => 0
  | .max => 0
  | _ => 3
def kindC (P : Program) (c : Call) : Nat := match c.callee with
  | .builtin b => kindB P c.argTypes.toList b
  | _ => 3
def kindV (P : Program) (s d : TypeId) : Nat := match P.underlying s, P.underlying d with
  | some (.slice _), some .string => 1
  | some .string, some (.slice _) => 2
  | _, _ => 0
def kind (P : Program) (o : Op) : Nat := @Op.rec (fun _ => Program → Nat)
  (fun _ _ => 0)
  (fun _ _ => 0)
  (fun _ _ _ _ => 0)
  (fun _ P => 2)
  (fun _ _ P => 2)
  (fun _ _ _ => 0)
  (fun _ _ _ P => 2)
  (fun _ _ _ _ P => 3)
  (fun _ _ P => 1)
  (fun _ _ _ P => 3)
  (fun _ _ => 0)
  (fun _ _ => 0)
  (fun _ _ => 0)
  (fun _ _ _ _ _ _ => 0)
  (fun _ _ _ _ => 0)
  (fun s d _ P => kindV P s d)
  (fun _ _ _ => 0)
  (fun _ _ _ => 0)
  (fun _ _ _ _ => 0)
  (fun _ _ P => 2)
  (fun _ _ _ => 0)
  (fun _ _ _ P => 2)
  (fun _ _ _ _ _ _ => 0)
  (fun _ _ _ _ => 0)
  (fun _ _ _ _ => 0)
  (fun _ _ _ _ => 0)
  (fun _ _ _ _ => 0)
  (fun _ _ _ _ P => 1)
  (fun _ _ _ _ P => 3)
  (fun _ _ _ P => 3)
  (fun _ _ _ _ P => 3)
  (fun _ _ _ => 0)
  (fun _ _ P => 3)
  (fun _ _ => 0)
  (fun _ _ _ _ _ => 0)
  (fun _ _ _ => 0)
  (fun c P => kindC P c)
  (fun _ _ => 0)
  (fun _ P => 3)
  (fun _ P => 3)
  (fun _ _ _ => 0)
  (fun _ _ _ _ => 0)
  (fun _ _ _ => 0) o P
def kindM (P : Program) (o : Op) : Nat := match o with
  | .alloc _ => 2
  | .box _ _ => 2
  | .buildSlice _ _ _ => 2
  | .insert _ _ _ _ => 3
  | .load _ _ => 1
  | .store _ _ _ => 3
  | .convert s d _ => kindV P s d
  | .makeMap _ _ => 2
  | .makeSlice _ _ _ => 2
  | .lookup _ _ _ _ => 1
  | .mapUpdate _ _ _ _ => 3
  | .mapEntry _ _ _ => 3
  | .entryStore _ _ _ _ => 3
  | .next _ _ => 3
  | .call c => kindC P c
  | .defer _ => 3
  | .panic _ => 3
  | _ => 0
def pureC (P : Program) (ts : List TypeId) (b : Builtin) (xs : List Value) : E Value := match b, xs with
  | .len, [x] => (E.of "len" (nth ts 0)).bd fun t => lenV P t x
  | .min, [x, y] => mmV false x y
  | .max, [x, y] => mmV true x y
  | _, _ => .er "builtin"
def o_len (P : Program) (g : Nat → Option Value) (c : Call) : E Value := (vals g c.args.toList).bd fun xs => match c.callee with
  | .builtin b => pureC P c.argTypes.toList b xs
  | _ => .er "builtin"
def o_pure (P : Program) (g : Nat → Option Value) (o : Op) : E Value := @Op.rec (fun _ => Program → (Nat → Option Value) → E Value)
  (fun x P g => val g x)
  (fun x P g => val g x)
  (fun c a b P g => o_pick g c a b)
  (fun _ _ _ => .er "alloc")
  (fun _ _ _ _ => .er "box")
  (fun t ps P g => (pvals g ps.toList).bd (buildV P t))
  (fun _ _ _ _ _ => .er "buildSlice")
  (fun _ _ _ _ _ _ => .er "insert")
  (fun _ _ _ _ => .er "load")
  (fun _ _ _ _ _ => .er "store")
  (fun _ _ _ => .er "ready")
  (fun _ _ _ => .er "waits")
  (fun x P g => (val g x).bd nilV)
  (fun op t x y _ P g => o_bin P g op t x y)
  (fun op _ x P g => (val g x).bd (unV op))
  (fun s d x P g => o_conv P g s d x)
  (fun _ _ _ _ => .er "sliceToArrayPointer")
  (fun t x P g => o_iface P g t x)
  (fun f a c P g => o_func g f a.toList c.toList)
  (fun _ _ _ _ => .er "makeMap")
  (fun _ _ _ _ => .er "makeChan")
  (fun _ _ _ _ _ => .er "makeSlice")
  (fun t x lo hi mx P g => o_slice P g t x lo hi mx)
  (fun s x f P g => (val g x).bd fun x => fieldAV P s x f)
  (fun s x f P g => (val g x).bd fun x => fieldV P s x f)
  (fun t x i P g => (val g x).bd fun x => (val g i).bd (indexAV P t x))
  (fun t x i P g => (val g x).bd fun x => (val g i).bd (indexV P t x))
  (fun _ _ _ _ _ _ => .er "lookup")
  (fun _ _ _ _ _ _ => .er "mapUpdate")
  (fun _ _ _ _ _ => .er "mapEntry")
  (fun _ _ _ _ _ _ => .er "entryStore")
  (fun _ _ _ _ => .er "range")
  (fun _ _ _ _ => .er "next")
  (fun _ _ _ => .er "entry")
  (fun _ _ _ _ _ _ => .er "typeAssert")
  (fun x i P g => (val g x).bd fun x => extractV x i)
  (fun c P g => o_len P g c)
  (fun _ _ _ => .er "go")
  (fun _ _ _ => .er "defer")
  (fun _ _ _ => .er "panic")
  (fun _ _ _ _ => .er "send")
  (fun _ _ _ _ _ => .er "recv")
  (fun _ _ _ _ => .er "select") o P g
def o_pureM (P : Program) (g : Nat → Option Value) (o : Op) : E Value := match o with
  | .move x => val g x
  | .assign x => val g x
  | .pick c a b => o_pick g c a b
  | .build t ps => (pvals g ps.toList).bd (buildV P t)
  | .nilCheck x => (val g x).bd nilV
  | .binOp op t x y _ => o_bin P g op t x y
  | .unOp op _ x => (val g x).bd (unV op)
  | .convert s d x => o_conv P g s d x
  | .makeInterface t x => o_iface P g t x
  | .makeFunc f a c => o_func g f a.toList c.toList
  | .slice t x lo hi mx => o_slice P g t x lo hi mx
  | .fieldAddr s x f => (val g x).bd fun x => fieldAV P s x f
  | .field s x f => (val g x).bd fun x => fieldV P s x f
  | .indexAddr t x i => (val g x).bd fun x => (val g i).bd (indexAV P t x)
  | .index t x i => (val g x).bd fun x => (val g i).bd (indexV P t x)
  | .extract x i => (val g x).bd fun x => extractV x i
  | .call c => o_len P g c
  | o => .er (opn o)
def o_load (P : Program) (g : Nat → Option Value) (W : AW) (o : Op) : E Value := @Op.rec (fun _ => Program → (Nat → Option Value) → AW → E Value)
  (fun _ _ _ _ => .er "operation")
  (fun _ _ _ _ => .er "operation")
  (fun _ _ _ _ _ _ => .er "operation")
  (fun _ _ _ _ => .er "operation")
  (fun _ _ _ _ _ => .er "operation")
  (fun _ _ _ _ _ => .er "operation")
  (fun _ _ _ _ _ _ => .er "operation")
  (fun _ _ _ _ _ _ _ => .er "operation")
  (fun t x P g W => (val g x).bd (loadV P W t))
  (fun _ _ _ _ _ _ => .er "operation")
  (fun _ _ _ _ => .er "operation")
  (fun _ _ _ _ => .er "operation")
  (fun _ _ _ _ => .er "operation")
  (fun _ _ _ _ _ _ _ _ => .er "operation")
  (fun _ _ _ _ _ _ => .er "operation")
  (fun s d x P g W => (val g x).bd (convS P W s d))
  (fun _ _ _ _ _ => .er "operation")
  (fun _ _ _ _ _ => .er "operation")
  (fun _ _ _ _ _ _ => .er "operation")
  (fun _ _ _ _ _ => .er "operation")
  (fun _ _ _ _ _ => .er "operation")
  (fun _ _ _ _ _ _ => .er "operation")
  (fun _ _ _ _ _ _ _ _ => .er "operation")
  (fun _ _ _ _ _ _ => .er "operation")
  (fun _ _ _ _ _ _ => .er "operation")
  (fun _ _ _ _ _ _ => .er "operation")
  (fun _ _ _ _ _ _ => .er "operation")
  (fun t x i b P g W => (val g x).bd fun x => (val g i).bd fun i => mgetV P W t x i b)
  (fun _ _ _ _ _ _ _ => .er "operation")
  (fun _ _ _ _ _ _ => .er "operation")
  (fun _ _ _ _ _ _ _ => .er "operation")
  (fun _ _ _ _ _ => .er "operation")
  (fun _ _ _ _ _ => .er "operation")
  (fun _ _ _ _ => .er "operation")
  (fun _ _ _ _ _ _ _ => .er "operation")
  (fun _ _ _ _ _ => .er "operation")
  (fun c P g W => o_mlen P g W c)
  (fun _ _ _ _ => .er "operation")
  (fun _ _ _ _ => .er "operation")
  (fun _ _ _ _ => .er "operation")
  (fun _ _ _ _ _ => .er "operation")
  (fun _ _ _ _ _ _ => .er "operation")
  (fun _ _ _ _ _ => .er "operation") o P g W
def o_loadM (P : Program) (g : Nat → Option Value) (W : AW) (o : Op) : E Value := match o with
  | .load t x => (val g x).bd (loadV P W t)
  | .convert s d x => (val g x).bd (convS P W s d)
  | .lookup t x i b => (val g x).bd fun x => (val g i).bd fun i => mgetV P W t x i b
  | .call c => o_mlen P g W c
  | _ => .er "operation"
def o_alloc (P : Program) (g : Nat → Option Value) (o : Op) : E AC := @Op.rec (fun _ => Program → (Nat → Option Value) → E AC)
  (fun _ _ _ => .er "operation")
  (fun _ _ _ => .er "operation")
  (fun _ _ _ _ _ => .er "operation")
  (fun t P _ => allocC P t)
  (fun _ x P g => (val g x).bd fun x => .ok (cells x, .ptr))
  (fun _ _ _ _ => .er "operation")
  (fun t n ps P g => (pvals g ps.toList).bd (buildC P t n))
  (fun _ _ _ _ _ _ => .er "operation")
  (fun _ _ _ _ => .er "operation")
  (fun _ _ _ _ _ => .er "operation")
  (fun _ _ _ => .er "operation")
  (fun _ _ _ => .er "operation")
  (fun _ _ _ => .er "operation")
  (fun _ _ _ _ _ _ _ => .er "operation")
  (fun _ _ _ _ _ => .er "operation")
  (fun s d x P g => (val g x).bd (convB P s d))
  (fun _ _ _ _ => .er "operation")
  (fun _ _ _ _ => .er "operation")
  (fun _ _ _ _ _ => .er "operation")
  (fun t r P g => (optV g r).bd (mapC P t))
  (fun _ _ _ _ => .er "operation")
  (fun t l c P g => (val g l).bd fun l => (val g c).bd (makeC P t l))
  (fun _ _ _ _ _ _ _ => .er "operation")
  (fun _ _ _ _ _ => .er "operation")
  (fun _ _ _ _ _ => .er "operation")
  (fun _ _ _ _ _ => .er "operation")
  (fun _ _ _ _ _ => .er "operation")
  (fun _ _ _ _ _ _ => .er "operation")
  (fun _ _ _ _ _ _ => .er "operation")
  (fun _ _ _ _ _ => .er "operation")
  (fun _ _ _ _ _ _ => .er "operation")
  (fun _ _ _ _ => .er "operation")
  (fun _ _ _ _ => .er "operation")
  (fun _ _ _ => .er "operation")
  (fun _ _ _ _ _ _ => .er "operation")
  (fun _ _ _ _ => .er "operation")
  (fun _ _ _ => .er "operation")
  (fun _ _ _ => .er "operation")
  (fun _ _ _ => .er "operation")
  (fun _ _ _ => .er "operation")
  (fun _ _ _ _ => .er "operation")
  (fun _ _ _ _ _ => .er "operation")
  (fun _ _ _ _ => .er "operation") o P g
def o_allocM (P : Program) (g : Nat → Option Value) (o : Op) : E AC := match o with
  | .alloc t => allocC P t
  | .box _ x => (val g x).bd fun x => .ok (cells x, .ptr)
  | .buildSlice t n ps => (pvals g ps.toList).bd (buildC P t n)
  | .convert s d x => (val g x).bd (convB P s d)
  | .makeMap t r => (optV g r).bd (mapC P t)
  | .makeSlice t l c => (val g l).bd fun l => (val g c).bd (makeC P t l)
  | _ => .er "operation"
def o_eff (P : Program) (g : Nat → Option Value) (W : AW) (o : Op) : E R := @Op.rec (fun _ => Program → (Nat → Option Value) → AW → E R)
  (fun _ _ _ _ => .er "move")
  (fun _ _ _ _ => .er "assign")
  (fun _ _ _ _ _ _ => .er "pick")
  (fun _ _ _ _ => .er "alloc")
  (fun _ _ _ _ _ => .er "box")
  (fun _ _ _ _ _ => .er "build")
  (fun _ _ _ _ _ _ => .er "buildSlice")
  (fun t m k v P g W => (val g m).bd fun m => (val g k).bd fun k => (val g v).bd fun v => mputR P W t m k v)
  (fun _ _ _ _ _ => .er "load")
  (fun t x y P g W => (val g x).bd fun x => (val g y).bd (storeV P W t x))
  (fun _ _ _ _ => .er "ready")
  (fun _ _ _ _ => .er "waits")
  (fun _ _ _ _ => .er "nilCheck")
  (fun _ _ _ _ _ _ _ _ => .er "binOp")
  (fun _ _ _ _ _ _ => .er "unOp")
  (fun _ _ _ _ _ _ => .er "convert")
  (fun _ _ _ _ _ => .er "sliceToArrayPointer")
  (fun _ _ _ _ _ => .er "makeInterface")
  (fun _ _ _ _ _ _ => .er "makeFunc")
  (fun _ _ _ _ _ => .er "makeMap")
  (fun _ _ _ _ _ => .er "makeChan")
  (fun _ _ _ _ _ _ => .er "makeSlice")
  (fun _ _ _ _ _ _ _ _ => .er "slice")
  (fun _ _ _ _ _ _ => .er "fieldAddr")
  (fun _ _ _ _ _ _ => .er "field")
  (fun _ _ _ _ _ _ => .er "indexAddr")
  (fun _ _ _ _ _ _ => .er "index")
  (fun _ _ _ _ _ _ _ => .er "lookup")
  (fun t m k v P g W => (val g m).bd fun m => (val g k).bd fun k => (val g v).bd fun v => mputR P W t m k v)
  (fun _ _ _ _ _ _ => .er "mapEntry")
  (fun _ _ _ _ _ _ _ => .er "entryStore")
  (fun _ _ _ _ _ => .er "range")
  (fun _ _ _ _ _ => .er "next")
  (fun _ _ _ _ => .er "entry")
  (fun _ _ _ _ _ _ _ => .er "typeAssert")
  (fun _ _ _ _ _ => .er "extract")
  (fun c P g W => o_call P g W c)
  (fun _ _ _ _ => .er "go")
  (fun _ _ _ _ => .er "defer")
  (fun _ _ _ _ => .er "panic")
  (fun _ _ _ _ _ => .er "send")
  (fun _ _ _ _ _ _ => .er "recv")
  (fun _ _ _ _ _ => .er "select") o P g W
def o_effM (P : Program) (g : Nat → Option Value) (W : AW) (o : Op) : E R := match o with
  | .insert t m k v => (val g m).bd fun m => (val g k).bd fun k => (val g v).bd fun v => mputR P W t m k v
  | .store t x y => (val g x).bd fun x => (val g y).bd (storeV P W t x)
  | .mapUpdate t m k v => (val g m).bd fun m => (val g k).bd fun k => (val g v).bd fun v => mputR P W t m k v
  | .call c => o_call P g W c
  | o => .er (opn o)
def byKind (P : Program) (g : Nat → Option Value) (W : AW) (o : Op) (k : Nat) : E R := @Nat.rec (fun _ => Program → (Nat → Option Value) → AW → Op → E R) (fun P g W o => pv W (o_pure P g o)) (fun k _ => @Nat.rec (fun _ => Program → (Nat → Option Value) → AW → Op → E R) (fun P g W o => pv W (o_load P g W o)) (fun k _ => @Nat.rec (fun _ => Program → (Nat → Option Value) → AW → Op → E R) (fun P g W o => (o_alloc P g o).bd (newA W)) (fun _ _ P g W o => o_eff P g W o) k) k) k P g W o
def oper (P : Program) (g : Nat → Option Value) (W : AW) (o : Op) : E R := byKind P g W o (kind P o)
theorem kind_eq' (P : Program) (o : Op) : kind P o = kindM P o := by cases o <;> rfl
theorem o_pure_eq (P : Program) (g : Nat → Option Value) (o : Op) : o_pure P g o = o_pureM P g o := by cases o <;> rfl
theorem o_load_eq (P : Program) (g : Nat → Option Value) (W : AW) (o : Op) : o_load P g W o = o_loadM P g W o := by cases o <;> rfl
theorem o_alloc_eq (P : Program) (g : Nat → Option Value) (o : Op) : o_alloc P g o = o_allocM P g o := by cases o <;> rfl
theorem o_eff_eq (P : Program) (g : Nat → Option Value) (W : AW) (o : Op) : o_eff P g W o = o_effM P g W o := by cases o <;> rfl
end
section
variable {P : Program} {ρ : Rho} {t tx : TypeId} {x x' s s' v : Value} {W : AW} {w : World} {r : R} {n : Nat} {g : Nat → Option Value} {a : Act} {xs : List Value}
theorem pv_ok {e : E Value} {s : Sem Value} {s2 : Sem Next} (h : pv W e = .ok r) (hW : WR ρ W w) (hs : s2 = (do pure (.value (← s)))) (k : ∀ v, e = .ok v → ∃ v', VR ρ v v' ∧ s.run P w = .ok v' w) : RR P ρ W w r s2 := by
  obtain ⟨v, h1, h2⟩ := bd_ok h
  cases h2
  obtain ⟨v', h3, h4⟩ := k v h1
  exact ⟨v', w, ρ, by rw [hs]; simp [h4], h3, hW, .rfl ρ W w⟩
theorem optV_ok (h : TR ρ n g a.tmps) {x : Option Operand} {v : Option Value} (e : optV g x = .ok v) : OV ρ v (x.map a.eval) := by
  cases x with
  | none => cases e; exact .none
  | some x =>
    obtain ⟨u, h1, h2⟩ := bd_ok (x := val g x) e
    cases h2
    exact .some (val_ok h h1)
theorem callee_ok {g : Nat} {p : Func × Code} (e : callee P g = .ok p) : P.funcs[g]? = some p.1 ∧ p.1.body = some p.2 ∧ ∀ args w, (callFunc g args).run P w = .ok (.enter g args) w := by
  obtain ⟨fn, h1, e1⟩ := bd_ok e
  have h1 := of_ok h1
  rw [nth_eq] at h1
  have h1 : P.funcs[g]? = some fn := by simpa using h1
  rcases bl_ok e1 with ⟨_, e2⟩ | ⟨h2, e2⟩
  · cases e2
  · obtain ⟨c, h3, e3⟩ := bd_ok e2
    cases e3
    have h3 := of_ok h3
    refine ⟨h1, h3, fun args w => ?_⟩
    have h4 : fn.name ≠ "runtime.NumGoroutine" := by simpa using h2
    simp [callFunc, h1, h4, h3, mark]
theorem nilV_ok (e : nilV x = .ok v) (hx : VR ρ x x') (o : Oper) (y : Operand) (ho : o.op = .nilCheck y) (hy : a.eval y = x') : ∃ v', VR ρ v v' ∧ ∀ w, (execOp a.eval o).run P w = .ok (.value v') w := by
  unfold nilV at e
  split at e
  · cases e
    obtain ⟨c, m, hc, hsp, rfl⟩ := hx.psome
    exact ⟨_, hx, fun w => by simp [execOp, ho, hy]⟩
  · cases e
    obtain ⟨f', x1, y1, hf, h1, h2, rfl⟩ := hx.func'
    cases hf
    exact ⟨_, hx, fun w => by simp [execOp, ho, hy]⟩
  · cases e
    obtain ⟨f', x1, y1, hf, h1, h2, rfl⟩ := hx.func'
    cases hf
    exact ⟨_, hx, fun w => by simp [execOp, ho, hy]⟩
  · cases e
theorem sliceT_ok {us : TypeDesc} (h : sliceT us = true) : ∀ e, us ≠ .slice e := fun e he => by subst he; cases h
theorem callV_ok {c : Call} {f : Value} {ty : TypeId} {g : Operand} (hc : c.callee = .value g) (e : callV f xs W = .ok r) (hf : VR ρ f (a.eval g)) (hxs : LR ρ xs (c.args.toList.map a.eval)) : RR P ρ W w r (do let d ← resolve a.eval c ty; invoke d.target d.args) := by
  unfold callV at e
  split at e
  · cases e
    obtain ⟨f', x1, y1, hf', h1, h2, h3⟩ := hf.func'
    cases hf'
    refine ⟨x1 ++ c.args.map a.eval ++ y1, ?_, rfl, ?_⟩
    · simp only [Array.toList_append, Array.toList_map]
      exact (h1.append hxs).append h2
    · simp [resolve, hc, h3, Deferred.ofValue, invoke]
  · cases e
    obtain ⟨f', x1, y1, hf', h1, h2, h3⟩ := hf.func'
    cases hf' with
    | yield hl =>
      refine ⟨_, _, x1 ++ c.args.map a.eval, hl, ?_, rfl, ?_⟩
      · simp only [Array.toList_append, Array.toList_map]
        exact h1.append hxs
      · simp [resolve, hc, h3, Deferred.ofValue, invoke]
  · cases e
theorem LR.two {p : Value × Value} {l : List Value} (e : two xs = .ok p) (h : LR ρ xs l) : ∃ y z, l = [y, z] ∧ VR ρ p.1 y ∧ VR ρ p.2 z := by
  unfold Ke.two at e
  split at e <;> cases e
  cases h with
  | cons h1 h2 => cases h2 with
    | cons h3 h4 => cases h4; exact ⟨_, _, rfl, h1, h3⟩
theorem LR.uno {x : Value} {l : List Value} (e : uno xs = .ok x) (h : LR ρ xs l) : ∃ y, l = [y] ∧ VR ρ x y := by
  unfold Ke.uno at e
  split at e <;> cases e
  cases h with
  | cons h1 h2 => cases h2; exact ⟨_, rfl, h1⟩
theorem builtinV_ok {c : Call} {b : Builtin} {ty : TypeId} (hc : c.callee = .builtin b) (e : builtinV P b c.argTypes.toList W xs = .ok r) (hxs : LR ρ xs (c.args.toList.map a.eval)) (h : WR ρ W w) : RR P ρ W w r (do let d ← resolve a.eval c ty; invoke d.target d.args) := by
  have hargs : ∀ l, c.args.toList.map a.eval = l → c.args.map a.eval = l.toArray := fun l hl => by rw [← hl, ← Array.toList_map, Array.toArray_toList]
  unfold builtinV at e
  split at e
  · obtain ⟨p, h1, e1⟩ := bd_ok e
    split at e1
    · rename_i t u hts
      obtain ⟨y, z, hl, h2, h3⟩ := hxs.two h1
      obtain ⟨v, W', rfl, v', w', ρ', h4, h5, h6, h7⟩ := appV_ok e1 h2 h3 h ty
      have hat : c.argTypes = #[t, u] := by rw [← Array.toArray_toList (xs := c.argTypes), hts]
      refine ⟨v', w', ρ', ?_, h5, h6, h7⟩
      have h8 := hargs _ hl
      simp only [resolve, hc, invoke, builtin, h8, hat, Sem.run_bind, Sem.run_pure, Result.andThen_ok]
      rw [show (Builtin.append_ #[t, u] ty [y, z].toArray) = Builtin.append_ #[t, u] ty #[y, z] from rfl, h4]
      rfl
    · cases e1
  · obtain ⟨p, h1, e1⟩ := bd_ok e
    split at e1
    · rename_i t u hts
      obtain ⟨y, z, hl, h2, h3⟩ := hxs.two h1
      obtain ⟨v, W', rfl, v', w', ρ', h4, h5, h6, h7⟩ := copyV_ok e1 h2 h3 h ty
      have hat : c.argTypes = #[t, u] := by rw [← Array.toArray_toList (xs := c.argTypes), hts]
      refine ⟨v', w', ρ', ?_, h5, h6, h7⟩
      have h8 := hargs _ hl
      simp only [resolve, hc, invoke, builtin, h8, hat, Sem.run_bind, Sem.run_pure, Result.andThen_ok]
      rw [show (Builtin.copy_ #[t, u] ty [y, z].toArray) = Builtin.copy_ #[t, u] ty #[y, z] from rfl, h4]
      rfl
    · cases e1
  · obtain ⟨p, h1, e1⟩ := bd_ok e
    split at e1
    · rename_i t hts
      obtain ⟨y, hl, h2⟩ := hxs.uno h1
      obtain ⟨v, W', rfl, v', w', ρ', h4, h5, h6, h7⟩ := clearV_ok e1 h2 h ty
      have hat : c.argTypes = #[t] := by rw [← Array.toArray_toList (xs := c.argTypes), hts]
      refine ⟨v', w', ρ', ?_, h5, h6, h7⟩
      have h8 := hargs _ hl
      simp only [resolve, hc, invoke, builtin, h8, hat, Sem.run_bind, Sem.run_pure, Result.andThen_ok]
      rw [show (Builtin.clear_ #[t] ty [y].toArray) = Builtin.clear_ #[t] ty #[y] from rfl, h4]
      rfl
    · cases e1
  all_goals cases e
theorem lift_ok {e : E Value} {s : Sem Value} {s2 : Sem Next} (h : e = .ok v) (hs : s2 = (do pure (.value (← s)))) (k : ∀ v, e = .ok v → ∃ v', VR ρ v v' ∧ ∀ w, s.run P w = .ok v' w) : ∃ v', VR ρ v v' ∧ ∀ w, s2.run P w = .ok (.value v') w := by
  obtain ⟨v', h3, h4⟩ := k v h
  exact ⟨v', h3, fun w => by rw [hs]; simp [h4]⟩
theorem pureC_ok {ts : Array TypeId} {b : Builtin} {l : List Value} (e : pureC P ts.toList b xs = .ok v) (hxs : LR ρ xs l) (ty : TypeId) : ∃ v', VR ρ v v' ∧ ∀ cs w, (builtin b ts ty cs l.toArray).run P w = .ok (.value v') w := by
  unfold pureC at e
  split at e
  · rename_i x
    obtain ⟨t, h2, e2⟩ := bd_ok e
    have h2 := of_ok h2
    rw [nth_eq] at h2
    cases hxs with
    | cons h3 h4 =>
      rename_i y _
      cases h4
      obtain ⟨v', h5, h6⟩ := lenV_ok e2 h3 ts (by simpa using h2) ty
      refine ⟨v', h5, fun cs w => ?_⟩
      have h7 : (Builtin.len_ ts ty [y].toArray).run P w = .ok v' w := h6 w
      simp [builtin, h7]
  · cases hxs with
    | cons h3 h4 => cases h4 with
      | cons h5 h6 =>
        cases h6
        rename_i y z
        obtain ⟨v', h7, h8⟩ := min_ok (P := P) e h3 h5 ts ty
        refine ⟨v', h7, fun cs w => ?_⟩
        have h9 := h8 w
        simp only [builtin, Sem.run_bind]
        exact (congrArg (fun r => Result.andThen r _) h9).trans rfl
  · cases hxs with
    | cons h3 h4 => cases h4 with
      | cons h5 h6 =>
        cases h6
        rename_i y z
        obtain ⟨v', h7, h8⟩ := max_ok (P := P) e h3 h5 ts ty
        refine ⟨v', h7, fun cs w => ?_⟩
        have h9 := h8 w
        simp only [builtin, Sem.run_bind]
        exact (congrArg (fun r => Result.andThen r _) h9).trans rfl
  · cases e
theorem pure_ok (o : Oper) (e : o_pure P g o.op = .ok v) (h : TR ρ n g a.tmps) : ∃ v', VR ρ v v' ∧ ∀ w, (execOp a.eval o).run P w = .ok (.value v') w := by
  rw [o_pure_eq] at e
  unfold o_pureM at e
  split at e
  · rename_i x ho
    exact ⟨_, val_ok h e, fun w => by simp [execOp, ho]⟩
  · rename_i x ho
    exact ⟨_, val_ok h e, fun w => by simp [execOp, ho]⟩
  · rename_i c x y ho
    refine lift_ok e (s := do pure (if ← asBool (a.eval c) then a.eval x else a.eval y)) (by simp [execOp, ho]) fun v hv => ?_
    obtain ⟨cv, h1, e1⟩ := bd_ok hv
    obtain ⟨cb, h2, e2⟩ := bd_ok e1
    have h3 := val_ok h h1
    rw [asB_ok h2] at h3
    rw [h3.bool]
    rcases bl_ok e2 with ⟨rfl, h4⟩ | ⟨rfl, h4⟩
    · exact ⟨_, val_ok h h4, fun w => by simp [asBool]⟩
    · exact ⟨_, val_ok h h4, fun w => by simp [asBool]⟩
  · rename_i t ps ho
    refine lift_ok e (s := Instr.build t (ps.map fun (i, x) => (i, a.eval x))) (by simp [execOp, ho]) fun v hv => ?_
    obtain ⟨p, h1, e1⟩ := bd_ok hv
    obtain ⟨v', h2, h3⟩ := buildV_ok e1 (pvals_ok h h1)
    refine ⟨v', h2, fun w => ?_⟩
    have := h3 w
    rwa [show ((ps.toList.map fun p => (p.1, a.eval p.2)).toArray) = ps.map fun p => (p.1, a.eval p.2) by rw [← Array.toList_map, Array.toArray_toList]] at this
  · rename_i x ho
    obtain ⟨xv, h3, e3⟩ := bd_ok e
    exact nilV_ok (P := P) e3 (val_ok h h3) o x ho rfl
  · rename_i op t x y u ho
    refine lift_ok e (s := do eqGuard op t x y (a.eval x) (a.eval y); binOp op t (a.eval x) (a.eval y)) (by simp [execOp, ho]) fun v hv => ?_
    obtain ⟨xv, h1, e1⟩ := bd_ok hv
    obtain ⟨yv, h2, e2⟩ := bd_ok e1
    rcases bl_ok e2 with ⟨_, e3⟩ | ⟨_, e3⟩
    · obtain ⟨h3, h4⟩ := binA_ok e3 (val_ok h h1) (val_ok h h2)
      exact ⟨v, h3, h4⟩
    · obtain ⟨h3, h4⟩ := binV_ok e3 (val_ok h h1) (val_ok h h2)
      exact ⟨v, h3, h4⟩
  · rename_i op t x ho
    refine lift_ok e (s := Op.unary op (a.eval x)) (by simp [execOp, ho]) fun v hv => ?_
    obtain ⟨xv, h1, e1⟩ := bd_ok hv
    exact unV_ok (P := P) e1 (val_ok h h1)
  · rename_i s d x ho
    refine lift_ok e (s := convert s d (a.eval x)) (by simp [execOp, ho]) fun v hv => ?_
    obtain ⟨xv, h1, e1⟩ := bd_ok hv
    obtain ⟨us, h2, e2⟩ := bd_ok e1
    rcases bl_ok e2 with ⟨h5, e3⟩ | ⟨_, e3⟩
    · exact convV_ok (under_ok h2) e3 (val_ok h h1) (sliceT_ok h5)
    · cases e3
  · rename_i t x ho
    refine lift_ok e (s := Instr.makeInterface t (a.eval x)) (by simp [execOp, ho]) fun v hv => ?_
    obtain ⟨u, h1, e1⟩ := bd_ok hv
    have hu := under_ok h1
    split at e1
    · cases e1
    · rename_i hni
      obtain ⟨xv, h2, e2⟩ := bd_ok e1
      cases e2
      refine ⟨_, .iface t (val_ok h h2), fun w => ?_⟩
      cases u <;> first | (exact absurd rfl (hni _)) | simp [Instr.makeInterface, run_underlying hu]
  · rename_i f x y ho
    refine lift_ok e (s := Instr.makeFunc f (x.map a.eval) (y.map a.eval)) (by simp [execOp, ho]) fun v hv => ?_
    unfold o_func at hv
    split at hv
    · obtain ⟨xs, h1, e1⟩ := bd_ok hv
      obtain ⟨ys, h2, e2⟩ := bd_ok e1
      cases e2
      refine ⟨_, VR.mkFunc (.func _) (vals_ok h h1) (vals_ok h h2), fun w => ?_⟩
      rw [← Array.toList_map, ← Array.toList_map, Array.toArray_toList, Array.toArray_toList]
      rfl
    · cases hv
  · rename_i t x lo hi mx ho
    unfold o_slice at e
    cases mx with
    | some m => cases e
    | none =>
      refine lift_ok e (s := Instr.sliceAt t (a.eval x) (lo.map a.eval) (hi.map a.eval) none) (by simp [execOp, ho]) fun v hv => ?_
      obtain ⟨xv, h1, e1⟩ := bd_ok (x := val g x) hv
      obtain ⟨lv, h2, e2⟩ := bd_ok e1
      obtain ⟨rv, h3, e3⟩ := bd_ok e2
      exact (sliceV_ok e3 (val_ok h h1) (optV_ok h h2) (optV_ok h h3)).2
  · rename_i s x f ho
    refine lift_ok e (s := Instr.fieldAt s (a.eval x) f) (by simp [execOp, ho]) fun v hv => ?_
    obtain ⟨xv, h1, e1⟩ := bd_ok hv
    exact fieldAV_ok e1 (val_ok h h1)
  · rename_i s x f ho
    refine lift_ok e (s := Instr.field s (a.eval x) f) (by simp [execOp, ho]) fun v hv => ?_
    obtain ⟨xv, h1, e1⟩ := bd_ok hv
    exact fieldV_ok e1 (val_ok h h1)
  · rename_i t x i ho
    refine lift_ok e (s := Instr.indexAt t (a.eval x) (a.eval i)) (by simp [execOp, ho]) fun v hv => ?_
    obtain ⟨xv, h1, e1⟩ := bd_ok hv
    obtain ⟨iv, h2, e2⟩ := bd_ok e1
    exact indexAV_ok e2 (val_ok h h1) (val_ok h h2)
  · rename_i t x i ho
    refine lift_ok e (s := Instr.index t (a.eval x) (a.eval i)) (by simp [execOp, ho]) fun v hv => ?_
    obtain ⟨xv, h1, e1⟩ := bd_ok hv
    obtain ⟨iv, h2, e2⟩ := bd_ok e1
    exact indexV_ok e2 (val_ok h h1) (val_ok h h2)
  · rename_i x i ho
    refine lift_ok e (s := Instr.extract (a.eval x) i) (by simp [execOp, ho]) fun v hv => ?_
    obtain ⟨xv, h1, e1⟩ := bd_ok hv
    exact extractV_ok (P := P) e1 (val_ok h h1)
  · rename_i c ho
    obtain ⟨xs, h1, e1⟩ := bd_ok e
    have hxs := vals_ok h h1
    generalize hl : c.args.toList.map a.eval = l at hxs
    have hargs : c.args.map a.eval = l.toArray := by rw [← hl, ← Array.toList_map, Array.toArray_toList]
    split at e1
    · rename_i b hc
      obtain ⟨v', h5, h6⟩ := pureC_ok e1 hxs o.type
      refine ⟨v', h5, fun w => ?_⟩
      simp [execOp, ho, resolve, hc, invoke, hargs, h6 _ w]
    · cases e1
  · cases e
theorem asU8_ok {b : UInt8} (e : asU8 v = .ok b) : ∃ m : Nat, v = .int .u8 (m : Int) ∧ b = UInt8.ofNat m := by
  unfold asU8 at e
  split at e <;> cases e
  exact ⟨_, rfl, rfl⟩
theorem bytesOf_ok : ∀ {l : List Value} {bs : List UInt8}, bytesOf l = .ok bs → ∃ ns : List Int, l = ns.map (Value.int .u8) ∧ bs = ns.map fun n => UInt8.ofNat n.toNat
  | [], bs, e => by cases e; exact ⟨[], rfl, rfl⟩
  | v :: l, bs, e => by
    obtain ⟨b, h1, e1⟩ := bd_ok (x := asU8 v) e
    obtain ⟨r, h2, e2⟩ := bd_ok (x := bytesOf l) e1
    cases e2
    obtain ⟨m, rfl, rfl⟩ := asU8_ok h1
    obtain ⟨ns, rfl, rfl⟩ := bytesOf_ok h2
    exact ⟨(m : Int) :: ns, rfl, by simp⟩
theorem LR.ints {k : IntKind} : ∀ {ns : List Int} {l : List Value}, LR ρ (ns.map (Value.int k)) l → l = ns.map (Value.int k)
  | [], l, h => by cases h; rfl
  | n :: ns, l, h => by
    cases h with
    | cons h1 h2 => rw [h1.int, LR.ints h2]; rfl
theorem bytesT_ok {e : TypeId} (h : bytesT P t = .ok e) : P.underlying t = some (.slice e) ∧ P.underlying e = some (.int .u8) := by
  obtain ⟨u, h1, e1⟩ := bd_ok h
  obtain ⟨el, h2, e2⟩ := bd_ok e1
  obtain ⟨v, h3, e3⟩ := bd_ok e2
  rcases bl_ok e3 with ⟨h4, e4⟩ | ⟨_, e4⟩ <;> cases e4
  have hu := under_ok h1
  have hv := under_ok h3
  unfold sliceE at h2
  split at h2 <;> cases h2
  unfold isU8 at h4
  split at h4
  · exact ⟨hu, hv⟩
  · cases h4
theorem strT_ok (h : strT P t = .ok ()) : P.underlying t = some .string := by
  obtain ⟨u, h1, e1⟩ := bd_ok h
  rcases bl_ok e1 with ⟨h4, e4⟩ | ⟨_, e4⟩ <;> cases e4
  have hu := under_ok h1
  unfold isStr at h4
  split at h4
  · exact hu
  · cases h4
theorem convS_ok {sx d : TypeId} (e : convS P W sx d x = .ok v) (hx : VR ρ x x') (hW : WR ρ W w) : ∃ v', VR ρ v v' ∧ (convert sx d x').run P w = .ok v' w := by
  obtain ⟨el, h1, e1⟩ := bd_ok e
  obtain ⟨_, h2, e2⟩ := bd_ok e1
  obtain ⟨h3, h4⟩ := bytesT_ok h1
  have h5 := strT_ok h2
  unfold strS at e2
  split at e2
  · cases e2
    rw [hx.snone]
    exact ⟨_, .flat rfl, run_convert_bytes_nil w sx el h3 h4 _ _ d h5⟩
  · rename_i a n k
    obtain ⟨c, m, o', k', hc, hsp, rfl, hr⟩ := hx.ssome
    rcases bl_ok e2 with ⟨h6, e3⟩ | ⟨h6, e3⟩
    · cases e3
      have h6 : n = 0 := Nat.eq_of_beq_eq_true h6
      subst h6
      exact ⟨_, .flat rfl, run_convert_bytes_arg w sx el h3 h4 c o' 0 k' [] rfl (fun i hi => by omega) d h5⟩
    · have h6 := Nat.ne_of_beq_eq_false h6
      obtain ⟨l, h7, e4⟩ := bd_ok e3
      obtain ⟨bs, h8, e5⟩ := bd_ok e4
      cases e5
      rcases hr with ⟨rfl, _, _⟩ | ⟨h0, _⟩
      · obtain ⟨l', h9, h10, h11⟩ := loadN_ok hW h7 hc
        obtain ⟨ns, rfl, rfl⟩ := bytesOf_ok h8
        have := h10.ints
        subst this
        have hlen : ns.length = n := by simpa using h11
        refine ⟨_, .flat rfl, run_convert_bytes_arg w sx el h3 h4 c a.off n k' ns hlen (fun i hi => ?_) d h5⟩
        have hi2 : i < ns.length := by omega
        refine h9 i _ ?_
        simp [List.getD, hi2]
      · exact absurd h0 h6
  · cases e2
theorem convB_ok {sx d : TypeId} {p : AC} (e : convB P sx d x = .ok p) (hx : VR ρ x x') : AS P ρ p (do pure (.value (← convert sx d x'))) := by
  obtain ⟨us, h1, e1⟩ := bd_ok e
  obtain ⟨el, h2, e2⟩ := bd_ok e1
  have hs := under_ok h1
  obtain ⟨h3, h4⟩ := bytesT_ok h2
  unfold strB at e2
  split at e2
  · rename_i b
    cases e2
    rw [hx.string]
    intro w
    have hr := Lib.run_convert_string_bytes (P := P) w sx d el b hs h3 h4
    refine ⟨.cells (Lib.bytesCells w el b) el ((Lib.bytesCells w el b).size, (Lib.bytesCells w el b).size + 1), (Lib.bytesCells w el b).size, .slice (some ⟨w.heap.size, 0, none⟩) b.size (grownCap w b.size 0 el), Lib.bytesWorld w el b, by simp only [Sem.run_bind, hr, Result.andThen_ok, Sem.run_pure], ⟨?_, rfl, rfl, rfl⟩, ?_, ?_⟩
    · apply Array.ext_getElem?
      intro j
      rcases Nat.lt_trichotomy j w.heap.size with hj | hj | hj
      · rw [Lib.bytesWorld_at_old w el b j hj, Array.getElem?_push, if_neg (by omega)]
      · subst hj
        rw [Lib.bytesWorld_at_new, Array.getElem?_push, if_pos rfl]
      · rw [Array.getElem?_eq_none (by rw [Lib.bytesWorld_size]; omega), Array.getElem?_eq_none (by simp; omega)]
    · refine ⟨fun i u hu => ?_, rfl, .inl (Nat.le_refl _)⟩
      have hu2 := hu
      have hi : i < b.data.toList.length := by
        have := (List.getElem?_eq_some_iff.1 hu).1
        simpa [bytesV] using this
      refine ⟨u, ?_, .flat ?_⟩
      · rw [← hu2]
        simp only [Lib.bytesCells, bytesV]
        rw [Array.getElem?_append, if_pos (by simpa using hi)]
        simp
      · simp only [bytesV, List.getElem?_map] at hu
        cases hq : b.data.toList[i]? with
        | none => rw [hq] at hu; cases hu
        | some y => rw [hq] at hu; cases hu; rfl
    · intro ρ' k hb
      have hsz : b.data.toList.length = b.size := Array.length_toList ..
      rw [hsz]
      have hcap : b.size ≤ grownCap w b.size 0 el := Nat.le_add_right _ _
      refine .sl hb (.inr ⟨1, rfl, ?_⟩) hcap
      have : (Lib.bytesCells w el b).size = b.size + (grownCap w b.size 0 el - b.size) := by
        simp [Lib.bytesCells]
      omega
  · cases e2
theorem mlen_ok {ts : Array TypeId} {l : List Value} (e : mlen P W ts.toList xs = .ok v) (hxs : LR ρ xs l) (hW : WR ρ W w) (ty : TypeId) : ∃ v', VR ρ v v' ∧ (Builtin.len_ ts ty l.toArray).run P w = .ok v' w := by
  unfold mlen at e
  split at e
  · rename_i t x hts
    cases hxs with
    | cons h3 h4 =>
      rename_i y _
      cases h4
      obtain ⟨u, h1, e1⟩ := bd_ok e
      obtain ⟨q, h2, e2⟩ := bd_ok e1
      obtain ⟨b, h5, e3⟩ := bd_ok e2
      have hu := under_ok h1
      rw [mapT_ok h2] at hu
      rw [asM_ok h5] at h3
      have hts : ts = #[t] := by rw [← Array.toArray_toList (xs := ts), hts]
      subst hts
      cases b with
      | none =>
        cases e3
        rw [h3.of_flat rfl]
        exact ⟨_, .flat rfl, by simp [Builtin.len_, run_underlying hu, Sem.run_bind, goInt]⟩
      | some b =>
        obtain ⟨es, h6, e4⟩ := bd_ok (x := W.es b) e3
        cases e4
        obtain ⟨c, n, hc, rfl⟩ : ∃ c n, ρ b = some (c, n) ∧ y = .map (some c) := by
          cases h3 with
          | flat h => simp [Ke.flat] at h
          | map h => exact ⟨_, _, h, rfl⟩
        obtain ⟨_, E, clock, g4, g5⟩ := es_ok hW hc h6
        have hget : (getObj c).run P w = .ok (.map E clock) w := by simp [getObj, Sem.run, g4]
        have hsz : es.length = E.size := by rw [g5.sz]; simp
        exact ⟨_, .flat rfl, by simp [Builtin.len_, run_underlying hu, Sem.run_bind, hget, goInt, hsz]⟩
  · cases e
theorem load_ok (o : Oper) (e : o_load P g W o.op = .ok v) (h : TR ρ n g a.tmps) (hW : WR ρ W w) : ∃ v', VR ρ v v' ∧ (execOp a.eval o).run P w = .ok (.value v') w := by
  rw [o_load_eq] at e
  unfold o_loadM at e
  split at e
  · rename_i t x ho
    obtain ⟨xv, h1, e1⟩ := bd_ok e
    obtain ⟨v', h2, h3⟩ := loadV_ok e1 (val_ok h h1) hW
    exact ⟨v', h2, by simp [execOp, ho, h3]⟩
  · rename_i s d x ho
    obtain ⟨xv, h1, e1⟩ := bd_ok e
    obtain ⟨v', h2, h3⟩ := convS_ok e1 (val_ok h h1) hW
    exact ⟨v', h2, by simp [execOp, ho, h3]⟩
  · rename_i t x i b ho
    obtain ⟨xv, h1, e1⟩ := bd_ok e
    obtain ⟨iv, h2, e2⟩ := bd_ok e1
    obtain ⟨v', h3, h4⟩ := mget_ok e2 (val_ok h h1) (val_ok h h2) hW
    exact ⟨v', h3, by simp [execOp, ho, h4]⟩
  · rename_i c ho
    obtain ⟨xs, h1, e1⟩ := bd_ok e
    have hxs := vals_ok h h1
    generalize hl : c.args.toList.map a.eval = l at hxs
    have hargs : c.args.map a.eval = l.toArray := by rw [← hl, ← Array.toList_map, Array.toArray_toList]
    split at e1
    · rename_i hc
      obtain ⟨v', h2, h3⟩ := mlen_ok e1 hxs hW o.type
      refine ⟨v', h2, ?_⟩
      simp [execOp, ho, resolve, hc, invoke, hargs, builtin, h3]
    · cases e1
  · cases e
theorem alloc_ok (o : Oper) {p : AC} (e : o_alloc P g o.op = .ok p) (h : TR ρ n g a.tmps) : AS P ρ p (execOp a.eval o) := by
  rw [o_alloc_eq] at e
  unfold o_allocM at e
  split at e
  · rename_i t ho
    exact .of (sv := Instr.alloc t true (.tuple #[])) (by simp [execOp, ho]) (allocC_ok e)
  · rename_i t x ho
    obtain ⟨xv, h1, e1⟩ := bd_ok e
    cases e1
    exact .of (sv := Instr.box t (a.eval x)) (by simp [execOp, ho]) (boxC_ok (val_ok h h1))
  · rename_i t k ps ho
    obtain ⟨q, h1, e1⟩ := bd_ok e
    have h2 := buildC_ok e1 (pvals_ok h h1)
    rw [show ((ps.toList.map fun p => (p.1, a.eval p.2)).toArray) = ps.map fun p => (p.1, a.eval p.2) by rw [← Array.toList_map, Array.toArray_toList]] at h2
    exact .of (by simp [execOp, ho]) h2
  · rename_i s d x ho
    obtain ⟨xv, h1, e1⟩ := bd_ok e
    have h2 := convB_ok e1 (val_ok h h1)
    have h3 : execOp a.eval o = (do pure (.value (← convert s d (a.eval x)))) := by simp [execOp, ho]
    rw [h3]; exact h2
  · rename_i t r ho
    obtain ⟨rv, h1, e1⟩ := bd_ok e
    have h2 := mapC_ok e1 (optV_ok h h1)
    have h3 : execOp a.eval o = (do pure (.value (← Instr.makeMap t (r.map a.eval)))) := by simp [execOp, ho]
    rw [h3]; exact h2
  · rename_i t x y ho
    obtain ⟨xv, h1, e1⟩ := bd_ok e
    obtain ⟨yv, h2, e2⟩ := bd_ok e1
    exact .of (sv := Instr.makeSlice t (a.eval x) (a.eval y)) (by simp [execOp, ho]) (makeC_ok e2 (val_ok h h1) (val_ok h h2))
  · cases e
theorem mputR_ok {m m' k k' : Value} (e : mputR P W t m k v = .ok r) {v' : Value} (hm : VR ρ m m') (hk : VR ρ k k') (hv : VR ρ v v') (h : WR ρ W w) : ∃ W', r = .skip W' ∧ ∃ w', (Instr.mapUpdate t m' k' v').run P w = .ok () w' ∧ WR ρ W' w' ∧ Up ρ W w ρ W' w' := by
  obtain ⟨W', h1, e1⟩ := bd_ok e
  cases e1
  exact ⟨W', rfl, mput_ok h1 hm hk hv h⟩
theorem eff_ok (o : Oper) (e : o_eff P g W o.op = .ok r) (h : TR ρ n g a.tmps) (hW : WR ρ W w) : RR P ρ W w r (execOp a.eval o) := by
  rw [o_eff_eq] at e
  unfold o_effM at e
  split at e
  · rename_i t m k x ho
    obtain ⟨mv, h1, e1⟩ := bd_ok e
    obtain ⟨kv, h2, e2⟩ := bd_ok e1
    obtain ⟨xv, h3, e3⟩ := bd_ok e2
    obtain ⟨W', rfl, w', h4, h5, h6⟩ := mputR_ok e3 (val_ok h h1) (val_ok h h2) (val_ok h h3) hW
    exact ⟨w', ρ, by simp [execOp, ho, h4], h5, h6⟩
  · rename_i t x y ho
    obtain ⟨xv, h1, e1⟩ := bd_ok e
    obtain ⟨yv, h2, e2⟩ := bd_ok e1
    obtain ⟨W', rfl, w', h3, h4, h5⟩ := storeV_ok e2 (val_ok h h1) (val_ok h h2) hW
    exact ⟨w', ρ, by simp [execOp, ho, h3], h4, h5⟩
  · rename_i t m k x ho
    obtain ⟨mv, h1, e1⟩ := bd_ok e
    obtain ⟨kv, h2, e2⟩ := bd_ok e1
    obtain ⟨xv, h3, e3⟩ := bd_ok e2
    obtain ⟨W', rfl, w', h4, h5, h6⟩ := mputR_ok e3 (val_ok h h1) (val_ok h h2) (val_ok h h3) hW
    exact ⟨w', ρ, by simp [execOp, ho, h4], h5, h6⟩
  · rename_i c ho
    obtain ⟨xs, h1, e1⟩ := bd_ok e
    have hx : execOp a.eval o = (do let d ← resolve a.eval c o.type; invoke d.target d.args) := by simp [execOp, ho]
    rw [hx]
    split at e1
    · rename_i f hc
      obtain ⟨fv, h2, e2⟩ := bd_ok e1
      exact callV_ok hc e2 (val_ok h h2) (vals_ok h h1)
    · rename_i b hc
      exact builtinV_ok hc e1 (vals_ok h h1) hW
    · cases e1
  · cases e
theorem oper_ok (o : Oper) (e : oper P g W o.op = .ok r) (h : TR ρ n g a.tmps) (hW : WR ρ W w) : RR P ρ W w r (execOp a.eval o) := by
  unfold oper at e
  generalize kind P o.op = k at e
  rcases k with _ | _ | _ | k
  · change pv W (o_pure P g o.op) = .ok r at e
    obtain ⟨v, h1, h2⟩ := bd_ok (x := o_pure P g o.op) e
    cases h2
    obtain ⟨v', h3, h4⟩ := pure_ok o h1 h
    exact ⟨v', w, ρ, h4 w, h3, hW, .rfl ρ W w⟩
  · change pv W (o_load P g W o.op) = .ok r at e
    obtain ⟨v, h1, h2⟩ := bd_ok (x := o_load P g W o.op) e
    cases h2
    obtain ⟨v', h3, h4⟩ := load_ok o h1 h hW
    exact ⟨v', w, ρ, h4, h3, hW, .rfl ρ W w⟩
  · change (o_alloc P g o.op).bd (newA W) = .ok r at e
    obtain ⟨p, h1, h2⟩ := bd_ok (x := o_alloc P g o.op) e
    exact newA_ok h2 (alloc_ok o h1 h) hW
  · change o_eff P g W o.op = .ok r at e
    exact eff_ok o e h hW
end
end Go.Ke
