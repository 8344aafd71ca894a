/- Contracts and laws. Conditions: none. -/
import Derived.Test.YtkoeecdjijfjnaaGreatJ1
set_option linter.all false
set_option maxRecDepth 100000
set_option maxHeartbeats 8000000
namespace Go.Proofs.YtkoeecdjijfjnaaGreat
open Go.RowKit
def mgS (s:List GE × List (List Int))(x:GE):List GE × List (List Int):=(cY s.1 x,if gE x.path s.1 then s.2 else s.2 ++ [x.path])
def mg (L M:List GE):List GE × List (List Int):=M.foldl mgS (L,[])
def aY6 (L:List GE)(ps:List (List Int)):Nat:=(ps.filter fun p=>gE p L).length
def mgE (b:Int)(L M:List GE):List GE:=vF b (mg L M).1
def mgN (b:Int)(L M:List GE):Int:=(aY6 (mgE b L M) (mg L M).2:Nat)
theorem qE {α}{l:List α}{k:Nat}(d)(hk:k<l):l.take (k+1)=l.take k ++ [l.getD k d]:=by
 rw [List.take_add_one];simp [List.getD,hk]
section
variable {L M:List GE}{k:Nat}
end
def RP (w:World)(P:Nat->Prop)(p:List Int)(cs:List Value):Prop:=∃ v,cs=[v]∧Ints w P v p
def Pth (w:World)(B:Nat)(P:Nat->Prop)(v:Value)(ps:List (List Int)):Prop:=∃ xs,w.ownsRow B 22 1 v ps xs∧RL (RP w P) ps xs
section
variable {w w':World}{B:Nat}{P P':Nat->Prop}{v:Value}{ps:List (List Int)}
end
