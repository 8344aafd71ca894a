/- Contracts of functions, plain laws. Conditions: none. -/
import Derived.Test.YtkoeecdjijfjnaaGreatQ3
import Derived.Test.YtkoeecdjijfjnaaGreatB3
set_option maxRecDepth 100000
set_option maxHeartbeats 8000000
namespace Go.Proofs.YtkoeecdjijfjnaaGreat
open Go.RowKit
def vB (n:Nat):Code->Option Code
 | .region id ops d=>if id=n then some (.region id ops d) else none
 | .seq a b=>match vB n a with
  | some c=>some c
  | none=>vB n b
 | .block _ c=>vB n c
 | .scope c=>vB n c
 | .loop c=>vB n c
 | .cond _ a b=>match vB n a with
  | some c=>some c
  | none=>vB n b
 | _=>none
noncomputable def RG (f:Func) (n:Nat):Code:=(f.body.bind (vB n)).getD .skip
section
variable {P:Program}{ops:Array Oper}{Q:Exit->Act->World->Prop}{md:Region.Mode}{S:World->Prop}{bf:Nat->Bool}
end
theorem vc (a:Act)(v:Value):a.eval (.const v)=v:=rfl
section
variable {ρ:Operand->Value}{o:Oper}{w:World}
end
noncomputable def aYj:=RG Tryz.f8 34
noncomputable def aYl:=RG Tryz.f8 26
noncomputable def aYm:=RG Tryz.f8 25
noncomputable def aYk:=RG Tryz.f8 28
end Go.Proofs.YtkoeecdjijfjnaaGreat
