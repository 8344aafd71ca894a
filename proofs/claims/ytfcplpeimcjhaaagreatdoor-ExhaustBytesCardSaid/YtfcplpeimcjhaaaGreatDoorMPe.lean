/- Closed facts of the row, one theorem each (MPe). Conditions: none. -/
import Derived.Test.YtfcplpeimcjhaaaGreatDoorRows
import Derived.JoinedOf
import Derived.KernelRfl
namespace Go.Proofs.YtfcplpeimcjhaaaGreatDoor
open Go
theorem rf12 : ((Rows.exhaustBytesRow.named == Tryz.prog.varsNamed 3)) = true := by kernel_rfl
end Go.Proofs.YtfcplpeimcjhaaaGreatDoor
