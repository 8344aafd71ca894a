/- Closed facts of the row, one theorem each (MPa). Conditions: none. -/
import Derived.Test.YtfcplpeimcjhaaaGreatDoorRows
import Derived.JoinedOf
import Derived.KernelRfl
namespace Go.Proofs.YtfcplpeimcjhaaaGreatDoor
open Go
theorem rf9 : ((Rows.exhaustBytesRow.inPlace == Tryz.prog.inPlace 3)) = true := by kernel_rfl
end Go.Proofs.YtfcplpeimcjhaaaGreatDoor
