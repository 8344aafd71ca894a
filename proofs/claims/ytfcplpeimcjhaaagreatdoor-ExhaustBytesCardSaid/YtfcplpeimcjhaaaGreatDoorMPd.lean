/- Closed facts of the row, one theorem each (MPd). Conditions: none. -/
import Derived.Test.YtfcplpeimcjhaaaGreatDoorRows
import Derived.JoinedOf
import Derived.KernelRfl
namespace Go.Proofs.YtfcplpeimcjhaaaGreatDoor
open Go
theorem rf11 : ((Rows.exhaustBytesRow.recurses == Tryz.prog.recurses 3)) = true := by kernel_rfl
end Go.Proofs.YtfcplpeimcjhaaaGreatDoor
