/- Closed facts of the row, one theorem each (MPb). Conditions: none. -/
import Derived.Test.YtfcplpeimcjhaaaGreatDoorRows
import Derived.JoinedOf
import Derived.KernelRfl
namespace Go.Proofs.YtfcplpeimcjhaaaGreatDoor
open Go
theorem rf10 : ((Rows.exhaustBytesRow.unfollowed == Tryz.prog.unfollowed 3)) = true := by kernel_rfl
end Go.Proofs.YtfcplpeimcjhaaaGreatDoor
