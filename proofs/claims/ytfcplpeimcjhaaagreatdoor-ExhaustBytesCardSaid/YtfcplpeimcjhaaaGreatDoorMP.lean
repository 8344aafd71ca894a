/- All closed facts of the row. Conditions: none. -/
import Derived.Test.YtfcplpeimcjhaaaGreatDoorMPa
import Derived.Test.YtfcplpeimcjhaaaGreatDoorMPb
import Derived.Test.YtfcplpeimcjhaaaGreatDoorMPc
import Derived.Test.YtfcplpeimcjhaaaGreatDoorMPd
import Derived.Test.YtfcplpeimcjhaaaGreatDoorMPe
namespace Go.Proofs.YtfcplpeimcjhaaaGreatDoor
open Go
theorem row_facts : joinedFacts Tryz.prog 3 Tryz.f3 Rows.exhaustBytesSpec Rows.exhaustBytesRow = true := by
  unfold joinedFacts
  simp only [rf0, rf1, rf2, rf3, rf4, rf5, rf6, rf7, rf8, rf9, rf10, rf11, rf12, rf13, rf14, rf15, rf16, rf17, rf18, rf19, rf20, rf21, rf22, rf23, rf24, rf25, rf26, rf27, rf29, rf30, rf31, Bool.and_self]
  kernel_rfl
end Go.Proofs.YtfcplpeimcjhaaaGreatDoor
