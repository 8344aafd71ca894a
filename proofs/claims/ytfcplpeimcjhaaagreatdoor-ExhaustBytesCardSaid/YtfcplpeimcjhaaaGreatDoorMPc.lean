/- Closed facts of the row, one theorem each (MPc). Conditions: none. -/
import Derived.Test.YtfcplpeimcjhaaaGreatDoorRows
import Derived.JoinedOf
import Derived.KernelRfl
namespace Go.Proofs.YtfcplpeimcjhaaaGreatDoor
open Go
theorem rf0 : (Rows.exhaustBytesRow.wf (OpenSpec.ofChange Rows.exhaustBytesSpec)) = true := by kernel_rfl
theorem rf1 : (laidOutB Tryz.prog) = true := by kernel_rfl
theorem rf2 : (mapsRowed Tryz.prog) = true := by kernel_rfl
theorem rf3 : (Tryz.f3.params.all (Tryz.prog.readableRec ·)) = true := by kernel_rfl
theorem rf4 : (namedTie Tryz.prog Rows.exhaustBytesRow.named Rows.exhaustBytesSpec.vars) = true := by kernel_rfl
theorem rf5 : ((Rows.exhaustBytesRow.stops == [])) = true := by kernel_rfl
theorem rf6 : ((Tryz.prog.stops == [])) = true := by kernel_rfl
theorem rf7 : ((Rows.exhaustBytesRow.knobs == [])) = true := by kernel_rfl
theorem rf8 : ((Tryz.prog.stopKnobs == [])) = true := by kernel_rfl
theorem rf13 : ((Rows.exhaustBytesRow.maps == (Tryz.f3.params.toList ++ Rows.exhaustBytesSpec.plain.varTypes Tryz.prog).any (Tryz.prog.mapsRec ·))) = true := by kernel_rfl
theorem rf14 : ((Rows.exhaustBytesRow.ifaces == (Tryz.f3.params.toList ++ Rows.exhaustBytesSpec.plain.varTypes Tryz.prog).any (Tryz.prog.ifacesRec ·))) = true := by kernel_rfl
theorem rf15 : ((Rows.exhaustBytesRow.mapsOut == Tryz.prog.mapsAmong Tryz.f3.resultTypes.toList)) = true := by kernel_rfl
theorem rf16 : ((Rows.exhaustBytesRow.loops == (Tryz.f3.params.toList ++ Rows.exhaustBytesSpec.plain.varTypes Tryz.prog).any (Tryz.prog.loopsFrom ·))) = true := by kernel_rfl
theorem rf17 : ((Rows.exhaustBytesRow.wideKeys == (Tryz.f3.params.toList ++ Rows.exhaustBytesSpec.plain.varTypes Tryz.prog ++ Tryz.f3.resultTypes.toList).any (Tryz.prog.wideKeysFrom ·))) = true := by kernel_rfl
theorem rf18 : (Rows.exhaustBytesSpec.vars.all (Tryz.prog.varReadable ·)) = true := by kernel_rfl
theorem rf19 : (Tryz.f3.resultTypes.all (fun t => Tryz.prog.readableRec t && decide (t < Tryz.prog.types.size))) = true := by kernel_rfl
theorem rf20 : ((Rows.exhaustBytesRow.ifacesOut == Tryz.f3.resultTypes.toList.any (Tryz.prog.ifacesRec ·))) = true := by kernel_rfl
theorem rf21 : ((Rows.exhaustBytesRow.loopsOut == Tryz.f3.resultTypes.toList.any (Tryz.prog.loopsFrom ·))) = true := by kernel_rfl
theorem rf22 : ((Rows.exhaustBytesRow.plainKeys == Tryz.prog.plainKeys)) = true := by kernel_rfl
theorem rf23 : (Rows.exhaustBytesRow.shortTexts.isNone) = true := by kernel_rfl
theorem rf24 : (Tryz.prog.stopsHeard) = true := by kernel_rfl
theorem rf25 : (Tryz.prog.mayEnter) = true := by kernel_rfl
theorem rf26 : ((Rows.exhaustBytesRow.lifted == Tryz.prog.liftsFinal)) = true := by kernel_rfl
theorem rf27 : ((Tryz.prog.make == some Rows.exhaustBytesRow.make)) = true := by kernel_rfl
theorem rf29 : ((Rows.exhaustBytesRow.pinned == Rows.exhaustBytesRow.pinnedBy)) = true := by kernel_rfl
theorem rf30 : ((Rows.exhaustBytesRow.veiled == (Tryz.f3.params.toList ++ Rows.exhaustBytesSpec.plain.varTypes Tryz.prog ++ Tryz.f3.resultTypes.toList).any (Tryz.prog.veiledRec ·))) = true := by kernel_rfl
theorem rf31 : (Rows.exhaustBytesRow.veiledFits Tryz.prog Tryz.f3.params.toList (Tryz.f3.params.toList ++ Rows.exhaustBytesSpec.plain.varTypes Tryz.prog ++ Tryz.f3.resultTypes.toList)) = true := by kernel_rfl
end Go.Proofs.YtfcplpeimcjhaaaGreatDoor
