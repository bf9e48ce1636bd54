/- Closed facts of the row. It proves no statement. -/
import Derived.Test.YtddcgoopgnogeaaGreatDoorRows
import Derived.JoinedCond
set_option linter.unusedVariables false
set_option linter.unusedSimpArgs false
set_option linter.unusedSectionVars false
namespace Go.Proofs.YtddcgoopgnogeaaGreatDoor.Ev
open Go.Proofs Go.Proofs.YtddcgoopgnogeaaGreatDoor
set_option maxRecDepth 100000
theorem k0 : (Rows.engineNobodyRow.wf (OpenSpec.ofChange ((OpenSpec.ofChange Rows.engineNobodySpec).bare))) = true := by kernel_rfl
theorem k1 : (laidOutB Tryz.pinned.checked.prog) = true := by kernel_rfl
theorem k2 : (mapsRowed Tryz.pinned.checked.prog) = true := by kernel_rfl
theorem k3 : (Tryz.f3.params.all (Tryz.pinned.checked.prog.readableRec ·)) = true := by kernel_rfl
theorem k4 : (namedTie Tryz.pinned.checked.prog Rows.engineNobodyRow.named ((OpenSpec.ofChange Rows.engineNobodySpec).bare).vars) = true := by kernel_rfl
theorem k5 : ((Rows.engineNobodyRow.stops == [])) = true := by kernel_rfl
theorem k6 : ((Tryz.pinned.checked.prog.stops == [])) = true := by kernel_rfl
theorem k7 : ((Rows.engineNobodyRow.knobs == [])) = true := by kernel_rfl
theorem k8 : ((Tryz.pinned.checked.prog.stopKnobs == [])) = true := by kernel_rfl
theorem k9 : ((Rows.engineNobodyRow.inPlace == Tryz.pinned.checked.prog.inPlace 3)) = true := by kernel_rfl
end Go.Proofs.YtddcgoopgnogeaaGreatDoor.Ev
