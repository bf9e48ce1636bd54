/- A closed fact of the card. It proves no statement. -/
import Derived.Test.YtddcgoopgnogeaaGreatDoorRows
import Derived.Test.YtddcgoopgnogeaaGreatDoorCards
import Derived.SevenTiedAt
set_option linter.unusedVariables false
set_option linter.unusedSimpArgs false
set_option linter.unusedSectionVars false
namespace Go.Proofs.YtddcgoopgnogeaaGreatDoor.Ev
open Go.Proofs
open Go.Proofs.YtddcgoopgnogeaaGreatDoor
set_option linter.unusedVariables false
theorem goes : false = Rows.engineNobodyRow.goesBy Tryz.pinned.checked.prog := by kernel_rfl
end Go.Proofs.YtddcgoopgnogeaaGreatDoor.Ev
