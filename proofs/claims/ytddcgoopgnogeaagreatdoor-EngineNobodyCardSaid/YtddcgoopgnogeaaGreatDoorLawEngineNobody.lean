/- EngineNobody: for every number and every key an engine that nobody started does nothing, and refuses all; and one that is started works (its own trial run). The card ties the listed variable to the program's text; no condition beyond the row's own. -/
import Derived.Test.YtddcgoopgnogeaaGreatDoorTie
import Derived.Test.YtddcgoopgnogeaaGreatDoorEvLa
import Derived.Test.YtddcgoopgnogeaaGreatDoorEvLb
import Derived.Test.YtddcgoopgnogeaaGreatDoorEvM
set_option linter.unusedVariables false
set_option linter.unusedSimpArgs false
set_option linter.unusedSectionVars false
namespace Go.Proofs.YtddcgoopgnogeaaGreatDoor.Ev
open Go.Proofs
open Go.Proofs.YtddcgoopgnogeaaGreatDoor
set_option linter.unusedVariables false
theorem card : Rows.EngineNobodyCardSaid :=
  Claim7.holds_tied_plain_at .later [] _ _ _ _ said (fun _ h => by cases h) byText (fun _ h => by cases h) engineNobody_row_tie rfl ⟨rfl, rfl⟩ main_is rfl plain' goes
#print axioms card
end Go.Proofs.YtddcgoopgnogeaaGreatDoor.Ev
namespace Go.Proofs.YtddcgoopgnogeaaGreatDoor
/-- The row, under a short name, for the claim. -/
theorem engineNobody_holds : Rows.EngineNobodyCardSaid := Ev.card
end Go.Proofs.YtddcgoopgnogeaaGreatDoor
