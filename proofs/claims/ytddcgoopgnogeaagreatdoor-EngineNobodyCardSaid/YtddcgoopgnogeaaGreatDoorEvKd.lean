/- The closed facts of the row. It proves no statement. -/
import Derived.Test.YtddcgoopgnogeaaGreatDoorEvJ
import Derived.Test.YtddcgoopgnogeaaGreatDoorEvKa
import Derived.Test.YtddcgoopgnogeaaGreatDoorEvKb
import Derived.Test.YtddcgoopgnogeaaGreatDoorEvKc
set_option linter.unusedVariables false
set_option linter.unusedSimpArgs false
set_option linter.unusedSectionVars false
namespace Go.Proofs.YtddcgoopgnogeaaGreatDoor.Ev
open Go.Proofs Go.Proofs.YtddcgoopgnogeaaGreatDoor
set_option maxRecDepth 100000
theorem closed : joinedFacts Tryz.pinned.checked.prog 3 Tryz.f3 ((OpenSpec.ofChange Rows.engineNobodySpec).bare) Rows.engineNobodyRow = true :=
  joined_of (P := Tryz.pinned.checked.prog) (f := 3) (fn := Tryz.f3) (s := (OpenSpec.ofChange Rows.engineNobodySpec).bare) (c := Rows.engineNobodyRow) k0 k1 k2 k3 k4 k5 k6 k7 k8 k9 k10 k11 k12 k13 k14 k15 k16 k17 k18 k19 k20 k21 k22 k23 k24 k25 k26 k27 k28 k29 k30 k31
end Go.Proofs.YtddcgoopgnogeaaGreatDoor.Ev
