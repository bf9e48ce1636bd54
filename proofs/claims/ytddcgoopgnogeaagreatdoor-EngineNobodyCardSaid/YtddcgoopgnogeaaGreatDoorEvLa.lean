/- Closed facts of the card. It proves no statement. -/
import Derived.Test.YtddcgoopgnogeaaGreatDoorRows
import Derived.Test.YtddcgoopgnogeaaGreatDoorCards
import Derived.SevenTiedAt
set_option linter.unusedVariables false
set_option linter.unusedSimpArgs false
set_option linter.unusedSectionVars false
namespace Go.Proofs.YtddcgoopgnogeaaGreatDoor.Ev
open Go.Proofs
open Go.Proofs.YtddcgoopgnogeaaGreatDoor
set_option linter.unusedVariables false
theorem plain' (f : FuncId) (fn : Func) (hf : Tryz.pinned.checked.prog.funcNamed "gharry/gharrylaw17.EngineNobody" = some f) (hfn : Tryz.pinned.checked.prog.funcs[f]? = some fn) :
    true = Tryz.pinned.checked.prog.looks [] ∧ ∀ (j : Nat) t, fn.params[j]? = some t → Tryz.pinned.checked.prog.wantsStandIn t = false := by
  obtain rfl : f = 3 := Option.some.inj ((show Tryz.prog.funcNamed "gharry/gharrylaw17.EngineNobody" = some 3 by kernel_rfl).symm.trans hf) |>.symm
  obtain rfl : fn = Tryz.f3 := (Option.some.inj (Tryz.func3.symm.trans hfn)).symm
  refine ⟨by kernel_rfl, fun j t ht => ?_⟩
  rw [Tryz.params3] at ht
  have hm : t = 3 ∨ t = 9 := by simpa using Array.mem_of_getElem? ht
  rcases hm with rfl | rfl
  · exact (show Tryz.prog.wantsStandIn 3 = false by kernel_rfl)
  · exact (show Tryz.prog.wantsStandIn 9 = false by kernel_rfl)
end Go.Proofs.YtddcgoopgnogeaaGreatDoor.Ev
namespace Go.Proofs.YtddcgoopgnogeaaGreatDoor.Ev
open Go.Proofs
open Go.Proofs.YtddcgoopgnogeaaGreatDoor
set_option linter.unusedVariables false
theorem byText : Rows.engineNobodyRow.wfByText (OpenSpec.ofChange Rows.engineNobodySpec) = true := by kernel_rfl
theorem main_is : Tryz.pinned.checked.prog.mainIs = some ((true, "ac15d000ad63bacc1e7254c8199d4b1a66a56e04bb60281ad820dcc361b41e2f").1, (true, "ac15d000ad63bacc1e7254c8199d4b1a66a56e04bb60281ad820dcc361b41e2f").2.toList) := by kernel_rfl
end Go.Proofs.YtddcgoopgnogeaaGreatDoor.Ev
