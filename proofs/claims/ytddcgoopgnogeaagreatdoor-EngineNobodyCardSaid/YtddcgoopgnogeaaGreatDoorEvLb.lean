/- A closed fact of the card. It proves no statement. -/
import Derived.Test.YtddcgoopgnogeaaGreatDoorRows
import Derived.Test.YtddcgoopgnogeaaGreatDoorCards
import Derived.SevenTiedAt
set_option linter.unusedVariables false
set_option linter.unusedSimpArgs false
set_option linter.unusedSectionVars false
namespace Go.Proofs.YtddcgoopgnogeaaGreatDoor.Ev
open Go.Proofs
open Go.Proofs.YtddcgoopgnogeaaGreatDoor
set_option linter.unusedVariables false
theorem goes_none {P : Program} {f : FuncId} (h : P.funcs.any Func.goes = false) : P.goes f = false := by
  unfold Program.goes
  rw [h, Bool.and_false, Bool.or_false, List.any_eq_false]
  intro g _
  rw [Array.any_eq_false] at h
  cases hg : P.funcs[g]? with
  | none => simp
  | some fn =>
    obtain ⟨hl, rfl⟩ := Array.getElem?_eq_some_iff.1 hg
    simpa using h g hl
theorem none_goes : Tryz.pinned.checked.prog.funcs.any Func.goes = false := by kernel_rfl
theorem named : Tryz.pinned.checked.prog.funcNamed Rows.engineNobodyRow.func = some 3 := by kernel_rfl
theorem goes : false = Rows.engineNobodyRow.goesBy Tryz.pinned.checked.prog := by
  show false = (Tryz.pinned.checked.prog.goesFrom Rows.engineNobodyRow.func || false)
  unfold Program.goesFrom
  rw [named, Bool.or_false, Option.any_some, goes_none none_goes]
end Go.Proofs.YtddcgoopgnogeaaGreatDoor.Ev
