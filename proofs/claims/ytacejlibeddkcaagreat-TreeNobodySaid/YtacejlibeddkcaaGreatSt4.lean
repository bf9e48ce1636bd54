/- A state of a run, and that the run comes to it. It proves no statement. -/
import Derived.Test.YtacejlibeddkcaaGreatSt3
set_option linter.unusedVariables false
set_option linter.unusedSimpArgs false
set_option linter.unusedSectionVars false
set_option maxRecDepth 1000000
set_option linter.unusedVariables false
namespace Go.Proofs.YtacejlibeddkcaaGreat.Ev
open Go.Proofs
noncomputable def A30 : N16 AV := ⟨(.bool false), (.ptr 75 0), (.i64 0), (.ptr 75 0), (.ptr 75 0), (.bool false), (.bool false), (.ptr 75 0), (.ptr 75 0), (.ptr 75 4), (.ptr 21 0), (.i64 1), (.bool false), (.bool false), (.bool false), (.ptr 75 0)⟩
noncomputable def A31 : Loc := ⟨A30, A21, A01, A01, A01, A01, A01, A01, A01, A01, A01, A01, A01, A01, A01, A01⟩
noncomputable def A3L : Loc := A31
noncomputable def A3H : Heap := ⟨87, A273⟩
theorem A3_is : run aR4 A2L A2H = .norm A3L A3H := by kernel_rfl
end Go.Proofs.YtacejlibeddkcaaGreat.Ev
