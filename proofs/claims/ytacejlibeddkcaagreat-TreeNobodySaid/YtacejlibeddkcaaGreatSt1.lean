/- A state of a run, and that the run comes to it. It proves no statement. -/
import Derived.Test.YtacejlibeddkcaaGreatEvG
set_option linter.unusedVariables false
set_option linter.unusedSimpArgs false
set_option linter.unusedSectionVars false
set_option maxRecDepth 1000000
set_option linter.unusedVariables false
namespace Go.Proofs.YtacejlibeddkcaaGreat.Ev
open Go.Proofs
noncomputable def A00 : N16 AV := ⟨(.bool false), (.tup []), (.tup []), (.tup []), (.tup []), (.tup []), (.tup []), (.tup []), (.tup []), (.tup []), (.tup []), (.tup []), (.tup []), (.tup []), (.tup []), (.tup [])⟩
noncomputable def A01 : N16 AV := ⟨(.tup []), (.tup []), (.tup []), (.tup []), (.tup []), (.tup []), (.tup []), (.tup []), (.tup []), (.tup []), (.tup []), (.tup []), (.tup []), (.tup []), (.tup []), (.tup [])⟩
noncomputable def A02 : Loc := ⟨A00, A01, A01, A01, A01, A01, A01, A01, A01, A01, A01, A01, A01, A01, A01, A01⟩
noncomputable def A0L : Loc := A02
noncomputable def A0H : Heap := ⟨0, .nil⟩
theorem A0_is : run aR0 (argsIn [] L0) H0 = .norm A0L A0H := by kernel_rfl
end Go.Proofs.YtacejlibeddkcaaGreat.Ev
