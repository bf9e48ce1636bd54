/- A state of a run, and that the run comes to it. It proves no statement. -/
import Derived.Test.YtacejlibeddkcaaGreatSt7
set_option linter.unusedVariables false
set_option linter.unusedSimpArgs false
set_option linter.unusedSectionVars false
set_option maxRecDepth 1000000
set_option linter.unusedVariables false
namespace Go.Proofs.YtacejlibeddkcaaGreat.Ev
open Go.Proofs
noncomputable def A70 : N16 AV := ⟨(.ptr 75 0), (.ptr 75 4), (.ptr 21 0), (.i64 18), (.bool false), (.bool false), (.i64 10), (.bool false), (.i64 9), (.i64 10), (.ptr 75 0), (.i64 9), (.i64 106), (.u8 106), .any, (.str 1 106)⟩
noncomputable def A71 : Loc := ⟨A60, A70, A62, A01, A01, A01, A01, A01, A01, A01, A01, A01, A01, A01, A01, A01⟩
noncomputable def A7L : Loc := A71
noncomputable def A7H : Heap := ⟨3721, A63460⟩
theorem A7_is : run aX A6L A6H = .exit 0 A7L A7H := by kernel_rfl
end Go.Proofs.YtacejlibeddkcaaGreat.Ev
