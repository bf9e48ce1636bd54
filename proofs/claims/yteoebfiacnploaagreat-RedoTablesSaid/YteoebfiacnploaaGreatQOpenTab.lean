/- The walk of RedoTables in the row's own words. It proves no statement. -/
import Derived.Test.YteoebfiacnploaaGreatQG2
import Derived.Test.YteoebfiacnploaaGreatQTopD
namespace Go.Proofs.YteoebfiacnploaaGreat.HRec
open Go.RowKit Go.Deep Go.Proofs.YteoebfiacnploaaGreat.Open Go.Proofs.YteoebfiacnploaaGreatW.PrintWords Go.Proofs.YteoebfiacnploaaGreatW.PrintLast
set_option linter.unusedVariables false
theorem tables_walk {W : World} (A0 : Option Addr) (c0 : Nat) (l : List RecT) (hr0 : Kd.C kRec W A0 l.length l) (hc0 : l.length ≤ c0) (_ : l.length ≤ maxLen ∧ ∀ x ∈ l, True)
    (chk : Int) (_ : (Lit.int .i64 chk).wf = true) :
    Calls Tryz.prog 5 #[.slice A0 l.length c0, .int .i64 chk] W fun x w' => x = .returned (.bool true) ∧ Below W.heap.size W w' := law_Tables A0 c0 l chk W hr0
end Go.Proofs.YteoebfiacnploaaGreat.HRec
