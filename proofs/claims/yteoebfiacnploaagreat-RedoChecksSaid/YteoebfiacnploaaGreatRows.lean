/-
  No cell of these rows narrows 'for every input' (looked for: loops, veiled, ifaces, maps, wideKeys, modest, calm, conditions, laid).
  DERIVED. THE GIVEN ROWS OF THIS SEAT. 3 by the template 'for every input the law returns true; each argument reads behind the call as it read before'; 0 by the template 'total and deterministic' (their statements: YteoebfiacnploaaGreatTotals.lean).
  GIVEN WITH THE SEED: the statements are not yours to turn. If you find one false, say at which input.
  Laid BY PROGRAM, IN A SANDBOX (cutbox-rows.mjs): the forced cells as the released guide's own fill.sh prints them over the translation f9f59b3310202f79… (all of the seat's roots in one cut). By AI agents, Wed Nov 11 2026. No macro, syntax, notation, axiom, sorry.
-/
import Derived.Test.YteoebfiacnploaaGreatChecked
import GoSem.Claim
import GoSem.ClaimJoined
import GoSem.ClaimMapViews
import Derived.JoinedTies
import Derived.KernelRfl
namespace Go.Proofs.YteoebfiacnploaaGreat
/- THE CELL 'sum', in the pinned program and in every row, IS THE sha256 OF THE DUMP (.gsa) THAT YteoebfiacnploaaGreatProg.lean LOADS. Nothing in Lean hashes anything: it is a label: what it is worth is what the hold of that sum in a sandbox is worth. -/
noncomputable def Tryz.pinned : Pinned := { name := "yteoebfiacnploaagreat", sum := "f9f59b3310202f79c6f68ee3f9815c1de098bc8acad39e0ea3fa127bf50a959b", checked := Tryz.checked }
namespace Rows
def none {H : Type} : Left H := { results := [], args := [] }

/-- 'gharrylaw15.RedoSpans': WHATEVER THE INPUT: true; the input reads as it did. -/
def redoSpansSpec : ChangeSpec := { name := "redoSpans", fn := fun _ => fun
  | [d1, d2] => { results := [.lit (.bool true)], args := [d1, d2] }
  | _ => none }
def redoSpansRow : OpenClaim := { program := "yteoebfiacnploaagreat", sum := "f9f59b3310202f79c6f68ee3f9815c1de098bc8acad39e0ea3fa127bf50a959b", func := "gharry/gharrylaw15.RedoSpans", spec := "redoSpans", inPlace := ["internal/abi.NoEscape", "internal/bytealg.MakeNoZero"], unfollowed := true, recurses := true, apart := false }
def RedoSpansSaid : Prop := redoSpansRow.holds Tryz.pinned (OpenSpec.ofChange redoSpansSpec)

/-- ITS FALSE NEIGHBOUR: 'it returns false'. Refute it at one input. -/
def redoSpansWrong : ChangeSpec := { name := "redoSpans", fn := fun _ => fun
  | [d1, d2] => { results := [.lit (.bool false)], args := [d1, d2] }
  | _ => none }
def RedoSpansWrongFalsely : Prop := redoSpansRow.holds Tryz.pinned (OpenSpec.ofChange redoSpansWrong)

/-- 'gharrylaw15.RedoChecks': WHATEVER THE INPUT: true; the input reads as it did. -/
def redoChecksSpec : ChangeSpec := { name := "redoChecks", fn := fun _ => fun
  | [d1, d2] => { results := [.lit (.bool true)], args := [d1, d2] }
  | _ => none }
def redoChecksRow : OpenClaim := { program := "yteoebfiacnploaagreat", sum := "f9f59b3310202f79c6f68ee3f9815c1de098bc8acad39e0ea3fa127bf50a959b", func := "gharry/gharrylaw15.RedoChecks", spec := "redoChecks", inPlace := ["internal/abi.NoEscape", "internal/bytealg.MakeNoZero"], unfollowed := true, recurses := true, apart := false }
def RedoChecksSaid : Prop := redoChecksRow.holds Tryz.pinned (OpenSpec.ofChange redoChecksSpec)

/-- ITS FALSE NEIGHBOUR: 'it returns false'. Refute it at one input. -/
def redoChecksWrong : ChangeSpec := { name := "redoChecks", fn := fun _ => fun
  | [d1, d2] => { results := [.lit (.bool false)], args := [d1, d2] }
  | _ => none }
def RedoChecksWrongFalsely : Prop := redoChecksRow.holds Tryz.pinned (OpenSpec.ofChange redoChecksWrong)

/-- 'gharrylaw15.RedoTables': WHATEVER THE INPUT: true; the input reads as it did. -/
def redoTablesSpec : ChangeSpec := { name := "redoTables", fn := fun _ => fun
  | [d1, d2] => { results := [.lit (.bool true)], args := [d1, d2] }
  | _ => none }
def redoTablesRow : OpenClaim := { program := "yteoebfiacnploaagreat", sum := "f9f59b3310202f79c6f68ee3f9815c1de098bc8acad39e0ea3fa127bf50a959b", func := "gharry/gharrylaw15.RedoTables", spec := "redoTables", inPlace := ["internal/abi.NoEscape", "internal/bytealg.MakeNoZero"], unfollowed := true, recurses := true, apart := false }
def RedoTablesSaid : Prop := redoTablesRow.holds Tryz.pinned (OpenSpec.ofChange redoTablesSpec)

/-- ITS FALSE NEIGHBOUR: 'it returns false'. Refute it at one input. -/
def redoTablesWrong : ChangeSpec := { name := "redoTables", fn := fun _ => fun
  | [d1, d2] => { results := [.lit (.bool false)], args := [d1, d2] }
  | _ => none }
def RedoTablesWrongFalsely : Prop := redoTablesRow.holds Tryz.pinned (OpenSpec.ofChange redoTablesWrong)

/- THE SECOND FORM. 'bulk': how many values and letters a reading holds, each counted each time it is reached (what is shared counts as often as it is met; a slice's spare places count too). A statement '..UptoSaid' is the law's where the arguments, and the package variables that the reading takes, are together of bulk at most 1048576: NARROWER than '..Said'. Prove '..Said' where nothing that the law and all that it calls make is longer than what came in: it says more and counts as full. Else prove '..UptoSaid'. A law counts once. -/
mutual
def uptoBulk {H : Type} : DataW H → Nat
  | .lit (.string bytes) => bytes.length + 1
  | .lit _ => 1
  | .nil => 1
  | .ptr d => uptoBulk d + 1
  | .slice elems spare => uptoBulkAll elems + uptoBulkAll spare + 1
  | .agg parts => uptoBulkAll parts + 1
  | .iface _ d => uptoBulk d + 1
  | .map entries => uptoBulkEntries entries + 1
  | .held _ => 1
def uptoBulkAll {H : Type} : List (DataW H) → Nat
  | [] => 0
  | d :: r => uptoBulk d + uptoBulkAll r
def uptoBulkEntries {H : Type} : List (Lit × DataW H) → Nat
  | [] => 0
  | x :: r => uptoBulkEntry x + uptoBulkEntries r
def uptoBulkEntry {H : Type} : Lit × DataW H → Nat
  | (.string bytes, d) => bytes.length + uptoBulk d + 1
  | (_, d) => uptoBulk d + 1
 end
def uptoSmall : (H : Type) → List (DataW H) → Bool := fun _ ds => decide (uptoBulkAll ds ≤ 1048576)
def OpenSpec.upto (s : _root_.Go.ChangeSpec) : _root_.Go.OpenSpec := { _root_.Go.OpenSpec.ofChange s with cond := some uptoSmall }

/-- 'gharrylaw15.RedoSpans', WHERE WHAT IT READS IS OF BULK AT MOST 1048576: true; the input reads as it did. -/
def redoSpansUptoRow : OpenClaim := { program := "yteoebfiacnploaagreat", sum := "f9f59b3310202f79c6f68ee3f9815c1de098bc8acad39e0ea3fa127bf50a959b", func := "gharry/gharrylaw15.RedoSpans", spec := "redoSpans", inPlace := ["internal/abi.NoEscape", "internal/bytealg.MakeNoZero"], unfollowed := true, recurses := true, apart := false, narrowed := true }
def RedoSpansUptoSaid : Prop := redoSpansUptoRow.holds Tryz.pinned (OpenSpec.upto redoSpansSpec)

/-- 'gharrylaw15.RedoChecks', WHERE WHAT IT READS IS OF BULK AT MOST 1048576: true; the input reads as it did. -/
def redoChecksUptoRow : OpenClaim := { program := "yteoebfiacnploaagreat", sum := "f9f59b3310202f79c6f68ee3f9815c1de098bc8acad39e0ea3fa127bf50a959b", func := "gharry/gharrylaw15.RedoChecks", spec := "redoChecks", inPlace := ["internal/abi.NoEscape", "internal/bytealg.MakeNoZero"], unfollowed := true, recurses := true, apart := false, narrowed := true }
def RedoChecksUptoSaid : Prop := redoChecksUptoRow.holds Tryz.pinned (OpenSpec.upto redoChecksSpec)

/-- 'gharrylaw15.RedoTables', WHERE WHAT IT READS IS OF BULK AT MOST 1048576: true; the input reads as it did. -/
def redoTablesUptoRow : OpenClaim := { program := "yteoebfiacnploaagreat", sum := "f9f59b3310202f79c6f68ee3f9815c1de098bc8acad39e0ea3fa127bf50a959b", func := "gharry/gharrylaw15.RedoTables", spec := "redoTables", inPlace := ["internal/abi.NoEscape", "internal/bytealg.MakeNoZero"], unfollowed := true, recurses := true, apart := false, narrowed := true }
def RedoTablesUptoSaid : Prop := redoTablesUptoRow.holds Tryz.pinned (OpenSpec.upto redoTablesSpec)

end Rows
end Go.Proofs.YteoebfiacnploaaGreat
