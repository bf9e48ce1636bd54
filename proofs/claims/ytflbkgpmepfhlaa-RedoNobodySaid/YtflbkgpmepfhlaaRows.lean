/-
  No cell of these rows narrows 'for every input' (looked for: loops, veiled, ifaces, maps, wideKeys, modest, calm, conditions, laid).
  DERIVED. THE GIVEN ROWS OF THIS SEAT. 4 by the template 'for every input the law returns true; each argument reads behind the call as it read before'; 0 by the template 'total and deterministic' (their statements: YtflbkgpmepfhlaaTotals.lean).
  GIVEN WITH THE SEED: the statements are not yours to turn. If you find one false, say at which input.
  Laid BY PROGRAM, IN A SANDBOX (cutbox-rows.mjs): the forced cells as the released guide's own fill.sh prints them over the translation c95150b102c6903c… (all of the seat's roots in one cut). By AI agents, Wed Nov 11 2026. No macro, syntax, notation, axiom, sorry.
-/
import Derived.Test.YtflbkgpmepfhlaaChecked
import GoSem.Claim
import GoSem.ClaimJoined
import GoSem.ClaimMapViews
import Derived.JoinedTies
import Derived.KernelRfl
namespace Go.Proofs.Ytflbkgpmepfhlaa
/- THE CELL 'sum', in the pinned program and in every row, IS THE sha256 OF THE DUMP (.gsa) THAT YtflbkgpmepfhlaaProg.lean LOADS. Nothing in Lean hashes anything: it is a label: what it is worth is what the hold of that sum in a sandbox is worth. -/
noncomputable def Try.pinned : Pinned := { name := "ytflbkgpmepfhlaa", sum := "c95150b102c6903ca06a10783568d08b02d706cca7f95bff757f37c1cd18dcc4", checked := Try.checked }
namespace Rows
def none {H : Type} : Left H := { results := [], args := [] }

/-- 'gharrylaw15.RedoParts': WHATEVER THE INPUT: true; the input reads as it did. -/
def redoPartsSpec : ChangeSpec := { name := "redoParts", fn := fun _ => fun
  | [d1, d2, d3] => { results := [.lit (.bool true)], args := [d1, d2, d3] }
  | _ => none }
def redoPartsRow : OpenClaim := { program := "ytflbkgpmepfhlaa", sum := "c95150b102c6903ca06a10783568d08b02d706cca7f95bff757f37c1cd18dcc4", func := "gharry/gharrylaw15.RedoParts", spec := "redoParts", apart := false }
def RedoPartsSaid : Prop := redoPartsRow.holds Try.pinned (OpenSpec.ofChange redoPartsSpec)

/-- ITS FALSE NEIGHBOUR: 'it returns false'. Refute it at one input. -/
def redoPartsWrong : ChangeSpec := { name := "redoParts", fn := fun _ => fun
  | [d1, d2, d3] => { results := [.lit (.bool false)], args := [d1, d2, d3] }
  | _ => none }
def RedoPartsWrongFalsely : Prop := redoPartsRow.holds Try.pinned (OpenSpec.ofChange redoPartsWrong)

/-- 'gharrylaw15.RedoKeeps': WHATEVER THE INPUT: true; the input reads as it did. -/
def redoKeepsSpec : ChangeSpec := { name := "redoKeeps", fn := fun _ => fun
  | [d1, d2, d3, d4] => { results := [.lit (.bool true)], args := [d1, d2, d3, d4] }
  | _ => none }
def redoKeepsRow : OpenClaim := { program := "ytflbkgpmepfhlaa", sum := "c95150b102c6903ca06a10783568d08b02d706cca7f95bff757f37c1cd18dcc4", func := "gharry/gharrylaw15.RedoKeeps", spec := "redoKeeps", apart := false }
def RedoKeepsSaid : Prop := redoKeepsRow.holds Try.pinned (OpenSpec.ofChange redoKeepsSpec)

/-- ITS FALSE NEIGHBOUR: 'it returns false'. Refute it at one input. -/
def redoKeepsWrong : ChangeSpec := { name := "redoKeeps", fn := fun _ => fun
  | [d1, d2, d3, d4] => { results := [.lit (.bool false)], args := [d1, d2, d3, d4] }
  | _ => none }
def RedoKeepsWrongFalsely : Prop := redoKeepsRow.holds Try.pinned (OpenSpec.ofChange redoKeepsWrong)

/-- 'gharrylaw15.RedoMeets': WHATEVER THE INPUT: true; the input reads as it did. -/
def redoMeetsSpec : ChangeSpec := { name := "redoMeets", fn := fun _ => fun
  | [d1, d2, d3, d4] => { results := [.lit (.bool true)], args := [d1, d2, d3, d4] }
  | _ => none }
def redoMeetsRow : OpenClaim := { program := "ytflbkgpmepfhlaa", sum := "c95150b102c6903ca06a10783568d08b02d706cca7f95bff757f37c1cd18dcc4", func := "gharry/gharrylaw15.RedoMeets", spec := "redoMeets", apart := false }
def RedoMeetsSaid : Prop := redoMeetsRow.holds Try.pinned (OpenSpec.ofChange redoMeetsSpec)

/-- ITS FALSE NEIGHBOUR: 'it returns false'. Refute it at one input. -/
def redoMeetsWrong : ChangeSpec := { name := "redoMeets", fn := fun _ => fun
  | [d1, d2, d3, d4] => { results := [.lit (.bool false)], args := [d1, d2, d3, d4] }
  | _ => none }
def RedoMeetsWrongFalsely : Prop := redoMeetsRow.holds Try.pinned (OpenSpec.ofChange redoMeetsWrong)

/-- 'gharrylaw15.RedoNobody': WHATEVER THE INPUT: true; the input reads as it did. -/
def redoNobodySpec : ChangeSpec := { name := "redoNobody", fn := fun _ => fun
  | [d] => { results := [.lit (.bool true)], args := [d] }
  | _ => none }
def redoNobodyRow : OpenClaim := { program := "ytflbkgpmepfhlaa", sum := "c95150b102c6903ca06a10783568d08b02d706cca7f95bff757f37c1cd18dcc4", func := "gharry/gharrylaw15.RedoNobody", spec := "redoNobody", unfollowed := true, recurses := true, apart := false }
def RedoNobodySaid : Prop := redoNobodyRow.holds Try.pinned (OpenSpec.ofChange redoNobodySpec)

/-- ITS FALSE NEIGHBOUR: 'it returns false'. Refute it at one input. -/
def redoNobodyWrong : ChangeSpec := { name := "redoNobody", fn := fun _ => fun
  | [d] => { results := [.lit (.bool false)], args := [d] }
  | _ => none }
def RedoNobodyWrongFalsely : Prop := redoNobodyRow.holds Try.pinned (OpenSpec.ofChange redoNobodyWrong)

/- THE SECOND FORM. 'bulk': how many values and letters a reading holds, each counted each time it is reached (what is shared counts as often as it is met; a slice's spare places count too). A statement '..UptoSaid' is the law's where the arguments, and the package variables that the reading takes, are together of bulk at most 1048576: NARROWER than '..Said'. Prove '..Said' where nothing that the law and all that it calls make is longer than what came in: it says more and counts as full. Else prove '..UptoSaid'. A law counts once. -/
mutual
def uptoBulk {H : Type} : DataW H → Nat
  | .lit (.string bytes) => bytes.length + 1
  | .lit _ => 1
  | .nil => 1
  | .ptr d => uptoBulk d + 1
  | .slice elems spare => uptoBulkAll elems + uptoBulkAll spare + 1
  | .agg parts => uptoBulkAll parts + 1
  | .iface _ d => uptoBulk d + 1
  | .map entries => uptoBulkEntries entries + 1
  | .held _ => 1
def uptoBulkAll {H : Type} : List (DataW H) → Nat
  | [] => 0
  | d :: r => uptoBulk d + uptoBulkAll r
def uptoBulkEntries {H : Type} : List (Lit × DataW H) → Nat
  | [] => 0
  | x :: r => uptoBulkEntry x + uptoBulkEntries r
def uptoBulkEntry {H : Type} : Lit × DataW H → Nat
  | (.string bytes, d) => bytes.length + uptoBulk d + 1
  | (_, d) => uptoBulk d + 1
 end
def uptoSmall : (H : Type) → List (DataW H) → Bool := fun _ ds => decide (uptoBulkAll ds ≤ 1048576)
def OpenSpec.upto (s : _root_.Go.ChangeSpec) : _root_.Go.OpenSpec := { _root_.Go.OpenSpec.ofChange s with cond := some uptoSmall }

/-- 'gharrylaw15.RedoParts', WHERE WHAT IT READS IS OF BULK AT MOST 1048576: true; the input reads as it did. -/
def redoPartsUptoRow : OpenClaim := { program := "ytflbkgpmepfhlaa", sum := "c95150b102c6903ca06a10783568d08b02d706cca7f95bff757f37c1cd18dcc4", func := "gharry/gharrylaw15.RedoParts", spec := "redoParts", apart := false, narrowed := true }
def RedoPartsUptoSaid : Prop := redoPartsUptoRow.holds Try.pinned (OpenSpec.upto redoPartsSpec)

/-- 'gharrylaw15.RedoKeeps', WHERE WHAT IT READS IS OF BULK AT MOST 1048576: true; the input reads as it did. -/
def redoKeepsUptoRow : OpenClaim := { program := "ytflbkgpmepfhlaa", sum := "c95150b102c6903ca06a10783568d08b02d706cca7f95bff757f37c1cd18dcc4", func := "gharry/gharrylaw15.RedoKeeps", spec := "redoKeeps", apart := false, narrowed := true }
def RedoKeepsUptoSaid : Prop := redoKeepsUptoRow.holds Try.pinned (OpenSpec.upto redoKeepsSpec)

/-- 'gharrylaw15.RedoMeets', WHERE WHAT IT READS IS OF BULK AT MOST 1048576: true; the input reads as it did. -/
def redoMeetsUptoRow : OpenClaim := { program := "ytflbkgpmepfhlaa", sum := "c95150b102c6903ca06a10783568d08b02d706cca7f95bff757f37c1cd18dcc4", func := "gharry/gharrylaw15.RedoMeets", spec := "redoMeets", apart := false, narrowed := true }
def RedoMeetsUptoSaid : Prop := redoMeetsUptoRow.holds Try.pinned (OpenSpec.upto redoMeetsSpec)

/-- 'gharrylaw15.RedoNobody', WHERE WHAT IT READS IS OF BULK AT MOST 1048576: true; the input reads as it did. -/
def redoNobodyUptoRow : OpenClaim := { program := "ytflbkgpmepfhlaa", sum := "c95150b102c6903ca06a10783568d08b02d706cca7f95bff757f37c1cd18dcc4", func := "gharry/gharrylaw15.RedoNobody", spec := "redoNobody", unfollowed := true, recurses := true, apart := false, narrowed := true }
def RedoNobodyUptoSaid : Prop := redoNobodyUptoRow.holds Try.pinned (OpenSpec.upto redoNobodySpec)

end Rows
end Go.Proofs.Ytflbkgpmepfhlaa
