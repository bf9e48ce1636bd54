/-
  NARROWER THAN 'FOR EVERY INPUT', by the rows' own cells (each row's printed sentence says how): SayWords: laid · SayKinds: laid · SayScripts: laid · SayPrints: laid · SayParses: laid · SayBack: laid · SayEvents: laid · SayAlls: laid.
  DERIVED. THE GIVEN ROWS OF THIS SEAT. 8 by the template 'for every input the law returns true; each argument reads behind the call as it read before'; 0 by the template 'total and deterministic' (their statements: YtflbkgpmepfhlaaDoorTotals.lean).
  GIVEN WITH THE SEED: the statements are not yours to turn. If you find one false, say at which input.
  Laid BY PROGRAM, IN A SANDBOX (cutbox-rows.mjs): the forced cells as the released guide's own fill.sh prints them over the translation 0f2fb71bd0a92631… (all of the seat's roots in one cut). By AI agents, Wed Nov 11 2026. No macro, syntax, notation, axiom, sorry.
-/
import Derived.Test.YtflbkgpmepfhlaaDoorChecked
import GoSem.PinnedTables
import GoSem.Claim
import GoSem.ClaimJoined
import GoSem.ClaimMapViews
import Derived.JoinedTies
import Derived.KernelRfl
namespace Go.Proofs.YtflbkgpmepfhlaaDoor
/- THE CELL 'sum', in the pinned program and in every row, IS THE sha256 OF THE DUMP (.gsa) THAT YtflbkgpmepfhlaaDoorProg.lean LOADS. Nothing in Lean hashes anything: it is a label: what it is worth is what the hold of that sum in a sandbox is worth. -/
noncomputable def Tryd.pinned : Pinned := { name := "ytflbkgpmepfhlaadoor", sum := "0f2fb71bd0a92631b9a9afc77d710450d3024890ad8ee3d3b66403113b525b51", checked := Tryd.checked }
namespace Rows
def none {H : Type} : Left H := { results := [], args := [] }

/- WHAT THE LISTED PACKAGE-LEVEL VARIABLES READ AS WHEN THE CALL BEGINS. Each datum BY PROGRAM (the guide's laid-datum.mjs) off the statement by which the dump's own 'gosem.cut.vars' lays the variable. In a bare row this is a premise. The card (YtflbkgpmepfhlaaDoorCards.lean) ties it to the program's text. -/
def laid_unicode_utf8_acceptRanges {H : Type} : DataW H := .agg [.agg [.lit (.int .u8 128), .lit (.int .u8 191)], .agg [.lit (.int .u8 160), .lit (.int .u8 191)], .agg [.lit (.int .u8 128), .lit (.int .u8 159)], .agg [.lit (.int .u8 144), .lit (.int .u8 191)], .agg [.lit (.int .u8 128), .lit (.int .u8 143)], .agg [.lit (.int .u8 0), .lit (.int .u8 0)], .agg [.lit (.int .u8 0), .lit (.int .u8 0)], .agg [.lit (.int .u8 0), .lit (.int .u8 0)], .agg [.lit (.int .u8 0), .lit (.int .u8 0)], .agg [.lit (.int .u8 0), .lit (.int .u8 0)], .agg [.lit (.int .u8 0), .lit (.int .u8 0)], .agg [.lit (.int .u8 0), .lit (.int .u8 0)], .agg [.lit (.int .u8 0), .lit (.int .u8 0)], .agg [.lit (.int .u8 0), .lit (.int .u8 0)], .agg [.lit (.int .u8 0), .lit (.int .u8 0)], .agg [.lit (.int .u8 0), .lit (.int .u8 0)]]
/-- One of Go's own tables, pinned by name: the form's constant. -/
def laid_unicode_utf8_first : DataW Unit := Go.Pinned.utf8First

/-- 'gharrylaw25.SayWords': WHATEVER THE INPUT: true; the input reads as it did. -/
def sayWordsSpec : ChangeSpec := { name := "sayWords", fn := fun _ => fun
  | [d1, d2] => { results := [.lit (.bool true)], args := [d1, d2] }
  | _ => none }
def sayWordsRow : OpenClaim := { program := "ytflbkgpmepfhlaadoor", sum := "0f2fb71bd0a92631b9a9afc77d710450d3024890ad8ee3d3b66403113b525b51", func := "gharry/gharrylaw25.SayWords", spec := "sayWords", inPlace := ["internal/abi.NoEscape", "internal/bytealg.IndexByteString", "internal/bytealg.CountString", "internal/bytealg.IndexString"], named := ["unicode/utf8.first", "unicode/utf8.acceptRanges", "internal/bytealg.MaxLen"], apart := false, laid := [("unicode/utf8.acceptRanges", laid_unicode_utf8_acceptRanges), ("unicode/utf8.first", laid_unicode_utf8_first)] }
def SayWordsSaid : Prop := sayWordsRow.holds Tryd.pinned (OpenSpec.ofChange sayWordsSpec)

/-- ITS FALSE NEIGHBOUR: 'it returns false'. Refute it at one input. -/
def sayWordsWrong : ChangeSpec := { name := "sayWords", fn := fun _ => fun
  | [d1, d2] => { results := [.lit (.bool false)], args := [d1, d2] }
  | _ => none }
def SayWordsWrongFalsely : Prop := sayWordsRow.holds Tryd.pinned (OpenSpec.ofChange sayWordsWrong)

/-- 'gharrylaw25.SayKinds': WHATEVER THE INPUT: true; the input reads as it did. -/
def sayKindsSpec : ChangeSpec := { name := "sayKinds", fn := fun _ => fun
  | [d1, d2] => { results := [.lit (.bool true)], args := [d1, d2] }
  | _ => none }
def sayKindsRow : OpenClaim := { program := "ytflbkgpmepfhlaadoor", sum := "0f2fb71bd0a92631b9a9afc77d710450d3024890ad8ee3d3b66403113b525b51", func := "gharry/gharrylaw25.SayKinds", spec := "sayKinds", inPlace := ["internal/bytealg.CountString", "internal/bytealg.IndexByteString", "internal/bytealg.IndexString", "internal/abi.NoEscape"], named := ["unicode/utf8.first", "unicode/utf8.acceptRanges", "internal/bytealg.MaxLen"], apart := false, laid := [("unicode/utf8.acceptRanges", laid_unicode_utf8_acceptRanges), ("unicode/utf8.first", laid_unicode_utf8_first)] }
def SayKindsSaid : Prop := sayKindsRow.holds Tryd.pinned (OpenSpec.ofChange sayKindsSpec)

/-- ITS FALSE NEIGHBOUR: 'it returns false'. Refute it at one input. -/
def sayKindsWrong : ChangeSpec := { name := "sayKinds", fn := fun _ => fun
  | [d1, d2] => { results := [.lit (.bool false)], args := [d1, d2] }
  | _ => none }
def SayKindsWrongFalsely : Prop := sayKindsRow.holds Tryd.pinned (OpenSpec.ofChange sayKindsWrong)

/-- 'gharrylaw25.SayScripts': WHATEVER THE INPUT: true; the input reads as it did. -/
def sayScriptsSpec : ChangeSpec := { name := "sayScripts", fn := fun _ => fun
  | [d] => { results := [.lit (.bool true)], args := [d] }
  | _ => none }
def sayScriptsRow : OpenClaim := { program := "ytflbkgpmepfhlaadoor", sum := "0f2fb71bd0a92631b9a9afc77d710450d3024890ad8ee3d3b66403113b525b51", func := "gharry/gharrylaw25.SayScripts", spec := "sayScripts", inPlace := ["internal/bytealg.CountString", "internal/bytealg.IndexByteString", "internal/bytealg.IndexString", "internal/abi.NoEscape"], named := ["unicode/utf8.first", "unicode/utf8.acceptRanges", "internal/bytealg.MaxLen"], apart := false, laid := [("unicode/utf8.acceptRanges", laid_unicode_utf8_acceptRanges), ("unicode/utf8.first", laid_unicode_utf8_first)] }
def SayScriptsSaid : Prop := sayScriptsRow.holds Tryd.pinned (OpenSpec.ofChange sayScriptsSpec)

/-- ITS FALSE NEIGHBOUR: 'it returns false'. Refute it at one input. -/
def sayScriptsWrong : ChangeSpec := { name := "sayScripts", fn := fun _ => fun
  | [d] => { results := [.lit (.bool false)], args := [d] }
  | _ => none }
def SayScriptsWrongFalsely : Prop := sayScriptsRow.holds Tryd.pinned (OpenSpec.ofChange sayScriptsWrong)

/-- 'gharrylaw25.SayPrints': WHATEVER THE INPUT: true; the input reads as it did. -/
def sayPrintsSpec : ChangeSpec := { name := "sayPrints", fn := fun _ => fun
  | [d] => { results := [.lit (.bool true)], args := [d] }
  | _ => none }
def sayPrintsRow : OpenClaim := { program := "ytflbkgpmepfhlaadoor", sum := "0f2fb71bd0a92631b9a9afc77d710450d3024890ad8ee3d3b66403113b525b51", func := "gharry/gharrylaw25.SayPrints", spec := "sayPrints", inPlace := ["internal/abi.NoEscape", "internal/bytealg.CountString", "internal/bytealg.IndexByteString", "internal/bytealg.IndexString"], named := ["unicode/utf8.first", "unicode/utf8.acceptRanges", "internal/bytealg.MaxLen"], apart := false, laid := [("unicode/utf8.acceptRanges", laid_unicode_utf8_acceptRanges), ("unicode/utf8.first", laid_unicode_utf8_first)] }
def SayPrintsSaid : Prop := sayPrintsRow.holds Tryd.pinned (OpenSpec.ofChange sayPrintsSpec)

/-- ITS FALSE NEIGHBOUR: 'it returns false'. Refute it at one input. -/
def sayPrintsWrong : ChangeSpec := { name := "sayPrints", fn := fun _ => fun
  | [d] => { results := [.lit (.bool false)], args := [d] }
  | _ => none }
def SayPrintsWrongFalsely : Prop := sayPrintsRow.holds Tryd.pinned (OpenSpec.ofChange sayPrintsWrong)

/-- 'gharrylaw25.SayParses': WHATEVER THE INPUT: true; the input reads as it did. -/
def sayParsesSpec : ChangeSpec := { name := "sayParses", fn := fun _ => fun
  | [d] => { results := [.lit (.bool true)], args := [d] }
  | _ => none }
def sayParsesRow : OpenClaim := { program := "ytflbkgpmepfhlaadoor", sum := "0f2fb71bd0a92631b9a9afc77d710450d3024890ad8ee3d3b66403113b525b51", func := "gharry/gharrylaw25.SayParses", spec := "sayParses", inPlace := ["internal/bytealg.CountString", "internal/bytealg.IndexByteString", "internal/bytealg.IndexString", "internal/abi.NoEscape"], named := ["unicode/utf8.first", "unicode/utf8.acceptRanges", "internal/bytealg.MaxLen"], apart := false, laid := [("unicode/utf8.acceptRanges", laid_unicode_utf8_acceptRanges), ("unicode/utf8.first", laid_unicode_utf8_first)] }
def SayParsesSaid : Prop := sayParsesRow.holds Tryd.pinned (OpenSpec.ofChange sayParsesSpec)

/-- ITS FALSE NEIGHBOUR: 'it returns false'. Refute it at one input. -/
def sayParsesWrong : ChangeSpec := { name := "sayParses", fn := fun _ => fun
  | [d] => { results := [.lit (.bool false)], args := [d] }
  | _ => none }
def SayParsesWrongFalsely : Prop := sayParsesRow.holds Tryd.pinned (OpenSpec.ofChange sayParsesWrong)

/-- 'gharrylaw25.SayBack': WHATEVER THE INPUT: true; the input reads as it did. -/
def sayBackSpec : ChangeSpec := { name := "sayBack", fn := fun _ => fun
  | [d] => { results := [.lit (.bool true)], args := [d] }
  | _ => none }
def sayBackRow : OpenClaim := { program := "ytflbkgpmepfhlaadoor", sum := "0f2fb71bd0a92631b9a9afc77d710450d3024890ad8ee3d3b66403113b525b51", func := "gharry/gharrylaw25.SayBack", spec := "sayBack", inPlace := ["internal/abi.NoEscape", "internal/bytealg.CountString", "internal/bytealg.IndexByteString", "internal/bytealg.IndexString"], named := ["unicode/utf8.first", "unicode/utf8.acceptRanges", "internal/bytealg.MaxLen"], apart := false, laid := [("unicode/utf8.acceptRanges", laid_unicode_utf8_acceptRanges), ("unicode/utf8.first", laid_unicode_utf8_first)] }
def SayBackSaid : Prop := sayBackRow.holds Tryd.pinned (OpenSpec.ofChange sayBackSpec)

/-- ITS FALSE NEIGHBOUR: 'it returns false'. Refute it at one input. -/
def sayBackWrong : ChangeSpec := { name := "sayBack", fn := fun _ => fun
  | [d] => { results := [.lit (.bool false)], args := [d] }
  | _ => none }
def SayBackWrongFalsely : Prop := sayBackRow.holds Tryd.pinned (OpenSpec.ofChange sayBackWrong)

/-- 'gharrylaw25.SayEvents': WHATEVER THE INPUT: true; the input reads as it did. -/
def sayEventsSpec : ChangeSpec := { name := "sayEvents", fn := fun _ => fun
  | [d] => { results := [.lit (.bool true)], args := [d] }
  | _ => none }
def sayEventsRow : OpenClaim := { program := "ytflbkgpmepfhlaadoor", sum := "0f2fb71bd0a92631b9a9afc77d710450d3024890ad8ee3d3b66403113b525b51", func := "gharry/gharrylaw25.SayEvents", spec := "sayEvents", inPlace := ["internal/bytealg.CountString", "internal/bytealg.IndexByteString", "internal/bytealg.IndexString", "internal/abi.NoEscape", "internal/bytealg.MakeNoZero"], named := ["unicode/utf8.first", "unicode/utf8.acceptRanges", "internal/bytealg.MaxLen"], apart := false, laid := [("unicode/utf8.acceptRanges", laid_unicode_utf8_acceptRanges), ("unicode/utf8.first", laid_unicode_utf8_first)] }
def SayEventsSaid : Prop := sayEventsRow.holds Tryd.pinned (OpenSpec.ofChange sayEventsSpec)

/-- ITS FALSE NEIGHBOUR: 'it returns false'. Refute it at one input. -/
def sayEventsWrong : ChangeSpec := { name := "sayEvents", fn := fun _ => fun
  | [d] => { results := [.lit (.bool false)], args := [d] }
  | _ => none }
def SayEventsWrongFalsely : Prop := sayEventsRow.holds Tryd.pinned (OpenSpec.ofChange sayEventsWrong)

/-- 'gharrylaw25.SayAlls': WHATEVER THE INPUT: true; the input reads as it did. -/
def sayAllsSpec : ChangeSpec := { name := "sayAlls", fn := fun _ => fun
  | [d] => { results := [.lit (.bool true)], args := [d] }
  | _ => none }
def sayAllsRow : OpenClaim := { program := "ytflbkgpmepfhlaadoor", sum := "0f2fb71bd0a92631b9a9afc77d710450d3024890ad8ee3d3b66403113b525b51", func := "gharry/gharrylaw25.SayAlls", spec := "sayAlls", inPlace := ["internal/abi.NoEscape", "internal/bytealg.CountString", "internal/bytealg.IndexByteString", "internal/bytealg.IndexString"], named := ["unicode/utf8.first", "unicode/utf8.acceptRanges", "internal/bytealg.MaxLen"], apart := false, laid := [("unicode/utf8.acceptRanges", laid_unicode_utf8_acceptRanges), ("unicode/utf8.first", laid_unicode_utf8_first)] }
def SayAllsSaid : Prop := sayAllsRow.holds Tryd.pinned (OpenSpec.ofChange sayAllsSpec)

/-- ITS FALSE NEIGHBOUR: 'it returns false'. Refute it at one input. -/
def sayAllsWrong : ChangeSpec := { name := "sayAlls", fn := fun _ => fun
  | [d] => { results := [.lit (.bool false)], args := [d] }
  | _ => none }
def SayAllsWrongFalsely : Prop := sayAllsRow.holds Tryd.pinned (OpenSpec.ofChange sayAllsWrong)

/- THE SECOND FORM. 'bulk': how many values and letters a reading holds, each counted each time it is reached (what is shared counts as often as it is met; a slice's spare places count too). A statement '..UptoSaid' is the law's where the arguments, and the package variables that the reading takes, are together of bulk at most 1048576: NARROWER than '..Said'. Prove '..Said' where nothing that the law and all that it calls make is longer than what came in: it says more and counts as full. Else prove '..UptoSaid'. A law counts once. -/
mutual
def uptoBulk {H : Type} : DataW H → Nat
  | .lit (.string bytes) => bytes.length + 1
  | .lit _ => 1
  | .nil => 1
  | .ptr d => uptoBulk d + 1
  | .slice elems spare => uptoBulkAll elems + uptoBulkAll spare + 1
  | .agg parts => uptoBulkAll parts + 1
  | .iface _ d => uptoBulk d + 1
  | .map entries => uptoBulkEntries entries + 1
  | .held _ => 1
def uptoBulkAll {H : Type} : List (DataW H) → Nat
  | [] => 0
  | d :: r => uptoBulk d + uptoBulkAll r
def uptoBulkEntries {H : Type} : List (Lit × DataW H) → Nat
  | [] => 0
  | x :: r => uptoBulkEntry x + uptoBulkEntries r
def uptoBulkEntry {H : Type} : Lit × DataW H → Nat
  | (.string bytes, d) => bytes.length + uptoBulk d + 1
  | (_, d) => uptoBulk d + 1
 end
def uptoSmall : (H : Type) → List (DataW H) → Bool := fun _ ds => decide (uptoBulkAll ds ≤ 1048576)
def OpenSpec.upto (s : _root_.Go.ChangeSpec) : _root_.Go.OpenSpec := { _root_.Go.OpenSpec.ofChange s with cond := some uptoSmall }

/-- 'gharrylaw25.SayWords', WHERE WHAT IT READS IS OF BULK AT MOST 1048576: true; the input reads as it did. -/
def sayWordsUptoRow : OpenClaim := { program := "ytflbkgpmepfhlaadoor", sum := "0f2fb71bd0a92631b9a9afc77d710450d3024890ad8ee3d3b66403113b525b51", func := "gharry/gharrylaw25.SayWords", spec := "sayWords", inPlace := ["internal/abi.NoEscape", "internal/bytealg.IndexByteString", "internal/bytealg.CountString", "internal/bytealg.IndexString"], named := ["unicode/utf8.first", "unicode/utf8.acceptRanges", "internal/bytealg.MaxLen"], apart := false, laid := [("unicode/utf8.acceptRanges", laid_unicode_utf8_acceptRanges), ("unicode/utf8.first", laid_unicode_utf8_first)], narrowed := true }
def SayWordsUptoSaid : Prop := sayWordsUptoRow.holds Tryd.pinned (OpenSpec.upto sayWordsSpec)

/-- 'gharrylaw25.SayKinds', WHERE WHAT IT READS IS OF BULK AT MOST 1048576: true; the input reads as it did. -/
def sayKindsUptoRow : OpenClaim := { program := "ytflbkgpmepfhlaadoor", sum := "0f2fb71bd0a92631b9a9afc77d710450d3024890ad8ee3d3b66403113b525b51", func := "gharry/gharrylaw25.SayKinds", spec := "sayKinds", inPlace := ["internal/bytealg.CountString", "internal/bytealg.IndexByteString", "internal/bytealg.IndexString", "internal/abi.NoEscape"], named := ["unicode/utf8.first", "unicode/utf8.acceptRanges", "internal/bytealg.MaxLen"], apart := false, laid := [("unicode/utf8.acceptRanges", laid_unicode_utf8_acceptRanges), ("unicode/utf8.first", laid_unicode_utf8_first)], narrowed := true }
def SayKindsUptoSaid : Prop := sayKindsUptoRow.holds Tryd.pinned (OpenSpec.upto sayKindsSpec)

/-- 'gharrylaw25.SayScripts', WHERE WHAT IT READS IS OF BULK AT MOST 1048576: true; the input reads as it did. -/
def sayScriptsUptoRow : OpenClaim := { program := "ytflbkgpmepfhlaadoor", sum := "0f2fb71bd0a92631b9a9afc77d710450d3024890ad8ee3d3b66403113b525b51", func := "gharry/gharrylaw25.SayScripts", spec := "sayScripts", inPlace := ["internal/bytealg.CountString", "internal/bytealg.IndexByteString", "internal/bytealg.IndexString", "internal/abi.NoEscape"], named := ["unicode/utf8.first", "unicode/utf8.acceptRanges", "internal/bytealg.MaxLen"], apart := false, laid := [("unicode/utf8.acceptRanges", laid_unicode_utf8_acceptRanges), ("unicode/utf8.first", laid_unicode_utf8_first)], narrowed := true }
def SayScriptsUptoSaid : Prop := sayScriptsUptoRow.holds Tryd.pinned (OpenSpec.upto sayScriptsSpec)

/-- 'gharrylaw25.SayPrints', WHERE WHAT IT READS IS OF BULK AT MOST 1048576: true; the input reads as it did. -/
def sayPrintsUptoRow : OpenClaim := { program := "ytflbkgpmepfhlaadoor", sum := "0f2fb71bd0a92631b9a9afc77d710450d3024890ad8ee3d3b66403113b525b51", func := "gharry/gharrylaw25.SayPrints", spec := "sayPrints", inPlace := ["internal/abi.NoEscape", "internal/bytealg.CountString", "internal/bytealg.IndexByteString", "internal/bytealg.IndexString"], named := ["unicode/utf8.first", "unicode/utf8.acceptRanges", "internal/bytealg.MaxLen"], apart := false, laid := [("unicode/utf8.acceptRanges", laid_unicode_utf8_acceptRanges), ("unicode/utf8.first", laid_unicode_utf8_first)], narrowed := true }
def SayPrintsUptoSaid : Prop := sayPrintsUptoRow.holds Tryd.pinned (OpenSpec.upto sayPrintsSpec)

/-- 'gharrylaw25.SayParses', WHERE WHAT IT READS IS OF BULK AT MOST 1048576: true; the input reads as it did. -/
def sayParsesUptoRow : OpenClaim := { program := "ytflbkgpmepfhlaadoor", sum := "0f2fb71bd0a92631b9a9afc77d710450d3024890ad8ee3d3b66403113b525b51", func := "gharry/gharrylaw25.SayParses", spec := "sayParses", inPlace := ["internal/bytealg.CountString", "internal/bytealg.IndexByteString", "internal/bytealg.IndexString", "internal/abi.NoEscape"], named := ["unicode/utf8.first", "unicode/utf8.acceptRanges", "internal/bytealg.MaxLen"], apart := false, laid := [("unicode/utf8.acceptRanges", laid_unicode_utf8_acceptRanges), ("unicode/utf8.first", laid_unicode_utf8_first)], narrowed := true }
def SayParsesUptoSaid : Prop := sayParsesUptoRow.holds Tryd.pinned (OpenSpec.upto sayParsesSpec)

/-- 'gharrylaw25.SayBack', WHERE WHAT IT READS IS OF BULK AT MOST 1048576: true; the input reads as it did. -/
def sayBackUptoRow : OpenClaim := { program := "ytflbkgpmepfhlaadoor", sum := "0f2fb71bd0a92631b9a9afc77d710450d3024890ad8ee3d3b66403113b525b51", func := "gharry/gharrylaw25.SayBack", spec := "sayBack", inPlace := ["internal/abi.NoEscape", "internal/bytealg.CountString", "internal/bytealg.IndexByteString", "internal/bytealg.IndexString"], named := ["unicode/utf8.first", "unicode/utf8.acceptRanges", "internal/bytealg.MaxLen"], apart := false, laid := [("unicode/utf8.acceptRanges", laid_unicode_utf8_acceptRanges), ("unicode/utf8.first", laid_unicode_utf8_first)], narrowed := true }
def SayBackUptoSaid : Prop := sayBackUptoRow.holds Tryd.pinned (OpenSpec.upto sayBackSpec)

/-- 'gharrylaw25.SayEvents', WHERE WHAT IT READS IS OF BULK AT MOST 1048576: true; the input reads as it did. -/
def sayEventsUptoRow : OpenClaim := { program := "ytflbkgpmepfhlaadoor", sum := "0f2fb71bd0a92631b9a9afc77d710450d3024890ad8ee3d3b66403113b525b51", func := "gharry/gharrylaw25.SayEvents", spec := "sayEvents", inPlace := ["internal/bytealg.CountString", "internal/bytealg.IndexByteString", "internal/bytealg.IndexString", "internal/abi.NoEscape", "internal/bytealg.MakeNoZero"], named := ["unicode/utf8.first", "unicode/utf8.acceptRanges", "internal/bytealg.MaxLen"], apart := false, laid := [("unicode/utf8.acceptRanges", laid_unicode_utf8_acceptRanges), ("unicode/utf8.first", laid_unicode_utf8_first)], narrowed := true }
def SayEventsUptoSaid : Prop := sayEventsUptoRow.holds Tryd.pinned (OpenSpec.upto sayEventsSpec)

/-- 'gharrylaw25.SayAlls', WHERE WHAT IT READS IS OF BULK AT MOST 1048576: true; the input reads as it did. -/
def sayAllsUptoRow : OpenClaim := { program := "ytflbkgpmepfhlaadoor", sum := "0f2fb71bd0a92631b9a9afc77d710450d3024890ad8ee3d3b66403113b525b51", func := "gharry/gharrylaw25.SayAlls", spec := "sayAlls", inPlace := ["internal/abi.NoEscape", "internal/bytealg.CountString", "internal/bytealg.IndexByteString", "internal/bytealg.IndexString"], named := ["unicode/utf8.first", "unicode/utf8.acceptRanges", "internal/bytealg.MaxLen"], apart := false, laid := [("unicode/utf8.acceptRanges", laid_unicode_utf8_acceptRanges), ("unicode/utf8.first", laid_unicode_utf8_first)], narrowed := true }
def SayAllsUptoSaid : Prop := sayAllsUptoRow.holds Tryd.pinned (OpenSpec.upto sayAllsSpec)

end Rows
end Go.Proofs.YtflbkgpmepfhlaaDoor
