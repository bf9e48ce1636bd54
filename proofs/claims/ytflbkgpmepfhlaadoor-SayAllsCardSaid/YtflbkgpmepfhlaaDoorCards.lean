/-
  DERIVED. GIVEN WITH THE SEED: THE CARDS: each row of YtflbkgpmepfhlaaDoorRows.lean that lists a variable, with what it lists TIED to the program's text (the seventh form; the later family's looks); each row that meets fmt, with fmt's text TOLD by the authors' own Lean function (tested against real Go, not proved from fmt's source: count such statements apart). THE CARD IS WHAT COUNTS. Prove the row's statement (the work); the ties are given (YtflbkgpmepfhlaaDoorTie.lean); close each card by the builder's one call (the guide's Derived/Test/ToyasCard.lean, 'card_holds'). Laid BY PROGRAM, IN A SANDBOX (cutbox-door.mjs). By AI agents, Wed Nov 11 2026. No macro, syntax, notation, axiom, sorry.
-/
import Derived.Test.YtflbkgpmepfhlaaDoorRows
import GoSem.ClaimSeven
namespace Go.Proofs.YtflbkgpmepfhlaaDoor
namespace Rows

/-- THE TIED CARD OF 'gharrylaw25.SayWords'. -/
def sayWordsCard : Claim7 := { stood := { row := sayWordsRow, standIns := [], harness := (true, "dbd304d004ee224ca157b5e7736723850c4d3c543e41efb70b4de25c92c2f118"), looks := false }, kinds := [], alts := [], laidByText := true, laidKinds := [.data, .pinned], laidTests := true, laidLooks := .later }
def SayWordsCardSaid : Prop := Claim7.holds Tryd.pinned (.plain (OpenSpec.ofChange sayWordsSpec)) sayWordsCard

/-- THE TIED CARD OF 'gharrylaw25.SayKinds'. -/
def sayKindsCard : Claim7 := { stood := { row := sayKindsRow, standIns := [], harness := (true, "dbd304d004ee224ca157b5e7736723850c4d3c543e41efb70b4de25c92c2f118"), looks := false }, kinds := [], alts := [], laidByText := true, laidKinds := [.data, .pinned], laidTests := true, laidLooks := .later }
def SayKindsCardSaid : Prop := Claim7.holds Tryd.pinned (.plain (OpenSpec.ofChange sayKindsSpec)) sayKindsCard

/-- THE TIED CARD OF 'gharrylaw25.SayScripts'. -/
def sayScriptsCard : Claim7 := { stood := { row := sayScriptsRow, standIns := [], harness := (true, "dbd304d004ee224ca157b5e7736723850c4d3c543e41efb70b4de25c92c2f118"), looks := false }, kinds := [], alts := [], laidByText := true, laidKinds := [.data, .pinned], laidTests := true, laidLooks := .later }
def SayScriptsCardSaid : Prop := Claim7.holds Tryd.pinned (.plain (OpenSpec.ofChange sayScriptsSpec)) sayScriptsCard

/-- THE TIED CARD OF 'gharrylaw25.SayPrints'. -/
def sayPrintsCard : Claim7 := { stood := { row := sayPrintsRow, standIns := [], harness := (true, "dbd304d004ee224ca157b5e7736723850c4d3c543e41efb70b4de25c92c2f118"), looks := false }, kinds := [], alts := [], laidByText := true, laidKinds := [.data, .pinned], laidTests := true, laidLooks := .later }
def SayPrintsCardSaid : Prop := Claim7.holds Tryd.pinned (.plain (OpenSpec.ofChange sayPrintsSpec)) sayPrintsCard

/-- THE TIED CARD OF 'gharrylaw25.SayParses'. -/
def sayParsesCard : Claim7 := { stood := { row := sayParsesRow, standIns := [], harness := (true, "dbd304d004ee224ca157b5e7736723850c4d3c543e41efb70b4de25c92c2f118"), looks := false }, kinds := [], alts := [], laidByText := true, laidKinds := [.data, .pinned], laidTests := true, laidLooks := .later }
def SayParsesCardSaid : Prop := Claim7.holds Tryd.pinned (.plain (OpenSpec.ofChange sayParsesSpec)) sayParsesCard

/-- THE TIED CARD OF 'gharrylaw25.SayBack'. -/
def sayBackCard : Claim7 := { stood := { row := sayBackRow, standIns := [], harness := (true, "dbd304d004ee224ca157b5e7736723850c4d3c543e41efb70b4de25c92c2f118"), looks := false }, kinds := [], alts := [], laidByText := true, laidKinds := [.data, .pinned], laidTests := true, laidLooks := .later }
def SayBackCardSaid : Prop := Claim7.holds Tryd.pinned (.plain (OpenSpec.ofChange sayBackSpec)) sayBackCard

/-- THE TIED CARD OF 'gharrylaw25.SayEvents'. -/
def sayEventsCard : Claim7 := { stood := { row := sayEventsRow, standIns := [], harness := (true, "dbd304d004ee224ca157b5e7736723850c4d3c543e41efb70b4de25c92c2f118"), looks := false }, kinds := [], alts := [], laidByText := true, laidKinds := [.data, .pinned], laidTests := true, laidLooks := .later }
def SayEventsCardSaid : Prop := Claim7.holds Tryd.pinned (.plain (OpenSpec.ofChange sayEventsSpec)) sayEventsCard

/-- THE TIED CARD OF 'gharrylaw25.SayAlls'. -/
def sayAllsCard : Claim7 := { stood := { row := sayAllsRow, standIns := [], harness := (true, "dbd304d004ee224ca157b5e7736723850c4d3c543e41efb70b4de25c92c2f118"), looks := false }, kinds := [], alts := [], laidByText := true, laidKinds := [.data, .pinned], laidTests := true, laidLooks := .later }
def SayAllsCardSaid : Prop := Claim7.holds Tryd.pinned (.plain (OpenSpec.ofChange sayAllsSpec)) sayAllsCard

/-- THE SECOND FORM's CARD OF 'gharrylaw25.SayWords'. -/
def sayWordsUptoCard : Claim7 := { stood := { row := sayWordsUptoRow, standIns := [], harness := (true, "dbd304d004ee224ca157b5e7736723850c4d3c543e41efb70b4de25c92c2f118"), looks := false }, kinds := [], alts := [], laidByText := true, laidKinds := [.data, .pinned], laidTests := true, laidLooks := .later }
def SayWordsUptoCardSaid : Prop := Claim7.holds Tryd.pinned (.plain (OpenSpec.upto sayWordsSpec)) sayWordsUptoCard

/-- THE SECOND FORM's CARD OF 'gharrylaw25.SayKinds'. -/
def sayKindsUptoCard : Claim7 := { stood := { row := sayKindsUptoRow, standIns := [], harness := (true, "dbd304d004ee224ca157b5e7736723850c4d3c543e41efb70b4de25c92c2f118"), looks := false }, kinds := [], alts := [], laidByText := true, laidKinds := [.data, .pinned], laidTests := true, laidLooks := .later }
def SayKindsUptoCardSaid : Prop := Claim7.holds Tryd.pinned (.plain (OpenSpec.upto sayKindsSpec)) sayKindsUptoCard

/-- THE SECOND FORM's CARD OF 'gharrylaw25.SayScripts'. -/
def sayScriptsUptoCard : Claim7 := { stood := { row := sayScriptsUptoRow, standIns := [], harness := (true, "dbd304d004ee224ca157b5e7736723850c4d3c543e41efb70b4de25c92c2f118"), looks := false }, kinds := [], alts := [], laidByText := true, laidKinds := [.data, .pinned], laidTests := true, laidLooks := .later }
def SayScriptsUptoCardSaid : Prop := Claim7.holds Tryd.pinned (.plain (OpenSpec.upto sayScriptsSpec)) sayScriptsUptoCard

/-- THE SECOND FORM's CARD OF 'gharrylaw25.SayPrints'. -/
def sayPrintsUptoCard : Claim7 := { stood := { row := sayPrintsUptoRow, standIns := [], harness := (true, "dbd304d004ee224ca157b5e7736723850c4d3c543e41efb70b4de25c92c2f118"), looks := false }, kinds := [], alts := [], laidByText := true, laidKinds := [.data, .pinned], laidTests := true, laidLooks := .later }
def SayPrintsUptoCardSaid : Prop := Claim7.holds Tryd.pinned (.plain (OpenSpec.upto sayPrintsSpec)) sayPrintsUptoCard

/-- THE SECOND FORM's CARD OF 'gharrylaw25.SayParses'. -/
def sayParsesUptoCard : Claim7 := { stood := { row := sayParsesUptoRow, standIns := [], harness := (true, "dbd304d004ee224ca157b5e7736723850c4d3c543e41efb70b4de25c92c2f118"), looks := false }, kinds := [], alts := [], laidByText := true, laidKinds := [.data, .pinned], laidTests := true, laidLooks := .later }
def SayParsesUptoCardSaid : Prop := Claim7.holds Tryd.pinned (.plain (OpenSpec.upto sayParsesSpec)) sayParsesUptoCard

/-- THE SECOND FORM's CARD OF 'gharrylaw25.SayBack'. -/
def sayBackUptoCard : Claim7 := { stood := { row := sayBackUptoRow, standIns := [], harness := (true, "dbd304d004ee224ca157b5e7736723850c4d3c543e41efb70b4de25c92c2f118"), looks := false }, kinds := [], alts := [], laidByText := true, laidKinds := [.data, .pinned], laidTests := true, laidLooks := .later }
def SayBackUptoCardSaid : Prop := Claim7.holds Tryd.pinned (.plain (OpenSpec.upto sayBackSpec)) sayBackUptoCard

/-- THE SECOND FORM's CARD OF 'gharrylaw25.SayEvents'. -/
def sayEventsUptoCard : Claim7 := { stood := { row := sayEventsUptoRow, standIns := [], harness := (true, "dbd304d004ee224ca157b5e7736723850c4d3c543e41efb70b4de25c92c2f118"), looks := false }, kinds := [], alts := [], laidByText := true, laidKinds := [.data, .pinned], laidTests := true, laidLooks := .later }
def SayEventsUptoCardSaid : Prop := Claim7.holds Tryd.pinned (.plain (OpenSpec.upto sayEventsSpec)) sayEventsUptoCard

/-- THE SECOND FORM's CARD OF 'gharrylaw25.SayAlls'. -/
def sayAllsUptoCard : Claim7 := { stood := { row := sayAllsUptoRow, standIns := [], harness := (true, "dbd304d004ee224ca157b5e7736723850c4d3c543e41efb70b4de25c92c2f118"), looks := false }, kinds := [], alts := [], laidByText := true, laidKinds := [.data, .pinned], laidTests := true, laidLooks := .later }
def SayAllsUptoCardSaid : Prop := Claim7.holds Tryd.pinned (.plain (OpenSpec.upto sayAllsSpec)) sayAllsUptoCard
end Rows
end Go.Proofs.YtflbkgpmepfhlaaDoor
