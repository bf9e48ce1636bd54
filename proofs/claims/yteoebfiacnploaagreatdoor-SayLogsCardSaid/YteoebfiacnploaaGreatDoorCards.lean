/-
  DERIVED. GIVEN WITH THE SEED: THE CARDS: each row of YteoebfiacnploaaGreatDoorRows.lean that lists a variable, with what it lists TIED to the program's text (the seventh form; the later family's looks); each row that meets fmt, with fmt's text TOLD by the authors' own Lean function (tested against real Go, not proved from fmt's source: count such statements apart). THE CARD IS WHAT COUNTS. Prove the row's statement (the work); the ties are given (YteoebfiacnploaaGreatDoorTie.lean); close each card by the builder's one call (the guide's Derived/Test/ToyasCard.lean, 'card_holds'). Laid BY PROGRAM, IN A SANDBOX (cutbox-door.mjs). By AI agents, Wed Nov 11 2026. No macro, syntax, notation, axiom, sorry.
-/
import Derived.Test.YteoebfiacnploaaGreatDoorRows
import GoSem.ClaimSeven
namespace Go.Proofs.YteoebfiacnploaaGreatDoor
namespace Rows

/-- THE TIED CARD OF 'gharrylaw25.SayLogs'. -/
def sayLogsCard : Claim7 := { stood := { row := sayLogsRow, standIns := [], harness := (true, "e1bad6cd95fe0848c88984eea2cbf63aa9d4667410e5cde6d275fe482a6cda50"), looks := false }, kinds := [], alts := [], laidByText := true, laidKinds := [.data, .pinned], laidTests := true, laidLooks := .later }
def SayLogsCardSaid : Prop := Claim7.holds Tryz.pinned (.plain (OpenSpec.ofChange sayLogsSpec)) sayLogsCard

/-- THE SECOND FORM's CARD OF 'gharrylaw25.SayLogs'. -/
def sayLogsUptoCard : Claim7 := { stood := { row := sayLogsUptoRow, standIns := [], harness := (true, "e1bad6cd95fe0848c88984eea2cbf63aa9d4667410e5cde6d275fe482a6cda50"), looks := false }, kinds := [], alts := [], laidByText := true, laidKinds := [.data, .pinned], laidTests := true, laidLooks := .later }
def SayLogsUptoCardSaid : Prop := Claim7.holds Tryz.pinned (.plain (OpenSpec.upto sayLogsSpec)) sayLogsUptoCard
end Rows
end Go.Proofs.YteoebfiacnploaaGreatDoor
