/-
  DERIVED. GIVEN WITH THE SEED: THE CARDS: each row of YtddcgoopgnogeaaGreatDoorRows.lean that lists a variable, with what it lists TIED to the program's text (the seventh form; the later family's looks); each row that meets fmt, with fmt's text TOLD by the authors' own Lean function (tested against real Go, not proved from fmt's source: count such statements apart). THE CARD IS WHAT COUNTS. Prove the row's statement (the work); the ties are given (YtddcgoopgnogeaaGreatDoorTie.lean); close each card by the builder's one call (the guide's Derived/Test/ToyasCard.lean, 'card_holds'). Laid BY PROGRAM, IN A SANDBOX (cutbox-door.mjs). By AI agents, Wed Nov 11 2026. No macro, syntax, notation, axiom, sorry.
-/
import Derived.Test.YtddcgoopgnogeaaGreatDoorRows
import GoSem.ClaimSeven
namespace Go.Proofs.YtddcgoopgnogeaaGreatDoor
namespace Rows

/-- THE TIED CARD OF 'gharrylaw17.EngineNobody'. -/
def engineNobodyCard : Claim7 := { stood := { row := engineNobodyRow, standIns := [], harness := (true, "ac15d000ad63bacc1e7254c8199d4b1a66a56e04bb60281ad820dcc361b41e2f"), looks := true }, kinds := [], alts := [], laidByText := true, laidKinds := [.handle], laidTests := true, laidLooks := .later }
def EngineNobodyCardSaid : Prop := Claim7.holds Tryz.pinned (.plain (OpenSpec.ofChange engineNobodySpec)) engineNobodyCard

/-- THE SECOND FORM's CARD OF 'gharrylaw17.EngineNobody'. -/
def engineNobodyUptoCard : Claim7 := { stood := { row := engineNobodyUptoRow, standIns := [], harness := (true, "ac15d000ad63bacc1e7254c8199d4b1a66a56e04bb60281ad820dcc361b41e2f"), looks := true }, kinds := [], alts := [], laidByText := true, laidKinds := [.handle], laidTests := true, laidLooks := .later }
def EngineNobodyUptoCardSaid : Prop := Claim7.holds Tryz.pinned (.plain (OpenSpec.upto engineNobodySpec)) engineNobodyUptoCard
end Rows
end Go.Proofs.YtddcgoopgnogeaaGreatDoor
