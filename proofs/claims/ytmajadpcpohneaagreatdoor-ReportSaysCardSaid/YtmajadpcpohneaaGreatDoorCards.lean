/-
  DERIVED. GIVEN WITH THE SEED: THE CARDS: each row of YtmajadpcpohneaaGreatDoorRows.lean that lists a variable, with what it lists TIED to the program's text (the seventh form; the later family's looks); each row that meets fmt, with fmt's text TOLD by the authors' own Lean function (tested against real Go, not proved from fmt's source: count such statements apart). THE CARD IS WHAT COUNTS. Prove the row's statement (the work); the ties are given (YtmajadpcpohneaaGreatDoorTie.lean); close each card by the builder's one call (the guide's Derived/Test/ToyasCard.lean, 'card_holds'). Laid BY PROGRAM, IN A SANDBOX (cutbox-door.mjs). By AI agents, Wed Nov 11 2026. No macro, syntax, notation, axiom, sorry.
-/
import Derived.Test.YtmajadpcpohneaaGreatDoorRows
import GoSem.ClaimSeven
namespace Go.Proofs.YtmajadpcpohneaaGreatDoor
namespace Rows

/-- THE TIED CARD OF 'watchlaw.ReportSays'. -/
def reportSaysCard : Claim7 := { stood := { row := reportSaysRow, standIns := [], harness := (true, "7f02c2896a5a798f44f018e3b048150f5325da2d029b3d9a7dc6c9c04332e112"), looks := false }, kinds := [], alts := [], laidByText := true, laidKinds := [.data, .data, .data], laidTests := true, laidLooks := .later }
def ReportSaysCardSaid : Prop := Claim7.holds Tryz.pinned (.plain (OpenSpec.ofChange reportSaysSpec)) reportSaysCard

/-- THE SECOND FORM's CARD OF 'watchlaw.ReportSays'. -/
def reportSaysUptoCard : Claim7 := { stood := { row := reportSaysUptoRow, standIns := [], harness := (true, "7f02c2896a5a798f44f018e3b048150f5325da2d029b3d9a7dc6c9c04332e112"), looks := false }, kinds := [], alts := [], laidByText := true, laidKinds := [.data, .data, .data], laidTests := true, laidLooks := .later }
def ReportSaysUptoCardSaid : Prop := Claim7.holds Tryz.pinned (.plain (OpenSpec.upto reportSaysSpec)) reportSaysUptoCard
end Rows
end Go.Proofs.YtmajadpcpohneaaGreatDoor
