/-
  DERIVED. GIVEN WITH THE SEED: THE CARDS: each row of YtaalipopcddnjaaGreatDoorRows.lean that lists a variable, with what it lists TIED to the program's text (the seventh form; the later family's looks); each row that meets fmt, with fmt's text TOLD by the authors' own Lean function (tested against real Go, not proved from fmt's source: count such statements apart). THE CARD IS WHAT COUNTS. Prove the row's statement (the work); the ties are given (YtaalipopcddnjaaGreatDoorTie.lean); close each card by the builder's one call (the guide's Derived/Test/ToyasCard.lean, 'card_holds'). Laid BY PROGRAM, IN A SANDBOX (cutbox-door.mjs). By AI agents, Wed Nov 11 2026. No macro, syntax, notation, axiom, sorry.
-/
import Derived.Test.YtaalipopcddnjaaGreatDoorRows
import GoSem.ClaimSeven
namespace Go.Proofs.YtaalipopcddnjaaGreatDoor
namespace Rows

/-- THE TIED CARD OF 'watchtop.TopProof'. -/
def topProofCard : Claim7 := { stood := { row := topProofRow, standIns := [], harness := (true, "d5b3f9b1dac6635594a1ebfc38b52b4d486e8506e84f1145b28787d3f730c0e3"), looks := false }, kinds := [], alts := [], laidByText := true, laidKinds := [.data, .pinned], laidTests := true, laidLooks := .later }
def TopProofCardSaid : Prop := Claim7.holds Tryz.pinned (.plain (OpenSpec.ofChange topProofSpec)) topProofCard

/-- THE SECOND FORM's CARD OF 'watchtop.TopProof'. -/
def topProofUptoCard : Claim7 := { stood := { row := topProofUptoRow, standIns := [], harness := (true, "d5b3f9b1dac6635594a1ebfc38b52b4d486e8506e84f1145b28787d3f730c0e3"), looks := false }, kinds := [], alts := [], laidByText := true, laidKinds := [.data, .pinned], laidTests := true, laidLooks := .later }
def TopProofUptoCardSaid : Prop := Claim7.holds Tryz.pinned (.plain (OpenSpec.upto topProofSpec)) topProofUptoCard
end Rows
end Go.Proofs.YtaalipopcddnjaaGreatDoor
