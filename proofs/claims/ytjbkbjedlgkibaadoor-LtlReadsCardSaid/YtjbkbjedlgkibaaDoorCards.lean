/-
  DERIVED. GIVEN WITH THE SEED: THE CARDS: each row of YtjbkbjedlgkibaaDoorRows.lean that lists a variable, with what it lists TIED to the program's text (the seventh form; the later family's looks); each row that meets fmt, with fmt's text TOLD by the authors' own Lean function (tested against real Go, not proved from fmt's source: count such statements apart). THE CARD IS WHAT COUNTS. Prove the row's statement (the work); the ties are given (YtjbkbjedlgkibaaDoorTie.lean); close each card by the builder's one call (the guide's Derived/Test/ToyasCard.lean, 'card_holds'). Laid BY PROGRAM, IN A SANDBOX (cutbox-door.mjs). By AI agents, Wed Nov 11 2026. No macro, syntax, notation, axiom, sorry.
-/
import Derived.Test.YtjbkbjedlgkibaaDoorRows
import GoSem.ClaimSeven
namespace Go.Proofs.YtjbkbjedlgkibaaDoor
namespace Rows

/-- THE TIED CARD OF 'watchlaw.LtlReads'. -/
def ltlReadsCard : Claim7 := { stood := { row := ltlReadsRow, standIns := [], harness := (true, "cd8a02f32d4f89b8ad10ce1c0a1b21db31ec95807f4cacec05ba1a8162342865"), looks := true }, kinds := [], alts := [], laidByText := true, laidKinds := [.handle, .sentinel, .sentinel, .sentinel], laidTests := true, laidLooks := .later }
def LtlReadsCardSaid : Prop := Claim7.holds Tryd.pinned (.plain (OpenSpec.ofChange ltlReadsSpec)) ltlReadsCard

/-- THE SECOND FORM's CARD OF 'watchlaw.LtlReads'. -/
def ltlReadsUptoCard : Claim7 := { stood := { row := ltlReadsUptoRow, standIns := [], harness := (true, "cd8a02f32d4f89b8ad10ce1c0a1b21db31ec95807f4cacec05ba1a8162342865"), looks := true }, kinds := [], alts := [], laidByText := true, laidKinds := [.handle, .sentinel, .sentinel, .sentinel], laidTests := true, laidLooks := .later }
def LtlReadsUptoCardSaid : Prop := Claim7.holds Tryd.pinned (.plain (OpenSpec.upto ltlReadsSpec)) ltlReadsUptoCard
end Rows
end Go.Proofs.YtjbkbjedlgkibaaDoor
