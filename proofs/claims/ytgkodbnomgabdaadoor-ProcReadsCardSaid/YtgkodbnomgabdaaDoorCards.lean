/-
  DERIVED. GIVEN WITH THE SEED: THE CARDS: each row of YtgkodbnomgabdaaDoorRows.lean that lists a variable, with what it lists TIED to the program's text (the seventh form; the later family's looks); each row that meets fmt, with fmt's text TOLD by the authors' own Lean function (tested against real Go, not proved from fmt's source: count such statements apart). THE CARD IS WHAT COUNTS. Prove the row's statement (the work); the ties are given (YtgkodbnomgabdaaDoorTie.lean); close each card by the builder's one call (the guide's Derived/Test/ToyasCard.lean, 'card_holds'). Laid BY PROGRAM, IN A SANDBOX (cutbox-door.mjs). By AI agents, Wed Nov 11 2026. No macro, syntax, notation, axiom, sorry.
-/
import Derived.Test.YtgkodbnomgabdaaDoorRows
import GoSem.ClaimSeven
namespace Go.Proofs.YtgkodbnomgabdaaDoor
namespace Rows

/-- THE TIED CARD OF 'watchlaw.ProcReads'. -/
def procReadsCard : Claim7 := { stood := { row := procReadsRow, standIns := [], harness := (true, "17a13a9f6f7e33be197a33d516af8355926d07b97d60adfac64cdf76ab421ab6"), looks := false }, kinds := [], alts := [], laidByText := true, laidKinds := [.data, .pinned], laidTests := true, laidLooks := .later }
def ProcReadsCardSaid : Prop := Claim7.holds Tryd.pinned (.plain (OpenSpec.ofChange procReadsSpec)) procReadsCard

/-- THE SECOND FORM's CARD OF 'watchlaw.ProcReads'. -/
def procReadsUptoCard : Claim7 := { stood := { row := procReadsUptoRow, standIns := [], harness := (true, "17a13a9f6f7e33be197a33d516af8355926d07b97d60adfac64cdf76ab421ab6"), looks := false }, kinds := [], alts := [], laidByText := true, laidKinds := [.data, .pinned], laidTests := true, laidLooks := .later }
def ProcReadsUptoCardSaid : Prop := Claim7.holds Tryd.pinned (.plain (OpenSpec.upto procReadsSpec)) procReadsUptoCard
end Rows
end Go.Proofs.YtgkodbnomgabdaaDoor
