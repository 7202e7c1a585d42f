/-
  DERIVED. GIVEN WITH THE SEED: THE CARDS: each row of YtdlokjgddjgneaaDoorRows.lean that lists a variable, with what it lists TIED to the program's text (the seventh form; the later family's looks); each row that meets fmt, with fmt's text TOLD by the authors' own Lean function (tested against real Go, not proved from fmt's source: count such statements apart). THE CARD IS WHAT COUNTS. Prove the row's statement (the work); the ties are given (YtdlokjgddjgneaaDoorTie.lean); close each card by the builder's one call (the guide's Derived/Test/ToyasCard.lean, 'card_holds'). Laid BY PROGRAM, IN A SANDBOX (cutbox-door.mjs). By AI agents, Wed Nov 11 2026. No macro, syntax, notation, axiom, sorry.
-/
import Derived.Test.YtdlokjgddjgneaaDoorRows
import GoSem.ClaimSeven
namespace Go.Proofs.YtdlokjgddjgneaaDoor
namespace Rows

/-- THE TIED CARD OF 'watchlaw.PushNots'. -/
def pushNotsCard : Claim7 := { stood := { row := pushNotsRow, standIns := [], harness := (true, "73c36648d855d601b50def76e2e02d191f05019369e3fd20d54b288437ab6c98"), looks := false }, kinds := [], alts := [], laidByText := true, laidKinds := [.data], laidTests := true, laidLooks := .later }
def PushNotsCardSaid : Prop := Claim7.holds Tryd.pinned (.plain (OpenSpec.ofChange pushNotsSpec)) pushNotsCard

/-- THE SECOND FORM's CARD OF 'watchlaw.PushNots'. -/
def pushNotsUptoCard : Claim7 := { stood := { row := pushNotsUptoRow, standIns := [], harness := (true, "73c36648d855d601b50def76e2e02d191f05019369e3fd20d54b288437ab6c98"), looks := false }, kinds := [], alts := [], laidByText := true, laidKinds := [.data], laidTests := true, laidLooks := .later }
def PushNotsUptoCardSaid : Prop := Claim7.holds Tryd.pinned (.plain (OpenSpec.upto pushNotsSpec)) pushNotsUptoCard
end Rows
end Go.Proofs.YtdlokjgddjgneaaDoor
