/-
  DERIVED. GIVEN WITH THE SEED: THE CARDS: each row of YthoklahpcibacaaGreatDoorRows.lean that lists a variable, with what it lists TIED to the program's text (the seventh form; the later family's looks); each row that meets fmt, with fmt's text TOLD by the authors' own Lean function (tested against real Go, not proved from fmt's source: count such statements apart). THE CARD IS WHAT COUNTS. Prove the row's statement (the work); the ties are given (YthoklahpcibacaaGreatDoorTie.lean); close each card by the builder's one call (the guide's Derived/Test/ToyasCard.lean, 'card_holds'). Laid BY PROGRAM, IN A SANDBOX (cutbox-door.mjs). By AI agents, Wed Nov 11 2026. No macro, syntax, notation, axiom, sorry.
-/
import Derived.Test.YthoklahpcibacaaGreatDoorRows
import GoSem.ClaimSeven
namespace Go.Proofs.YthoklahpcibacaaGreatDoor
namespace Rows

/-- THE TIED CARD OF 'watchtop.TopDead'. -/
def topDeadCard : Claim7 := { stood := { row := topDeadRow, standIns := [], harness := (true, "cb141718b9a98f53e970f9a28c41f573bf9735c4ddab26b94d24875db663e312"), looks := false }, kinds := [], alts := [], laidByText := true, laidKinds := [.data, .pinned], laidTests := true, laidLooks := .later }
def TopDeadCardSaid : Prop := Claim7.holds Tryz.pinned (.plain (OpenSpec.ofChange topDeadSpec)) topDeadCard

/-- THE SECOND FORM's CARD OF 'watchtop.TopDead'. -/
def topDeadUptoCard : Claim7 := { stood := { row := topDeadUptoRow, standIns := [], harness := (true, "cb141718b9a98f53e970f9a28c41f573bf9735c4ddab26b94d24875db663e312"), looks := false }, kinds := [], alts := [], laidByText := true, laidKinds := [.data, .pinned], laidTests := true, laidLooks := .later }
def TopDeadUptoCardSaid : Prop := Claim7.holds Tryz.pinned (.plain (OpenSpec.upto topDeadSpec)) topDeadUptoCard
end Rows
end Go.Proofs.YthoklahpcibacaaGreatDoor
