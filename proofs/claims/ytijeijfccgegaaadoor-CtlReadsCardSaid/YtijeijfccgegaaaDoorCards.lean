/-
  DERIVED. GIVEN WITH THE SEED: THE CARDS: each row of YtijeijfccgegaaaDoorRows.lean that lists a variable, with what it lists TIED to the program's text (the seventh form; the later family's looks); each row that meets fmt, with fmt's text TOLD by the authors' own Lean function (tested against real Go, not proved from fmt's source: count such statements apart). THE CARD IS WHAT COUNTS. Prove the row's statement (the work); the ties are given (YtijeijfccgegaaaDoorTie.lean); close each card by the builder's one call (the guide's Derived/Test/ToyasCard.lean, 'card_holds'). Laid BY PROGRAM, IN A SANDBOX (cutbox-door.mjs). By AI agents, Wed Nov 11 2026. No macro, syntax, notation, axiom, sorry.
-/
import Derived.Test.YtijeijfccgegaaaDoorRows
import GoSem.ClaimSeven
namespace Go.Proofs.YtijeijfccgegaaaDoor
namespace Rows

/-- THE TIED CARD OF 'watchlaw.CtlReads'. -/
def ctlReadsCard : Claim7 := { stood := { row := ctlReadsRow, standIns := [], harness := (true, "6bd112aedb580e3d9f2979ebf09ba09eff268271766fd70b1f271be8dc75ba85"), looks := true }, kinds := [], alts := [], laidByText := true, laidKinds := [.handle], laidTests := true, laidLooks := .later }
def CtlReadsCardSaid : Prop := Claim7.holds Tryd.pinned (.plain (OpenSpec.ofChange ctlReadsSpec)) ctlReadsCard

/-- THE TIED CARD OF 'watchlaw.LtlReads'. -/
def ltlReadsCard : Claim7 := { stood := { row := ltlReadsRow, standIns := [], harness := (true, "6bd112aedb580e3d9f2979ebf09ba09eff268271766fd70b1f271be8dc75ba85"), looks := true }, kinds := [], alts := [], laidByText := true, laidKinds := [.handle, .sentinel, .sentinel, .sentinel], laidTests := true, laidLooks := .later }
def LtlReadsCardSaid : Prop := Claim7.holds Tryd.pinned (.plain (OpenSpec.ofChange ltlReadsSpec)) ltlReadsCard

/-- THE TIED CARD OF 'watchlaw.ProcReads'. -/
def procReadsCard : Claim7 := { stood := { row := procReadsRow, standIns := [], harness := (true, "6bd112aedb580e3d9f2979ebf09ba09eff268271766fd70b1f271be8dc75ba85"), looks := true }, kinds := [], alts := [], laidByText := true, laidKinds := [.data, .pinned], laidTests := true, laidLooks := .later }
def ProcReadsCardSaid : Prop := Claim7.holds Tryd.pinned (.plain (OpenSpec.ofChange procReadsSpec)) procReadsCard

/-- THE SECOND FORM's CARD OF 'watchlaw.CtlReads'. -/
def ctlReadsUptoCard : Claim7 := { stood := { row := ctlReadsUptoRow, standIns := [], harness := (true, "6bd112aedb580e3d9f2979ebf09ba09eff268271766fd70b1f271be8dc75ba85"), looks := true }, kinds := [], alts := [], laidByText := true, laidKinds := [.handle], laidTests := true, laidLooks := .later }
def CtlReadsUptoCardSaid : Prop := Claim7.holds Tryd.pinned (.plain (OpenSpec.upto ctlReadsSpec)) ctlReadsUptoCard

/-- THE SECOND FORM's CARD OF 'watchlaw.LtlReads'. -/
def ltlReadsUptoCard : Claim7 := { stood := { row := ltlReadsUptoRow, standIns := [], harness := (true, "6bd112aedb580e3d9f2979ebf09ba09eff268271766fd70b1f271be8dc75ba85"), looks := true }, kinds := [], alts := [], laidByText := true, laidKinds := [.handle, .sentinel, .sentinel, .sentinel], laidTests := true, laidLooks := .later }
def LtlReadsUptoCardSaid : Prop := Claim7.holds Tryd.pinned (.plain (OpenSpec.upto ltlReadsSpec)) ltlReadsUptoCard

/-- THE SECOND FORM's CARD OF 'watchlaw.ProcReads'. -/
def procReadsUptoCard : Claim7 := { stood := { row := procReadsUptoRow, standIns := [], harness := (true, "6bd112aedb580e3d9f2979ebf09ba09eff268271766fd70b1f271be8dc75ba85"), looks := true }, kinds := [], alts := [], laidByText := true, laidKinds := [.data, .pinned], laidTests := true, laidLooks := .later }
def ProcReadsUptoCardSaid : Prop := Claim7.holds Tryd.pinned (.plain (OpenSpec.upto procReadsSpec)) procReadsUptoCard
end Rows
end Go.Proofs.YtijeijfccgegaaaDoor
