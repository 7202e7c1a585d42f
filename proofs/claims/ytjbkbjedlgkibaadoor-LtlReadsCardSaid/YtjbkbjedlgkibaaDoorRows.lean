/-
  NARROWER THAN 'FOR EVERY INPUT', by the rows' own cells (each row's printed sentence says how): LtlReads: laid.
  DERIVED. THE GIVEN ROWS OF THIS SEAT. 1 by the template 'for every input the law returns true; each argument reads behind the call as it read before'; 0 by the template 'total and deterministic' (their statements: YtjbkbjedlgkibaaDoorTotals.lean).
  GIVEN WITH THE SEED: the statements are not yours to turn. If you find one false, say at which input.
  Laid BY PROGRAM, IN A SANDBOX (cutbox-rows.mjs): the forced cells as the released guide's own fill.sh prints them over the translation 10580282f8879a85… (all of the seat's roots in one cut). By AI agents, Wed Nov 11 2026. No macro, syntax, notation, axiom, sorry.
-/
import Derived.Test.YtjbkbjedlgkibaaDoorChecked
import GoSem.Claim
import GoSem.ClaimJoined
import GoSem.ClaimMapViews
import Derived.JoinedTies
import Derived.KernelRfl
namespace Go.Proofs.YtjbkbjedlgkibaaDoor
/- THE CELL 'sum', in the pinned program and in every row, IS THE sha256 OF THE DUMP (.gsa) THAT YtjbkbjedlgkibaaDoorProg.lean LOADS. Nothing in Lean hashes anything: it is a label: what it is worth is what the hold of that sum in a sandbox is worth. -/
noncomputable def Tryd.pinned : Pinned := { name := "ytjbkbjedlgkibaadoor", sum := "10580282f8879a858e8c0cd66597f433f14a78a24fd711f86da01d9b1c94a0cc", checked := Tryd.checked }
namespace Rows
def none {H : Type} : Left H := { results := [], args := [] }

/- WHAT THE LISTED PACKAGE-LEVEL VARIABLES READ AS WHEN THE CALL BEGINS. Each datum BY PROGRAM (the guide's laid-datum.mjs) off the statement by which the dump's own 'gosem.cut.vars' lays the variable. In a bare row this is a premise. The card (YtjbkbjedlgkibaaDoorCards.lean) ties it to the program's text. -/
def laid_errors_errorType {H : Type} : DataW H := .iface "internal/reflectlite.rtype" (.agg [.ptr (.lit (.string [101, 114, 114, 111, 114]))])
def laid_watchway_ltl_errStand {H : Type} : DataW H := .iface "*errors.errorString" (.ptr (.agg [.lit (.string [116, 104, 105, 115, 32, 99, 97, 110, 39, 116, 32, 115, 116, 97, 110, 100, 32, 104, 101, 114, 101])]))
def laid_watchway_ltl_errOpen {H : Type} : DataW H := .iface "*errors.errorString" (.ptr (.agg [.lit (.string [116, 111, 111, 32, 109, 117, 99, 104, 32, 105, 115, 32, 111, 112, 101, 110])]))
def laid_watchway_ltl_errWord {H : Type} : DataW H := .iface "*errors.errorString" (.ptr (.agg [.lit (.string [110, 111, 32, 115, 117, 99, 104, 32, 110, 97, 109, 101])]))

/-- 'watchlaw.LtlReads': WHATEVER THE INPUT: true; the input reads as it did. -/
def ltlReadsSpec : ChangeSpec := { name := "ltlReads", fn := fun _ => fun
  | [d1, d2] => { results := [.lit (.bool true)], args := [d1, d2] }
  | _ => none }
def ltlReadsRow : OpenClaim := { program := "ytjbkbjedlgkibaadoor", sum := "10580282f8879a858e8c0cd66597f433f14a78a24fd711f86da01d9b1c94a0cc", func := "watchway/watchlaw.LtlReads", spec := "ltlReads", inPlace := ["internal/reflectlite.TypeOf", "internal/reflectlite.ValueOf", "(internal/reflectlite.Value).Type", "(internal/reflectlite.Value).IsNil", "(internal/reflectlite.Value).Elem", "(internal/reflectlite.Value).Set"], unfollowed := true, recurses := true, named := ["watchway/ltl.errStand", "watchway/ltl.errOpen", "watchway/ltl.errWord", "errors.errorType"], apart := false, laid := [("errors.errorType", laid_errors_errorType), ("watchway/ltl.errStand", laid_watchway_ltl_errStand), ("watchway/ltl.errOpen", laid_watchway_ltl_errOpen), ("watchway/ltl.errWord", laid_watchway_ltl_errWord)] }
def LtlReadsSaid : Prop := ltlReadsRow.holds Tryd.pinned (OpenSpec.ofChange ltlReadsSpec)

/-- ITS FALSE NEIGHBOUR: 'it returns false'. Refute it at one input. -/
def ltlReadsWrong : ChangeSpec := { name := "ltlReads", fn := fun _ => fun
  | [d1, d2] => { results := [.lit (.bool false)], args := [d1, d2] }
  | _ => none }
def LtlReadsWrongFalsely : Prop := ltlReadsRow.holds Tryd.pinned (OpenSpec.ofChange ltlReadsWrong)

/- THE SECOND FORM. 'bulk': how many values and letters a reading holds, each counted each time it is reached (what is shared counts as often as it is met; a slice's spare places count too). A statement '..UptoSaid' is the law's where the arguments, and the package variables that the reading takes, are together of bulk at most 1048576: NARROWER than '..Said'. Prove '..Said' where nothing that the law and all that it calls make is longer than what came in: it says more and counts as full. Else prove '..UptoSaid'. A law counts once. -/
mutual
def uptoBulk {H : Type} : DataW H → Nat
  | .lit (.string bytes) => bytes.length + 1
  | .lit _ => 1
  | .nil => 1
  | .ptr d => uptoBulk d + 1
  | .slice elems spare => uptoBulkAll elems + uptoBulkAll spare + 1
  | .agg parts => uptoBulkAll parts + 1
  | .iface _ d => uptoBulk d + 1
  | .map entries => uptoBulkEntries entries + 1
  | .held _ => 1
def uptoBulkAll {H : Type} : List (DataW H) → Nat
  | [] => 0
  | d :: r => uptoBulk d + uptoBulkAll r
def uptoBulkEntries {H : Type} : List (Lit × DataW H) → Nat
  | [] => 0
  | x :: r => uptoBulkEntry x + uptoBulkEntries r
def uptoBulkEntry {H : Type} : Lit × DataW H → Nat
  | (.string bytes, d) => bytes.length + uptoBulk d + 1
  | (_, d) => uptoBulk d + 1
 end
def uptoSmall : (H : Type) → List (DataW H) → Bool := fun _ ds => decide (uptoBulkAll ds ≤ 1048576)
def OpenSpec.upto (s : _root_.Go.ChangeSpec) : _root_.Go.OpenSpec := { _root_.Go.OpenSpec.ofChange s with cond := some uptoSmall }

/-- 'watchlaw.LtlReads', WHERE WHAT IT READS IS OF BULK AT MOST 1048576: true; the input reads as it did. -/
def ltlReadsUptoRow : OpenClaim := { program := "ytjbkbjedlgkibaadoor", sum := "10580282f8879a858e8c0cd66597f433f14a78a24fd711f86da01d9b1c94a0cc", func := "watchway/watchlaw.LtlReads", spec := "ltlReads", inPlace := ["internal/reflectlite.TypeOf", "internal/reflectlite.ValueOf", "(internal/reflectlite.Value).Type", "(internal/reflectlite.Value).IsNil", "(internal/reflectlite.Value).Elem", "(internal/reflectlite.Value).Set"], unfollowed := true, recurses := true, named := ["watchway/ltl.errStand", "watchway/ltl.errOpen", "watchway/ltl.errWord", "errors.errorType"], apart := false, laid := [("errors.errorType", laid_errors_errorType), ("watchway/ltl.errStand", laid_watchway_ltl_errStand), ("watchway/ltl.errOpen", laid_watchway_ltl_errOpen), ("watchway/ltl.errWord", laid_watchway_ltl_errWord)], narrowed := true }
def LtlReadsUptoSaid : Prop := ltlReadsUptoRow.holds Tryd.pinned (OpenSpec.upto ltlReadsSpec)

end Rows
end Go.Proofs.YtjbkbjedlgkibaaDoor
