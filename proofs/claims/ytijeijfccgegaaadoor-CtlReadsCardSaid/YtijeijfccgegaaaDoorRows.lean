/-
  NARROWER THAN 'FOR EVERY INPUT', by the rows' own cells (each row's printed sentence says how): CtlReads: laid · LtlReads: laid · ProcReads: laid.
  DERIVED. THE GIVEN ROWS OF THIS SEAT. 3 by the template 'for every input the law returns true; each argument reads behind the call as it read before'; 0 by the template 'total and deterministic' (their statements: YtijeijfccgegaaaDoorTotals.lean).
  GIVEN WITH THE SEED: the statements are not yours to turn. If you find one false, say at which input.
  Laid BY PROGRAM, IN A SANDBOX (cutbox-rows.mjs): the forced cells as the released guide's own fill.sh prints them over the translation 7de8da2b81707bbd… (all of the seat's roots in one cut). By AI agents, Wed Nov 11 2026. No macro, syntax, notation, axiom, sorry.
-/
import Derived.Test.YtijeijfccgegaaaDoorChecked
import GoSem.PinnedTables
import GoSem.Claim
import GoSem.ClaimJoined
import GoSem.ClaimMapViews
import Derived.JoinedTies
import Derived.KernelRfl
namespace Go.Proofs.YtijeijfccgegaaaDoor
/- THE CELL 'sum', in the pinned program and in every row, IS THE sha256 OF THE DUMP (.gsa) THAT YtijeijfccgegaaaDoorProg.lean LOADS. Nothing in Lean hashes anything: it is a label: what it is worth is what the hold of that sum in a sandbox is worth. -/
noncomputable def Tryd.pinned : Pinned := { name := "ytijeijfccgegaaadoor", sum := "7de8da2b81707bbd9c0f10c15ebc4bcff8fad363e83949e31adaee2883ef68af", checked := Tryd.checked }
namespace Rows
def none {H : Type} : Left H := { results := [], args := [] }

/- WHAT THE LISTED PACKAGE-LEVEL VARIABLES READ AS WHEN THE CALL BEGINS. Each datum BY PROGRAM (the guide's laid-datum.mjs) off the statement by which the dump's own 'gosem.cut.vars' lays the variable. In a bare row this is a premise. The card (YtijeijfccgegaaaDoorCards.lean) ties it to the program's text. -/
def laid_errors_errorType {H : Type} : DataW H := .iface "internal/reflectlite.rtype" (.agg [.ptr (.lit (.string [101, 114, 114, 111, 114]))])
def laid_watchway_ltl_errStand {H : Type} : DataW H := .iface "*errors.errorString" (.ptr (.agg [.lit (.string [116, 104, 105, 115, 32, 99, 97, 110, 39, 116, 32, 115, 116, 97, 110, 100, 32, 104, 101, 114, 101])]))
def laid_watchway_ltl_errOpen {H : Type} : DataW H := .iface "*errors.errorString" (.ptr (.agg [.lit (.string [116, 111, 111, 32, 109, 117, 99, 104, 32, 105, 115, 32, 111, 112, 101, 110])]))
def laid_watchway_ltl_errWord {H : Type} : DataW H := .iface "*errors.errorString" (.ptr (.agg [.lit (.string [110, 111, 32, 115, 117, 99, 104, 32, 110, 97, 109, 101])]))
def laid_unicode_utf8_acceptRanges {H : Type} : DataW H := .agg [.agg [.lit (.int .u8 128), .lit (.int .u8 191)], .agg [.lit (.int .u8 160), .lit (.int .u8 191)], .agg [.lit (.int .u8 128), .lit (.int .u8 159)], .agg [.lit (.int .u8 144), .lit (.int .u8 191)], .agg [.lit (.int .u8 128), .lit (.int .u8 143)], .agg [.lit (.int .u8 0), .lit (.int .u8 0)], .agg [.lit (.int .u8 0), .lit (.int .u8 0)], .agg [.lit (.int .u8 0), .lit (.int .u8 0)], .agg [.lit (.int .u8 0), .lit (.int .u8 0)], .agg [.lit (.int .u8 0), .lit (.int .u8 0)], .agg [.lit (.int .u8 0), .lit (.int .u8 0)], .agg [.lit (.int .u8 0), .lit (.int .u8 0)], .agg [.lit (.int .u8 0), .lit (.int .u8 0)], .agg [.lit (.int .u8 0), .lit (.int .u8 0)], .agg [.lit (.int .u8 0), .lit (.int .u8 0)], .agg [.lit (.int .u8 0), .lit (.int .u8 0)]]
/-- One of Go's own tables, pinned by name: the form's constant. -/
def laid_unicode_utf8_first : DataW Unit := Go.Pinned.utf8First

/-- 'watchlaw.CtlReads': WHATEVER THE INPUT: true; the input reads as it did. -/
def ctlReadsSpec : ChangeSpec := { name := "ctlReads", fn := fun _ => fun
  | [d1, d2] => { results := [.lit (.bool true)], args := [d1, d2] }
  | _ => none }
def ctlReadsRow : OpenClaim := { program := "ytijeijfccgegaaadoor", sum := "7de8da2b81707bbd9c0f10c15ebc4bcff8fad363e83949e31adaee2883ef68af", func := "watchway/watchlaw.CtlReads", spec := "ctlReads", inPlace := ["internal/reflectlite.ValueOf", "(internal/reflectlite.Value).Type", "(internal/reflectlite.Value).IsNil", "internal/reflectlite.TypeOf", "(internal/reflectlite.Value).Elem", "(internal/reflectlite.Value).Set"], unfollowed := true, recurses := true, named := ["errors.errorType"], apart := false, laid := [("errors.errorType", laid_errors_errorType)] }
def CtlReadsSaid : Prop := ctlReadsRow.holds Tryd.pinned (OpenSpec.ofChange ctlReadsSpec)

/-- ITS FALSE NEIGHBOUR: 'it returns false'. Refute it at one input. -/
def ctlReadsWrong : ChangeSpec := { name := "ctlReads", fn := fun _ => fun
  | [d1, d2] => { results := [.lit (.bool false)], args := [d1, d2] }
  | _ => none }
def CtlReadsWrongFalsely : Prop := ctlReadsRow.holds Tryd.pinned (OpenSpec.ofChange ctlReadsWrong)

/-- 'watchlaw.LtlReads': WHATEVER THE INPUT: true; the input reads as it did. -/
def ltlReadsSpec : ChangeSpec := { name := "ltlReads", fn := fun _ => fun
  | [d1, d2] => { results := [.lit (.bool true)], args := [d1, d2] }
  | _ => none }
def ltlReadsRow : OpenClaim := { program := "ytijeijfccgegaaadoor", sum := "7de8da2b81707bbd9c0f10c15ebc4bcff8fad363e83949e31adaee2883ef68af", func := "watchway/watchlaw.LtlReads", spec := "ltlReads", inPlace := ["internal/reflectlite.TypeOf", "internal/reflectlite.ValueOf", "(internal/reflectlite.Value).Type", "(internal/reflectlite.Value).IsNil", "(internal/reflectlite.Value).Elem", "(internal/reflectlite.Value).Set"], unfollowed := true, recurses := true, named := ["watchway/ltl.errStand", "watchway/ltl.errOpen", "watchway/ltl.errWord", "errors.errorType"], apart := false, laid := [("errors.errorType", laid_errors_errorType), ("watchway/ltl.errStand", laid_watchway_ltl_errStand), ("watchway/ltl.errOpen", laid_watchway_ltl_errOpen), ("watchway/ltl.errWord", laid_watchway_ltl_errWord)] }
def LtlReadsSaid : Prop := ltlReadsRow.holds Tryd.pinned (OpenSpec.ofChange ltlReadsSpec)

/-- ITS FALSE NEIGHBOUR: 'it returns false'. Refute it at one input. -/
def ltlReadsWrong : ChangeSpec := { name := "ltlReads", fn := fun _ => fun
  | [d1, d2] => { results := [.lit (.bool false)], args := [d1, d2] }
  | _ => none }
def LtlReadsWrongFalsely : Prop := ltlReadsRow.holds Tryd.pinned (OpenSpec.ofChange ltlReadsWrong)

/-- 'watchlaw.ProcReads': WHATEVER THE INPUT: true; the input reads as it did. -/
def procReadsSpec : ChangeSpec := { name := "procReads", fn := fun _ => fun
  | [d1, d2] => { results := [.lit (.bool true)], args := [d1, d2] }
  | _ => none }
def procReadsRow : OpenClaim := { program := "ytijeijfccgegaaadoor", sum := "7de8da2b81707bbd9c0f10c15ebc4bcff8fad363e83949e31adaee2883ef68af", func := "watchway/watchlaw.ProcReads", spec := "procReads", inPlace := ["internal/abi.NoEscape", "internal/bytealg.IndexByteString", "internal/bytealg.IndexString", "internal/bytealg.CountString"], unfollowed := true, recurses := true, named := ["internal/bytealg.MaxLen", "unicode/utf8.first", "unicode/utf8.acceptRanges"], apart := false, laid := [("unicode/utf8.acceptRanges", laid_unicode_utf8_acceptRanges), ("unicode/utf8.first", laid_unicode_utf8_first)] }
def ProcReadsSaid : Prop := procReadsRow.holds Tryd.pinned (OpenSpec.ofChange procReadsSpec)

/-- ITS FALSE NEIGHBOUR: 'it returns false'. Refute it at one input. -/
def procReadsWrong : ChangeSpec := { name := "procReads", fn := fun _ => fun
  | [d1, d2] => { results := [.lit (.bool false)], args := [d1, d2] }
  | _ => none }
def ProcReadsWrongFalsely : Prop := procReadsRow.holds Tryd.pinned (OpenSpec.ofChange procReadsWrong)

/- THE SECOND FORM. 'bulk': how many values and letters a reading holds, each counted each time it is reached (what is shared counts as often as it is met; a slice's spare places count too). A statement '..UptoSaid' is the law's where the arguments, and the package variables that the reading takes, are together of bulk at most 1048576: NARROWER than '..Said'. Prove '..Said' where nothing that the law and all that it calls make is longer than what came in: it says more and counts as full. Else prove '..UptoSaid'. A law counts once. -/
mutual
def uptoBulk {H : Type} : DataW H → Nat
  | .lit (.string bytes) => bytes.length + 1
  | .lit _ => 1
  | .nil => 1
  | .ptr d => uptoBulk d + 1
  | .slice elems spare => uptoBulkAll elems + uptoBulkAll spare + 1
  | .agg parts => uptoBulkAll parts + 1
  | .iface _ d => uptoBulk d + 1
  | .map entries => uptoBulkEntries entries + 1
  | .held _ => 1
def uptoBulkAll {H : Type} : List (DataW H) → Nat
  | [] => 0
  | d :: r => uptoBulk d + uptoBulkAll r
def uptoBulkEntries {H : Type} : List (Lit × DataW H) → Nat
  | [] => 0
  | x :: r => uptoBulkEntry x + uptoBulkEntries r
def uptoBulkEntry {H : Type} : Lit × DataW H → Nat
  | (.string bytes, d) => bytes.length + uptoBulk d + 1
  | (_, d) => uptoBulk d + 1
 end
def uptoSmall : (H : Type) → List (DataW H) → Bool := fun _ ds => decide (uptoBulkAll ds ≤ 1048576)
def OpenSpec.upto (s : _root_.Go.ChangeSpec) : _root_.Go.OpenSpec := { _root_.Go.OpenSpec.ofChange s with cond := some uptoSmall }

/-- 'watchlaw.CtlReads', WHERE WHAT IT READS IS OF BULK AT MOST 1048576: true; the input reads as it did. -/
def ctlReadsUptoRow : OpenClaim := { program := "ytijeijfccgegaaadoor", sum := "7de8da2b81707bbd9c0f10c15ebc4bcff8fad363e83949e31adaee2883ef68af", func := "watchway/watchlaw.CtlReads", spec := "ctlReads", inPlace := ["internal/reflectlite.ValueOf", "(internal/reflectlite.Value).Type", "(internal/reflectlite.Value).IsNil", "internal/reflectlite.TypeOf", "(internal/reflectlite.Value).Elem", "(internal/reflectlite.Value).Set"], unfollowed := true, recurses := true, named := ["errors.errorType"], apart := false, laid := [("errors.errorType", laid_errors_errorType)], narrowed := true }
def CtlReadsUptoSaid : Prop := ctlReadsUptoRow.holds Tryd.pinned (OpenSpec.upto ctlReadsSpec)

/-- 'watchlaw.LtlReads', WHERE WHAT IT READS IS OF BULK AT MOST 1048576: true; the input reads as it did. -/
def ltlReadsUptoRow : OpenClaim := { program := "ytijeijfccgegaaadoor", sum := "7de8da2b81707bbd9c0f10c15ebc4bcff8fad363e83949e31adaee2883ef68af", func := "watchway/watchlaw.LtlReads", spec := "ltlReads", inPlace := ["internal/reflectlite.TypeOf", "internal/reflectlite.ValueOf", "(internal/reflectlite.Value).Type", "(internal/reflectlite.Value).IsNil", "(internal/reflectlite.Value).Elem", "(internal/reflectlite.Value).Set"], unfollowed := true, recurses := true, named := ["watchway/ltl.errStand", "watchway/ltl.errOpen", "watchway/ltl.errWord", "errors.errorType"], apart := false, laid := [("errors.errorType", laid_errors_errorType), ("watchway/ltl.errStand", laid_watchway_ltl_errStand), ("watchway/ltl.errOpen", laid_watchway_ltl_errOpen), ("watchway/ltl.errWord", laid_watchway_ltl_errWord)], narrowed := true }
def LtlReadsUptoSaid : Prop := ltlReadsUptoRow.holds Tryd.pinned (OpenSpec.upto ltlReadsSpec)

/-- 'watchlaw.ProcReads', WHERE WHAT IT READS IS OF BULK AT MOST 1048576: true; the input reads as it did. -/
def procReadsUptoRow : OpenClaim := { program := "ytijeijfccgegaaadoor", sum := "7de8da2b81707bbd9c0f10c15ebc4bcff8fad363e83949e31adaee2883ef68af", func := "watchway/watchlaw.ProcReads", spec := "procReads", inPlace := ["internal/abi.NoEscape", "internal/bytealg.IndexByteString", "internal/bytealg.IndexString", "internal/bytealg.CountString"], unfollowed := true, recurses := true, named := ["internal/bytealg.MaxLen", "unicode/utf8.first", "unicode/utf8.acceptRanges"], apart := false, laid := [("unicode/utf8.acceptRanges", laid_unicode_utf8_acceptRanges), ("unicode/utf8.first", laid_unicode_utf8_first)], narrowed := true }
def ProcReadsUptoSaid : Prop := procReadsUptoRow.holds Tryd.pinned (OpenSpec.upto procReadsSpec)

end Rows
end Go.Proofs.YtijeijfccgegaaaDoor
