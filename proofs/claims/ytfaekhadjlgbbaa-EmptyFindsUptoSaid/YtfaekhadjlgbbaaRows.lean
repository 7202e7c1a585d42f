/-
  NARROWER THAN 'FOR EVERY INPUT', by the rows' own cells (each row's printed sentence says how): TableauMakes: loops.
  DERIVED. THE GIVEN ROWS OF THIS SEAT. 5 by the template 'for every input the law returns true; each argument reads behind the call as it read before'; 0 by the template 'total and deterministic' (their statements: YtfaekhadjlgbbaaTotals.lean).
  GIVEN WITH THE SEED: the statements are not yours to turn. If you find one false, say at which input.
  Laid BY PROGRAM, IN A SANDBOX (cutbox-rows.mjs): the forced cells as the released guide's own fill.sh prints them over the translation 42497a0fc8ff6fdc… (all of the seat's roots in one cut). By AI agents, Wed Nov 11 2026. No macro, syntax, notation, axiom, sorry.
-/
import Derived.Test.YtfaekhadjlgbbaaChecked
import GoSem.Claim
import GoSem.ClaimJoined
import GoSem.ClaimMapViews
import Derived.JoinedTies
import Derived.KernelRfl
namespace Go.Proofs.Ytfaekhadjlgbbaa
/- THE CELL 'sum', in the pinned program and in every row, IS THE sha256 OF THE DUMP (.gsa) THAT YtfaekhadjlgbbaaProg.lean LOADS. Nothing in Lean hashes anything: it is a label: what it is worth is what the hold of that sum in a sandbox is worth. -/
noncomputable def Try.pinned : Pinned := { name := "ytfaekhadjlgbbaa", sum := "42497a0fc8ff6fdcc77f7dff31f0a0ba1ac630627dc7154ccb1fbb820bc30e9a", checked := Try.checked }
namespace Rows
def none {H : Type} : Left H := { results := [], args := [] }

/-- 'watchlaw.AutoSays': WHATEVER THE INPUT: true; the input reads as it did. -/
def autoSaysSpec : ChangeSpec := { name := "autoSays", fn := fun _ => fun
  | [d1, d2] => { results := [.lit (.bool true)], args := [d1, d2] }
  | _ => none }
def autoSaysRow : OpenClaim := { program := "ytfaekhadjlgbbaa", sum := "42497a0fc8ff6fdcc77f7dff31f0a0ba1ac630627dc7154ccb1fbb820bc30e9a", func := "watchway/watchlaw.AutoSays", spec := "autoSays", unfollowed := true, recurses := true, plainKeys := false, apart := false }
def AutoSaysSaid : Prop := autoSaysRow.holds Try.pinned (OpenSpec.ofChange autoSaysSpec)

/-- ITS FALSE NEIGHBOUR: 'it returns false'. Refute it at one input. -/
def autoSaysWrong : ChangeSpec := { name := "autoSays", fn := fun _ => fun
  | [d1, d2] => { results := [.lit (.bool false)], args := [d1, d2] }
  | _ => none }
def AutoSaysWrongFalsely : Prop := autoSaysRow.holds Try.pinned (OpenSpec.ofChange autoSaysWrong)

/-- 'watchlaw.AutoSingle': WHATEVER THE INPUT: true; the input reads as it did. -/
def autoSingleSpec : ChangeSpec := { name := "autoSingle", fn := fun _ => fun
  | [d] => { results := [.lit (.bool true)], args := [d] }
  | _ => none }
def autoSingleRow : OpenClaim := { program := "ytfaekhadjlgbbaa", sum := "42497a0fc8ff6fdcc77f7dff31f0a0ba1ac630627dc7154ccb1fbb820bc30e9a", func := "watchway/watchlaw.AutoSingle", spec := "autoSingle", unfollowed := true, recurses := true, plainKeys := false, apart := false }
def AutoSingleSaid : Prop := autoSingleRow.holds Try.pinned (OpenSpec.ofChange autoSingleSpec)

/-- ITS FALSE NEIGHBOUR: 'it returns false'. Refute it at one input. -/
def autoSingleWrong : ChangeSpec := { name := "autoSingle", fn := fun _ => fun
  | [d] => { results := [.lit (.bool false)], args := [d] }
  | _ => none }
def AutoSingleWrongFalsely : Prop := autoSingleRow.holds Try.pinned (OpenSpec.ofChange autoSingleWrong)

/-- 'watchlaw.AutoBoth': WHATEVER THE INPUT: true; the input reads as it did. -/
def autoBothSpec : ChangeSpec := { name := "autoBoth", fn := fun _ => fun
  | [d1, d2] => { results := [.lit (.bool true)], args := [d1, d2] }
  | _ => none }
def autoBothRow : OpenClaim := { program := "ytfaekhadjlgbbaa", sum := "42497a0fc8ff6fdcc77f7dff31f0a0ba1ac630627dc7154ccb1fbb820bc30e9a", func := "watchway/watchlaw.AutoBoth", spec := "autoBoth", unfollowed := true, recurses := true, plainKeys := false, apart := false }
def AutoBothSaid : Prop := autoBothRow.holds Try.pinned (OpenSpec.ofChange autoBothSpec)

/-- ITS FALSE NEIGHBOUR: 'it returns false'. Refute it at one input. -/
def autoBothWrong : ChangeSpec := { name := "autoBoth", fn := fun _ => fun
  | [d1, d2] => { results := [.lit (.bool false)], args := [d1, d2] }
  | _ => none }
def AutoBothWrongFalsely : Prop := autoBothRow.holds Try.pinned (OpenSpec.ofChange autoBothWrong)

/-- 'watchlaw.EmptyFinds': WHATEVER THE INPUT: true; the input reads as it did. -/
def emptyFindsSpec : ChangeSpec := { name := "emptyFinds", fn := fun _ => fun
  | [d1, d2] => { results := [.lit (.bool true)], args := [d1, d2] }
  | _ => none }
def emptyFindsRow : OpenClaim := { program := "ytfaekhadjlgbbaa", sum := "42497a0fc8ff6fdcc77f7dff31f0a0ba1ac630627dc7154ccb1fbb820bc30e9a", func := "watchway/watchlaw.EmptyFinds", spec := "emptyFinds", unfollowed := true, recurses := true, plainKeys := false, apart := false }
def EmptyFindsSaid : Prop := emptyFindsRow.holds Try.pinned (OpenSpec.ofChange emptyFindsSpec)

/-- ITS FALSE NEIGHBOUR: 'it returns false'. Refute it at one input. -/
def emptyFindsWrong : ChangeSpec := { name := "emptyFinds", fn := fun _ => fun
  | [d1, d2] => { results := [.lit (.bool false)], args := [d1, d2] }
  | _ => none }
def EmptyFindsWrongFalsely : Prop := emptyFindsRow.holds Try.pinned (OpenSpec.ofChange emptyFindsWrong)

/-- 'watchlaw.TableauMakes': WHATEVER THE INPUT: true; the input reads as it did. -/
def tableauMakesSpec : ChangeSpec := { name := "tableauMakes", fn := fun _ => fun
  | [d] => { results := [.lit (.bool true)], args := [d] }
  | _ => none }
def tableauMakesRow : OpenClaim := { program := "ytfaekhadjlgbbaa", sum := "42497a0fc8ff6fdcc77f7dff31f0a0ba1ac630627dc7154ccb1fbb820bc30e9a", func := "watchway/watchlaw.TableauMakes", spec := "tableauMakes", unfollowed := true, recurses := true, loops := true, plainKeys := false, apart := false }
def TableauMakesSaid : Prop := tableauMakesRow.holds Try.pinned (OpenSpec.ofChange tableauMakesSpec)

/-- ITS FALSE NEIGHBOUR: 'it returns false'. Refute it at one input. -/
def tableauMakesWrong : ChangeSpec := { name := "tableauMakes", fn := fun _ => fun
  | [d] => { results := [.lit (.bool false)], args := [d] }
  | _ => none }
def TableauMakesWrongFalsely : Prop := tableauMakesRow.holds Try.pinned (OpenSpec.ofChange tableauMakesWrong)

/- THE SECOND FORM. 'bulk': how many values and letters a reading holds, each counted each time it is reached (what is shared counts as often as it is met; a slice's spare places count too). A statement '..UptoSaid' is the law's where the arguments, and the package variables that the reading takes, are together of bulk at most 1048576: NARROWER than '..Said'. Prove '..Said' where nothing that the law and all that it calls make is longer than what came in: it says more and counts as full. Else prove '..UptoSaid'. A law counts once. -/
mutual
def uptoBulk {H : Type} : DataW H → Nat
  | .lit (.string bytes) => bytes.length + 1
  | .lit _ => 1
  | .nil => 1
  | .ptr d => uptoBulk d + 1
  | .slice elems spare => uptoBulkAll elems + uptoBulkAll spare + 1
  | .agg parts => uptoBulkAll parts + 1
  | .iface _ d => uptoBulk d + 1
  | .map entries => uptoBulkEntries entries + 1
  | .held _ => 1
def uptoBulkAll {H : Type} : List (DataW H) → Nat
  | [] => 0
  | d :: r => uptoBulk d + uptoBulkAll r
def uptoBulkEntries {H : Type} : List (Lit × DataW H) → Nat
  | [] => 0
  | x :: r => uptoBulkEntry x + uptoBulkEntries r
def uptoBulkEntry {H : Type} : Lit × DataW H → Nat
  | (.string bytes, d) => bytes.length + uptoBulk d + 1
  | (_, d) => uptoBulk d + 1
 end
def uptoSmall : (H : Type) → List (DataW H) → Bool := fun _ ds => decide (uptoBulkAll ds ≤ 1048576)
def OpenSpec.upto (s : _root_.Go.ChangeSpec) : _root_.Go.OpenSpec := { _root_.Go.OpenSpec.ofChange s with cond := some uptoSmall }

/-- 'watchlaw.AutoSays', WHERE WHAT IT READS IS OF BULK AT MOST 1048576: true; the input reads as it did. -/
def autoSaysUptoRow : OpenClaim := { program := "ytfaekhadjlgbbaa", sum := "42497a0fc8ff6fdcc77f7dff31f0a0ba1ac630627dc7154ccb1fbb820bc30e9a", func := "watchway/watchlaw.AutoSays", spec := "autoSays", unfollowed := true, recurses := true, plainKeys := false, apart := false, narrowed := true }
def AutoSaysUptoSaid : Prop := autoSaysUptoRow.holds Try.pinned (OpenSpec.upto autoSaysSpec)

/-- 'watchlaw.AutoSingle', WHERE WHAT IT READS IS OF BULK AT MOST 1048576: true; the input reads as it did. -/
def autoSingleUptoRow : OpenClaim := { program := "ytfaekhadjlgbbaa", sum := "42497a0fc8ff6fdcc77f7dff31f0a0ba1ac630627dc7154ccb1fbb820bc30e9a", func := "watchway/watchlaw.AutoSingle", spec := "autoSingle", unfollowed := true, recurses := true, plainKeys := false, apart := false, narrowed := true }
def AutoSingleUptoSaid : Prop := autoSingleUptoRow.holds Try.pinned (OpenSpec.upto autoSingleSpec)

/-- 'watchlaw.AutoBoth', WHERE WHAT IT READS IS OF BULK AT MOST 1048576: true; the input reads as it did. -/
def autoBothUptoRow : OpenClaim := { program := "ytfaekhadjlgbbaa", sum := "42497a0fc8ff6fdcc77f7dff31f0a0ba1ac630627dc7154ccb1fbb820bc30e9a", func := "watchway/watchlaw.AutoBoth", spec := "autoBoth", unfollowed := true, recurses := true, plainKeys := false, apart := false, narrowed := true }
def AutoBothUptoSaid : Prop := autoBothUptoRow.holds Try.pinned (OpenSpec.upto autoBothSpec)

/-- 'watchlaw.EmptyFinds', WHERE WHAT IT READS IS OF BULK AT MOST 1048576: true; the input reads as it did. -/
def emptyFindsUptoRow : OpenClaim := { program := "ytfaekhadjlgbbaa", sum := "42497a0fc8ff6fdcc77f7dff31f0a0ba1ac630627dc7154ccb1fbb820bc30e9a", func := "watchway/watchlaw.EmptyFinds", spec := "emptyFinds", unfollowed := true, recurses := true, plainKeys := false, apart := false, narrowed := true }
def EmptyFindsUptoSaid : Prop := emptyFindsUptoRow.holds Try.pinned (OpenSpec.upto emptyFindsSpec)

/-- 'watchlaw.TableauMakes', WHERE WHAT IT READS IS OF BULK AT MOST 1048576: true; the input reads as it did. -/
def tableauMakesUptoRow : OpenClaim := { program := "ytfaekhadjlgbbaa", sum := "42497a0fc8ff6fdcc77f7dff31f0a0ba1ac630627dc7154ccb1fbb820bc30e9a", func := "watchway/watchlaw.TableauMakes", spec := "tableauMakes", unfollowed := true, recurses := true, loops := true, plainKeys := false, apart := false, narrowed := true }
def TableauMakesUptoSaid : Prop := tableauMakesUptoRow.holds Try.pinned (OpenSpec.upto tableauMakesSpec)

end Rows
end Go.Proofs.Ytfaekhadjlgbbaa
