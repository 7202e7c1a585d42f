/-
  No cell of these rows narrows 'for every input' (looked for: loops, veiled, ifaces, maps, wideKeys, modest, calm, conditions, laid).
  DERIVED. THE GIVEN ROWS OF THIS SEAT. 5 by the template 'for every input the law returns true; each argument reads behind the call as it read before'; 0 by the template 'total and deterministic' (their statements: YtgohkomfkfilnaaTotals.lean).
  GIVEN WITH THE SEED: the statements are not yours to turn. If you find one false, say at which input.
  Laid BY PROGRAM, IN A SANDBOX (cutbox-rows.mjs): the forced cells as the released guide's own fill.sh prints them over the translation df475cbff94403d1… (all of the seat's roots in one cut). By AI agents, Wed Nov 11 2026. No macro, syntax, notation, axiom, sorry.
-/
import Derived.Test.YtgohkomfkfilnaaChecked
import GoSem.Claim
import GoSem.ClaimJoined
import GoSem.ClaimMapViews
import Derived.JoinedTies
import Derived.KernelRfl
namespace Go.Proofs.Ytgohkomfkfilnaa
/- THE CELL 'sum', in the pinned program and in every row, IS THE sha256 OF THE DUMP (.gsa) THAT YtgohkomfkfilnaaProg.lean LOADS. Nothing in Lean hashes anything: it is a label: what it is worth is what the hold of that sum in a sandbox is worth. -/
noncomputable def Try.pinned : Pinned := { name := "ytgohkomfkfilnaa", sum := "df475cbff94403d1134bd6bba49a1ae00f3f87553dd9bb88450e80d42d3f76c5", checked := Try.checked }
namespace Rows
def none {H : Type} : Left H := { results := [], args := [] }

/-- 'watchlaw.AutoSingle': WHATEVER THE INPUT: true; the input reads as it did. -/
def autoSingleSpec : ChangeSpec := { name := "autoSingle", fn := fun _ => fun
  | [d] => { results := [.lit (.bool true)], args := [d] }
  | _ => none }
def autoSingleRow : OpenClaim := { program := "ytgohkomfkfilnaa", sum := "df475cbff94403d1134bd6bba49a1ae00f3f87553dd9bb88450e80d42d3f76c5", func := "watchway/watchlaw.AutoSingle", spec := "autoSingle", unfollowed := true, recurses := true, plainKeys := false, apart := false }
def AutoSingleSaid : Prop := autoSingleRow.holds Try.pinned (OpenSpec.ofChange autoSingleSpec)

/-- ITS FALSE NEIGHBOUR: 'it returns false'. Refute it at one input. -/
def autoSingleWrong : ChangeSpec := { name := "autoSingle", fn := fun _ => fun
  | [d] => { results := [.lit (.bool false)], args := [d] }
  | _ => none }
def AutoSingleWrongFalsely : Prop := autoSingleRow.holds Try.pinned (OpenSpec.ofChange autoSingleWrong)

/-- 'watchlaw.AutoBoth': WHATEVER THE INPUT: true; the input reads as it did. -/
def autoBothSpec : ChangeSpec := { name := "autoBoth", fn := fun _ => fun
  | [d1, d2] => { results := [.lit (.bool true)], args := [d1, d2] }
  | _ => none }
def autoBothRow : OpenClaim := { program := "ytgohkomfkfilnaa", sum := "df475cbff94403d1134bd6bba49a1ae00f3f87553dd9bb88450e80d42d3f76c5", func := "watchway/watchlaw.AutoBoth", spec := "autoBoth", unfollowed := true, recurses := true, plainKeys := false, apart := false }
def AutoBothSaid : Prop := autoBothRow.holds Try.pinned (OpenSpec.ofChange autoBothSpec)

/-- ITS FALSE NEIGHBOUR: 'it returns false'. Refute it at one input. -/
def autoBothWrong : ChangeSpec := { name := "autoBoth", fn := fun _ => fun
  | [d1, d2] => { results := [.lit (.bool false)], args := [d1, d2] }
  | _ => none }
def AutoBothWrongFalsely : Prop := autoBothRow.holds Try.pinned (OpenSpec.ofChange autoBothWrong)

/-- 'watchlaw.SccReaches': WHATEVER THE INPUT: true; the input reads as it did. -/
def sccReachesSpec : ChangeSpec := { name := "sccReaches", fn := fun _ => fun
  | [d1, d2] => { results := [.lit (.bool true)], args := [d1, d2] }
  | _ => none }
def sccReachesRow : OpenClaim := { program := "ytgohkomfkfilnaa", sum := "df475cbff94403d1134bd6bba49a1ae00f3f87553dd9bb88450e80d42d3f76c5", func := "watchway/watchlaw.SccReaches", spec := "sccReaches", unfollowed := true, recurses := true, plainKeys := false, apart := false }
def SccReachesSaid : Prop := sccReachesRow.holds Try.pinned (OpenSpec.ofChange sccReachesSpec)

/-- ITS FALSE NEIGHBOUR: 'it returns false'. Refute it at one input. -/
def sccReachesWrong : ChangeSpec := { name := "sccReaches", fn := fun _ => fun
  | [d1, d2] => { results := [.lit (.bool false)], args := [d1, d2] }
  | _ => none }
def SccReachesWrongFalsely : Prop := sccReachesRow.holds Try.pinned (OpenSpec.ofChange sccReachesWrong)

/-- 'watchlaw.DwyerMeans': WHATEVER THE INPUT: true; the input reads as it did. -/
def dwyerMeansSpec : ChangeSpec := { name := "dwyerMeans", fn := fun _ => fun
  | [d1, d2] => { results := [.lit (.bool true)], args := [d1, d2] }
  | _ => none }
def dwyerMeansRow : OpenClaim := { program := "ytgohkomfkfilnaa", sum := "df475cbff94403d1134bd6bba49a1ae00f3f87553dd9bb88450e80d42d3f76c5", func := "watchway/watchlaw.DwyerMeans", spec := "dwyerMeans", unfollowed := true, recurses := true, plainKeys := false, apart := false }
def DwyerMeansSaid : Prop := dwyerMeansRow.holds Try.pinned (OpenSpec.ofChange dwyerMeansSpec)

/-- ITS FALSE NEIGHBOUR: 'it returns false'. Refute it at one input. -/
def dwyerMeansWrong : ChangeSpec := { name := "dwyerMeans", fn := fun _ => fun
  | [d1, d2] => { results := [.lit (.bool false)], args := [d1, d2] }
  | _ => none }
def DwyerMeansWrongFalsely : Prop := dwyerMeansRow.holds Try.pinned (OpenSpec.ofChange dwyerMeansWrong)

/-- 'watchlaw.DeclareMeans': WHATEVER THE INPUT: true; the input reads as it did. -/
def declareMeansSpec : ChangeSpec := { name := "declareMeans", fn := fun _ => fun
  | [d1, d2] => { results := [.lit (.bool true)], args := [d1, d2] }
  | _ => none }
def declareMeansRow : OpenClaim := { program := "ytgohkomfkfilnaa", sum := "df475cbff94403d1134bd6bba49a1ae00f3f87553dd9bb88450e80d42d3f76c5", func := "watchway/watchlaw.DeclareMeans", spec := "declareMeans", unfollowed := true, recurses := true, plainKeys := false, apart := false }
def DeclareMeansSaid : Prop := declareMeansRow.holds Try.pinned (OpenSpec.ofChange declareMeansSpec)

/-- ITS FALSE NEIGHBOUR: 'it returns false'. Refute it at one input. -/
def declareMeansWrong : ChangeSpec := { name := "declareMeans", fn := fun _ => fun
  | [d1, d2] => { results := [.lit (.bool false)], args := [d1, d2] }
  | _ => none }
def DeclareMeansWrongFalsely : Prop := declareMeansRow.holds Try.pinned (OpenSpec.ofChange declareMeansWrong)

/- THE SECOND FORM. 'bulk': how many values and letters a reading holds, each counted each time it is reached (what is shared counts as often as it is met; a slice's spare places count too). A statement '..UptoSaid' is the law's where the arguments, and the package variables that the reading takes, are together of bulk at most 1048576: NARROWER than '..Said'. Prove '..Said' where nothing that the law and all that it calls make is longer than what came in: it says more and counts as full. Else prove '..UptoSaid'. A law counts once. -/
mutual
def uptoBulk {H : Type} : DataW H → Nat
  | .lit (.string bytes) => bytes.length + 1
  | .lit _ => 1
  | .nil => 1
  | .ptr d => uptoBulk d + 1
  | .slice elems spare => uptoBulkAll elems + uptoBulkAll spare + 1
  | .agg parts => uptoBulkAll parts + 1
  | .iface _ d => uptoBulk d + 1
  | .map entries => uptoBulkEntries entries + 1
  | .held _ => 1
def uptoBulkAll {H : Type} : List (DataW H) → Nat
  | [] => 0
  | d :: r => uptoBulk d + uptoBulkAll r
def uptoBulkEntries {H : Type} : List (Lit × DataW H) → Nat
  | [] => 0
  | x :: r => uptoBulkEntry x + uptoBulkEntries r
def uptoBulkEntry {H : Type} : Lit × DataW H → Nat
  | (.string bytes, d) => bytes.length + uptoBulk d + 1
  | (_, d) => uptoBulk d + 1
 end
def uptoSmall : (H : Type) → List (DataW H) → Bool := fun _ ds => decide (uptoBulkAll ds ≤ 1048576)
def OpenSpec.upto (s : _root_.Go.ChangeSpec) : _root_.Go.OpenSpec := { _root_.Go.OpenSpec.ofChange s with cond := some uptoSmall }

/-- 'watchlaw.AutoSingle', WHERE WHAT IT READS IS OF BULK AT MOST 1048576: true; the input reads as it did. -/
def autoSingleUptoRow : OpenClaim := { program := "ytgohkomfkfilnaa", sum := "df475cbff94403d1134bd6bba49a1ae00f3f87553dd9bb88450e80d42d3f76c5", func := "watchway/watchlaw.AutoSingle", spec := "autoSingle", unfollowed := true, recurses := true, plainKeys := false, apart := false, narrowed := true }
def AutoSingleUptoSaid : Prop := autoSingleUptoRow.holds Try.pinned (OpenSpec.upto autoSingleSpec)

/-- 'watchlaw.AutoBoth', WHERE WHAT IT READS IS OF BULK AT MOST 1048576: true; the input reads as it did. -/
def autoBothUptoRow : OpenClaim := { program := "ytgohkomfkfilnaa", sum := "df475cbff94403d1134bd6bba49a1ae00f3f87553dd9bb88450e80d42d3f76c5", func := "watchway/watchlaw.AutoBoth", spec := "autoBoth", unfollowed := true, recurses := true, plainKeys := false, apart := false, narrowed := true }
def AutoBothUptoSaid : Prop := autoBothUptoRow.holds Try.pinned (OpenSpec.upto autoBothSpec)

/-- 'watchlaw.SccReaches', WHERE WHAT IT READS IS OF BULK AT MOST 1048576: true; the input reads as it did. -/
def sccReachesUptoRow : OpenClaim := { program := "ytgohkomfkfilnaa", sum := "df475cbff94403d1134bd6bba49a1ae00f3f87553dd9bb88450e80d42d3f76c5", func := "watchway/watchlaw.SccReaches", spec := "sccReaches", unfollowed := true, recurses := true, plainKeys := false, apart := false, narrowed := true }
def SccReachesUptoSaid : Prop := sccReachesUptoRow.holds Try.pinned (OpenSpec.upto sccReachesSpec)

/-- 'watchlaw.DwyerMeans', WHERE WHAT IT READS IS OF BULK AT MOST 1048576: true; the input reads as it did. -/
def dwyerMeansUptoRow : OpenClaim := { program := "ytgohkomfkfilnaa", sum := "df475cbff94403d1134bd6bba49a1ae00f3f87553dd9bb88450e80d42d3f76c5", func := "watchway/watchlaw.DwyerMeans", spec := "dwyerMeans", unfollowed := true, recurses := true, plainKeys := false, apart := false, narrowed := true }
def DwyerMeansUptoSaid : Prop := dwyerMeansUptoRow.holds Try.pinned (OpenSpec.upto dwyerMeansSpec)

/-- 'watchlaw.DeclareMeans', WHERE WHAT IT READS IS OF BULK AT MOST 1048576: true; the input reads as it did. -/
def declareMeansUptoRow : OpenClaim := { program := "ytgohkomfkfilnaa", sum := "df475cbff94403d1134bd6bba49a1ae00f3f87553dd9bb88450e80d42d3f76c5", func := "watchway/watchlaw.DeclareMeans", spec := "declareMeans", unfollowed := true, recurses := true, plainKeys := false, apart := false, narrowed := true }
def DeclareMeansUptoSaid : Prop := declareMeansUptoRow.holds Try.pinned (OpenSpec.upto declareMeansSpec)

end Rows
end Go.Proofs.Ytgohkomfkfilnaa
