/-
  NARROWER THAN 'FOR EVERY INPUT', by the rows' own cells (each row's printed sentence says how): ReplayProves: loops.
  DERIVED. THE GIVEN ROWS OF THIS SEAT. 3 by the template 'for every input the law returns true; each argument reads behind the call as it read before'; 0 by the template 'total and deterministic' (their statements: YtjnfahdolkgnoaaTotals.lean).
  GIVEN WITH THE SEED: the statements are not yours to turn. If you find one false, say at which input.
  Laid BY PROGRAM, IN A SANDBOX (cutbox-rows.mjs): the forced cells as the released guide's own fill.sh prints them over the translation 1f939ba919a38a6c… (all of the seat's roots in one cut). By AI agents, Wed Nov 11 2026. No macro, syntax, notation, axiom, sorry.
-/
import Derived.Test.YtjnfahdolkgnoaaChecked
import GoSem.Claim
import GoSem.ClaimJoined
import GoSem.ClaimMapViews
import Derived.JoinedTies
import Derived.KernelRfl
namespace Go.Proofs.Ytjnfahdolkgnoaa
/- THE CELL 'sum', in the pinned program and in every row, IS THE sha256 OF THE DUMP (.gsa) THAT YtjnfahdolkgnoaaProg.lean LOADS. Nothing in Lean hashes anything: it is a label: what it is worth is what the hold of that sum in a sandbox is worth. -/
noncomputable def Try.pinned : Pinned := { name := "ytjnfahdolkgnoaa", sum := "1f939ba919a38a6ce4b098e6ea21a3988cb826f3fc46cf38d60bbae8939c297b", checked := Try.checked }
namespace Rows
def none {H : Type} : Left H := { results := [], args := [] }

/-- 'watchlaw.SoundSays': WHATEVER THE INPUT: true; the input reads as it did. -/
def soundSaysSpec : ChangeSpec := { name := "soundSays", fn := fun _ => fun
  | [d1, d2, d3] => { results := [.lit (.bool true)], args := [d1, d2, d3] }
  | _ => none }
def soundSaysRow : OpenClaim := { program := "ytjnfahdolkgnoaa", sum := "1f939ba919a38a6ce4b098e6ea21a3988cb826f3fc46cf38d60bbae8939c297b", func := "watchway/watchlaw.SoundSays", spec := "soundSays", unfollowed := true, recurses := true, plainKeys := false, apart := false }
def SoundSaysSaid : Prop := soundSaysRow.holds Try.pinned (OpenSpec.ofChange soundSaysSpec)

/-- ITS FALSE NEIGHBOUR: 'it returns false'. Refute it at one input. -/
def soundSaysWrong : ChangeSpec := { name := "soundSays", fn := fun _ => fun
  | [d1, d2, d3] => { results := [.lit (.bool false)], args := [d1, d2, d3] }
  | _ => none }
def SoundSaysWrongFalsely : Prop := soundSaysRow.holds Try.pinned (OpenSpec.ofChange soundSaysWrong)

/-- 'watchlaw.RunsSays': WHATEVER THE INPUT: true; the input reads as it did. -/
def runsSaysSpec : ChangeSpec := { name := "runsSays", fn := fun _ => fun
  | [d1, d2, d3] => { results := [.lit (.bool true)], args := [d1, d2, d3] }
  | _ => none }
def runsSaysRow : OpenClaim := { program := "ytjnfahdolkgnoaa", sum := "1f939ba919a38a6ce4b098e6ea21a3988cb826f3fc46cf38d60bbae8939c297b", func := "watchway/watchlaw.RunsSays", spec := "runsSays", unfollowed := true, recurses := true, plainKeys := false, apart := false }
def RunsSaysSaid : Prop := runsSaysRow.holds Try.pinned (OpenSpec.ofChange runsSaysSpec)

/-- ITS FALSE NEIGHBOUR: 'it returns false'. Refute it at one input. -/
def runsSaysWrong : ChangeSpec := { name := "runsSays", fn := fun _ => fun
  | [d1, d2, d3] => { results := [.lit (.bool false)], args := [d1, d2, d3] }
  | _ => none }
def RunsSaysWrongFalsely : Prop := runsSaysRow.holds Try.pinned (OpenSpec.ofChange runsSaysWrong)

/-- 'watchlaw.ReplayProves': WHATEVER THE INPUT: true; the input reads as it did. -/
def replayProvesSpec : ChangeSpec := { name := "replayProves", fn := fun _ => fun
  | [d1, d2, d3] => { results := [.lit (.bool true)], args := [d1, d2, d3] }
  | _ => none }
def replayProvesRow : OpenClaim := { program := "ytjnfahdolkgnoaa", sum := "1f939ba919a38a6ce4b098e6ea21a3988cb826f3fc46cf38d60bbae8939c297b", func := "watchway/watchlaw.ReplayProves", spec := "replayProves", unfollowed := true, recurses := true, loops := true, plainKeys := false, apart := false }
def ReplayProvesSaid : Prop := replayProvesRow.holds Try.pinned (OpenSpec.ofChange replayProvesSpec)

/-- ITS FALSE NEIGHBOUR: 'it returns false'. Refute it at one input. -/
def replayProvesWrong : ChangeSpec := { name := "replayProves", fn := fun _ => fun
  | [d1, d2, d3] => { results := [.lit (.bool false)], args := [d1, d2, d3] }
  | _ => none }
def ReplayProvesWrongFalsely : Prop := replayProvesRow.holds Try.pinned (OpenSpec.ofChange replayProvesWrong)

/- THE SECOND FORM. 'bulk': how many values and letters a reading holds, each counted each time it is reached (what is shared counts as often as it is met; a slice's spare places count too). A statement '..UptoSaid' is the law's where the arguments, and the package variables that the reading takes, are together of bulk at most 1048576: NARROWER than '..Said'. Prove '..Said' where nothing that the law and all that it calls make is longer than what came in: it says more and counts as full. Else prove '..UptoSaid'. A law counts once. -/
mutual
def uptoBulk {H : Type} : DataW H → Nat
  | .lit (.string bytes) => bytes.length + 1
  | .lit _ => 1
  | .nil => 1
  | .ptr d => uptoBulk d + 1
  | .slice elems spare => uptoBulkAll elems + uptoBulkAll spare + 1
  | .agg parts => uptoBulkAll parts + 1
  | .iface _ d => uptoBulk d + 1
  | .map entries => uptoBulkEntries entries + 1
  | .held _ => 1
def uptoBulkAll {H : Type} : List (DataW H) → Nat
  | [] => 0
  | d :: r => uptoBulk d + uptoBulkAll r
def uptoBulkEntries {H : Type} : List (Lit × DataW H) → Nat
  | [] => 0
  | x :: r => uptoBulkEntry x + uptoBulkEntries r
def uptoBulkEntry {H : Type} : Lit × DataW H → Nat
  | (.string bytes, d) => bytes.length + uptoBulk d + 1
  | (_, d) => uptoBulk d + 1
 end
def uptoSmall : (H : Type) → List (DataW H) → Bool := fun _ ds => decide (uptoBulkAll ds ≤ 1048576)
def OpenSpec.upto (s : _root_.Go.ChangeSpec) : _root_.Go.OpenSpec := { _root_.Go.OpenSpec.ofChange s with cond := some uptoSmall }

/-- 'watchlaw.SoundSays', WHERE WHAT IT READS IS OF BULK AT MOST 1048576: true; the input reads as it did. -/
def soundSaysUptoRow : OpenClaim := { program := "ytjnfahdolkgnoaa", sum := "1f939ba919a38a6ce4b098e6ea21a3988cb826f3fc46cf38d60bbae8939c297b", func := "watchway/watchlaw.SoundSays", spec := "soundSays", unfollowed := true, recurses := true, plainKeys := false, apart := false, narrowed := true }
def SoundSaysUptoSaid : Prop := soundSaysUptoRow.holds Try.pinned (OpenSpec.upto soundSaysSpec)

/-- 'watchlaw.RunsSays', WHERE WHAT IT READS IS OF BULK AT MOST 1048576: true; the input reads as it did. -/
def runsSaysUptoRow : OpenClaim := { program := "ytjnfahdolkgnoaa", sum := "1f939ba919a38a6ce4b098e6ea21a3988cb826f3fc46cf38d60bbae8939c297b", func := "watchway/watchlaw.RunsSays", spec := "runsSays", unfollowed := true, recurses := true, plainKeys := false, apart := false, narrowed := true }
def RunsSaysUptoSaid : Prop := runsSaysUptoRow.holds Try.pinned (OpenSpec.upto runsSaysSpec)

/-- 'watchlaw.ReplayProves', WHERE WHAT IT READS IS OF BULK AT MOST 1048576: true; the input reads as it did. -/
def replayProvesUptoRow : OpenClaim := { program := "ytjnfahdolkgnoaa", sum := "1f939ba919a38a6ce4b098e6ea21a3988cb826f3fc46cf38d60bbae8939c297b", func := "watchway/watchlaw.ReplayProves", spec := "replayProves", unfollowed := true, recurses := true, loops := true, plainKeys := false, apart := false, narrowed := true }
def ReplayProvesUptoSaid : Prop := replayProvesUptoRow.holds Try.pinned (OpenSpec.upto replayProvesSpec)

end Rows
end Go.Proofs.Ytjnfahdolkgnoaa
