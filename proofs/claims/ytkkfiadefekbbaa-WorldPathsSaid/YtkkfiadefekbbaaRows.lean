/-
  NARROWER THAN 'FOR EVERY INPUT', by the rows' own cells (each row's printed sentence says how): CtlSays: loops · LtlSays: loops · PushSlim: loops · LassoSays: loops.
  DERIVED. THE GIVEN ROWS OF THIS SEAT. 11 by the template 'for every input the law returns true; each argument reads behind the call as it read before'; 0 by the template 'total and deterministic' (their statements: YtkkfiadefekbbaaTotals.lean).
  GIVEN WITH THE SEED: the statements are not yours to turn. If you find one false, say at which input.
  Laid BY PROGRAM, IN A SANDBOX (cutbox-rows.mjs): the forced cells as the released guide's own fill.sh prints them over the translation 16e81cf2c5102ab9… (all of the seat's roots in one cut). By AI agents, Wed Nov 11 2026. No macro, syntax, notation, axiom, sorry.
-/
import Derived.Test.YtkkfiadefekbbaaChecked
import GoSem.Claim
import GoSem.ClaimJoined
import GoSem.ClaimMapViews
import Derived.JoinedTies
import Derived.KernelRfl
namespace Go.Proofs.Ytkkfiadefekbbaa
/- THE CELL 'sum', in the pinned program and in every row, IS THE sha256 OF THE DUMP (.gsa) THAT YtkkfiadefekbbaaProg.lean LOADS. Nothing in Lean hashes anything: it is a label: what it is worth is what the hold of that sum in a sandbox is worth. -/
noncomputable def Try.pinned : Pinned := { name := "ytkkfiadefekbbaa", sum := "16e81cf2c5102ab91a3fc258d796e0acc5928b29e17570446ba83b3c18e3f1e3", checked := Try.checked }
namespace Rows
def none {H : Type} : Left H := { results := [], args := [] }

/-- 'watchlaw.Names': WHATEVER THE INPUT: true; the input reads as it did. -/
def namesSpec : ChangeSpec := { name := "names", fn := fun _ => fun
  | [] => { results := [.lit (.bool true)], args := [] }
  | _ => none }
def namesRow : OpenClaim := { program := "ytkkfiadefekbbaa", sum := "16e81cf2c5102ab91a3fc258d796e0acc5928b29e17570446ba83b3c18e3f1e3", func := "watchway/watchlaw.Names", spec := "names", apart := false }
def NamesSaid : Prop := namesRow.holds Try.pinned (OpenSpec.ofChange namesSpec)

/-- ITS FALSE NEIGHBOUR: 'it returns false'. Refute it at one input. -/
def namesWrong : ChangeSpec := { name := "names", fn := fun _ => fun
  | [] => { results := [.lit (.bool false)], args := [] }
  | _ => none }
def NamesWrongFalsely : Prop := namesRow.holds Try.pinned (OpenSpec.ofChange namesWrong)

/-- 'watchlaw.LassoLeast': WHATEVER THE INPUT: true; the input reads as it did. -/
def lassoLeastSpec : ChangeSpec := { name := "lassoLeast", fn := fun _ => fun
  | [d1, d2] => { results := [.lit (.bool true)], args := [d1, d2] }
  | _ => none }
def lassoLeastRow : OpenClaim := { program := "ytkkfiadefekbbaa", sum := "16e81cf2c5102ab91a3fc258d796e0acc5928b29e17570446ba83b3c18e3f1e3", func := "watchway/watchlaw.LassoLeast", spec := "lassoLeast", apart := false }
def LassoLeastSaid : Prop := lassoLeastRow.holds Try.pinned (OpenSpec.ofChange lassoLeastSpec)

/-- ITS FALSE NEIGHBOUR: 'it returns false'. Refute it at one input. -/
def lassoLeastWrong : ChangeSpec := { name := "lassoLeast", fn := fun _ => fun
  | [d1, d2] => { results := [.lit (.bool false)], args := [d1, d2] }
  | _ => none }
def LassoLeastWrongFalsely : Prop := lassoLeastRow.holds Try.pinned (OpenSpec.ofChange lassoLeastWrong)

/-- 'watchlaw.SccTurns': WHATEVER THE INPUT: true; the input reads as it did. -/
def sccTurnsSpec : ChangeSpec := { name := "sccTurns", fn := fun _ => fun
  | [d] => { results := [.lit (.bool true)], args := [d] }
  | _ => none }
def sccTurnsRow : OpenClaim := { program := "ytkkfiadefekbbaa", sum := "16e81cf2c5102ab91a3fc258d796e0acc5928b29e17570446ba83b3c18e3f1e3", func := "watchway/watchlaw.SccTurns", spec := "sccTurns", unfollowed := true, recurses := true, apart := false }
def SccTurnsSaid : Prop := sccTurnsRow.holds Try.pinned (OpenSpec.ofChange sccTurnsSpec)

/-- ITS FALSE NEIGHBOUR: 'it returns false'. Refute it at one input. -/
def sccTurnsWrong : ChangeSpec := { name := "sccTurns", fn := fun _ => fun
  | [d] => { results := [.lit (.bool false)], args := [d] }
  | _ => none }
def SccTurnsWrongFalsely : Prop := sccTurnsRow.holds Try.pinned (OpenSpec.ofChange sccTurnsWrong)

/-- 'watchlaw.SccWays': WHATEVER THE INPUT: true; the input reads as it did. -/
def sccWaysSpec : ChangeSpec := { name := "sccWays", fn := fun _ => fun
  | [d1, d2, d3] => { results := [.lit (.bool true)], args := [d1, d2, d3] }
  | _ => none }
def sccWaysRow : OpenClaim := { program := "ytkkfiadefekbbaa", sum := "16e81cf2c5102ab91a3fc258d796e0acc5928b29e17570446ba83b3c18e3f1e3", func := "watchway/watchlaw.SccWays", spec := "sccWays", unfollowed := true, recurses := true, apart := false }
def SccWaysSaid : Prop := sccWaysRow.holds Try.pinned (OpenSpec.ofChange sccWaysSpec)

/-- ITS FALSE NEIGHBOUR: 'it returns false'. Refute it at one input. -/
def sccWaysWrong : ChangeSpec := { name := "sccWays", fn := fun _ => fun
  | [d1, d2, d3] => { results := [.lit (.bool false)], args := [d1, d2, d3] }
  | _ => none }
def SccWaysWrongFalsely : Prop := sccWaysRow.holds Try.pinned (OpenSpec.ofChange sccWaysWrong)

/-- 'watchlaw.DeclareSays': WHATEVER THE INPUT: true; the input reads as it did. -/
def declareSaysSpec : ChangeSpec := { name := "declareSays", fn := fun _ => fun
  | [d] => { results := [.lit (.bool true)], args := [d] }
  | _ => none }
def declareSaysRow : OpenClaim := { program := "ytkkfiadefekbbaa", sum := "16e81cf2c5102ab91a3fc258d796e0acc5928b29e17570446ba83b3c18e3f1e3", func := "watchway/watchlaw.DeclareSays", spec := "declareSays", unfollowed := true, recurses := true, apart := false }
def DeclareSaysSaid : Prop := declareSaysRow.holds Try.pinned (OpenSpec.ofChange declareSaysSpec)

/-- ITS FALSE NEIGHBOUR: 'it returns false'. Refute it at one input. -/
def declareSaysWrong : ChangeSpec := { name := "declareSays", fn := fun _ => fun
  | [d] => { results := [.lit (.bool false)], args := [d] }
  | _ => none }
def DeclareSaysWrongFalsely : Prop := declareSaysRow.holds Try.pinned (OpenSpec.ofChange declareSaysWrong)

/-- 'watchlaw.CtlSays': WHATEVER THE INPUT: true; the input reads as it did. -/
def ctlSaysSpec : ChangeSpec := { name := "ctlSays", fn := fun _ => fun
  | [d1, d2] => { results := [.lit (.bool true)], args := [d1, d2] }
  | _ => none }
def ctlSaysRow : OpenClaim := { program := "ytkkfiadefekbbaa", sum := "16e81cf2c5102ab91a3fc258d796e0acc5928b29e17570446ba83b3c18e3f1e3", func := "watchway/watchlaw.CtlSays", spec := "ctlSays", unfollowed := true, recurses := true, loops := true, apart := false }
def CtlSaysSaid : Prop := ctlSaysRow.holds Try.pinned (OpenSpec.ofChange ctlSaysSpec)

/-- ITS FALSE NEIGHBOUR: 'it returns false'. Refute it at one input. -/
def ctlSaysWrong : ChangeSpec := { name := "ctlSays", fn := fun _ => fun
  | [d1, d2] => { results := [.lit (.bool false)], args := [d1, d2] }
  | _ => none }
def CtlSaysWrongFalsely : Prop := ctlSaysRow.holds Try.pinned (OpenSpec.ofChange ctlSaysWrong)

/-- 'watchlaw.LtlSays': WHATEVER THE INPUT: true; the input reads as it did. -/
def ltlSaysSpec : ChangeSpec := { name := "ltlSays", fn := fun _ => fun
  | [d1, d2] => { results := [.lit (.bool true)], args := [d1, d2] }
  | _ => none }
def ltlSaysRow : OpenClaim := { program := "ytkkfiadefekbbaa", sum := "16e81cf2c5102ab91a3fc258d796e0acc5928b29e17570446ba83b3c18e3f1e3", func := "watchway/watchlaw.LtlSays", spec := "ltlSays", unfollowed := true, recurses := true, loops := true, apart := false }
def LtlSaysSaid : Prop := ltlSaysRow.holds Try.pinned (OpenSpec.ofChange ltlSaysSpec)

/-- ITS FALSE NEIGHBOUR: 'it returns false'. Refute it at one input. -/
def ltlSaysWrong : ChangeSpec := { name := "ltlSays", fn := fun _ => fun
  | [d1, d2] => { results := [.lit (.bool false)], args := [d1, d2] }
  | _ => none }
def LtlSaysWrongFalsely : Prop := ltlSaysRow.holds Try.pinned (OpenSpec.ofChange ltlSaysWrong)

/-- 'watchlaw.WorldPaths': WHATEVER THE INPUT: true; the input reads as it did. -/
def worldPathsSpec : ChangeSpec := { name := "worldPaths", fn := fun _ => fun
  | [d1, d2] => { results := [.lit (.bool true)], args := [d1, d2] }
  | _ => none }
def worldPathsRow : OpenClaim := { program := "ytkkfiadefekbbaa", sum := "16e81cf2c5102ab91a3fc258d796e0acc5928b29e17570446ba83b3c18e3f1e3", func := "watchway/watchlaw.WorldPaths", spec := "worldPaths", unfollowed := true, recurses := true, apart := false }
def WorldPathsSaid : Prop := worldPathsRow.holds Try.pinned (OpenSpec.ofChange worldPathsSpec)

/-- ITS FALSE NEIGHBOUR: 'it returns false'. Refute it at one input. -/
def worldPathsWrong : ChangeSpec := { name := "worldPaths", fn := fun _ => fun
  | [d1, d2] => { results := [.lit (.bool false)], args := [d1, d2] }
  | _ => none }
def WorldPathsWrongFalsely : Prop := worldPathsRow.holds Try.pinned (OpenSpec.ofChange worldPathsWrong)

/-- 'watchlaw.DwyerSays': WHATEVER THE INPUT: true; the input reads as it did. -/
def dwyerSaysSpec : ChangeSpec := { name := "dwyerSays", fn := fun _ => fun
  | [d] => { results := [.lit (.bool true)], args := [d] }
  | _ => none }
def dwyerSaysRow : OpenClaim := { program := "ytkkfiadefekbbaa", sum := "16e81cf2c5102ab91a3fc258d796e0acc5928b29e17570446ba83b3c18e3f1e3", func := "watchway/watchlaw.DwyerSays", spec := "dwyerSays", unfollowed := true, recurses := true, apart := false }
def DwyerSaysSaid : Prop := dwyerSaysRow.holds Try.pinned (OpenSpec.ofChange dwyerSaysSpec)

/-- ITS FALSE NEIGHBOUR: 'it returns false'. Refute it at one input. -/
def dwyerSaysWrong : ChangeSpec := { name := "dwyerSays", fn := fun _ => fun
  | [d] => { results := [.lit (.bool false)], args := [d] }
  | _ => none }
def DwyerSaysWrongFalsely : Prop := dwyerSaysRow.holds Try.pinned (OpenSpec.ofChange dwyerSaysWrong)

/-- 'watchlaw.PushSlim': WHATEVER THE INPUT: true; the input reads as it did. -/
def pushSlimSpec : ChangeSpec := { name := "pushSlim", fn := fun _ => fun
  | [d] => { results := [.lit (.bool true)], args := [d] }
  | _ => none }
def pushSlimRow : OpenClaim := { program := "ytkkfiadefekbbaa", sum := "16e81cf2c5102ab91a3fc258d796e0acc5928b29e17570446ba83b3c18e3f1e3", func := "watchway/watchlaw.PushSlim", spec := "pushSlim", unfollowed := true, recurses := true, loops := true, apart := false }
def PushSlimSaid : Prop := pushSlimRow.holds Try.pinned (OpenSpec.ofChange pushSlimSpec)

/-- ITS FALSE NEIGHBOUR: 'it returns false'. Refute it at one input. -/
def pushSlimWrong : ChangeSpec := { name := "pushSlim", fn := fun _ => fun
  | [d] => { results := [.lit (.bool false)], args := [d] }
  | _ => none }
def PushSlimWrongFalsely : Prop := pushSlimRow.holds Try.pinned (OpenSpec.ofChange pushSlimWrong)

/-- 'watchlaw.LassoSays': WHATEVER THE INPUT: true; the input reads as it did. -/
def lassoSaysSpec : ChangeSpec := { name := "lassoSays", fn := fun _ => fun
  | [d1, d2, d3] => { results := [.lit (.bool true)], args := [d1, d2, d3] }
  | _ => none }
def lassoSaysRow : OpenClaim := { program := "ytkkfiadefekbbaa", sum := "16e81cf2c5102ab91a3fc258d796e0acc5928b29e17570446ba83b3c18e3f1e3", func := "watchway/watchlaw.LassoSays", spec := "lassoSays", unfollowed := true, recurses := true, loops := true, apart := false }
def LassoSaysSaid : Prop := lassoSaysRow.holds Try.pinned (OpenSpec.ofChange lassoSaysSpec)

/-- ITS FALSE NEIGHBOUR: 'it returns false'. Refute it at one input. -/
def lassoSaysWrong : ChangeSpec := { name := "lassoSays", fn := fun _ => fun
  | [d1, d2, d3] => { results := [.lit (.bool false)], args := [d1, d2, d3] }
  | _ => none }
def LassoSaysWrongFalsely : Prop := lassoSaysRow.holds Try.pinned (OpenSpec.ofChange lassoSaysWrong)

/- THE SECOND FORM. 'bulk': how many values and letters a reading holds, each counted each time it is reached (what is shared counts as often as it is met; a slice's spare places count too). A statement '..UptoSaid' is the law's where the arguments, and the package variables that the reading takes, are together of bulk at most 1048576: NARROWER than '..Said'. Prove '..Said' where nothing that the law and all that it calls make is longer than what came in: it says more and counts as full. Else prove '..UptoSaid'. A law counts once. -/
mutual
def uptoBulk {H : Type} : DataW H → Nat
  | .lit (.string bytes) => bytes.length + 1
  | .lit _ => 1
  | .nil => 1
  | .ptr d => uptoBulk d + 1
  | .slice elems spare => uptoBulkAll elems + uptoBulkAll spare + 1
  | .agg parts => uptoBulkAll parts + 1
  | .iface _ d => uptoBulk d + 1
  | .map entries => uptoBulkEntries entries + 1
  | .held _ => 1
def uptoBulkAll {H : Type} : List (DataW H) → Nat
  | [] => 0
  | d :: r => uptoBulk d + uptoBulkAll r
def uptoBulkEntries {H : Type} : List (Lit × DataW H) → Nat
  | [] => 0
  | x :: r => uptoBulkEntry x + uptoBulkEntries r
def uptoBulkEntry {H : Type} : Lit × DataW H → Nat
  | (.string bytes, d) => bytes.length + uptoBulk d + 1
  | (_, d) => uptoBulk d + 1
 end
def uptoSmall : (H : Type) → List (DataW H) → Bool := fun _ ds => decide (uptoBulkAll ds ≤ 1048576)
def OpenSpec.upto (s : _root_.Go.ChangeSpec) : _root_.Go.OpenSpec := { _root_.Go.OpenSpec.ofChange s with cond := some uptoSmall }

/-- 'watchlaw.Names', WHERE WHAT IT READS IS OF BULK AT MOST 1048576: true; the input reads as it did. -/
def namesUptoRow : OpenClaim := { program := "ytkkfiadefekbbaa", sum := "16e81cf2c5102ab91a3fc258d796e0acc5928b29e17570446ba83b3c18e3f1e3", func := "watchway/watchlaw.Names", spec := "names", apart := false, narrowed := true }
def NamesUptoSaid : Prop := namesUptoRow.holds Try.pinned (OpenSpec.upto namesSpec)

/-- 'watchlaw.LassoLeast', WHERE WHAT IT READS IS OF BULK AT MOST 1048576: true; the input reads as it did. -/
def lassoLeastUptoRow : OpenClaim := { program := "ytkkfiadefekbbaa", sum := "16e81cf2c5102ab91a3fc258d796e0acc5928b29e17570446ba83b3c18e3f1e3", func := "watchway/watchlaw.LassoLeast", spec := "lassoLeast", apart := false, narrowed := true }
def LassoLeastUptoSaid : Prop := lassoLeastUptoRow.holds Try.pinned (OpenSpec.upto lassoLeastSpec)

/-- 'watchlaw.SccTurns', WHERE WHAT IT READS IS OF BULK AT MOST 1048576: true; the input reads as it did. -/
def sccTurnsUptoRow : OpenClaim := { program := "ytkkfiadefekbbaa", sum := "16e81cf2c5102ab91a3fc258d796e0acc5928b29e17570446ba83b3c18e3f1e3", func := "watchway/watchlaw.SccTurns", spec := "sccTurns", unfollowed := true, recurses := true, apart := false, narrowed := true }
def SccTurnsUptoSaid : Prop := sccTurnsUptoRow.holds Try.pinned (OpenSpec.upto sccTurnsSpec)

/-- 'watchlaw.SccWays', WHERE WHAT IT READS IS OF BULK AT MOST 1048576: true; the input reads as it did. -/
def sccWaysUptoRow : OpenClaim := { program := "ytkkfiadefekbbaa", sum := "16e81cf2c5102ab91a3fc258d796e0acc5928b29e17570446ba83b3c18e3f1e3", func := "watchway/watchlaw.SccWays", spec := "sccWays", unfollowed := true, recurses := true, apart := false, narrowed := true }
def SccWaysUptoSaid : Prop := sccWaysUptoRow.holds Try.pinned (OpenSpec.upto sccWaysSpec)

/-- 'watchlaw.DeclareSays', WHERE WHAT IT READS IS OF BULK AT MOST 1048576: true; the input reads as it did. -/
def declareSaysUptoRow : OpenClaim := { program := "ytkkfiadefekbbaa", sum := "16e81cf2c5102ab91a3fc258d796e0acc5928b29e17570446ba83b3c18e3f1e3", func := "watchway/watchlaw.DeclareSays", spec := "declareSays", unfollowed := true, recurses := true, apart := false, narrowed := true }
def DeclareSaysUptoSaid : Prop := declareSaysUptoRow.holds Try.pinned (OpenSpec.upto declareSaysSpec)

/-- 'watchlaw.CtlSays', WHERE WHAT IT READS IS OF BULK AT MOST 1048576: true; the input reads as it did. -/
def ctlSaysUptoRow : OpenClaim := { program := "ytkkfiadefekbbaa", sum := "16e81cf2c5102ab91a3fc258d796e0acc5928b29e17570446ba83b3c18e3f1e3", func := "watchway/watchlaw.CtlSays", spec := "ctlSays", unfollowed := true, recurses := true, loops := true, apart := false, narrowed := true }
def CtlSaysUptoSaid : Prop := ctlSaysUptoRow.holds Try.pinned (OpenSpec.upto ctlSaysSpec)

/-- 'watchlaw.LtlSays', WHERE WHAT IT READS IS OF BULK AT MOST 1048576: true; the input reads as it did. -/
def ltlSaysUptoRow : OpenClaim := { program := "ytkkfiadefekbbaa", sum := "16e81cf2c5102ab91a3fc258d796e0acc5928b29e17570446ba83b3c18e3f1e3", func := "watchway/watchlaw.LtlSays", spec := "ltlSays", unfollowed := true, recurses := true, loops := true, apart := false, narrowed := true }
def LtlSaysUptoSaid : Prop := ltlSaysUptoRow.holds Try.pinned (OpenSpec.upto ltlSaysSpec)

/-- 'watchlaw.WorldPaths', WHERE WHAT IT READS IS OF BULK AT MOST 1048576: true; the input reads as it did. -/
def worldPathsUptoRow : OpenClaim := { program := "ytkkfiadefekbbaa", sum := "16e81cf2c5102ab91a3fc258d796e0acc5928b29e17570446ba83b3c18e3f1e3", func := "watchway/watchlaw.WorldPaths", spec := "worldPaths", unfollowed := true, recurses := true, apart := false, narrowed := true }
def WorldPathsUptoSaid : Prop := worldPathsUptoRow.holds Try.pinned (OpenSpec.upto worldPathsSpec)

/-- 'watchlaw.DwyerSays', WHERE WHAT IT READS IS OF BULK AT MOST 1048576: true; the input reads as it did. -/
def dwyerSaysUptoRow : OpenClaim := { program := "ytkkfiadefekbbaa", sum := "16e81cf2c5102ab91a3fc258d796e0acc5928b29e17570446ba83b3c18e3f1e3", func := "watchway/watchlaw.DwyerSays", spec := "dwyerSays", unfollowed := true, recurses := true, apart := false, narrowed := true }
def DwyerSaysUptoSaid : Prop := dwyerSaysUptoRow.holds Try.pinned (OpenSpec.upto dwyerSaysSpec)

/-- 'watchlaw.PushSlim', WHERE WHAT IT READS IS OF BULK AT MOST 1048576: true; the input reads as it did. -/
def pushSlimUptoRow : OpenClaim := { program := "ytkkfiadefekbbaa", sum := "16e81cf2c5102ab91a3fc258d796e0acc5928b29e17570446ba83b3c18e3f1e3", func := "watchway/watchlaw.PushSlim", spec := "pushSlim", unfollowed := true, recurses := true, loops := true, apart := false, narrowed := true }
def PushSlimUptoSaid : Prop := pushSlimUptoRow.holds Try.pinned (OpenSpec.upto pushSlimSpec)

/-- 'watchlaw.LassoSays', WHERE WHAT IT READS IS OF BULK AT MOST 1048576: true; the input reads as it did. -/
def lassoSaysUptoRow : OpenClaim := { program := "ytkkfiadefekbbaa", sum := "16e81cf2c5102ab91a3fc258d796e0acc5928b29e17570446ba83b3c18e3f1e3", func := "watchway/watchlaw.LassoSays", spec := "lassoSays", unfollowed := true, recurses := true, loops := true, apart := false, narrowed := true }
def LassoSaysUptoSaid : Prop := lassoSaysUptoRow.holds Try.pinned (OpenSpec.upto lassoSaysSpec)

end Rows
end Go.Proofs.Ytkkfiadefekbbaa
