import Derived.Test.YtmajadpcpohneaaGreatDoorR96
namespace Go.Proofs.YtmajadpcpohneaaGreatDoor
set_option linter.unusedSimpArgs false
set_option linter.unusedVariables false
set_option maxRecDepth 100000
set_option maxHeartbeats 8000000
set_option linter.unusedSectionVars false
open Go.RowKit
section
open Go.RowKit Go.ChangeShapes Go.WideShapes Go.ChangeAt
namespace reportSays
theorem j0:(Rows.reportSaysRow.inPlace==Tryz.pinned.checked.prog.inPlace 3):=by kernel_rfl
theorem j1:(Rows.reportSaysRow.unfollowed==Tryz.pinned.checked.prog.unfollowed 3):=by kernel_rfl
theorem j2:(Rows.reportSaysRow.recurses==Tryz.pinned.checked.prog.recurses 3):=by kernel_rfl
theorem j3:(Rows.reportSaysRow.named==Tryz.pinned.checked.prog.varsNamed 3):=by kernel_rfl
theorem jf:joinedFacts Tryz.pinned.checked.prog 3 Tryz.f3 Rows.reportSaysSpec Rows.reportSaysRow:=by
 unfold joinedFacts;rw[j0,j1,j2,j3];kernel_rfl
theorem over:Rows.reportSaysRow.holds Tryz.pinned (OpenSpec.ofChange Rows.reportSaysSpec) :=
 OpenClaim.holds_of_wide 3 Tryz.f3 rfl rfl rfl rfl rfl rfl rfl ⟨rfl,rfl,rfl,rfl,rfl⟩ rfl rfl rfl rfl rfl zk Tryz.func3 jf
  (pH zk) (by unfold Func.isWrapper;first|(rw[ae<|by decide +kernel];kernel_rfl)|(rw[ab<|by decide +kernel];exact⟨rfl,rfl⟩))
  (λos started H enc _=>lifted os started H enc)
end reportSays
end
end Go.Proofs.YtmajadpcpohneaaGreatDoor
