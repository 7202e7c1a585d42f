/-
  watchlaw.ReportSays returns true for every process, every list of rules and all bounds, and each argument reads afterwards as it read before. The condition: the variables math/bits.deBruijn32tab, math/bits.deBruijn64tab and internal/strconv.uint64pow10 hold the tables that the program lays; the card ties them.
-/
import Derived.Test.YtmajadpcpohneaaGreatDoorR97
namespace Go.Proofs.YtmajadpcpohneaaGreatDoor
set_option linter.unusedSimpArgs false
set_option linter.unusedVariables false
set_option maxRecDepth 100000
set_option maxHeartbeats 8000000
set_option linter.unusedSectionVars false
open Go.RowKit
section
open Go.RowKit Go.ChangeShapes Go.WideShapes Go.ChangeAt
namespace reportSays
theorem p0:Rows.reportSaysRow.wfByText<|OpenSpec.ofChange Rows.reportSaysSpec:=by kernel_rfl
theorem p1 : Tryz.pinned.checked.prog.mainIs = some (((true, "7f02c2896a5a798f44f018e3b048150f5325da2d029b3d9a7dc6c9c04332e112") : Bool × String).1, ((true, "7f02c2896a5a798f44f018e3b048150f5325da2d029b3d9a7dc6c9c04332e112") : Bool × String).2.toList) := by kernel_rfl
theorem p2:false=Tryz.pinned.checked.prog.looks []:=by kernel_rfl
theorem p3:false=Rows.reportSaysRow.goesBy Tryz.pinned.checked.prog:=by kernel_rfl
theorem proved:Rows.ReportSaysCardSaid :=
 Claim7.holds_tied_plain_at .later [] [.data, .data, .data] true (true, "7f02c2896a5a798f44f018e3b048150f5325da2d029b3d9a7dc6c9c04332e112") false
  over (λ_ h=>by cases h) p0 (λ_ h=>by cases h) reportSays_row_tie rfl ⟨rfl,rfl⟩ p1 rfl
  (λf fn hf HA=>by
   obtain rfl : f = 3 := Option.some.inj ((show Tryz.prog.funcNamed "watchway/watchlaw.ReportSays" = some 3 by kernel_rfl).symm.trans hf) |>.symm
   obtain rfl:fn=Tryz.f3:=(Cu<|Tryz.func3.symm.trans HA).symm;refine⟨p2,λj t ht=>?_⟩;have hm:t∈Tryz.f3.params.toList:=by
    rw[Array.mem_toList_iff];exact Array.mem_of_getElem? ht
   rw[show Tryz.f3.params.toList=[25,26,3,3] by kernel_rfl] at hm;have:=kb.1 (show([25,26,3,3]:List bp).all (λt=>!Tryz.prog.wantsStandIn t)=true by kernel_rfl) t hm;have h2:Tryz.prog.wantsStandIn t=false:=(by simpa using this);exact h2)
  p3
end reportSays
end
end Go.Proofs.YtmajadpcpohneaaGreatDoor
