/-
  Is a process sound?: the reference's finding, over deep values. No statement is proved here.
-/
import Derived.Test.YtjnfahdolkgnoaaQSo3
import Derived.Test.YtjnfahdolkgnoaaQFz
namespace Go.Proofs.Ytjnfahdolkgnoaa
open Go.RowKit
set_option linter.unusedSimpArgs false
set_option linter.unusedVariables false
def rest0 : List D := [.sc (.slice none 0 0), .sc (.int .i64 0), .sc (.int .i64 0), .sc (.slice none 0 0), .sc (.slice none 0 0)]
@[simp] theorem underL_rest0 (m : Nat) : UnderL m rest0 := by simp [rest0, UnderL, Under]
@[simp] theorem underL_scells (m : Nat) (M : List (List Int)) (N : List (List EdgeD)) : UnderL m (scells M N) := by simp [scells, UnderL, Under]
def c9_2 : PC := .seq (.seq (.ops [⟨(some 39), .move (.tmp 12), none, 0⟩,
    ⟨(some 40), .faddr 1 (.tmp 3), none, 0⟩,
    ⟨(some 41), .load1 (.tmp 40), none, 0⟩,
    ⟨(some 42), .move (.tmp 11), none, 0⟩,
    ⟨(some 43), .iaddr 1 (.tmp 41) (.tmp 42), none, 0⟩,
    ⟨(some 44), .load1 (.tmp 43), none, 0⟩,
    ⟨(some 45), .len (.tmp 44), none, 0⟩,
    ⟨(some 46), .bin .lss (.tmp 39) (.tmp 45), none, 0⟩] false) (.cond (.tmp 46) (.skip) (.exit 2))) (.seq (.block 3 (.seq (.ops [⟨(some 49), .move (.tmp 9), none, 0⟩,
    ⟨(some 50), .move (.tmp 5), none, 0⟩,
    ⟨(some 51), .faddr 1 (.tmp 3), none, 0⟩,
    ⟨(some 52), .load1 (.tmp 51), none, 0⟩,
    ⟨(some 53), .move (.tmp 11), none, 0⟩,
    ⟨(some 54), .iaddr 1 (.tmp 52) (.tmp 53), none, 0⟩,
    ⟨(some 55), .load1 (.tmp 54), none, 0⟩,
    ⟨(some 56), .move (.tmp 12), none, 0⟩,
    ⟨(some 57), .iaddr 2 (.tmp 55) (.tmp 56), none, 0⟩,
    ⟨(some 58), .faddr 0 (.tmp 57), none, 0⟩,
    ⟨(some 59), .load1 (.tmp 58), none, 0⟩,
    ⟨(some 60), .iaddr 3 (.tmp 50) (.tmp 59), none, 0⟩,
    ⟨(some 61), .faddr 0 (.tmp 60), none, 0⟩,
    ⟨(some 62), .load1 (.tmp 61), none, 0⟩,
    ⟨(some 63), .iaddr 1 (.tmp 49) (.tmp 62), none, 0⟩,
    ⟨none, .store 1 (.tmp 63) (.const (.bool true)), none, 0⟩] false) (.ops [⟨(some 64), .load1 (.tmp 10), none, 0⟩,
    ⟨(some 65), .move (.tmp 11), none, 0⟩,
    ⟨(some 66), .load1 (.tmp 10), none, 0⟩,
    ⟨(some 67), .move (.tmp 11), none, 0⟩,
    ⟨(some 68), .iaddr 1 (.tmp 66) (.tmp 67), none, 12⟩,
    ⟨(some 69), .load1 (.tmp 68), none, 28⟩,
    ⟨(some 70), .faddr 1 (.tmp 3), none, 0⟩,
    ⟨(some 71), .load1 (.tmp 70), none, 64⟩,
    ⟨(some 72), .move (.tmp 11), none, 0⟩,
    ⟨(some 73), .iaddr 1 (.tmp 71) (.tmp 72), none, 448⟩,
    ⟨(some 74), .load1 (.tmp 73), none, 960⟩,
    ⟨(some 75), .move (.tmp 12), none, 0⟩,
    ⟨(some 76), .iaddr 2 (.tmp 74) (.tmp 75), none, 4032⟩,
    ⟨(some 77), .faddr 1 (.tmp 76), none, 8128⟩,
    ⟨(some 78), .load1 (.tmp 77), none, 16320⟩,
    ⟨(some 79), .bslice 1 1 [(.tmp 78)], none, 32704⟩,
    ⟨(some 80), .append 1 8 (.tmp 69) (.tmp 79), none, 65532⟩,
    ⟨(some 81), .iaddr 1 (.tmp 64) (.tmp 65), none, 131071⟩,
    ⟨none, .store 1 (.tmp 81) (.tmp 80), none, 262143⟩] true))) (.ops [⟨(some 47), .move (.tmp 12), none, 0⟩,
    ⟨(some 48), .bin .add (.tmp 47) (.const (.int .i64 1)), none, 0⟩,
    ⟨(some 12), .move (.tmp 48), none, 0⟩] false))
def c9_1 : PC := .seq (.seq (.ops [⟨(some 34), .move (.tmp 11), none, 0⟩,
    ⟨(some 35), .load1 (.tmp 7), none, 0⟩,
    ⟨(some 36), .bin .lss (.tmp 34) (.tmp 35), none, 0⟩] false) (.cond (.tmp 36) (.skip) (.exit 0))) (.seq (.block 1 (.seq (.ops [⟨(some 12), .move (.const (.int .i64 0)), none, 0⟩] false) (.block 2 (.loop c9_2)))) (.ops [⟨(some 37), .move (.tmp 11), none, 0⟩,
    ⟨(some 38), .bin .add (.tmp 37) (.const (.int .i64 1)), none, 0⟩,
    ⟨(some 11), .move (.tmp 38), none, 0⟩] false))
def c9_3 : PC := .seq (.seq (.ops [⟨(some 82), .move (.tmp 13), none, 0⟩,
    ⟨(some 83), .move (.tmp 9), none, 0⟩,
    ⟨(some 84), .len (.tmp 83), none, 0⟩,
    ⟨(some 85), .bin .lss (.tmp 82) (.tmp 84), none, 0⟩] false) (.cond (.tmp 85) (.skip) (.exit 4))) (.seq (.block 5 (.seq (.ops [⟨(some 88), .move (.tmp 9), none, 0⟩,
    ⟨(some 89), .move (.tmp 13), none, 0⟩,
    ⟨(some 90), .iaddr 1 (.tmp 88) (.tmp 89), none, 0⟩,
    ⟨(some 91), .load1 (.tmp 90), none, 0⟩,
    ⟨(some 92), .un .not (.tmp 91), none, 0⟩,
    ⟨(some 93), .move (.tmp 92), none, 0⟩,
    ⟨(some 94), .faddr 0 (.tmp 2), (some (93, true)), 0⟩,
    ⟨(some 95), .load1 (.tmp 94), (some (93, true)), 0⟩,
    ⟨(some 96), .move (.tmp 13), (some (93, true)), 0⟩,
    ⟨(some 97), .iaddr 2 (.tmp 95) (.tmp 96), (some (93, true)), 0⟩,
    ⟨(some 98), .faddr 1 (.tmp 97), (some (93, true)), 0⟩,
    ⟨(some 99), .load1 (.tmp 98), (some (93, true)), 0⟩,
    ⟨(some 100), .bin .neq (.tmp 99) (.const (.int .i64 1)), (some (93, true)), 0⟩,
    ⟨(some 101), .pick (.tmp 93) (.tmp 100) (.const (.bool false)), none, 0⟩] false) (.cond (.tmp 101) (.ops [⟨(some 102), .faddr 0 (.tmp 8), none, 0⟩,
    ⟨(some 103), .load1 (.tmp 102), none, 0⟩,
    ⟨(some 104), .move (.tmp 13), none, 0⟩,
    ⟨(some 105), .bslice 1 1 [(.tmp 104)], none, 0⟩,
    ⟨(some 106), .append 1 8 (.tmp 103) (.tmp 105), none, 0⟩,
    ⟨(some 107), .faddr 0 (.tmp 8), none, 0⟩,
    ⟨none, .store 1 (.tmp 107) (.tmp 106), none, 0⟩] false) (.skip)))) (.ops [⟨(some 86), .move (.tmp 13), none, 0⟩,
    ⟨(some 87), .bin .add (.tmp 86) (.const (.int .i64 1)), none, 0⟩,
    ⟨(some 13), .move (.tmp 87), none, 0⟩] false))
def c9_5 : PC := .seq (.seq (.ops [⟨(some 136), .move (.tmp 17), none, 0⟩,
    ⟨(some 137), .load1 (.tmp 7), none, 0⟩,
    ⟨(some 138), .bin .lss (.tmp 136) (.tmp 137), none, 0⟩] false) (.cond (.tmp 138) (.skip) (.exit 8))) (.seq (.block 9 (.ops [⟨(some 141), .move (.tmp 15), none, 0⟩,
    ⟨(some 142), .move (.tmp 141), none, 0⟩,
    ⟨(some 143), .move (.tmp 16), (some (142, false)), 0⟩,
    ⟨(some 144), .move (.tmp 17), (some (142, false)), 0⟩,
    ⟨(some 145), .iaddr 1 (.tmp 143) (.tmp 144), (some (142, false)), 0⟩,
    ⟨(some 146), .load1 (.tmp 145), (some (142, false)), 0⟩,
    ⟨(some 147), .move (.tmp 146), (some (142, false)), 0⟩,
    ⟨(some 148), .faddr 0 (.tmp 3), (some (147, true)), 0⟩,
    ⟨(some 149), .load1 (.tmp 148), (some (147, true)), 0⟩,
    ⟨(some 150), .move (.tmp 17), (some (147, true)), 0⟩,
    ⟨(some 151), .iaddr 1 (.tmp 149) (.tmp 150), (some (147, true)), 0⟩,
    ⟨(some 152), .load1 (.tmp 151), (some (147, true)), 0⟩,
    ⟨(some 153), .call 30 [(.tmp 152)], (some (147, true)), 0⟩,
    ⟨(some 154), .pick (.tmp 147) (.tmp 153) (.const (.bool false)), (some (142, false)), 0⟩,
    ⟨(some 155), .pick (.tmp 142) (.const (.bool true)) (.tmp 154), none, 0⟩,
    ⟨(some 15), .move (.tmp 155), none, 0⟩] false)) (.ops [⟨(some 139), .move (.tmp 17), none, 0⟩,
    ⟨(some 140), .bin .add (.tmp 139) (.const (.int .i64 1)), none, 0⟩,
    ⟨(some 17), .move (.tmp 140), none, 0⟩] false))
def c9_4 : PC := .seq (.seq (.ops [⟨(some 110), .move (.tmp 14), none, 0⟩,
    ⟨(some 111), .bin .geq (.tmp 110) (.const (.int .i64 0)), none, 0⟩] false) (.cond (.tmp 111) (.skip) (.exit 6))) (.seq (.block 7 (.seq (.seq (.ops [⟨(some 114), .faddr 1 (.tmp 3), none, 0⟩,
    ⟨(some 115), .load1 (.tmp 114), none, 0⟩,
    ⟨(some 116), .move (.tmp 14), none, 0⟩,
    ⟨(some 117), .iaddr 1 (.tmp 115) (.tmp 116), none, 0⟩,
    ⟨(some 118), .load1 (.tmp 117), none, 0⟩,
    ⟨(some 119), .len (.tmp 118), none, 0⟩,
    ⟨(some 120), .bin .eql (.tmp 119) (.const (.int .i64 0)), none, 0⟩,
    ⟨(some 121), .move (.tmp 120), none, 0⟩,
    ⟨(some 122), .faddr 0 (.tmp 3), (some (121, true)), 0⟩,
    ⟨(some 123), .load1 (.tmp 122), (some (121, true)), 0⟩,
    ⟨(some 124), .move (.tmp 14), (some (121, true)), 0⟩,
    ⟨(some 125), .iaddr 1 (.tmp 123) (.tmp 124), (some (121, true)), 0⟩,
    ⟨(some 126), .load1 (.tmp 125), (some (121, true)), 0⟩,
    ⟨(some 127), .call 30 [(.tmp 126)], (some (121, true)), 0⟩,
    ⟨(some 128), .un .not (.tmp 127), (some (121, true)), 0⟩,
    ⟨(some 129), .pick (.tmp 121) (.tmp 128) (.const (.bool false)), none, 0⟩] false) (.cond (.tmp 129) (.ops [⟨(some 130), .move (.tmp 14), none, 0⟩,
    ⟨(some 131), .faddr 1 (.tmp 8), none, 0⟩,
    ⟨none, .store 1 (.tmp 131) (.tmp 130), none, 0⟩] false) (.skip))) (.seq (.ops [⟨(some 15), .move (.const (.bool false)), none, 0⟩] false) (.seq (.ops [⟨(some 132), .load1 (.tmp 10), none, 0⟩,
    ⟨(some 133), .move (.tmp 14), none, 0⟩,
    ⟨(some 134), .bslice 1 1 [(.tmp 133)], none, 0⟩,
    ⟨(some 135), .call 31 [(.tmp 132), (.tmp 134)], none, 0⟩,
    ⟨(some 16), .move (.tmp 135), none, 0⟩] false) (.seq (.seq (.ops [⟨(some 17), .move (.const (.int .i64 0)), none, 0⟩] false) (.block 8 (.loop c9_5))) (.seq (.ops [⟨(some 156), .move (.tmp 15), none, 0⟩,
    ⟨(some 157), .un .not (.tmp 156), none, 0⟩] false) (.cond (.tmp 157) (.ops [⟨(some 158), .move (.tmp 14), none, 0⟩,
    ⟨(some 159), .faddr 2 (.tmp 8), none, 0⟩,
    ⟨none, .store 1 (.tmp 159) (.tmp 158), none, 0⟩] false) (.skip)))))))) (.ops [⟨(some 112), .move (.tmp 14), none, 0⟩,
    ⟨(some 113), .bin .sub (.tmp 112) (.const (.int .i64 1)), none, 0⟩,
    ⟨(some 14), .move (.tmp 113), none, 0⟩] false))
def c9 : PC := .seq (.ops [⟨(some 2), .box (.tmp 0), none, 0⟩,
    ⟨(some 3), .box (.tmp 1), none, 0⟩,
    ⟨(some 4), .alloc [(.slice none 0 0), (.int .i64 0), (.int .i64 0), (.slice none 0 0), (.slice none 0 0)], none, 0⟩] false) (.seq (.ops [⟨(some 20), .loadA 2 (.tmp 2), none, 0⟩,
    ⟨(some 21), .call 25 [(.tmp 20)], none, 0⟩,
    ⟨(some 19), .move (.tmp 21), none, 0⟩,
    ⟨(some 22), .ext 0 (.tmp 19), none, 0⟩,
    ⟨(some 23), .ext 1 (.tmp 19), none, 0⟩,
    ⟨(some 5), .move (.tmp 22), none, 0⟩,
    ⟨(some 6), .move (.tmp 23), none, 0⟩] false) (.seq (.ops [⟨(some 24), .faddr 0 (.tmp 3), none, 0⟩,
    ⟨(some 25), .load1 (.tmp 24), none, 0⟩,
    ⟨(some 26), .len (.tmp 25), none, 0⟩,
    ⟨(some 7), .alloc [(.int .i64 0)], none, 0⟩,
    ⟨none, .store 1 (.tmp 7) (.tmp 26), none, 0⟩] false) (.seq (.ops [⟨(some 27), .build [(.slice none 0 0), (.int .i64 0), (.int .i64 0), (.slice none 0 0), (.slice none 0 0)] [(1, 1, (.const (.int .i64 (-1)))), (2, 1, (.const (.int .i64 (-1))))], none, 0⟩,
    ⟨(some 8), .alloc [(.slice none 0 0), (.int .i64 0), (.int .i64 0), (.slice none 0 0), (.slice none 0 0)], none, 0⟩,
    ⟨none, .store 5 (.tmp 8) (.tmp 27), none, 0⟩] false) (.seq (.ops [⟨(some 28), .faddr 0 (.tmp 2), none, 0⟩,
    ⟨(some 29), .load1 (.tmp 28), none, 0⟩,
    ⟨(some 30), .len (.tmp 29), none, 0⟩,
    ⟨(some 31), .mslice 1 1 [(.bool false)] (.tmp 30) (.tmp 30), none, 0⟩,
    ⟨(some 9), .move (.tmp 31), none, 0⟩] false) (.seq (.ops [⟨(some 32), .load1 (.tmp 7), none, 0⟩,
    ⟨(some 33), .mslice 1 24 [(.slice none 0 0)] (.tmp 32) (.tmp 32), none, 0⟩,
    ⟨(some 10), .alloc [(.slice none 0 0)], none, 0⟩,
    ⟨none, .store 1 (.tmp 10) (.tmp 33), none, 0⟩] false) (.seq (.seq (.ops [⟨(some 11), .move (.const (.int .i64 0)), none, 0⟩] false) (.stop (.block 0 (.loop c9_1)))) (.seq (.seq (.ops [⟨(some 13), .move (.const (.int .i64 0)), none, 0⟩] false) (.block 4 (.loop c9_3))) (.seq (.seq (.ops [⟨(some 108), .load1 (.tmp 7), none, 0⟩,
    ⟨(some 109), .bin .sub (.tmp 108) (.const (.int .i64 1)), none, 0⟩,
    ⟨(some 14), .move (.tmp 109), none, 0⟩] false) (.block 6 (.loop c9_4))) (.seq (.stop (.ops [⟨(some 160), .mkfn (.func 32) [] [(.tmp 7), (.tmp 10), (.tmp 3)], none, 0⟩,
    ⟨(some 18), .move (.tmp 160), none, 0⟩] false)) (.seq (.ops [⟨(some 161), .move (.tmp 18), none, 0⟩,
    ⟨(some 162), .faddr 1 (.tmp 8), none, 0⟩,
    ⟨(some 163), .load1 (.tmp 162), none, 2⟩,
    ⟨(some 164), .callv (.tmp 161) [(.tmp 163)], none, 7⟩,
    ⟨(some 165), .move (.tmp 18), none, 0⟩,
    ⟨(some 166), .faddr 2 (.tmp 8), none, 0⟩,
    ⟨(some 167), .load1 (.tmp 166), none, 32⟩,
    ⟨(some 168), .callv (.tmp 165) [(.tmp 167)], none, 127⟩,
    ⟨(some 169), .faddr 3 (.tmp 8), none, 111⟩,
    ⟨none, .store 1 (.tmp 169) (.tmp 164), none, 511⟩,
    ⟨(some 170), .faddr 4 (.tmp 8), none, 1023⟩,
    ⟨none, .store 1 (.tmp 170) (.tmp 168), none, 2047⟩] true) (.seq (.ops [⟨(some 171), .loadA 5 (.tmp 8), none, 0⟩,
    ⟨none, .store 5 (.tmp 4) (.tmp 171), none, 0⟩] false) (.ret))))))))))))
set_option maxRecDepth 100000 in
theorem c9_ok : FunOK Try.prog 9 172 [.agg 4 5] c9 := ⟨⟨Try.f9, Try.func9, rfl, by kernel_rfl, rfl, by kernel_rfl⟩⟩
set_option maxRecDepth 100000 in
theorem ref_Found (P : ProcD) (hP : P.Fits) (M : List (List Int)) (N : List (List EdgeD)) (hF : FndN P M N) : PCall Try.prog 9 [dproc P, dspace M N] (findD P M N) := by
  have hS := hF.sp
  have hf := hS.few
  have hl := hS.len
  have hnn : P.nodes.length ≤ 20 := (chk_small (ProcD.stepsE_zero hF.steps).1).1
  obtain ⟨g1, g2'⟩ := hS.graph
  refine pcall_intro c9_ok (by simp) (by simp [PureL, pure_dproc, pure_dspace]) ?_ (by unfold findD; simp [pure_dfind])
  (apply rd_sound; focus (repeat' constructor))
  ((conv=>whnf);repeat(refine And.intro rfl ?_;(conv=>whnf)))
  (refine .inl ⟨_, (ref_Steps P hP), ?_⟩; ((conv=>whnf);repeat(refine And.intro rfl ?_;(conv=>whnf))))
  rw [List.length_map, List.length_map]
  refine ⟨by omega, by omega, by omega, ?_⟩
  rw [Int.toNat_natCast, show List.map D.sc [Value.bool false] = [D.sc (.bool false)] from rfl, rbl_rep]
  ((conv=>whnf);repeat(refine And.intro rfl ?_;(conv=>whnf)))
  refine ⟨by omega, by omega, by omega, ?_⟩
  rw [Int.toNat_natCast]
  ((conv=>whnf);repeat(refine And.intro rfl ?_;(conv=>whnf)))
  refine pwp_cut (fun _ : Unit => [(2, .loc 0 0), (3, .loc 1 0), (4, .loc 2 0), (7, .loc 3 0), (8, .loc 4 0), (9, .own 5 0 0 P.nodes.length), (10, .loc 7 0)])
    (fun _ => [.row true P.cells, .row true (scells M N), .row true rest0, .row true [.sc (.int .i64 M.length)], .row true [.sc (.slice none 0 0), .sc (.int .i64 (-1)), .sc (.int .i64 (-1)), .sc (.slice none 0 0), .sc (.slice none 0 0)], .vec true 0 1 (rbl P.nodes.length (dsTo P.stepsL N N.length)), .vec true 0 1 ((gN N).map fun l => [dints l]), .row true [.own 6 0 0 M.length]]) (fun _ => True) ?_ ?_
  · (apply rd_sound; focus (repeat' constructor))
    ((conv=>whnf);repeat(refine And.intro rfl ?_;(conv=>whnf)))
    refine pwp_ghostB (leB_nils 6 1 M.length 0 (by simp) rfl) ?_
    refine pwp_forH [2, 3, 4, 5, 7, 8, 9, 10] (fun n : Nat => [(11, .sc (.int .i64 n))])
      (fun n => .row true P.cells :: .row true (scells M N) :: .row true rest0 :: .row true [.sc (.int .i64 M.length)] :: .row true [.sc (.slice none 0 0), .sc (.int .i64 (-1)), .sc (.int .i64 (-1)), .sc (.slice none 0 0), .sc (.slice none 0 0)] :: .vec true 0 1 (rbl P.nodes.length (dsTo P.stepsL N n)) :: .vec true 0 1 (ogRows 8 (gTo N n 0)) :: .row true [.own 6 0 0 M.length] :: ogObjs 1 wcell (gTo N n 0)) (fun n => n ≤ N.length) (fun n => N.length - n) 0 ?_
    ((conv=>whnf);repeat(refine And.intro rfl ?_;(conv=>whnf)))
    refine ⟨by omega, by (repeat' (first | exact trivial | refine And.intro rfl ?_)), ?_, ?_⟩
    · show _ :: _ :: _ :: _ :: _ :: _ :: _ :: _ :: _ = _ :: _ :: _ :: _ :: _ :: _ :: _ :: _ :: _
      rw [ogObjs_nils 1 _ wcell, gTo_zero, hl]
      rw [← ogRows_nils (α := Int) 8 M.length]
      rfl
    rintro n hn
    ((conv=>whnf);repeat(refine And.intro rfl ?_;(conv=>whnf)))
    (apply rd_sound; focus (repeat' constructor))
    ((conv=>whnf);repeat(refine And.intro rfl ?_;(conv=>whnf)))
    (refine ifK_split (fun h1 => ?_) (fun h1 => ?_) <;> (rw [h1]; ((conv=>whnf);repeat(refine And.intro rfl ?_;(conv=>whnf)))))
    · have hn' : n < N.length := by ((try simp only [oo, reduceCtorEq] at *) <;> omega)
      have lx := hS.rowAt n
      have hed := fun k hk => hS.edgeAt (i := n) (k := k) hk
      have eN : dsTo P.stepsL N (n + 1) = dsRow P.stepsL (N.getD n []) (dsTo P.stepsL N n) (N.getD n []).length := rfl
      have hrd := erowD_at (L := N) (z := (n : Int).toNat) (k := n) (by omega) hn'
      generalize dsTo P.stepsL N n = s0 at eN
      refine pwp_forH [2, 3, 4, 5, 7, 8, 9, 10, 11] (fun k : Nat => [(12, .sc (.int .i64 k))])
        (fun k => .row true P.cells :: .row true (scells M N) :: .row true rest0 :: .row true [.sc (.int .i64 M.length)] :: .row true [.sc (.slice none 0 0), .sc (.int .i64 (-1)), .sc (.int .i64 (-1)), .sc (.slice none 0 0), .sc (.slice none 0 0)] :: .vec true 0 1 (rbl P.nodes.length (dsRow P.stepsL (N.getD n []) s0 k)) :: .vec true 0 1 (ogRows 8 (gTo N n k)) :: .row true [.own 6 0 0 M.length] :: ogObjs 1 wcell (gTo N n k)) (fun k => k ≤ (N.getD n []).length) (fun k => (N.getD n []).length - k) 0 ?_
      ((conv=>whnf);repeat(refine And.intro rfl ?_;(conv=>whnf)))
      refine ⟨by omega, by (repeat' (first | exact trivial | refine And.intro rfl ?_)), rfl, ?_⟩
      rintro k hk
      have lG := gTo_len N n k
      ((conv=>whnf);repeat(refine And.intro rfl ?_;(conv=>whnf)))
      (apply rd_sound; focus (repeat' constructor))
      ((conv=>whnf);repeat(refine And.intro rfl ?_;(conv=>whnf)))
      refine ⟨by omega, _, hrd, ?_⟩
      ((conv=>whnf);repeat(refine And.intro rfl ?_;(conv=>whnf)))
      rw [prows_len]
      (refine ifK_split (fun h2 => ?_) (fun h2 => ?_) <;> (rw [h2]; ((conv=>whnf);repeat(refine And.intro rfl ?_;(conv=>whnf)))))
      · have hk' : k < (N.getD n []).length := by ((try simp only [oo, reduceCtorEq] at *) <;> omega)
        have hset := gTo_set hn' hk'
        have hrow := gTo_row (k := k) hn'
        have lrow : ((rowT N n).take k).length = k := by rw [List.length_take, rowT_len]; omega
        have he := hed k hk'
        have hpr := prows_at (l := N.getD n []) (z := (k : Int).toNat) (k := k) (by omega) hk'
        have eR : dsRow P.stepsL (N.getD n []) s0 (k + 1) = mark (dsRow P.stepsL (N.getD n []) s0 k) (P.stepsL.getD ((N.getD n []).getD k (0, 0)).1.toNat (0, 0, 0)).1.toNat := rfl
        generalize (N.getD n []).getD k (0, 0) = e at hset he hpr eR
        refine ⟨by omega, _, hrd, ?_⟩
        ((conv=>whnf);repeat(refine And.intro rfl ?_;(conv=>whnf)))
        refine ⟨by omega, _, hpr, ?_⟩
        ((conv=>whnf);repeat(refine And.intro rfl ?_;(conv=>whnf)))
        have hst := (ProcD.stepAt_ok hF.steps (k := e.1.toNat) (by omega)).node
        refine ⟨by omega, _, step_atD (k := e.1.toNat) (by omega) (by omega), ?_⟩
        ((conv=>whnf);repeat(refine And.intro rfl ?_;(conv=>whnf)))
        generalize P.stepsL.getD e.1.toNat (0, 0, 0) = st at hst eR
        (refine ⟨by omega, (by first | omega | (simp; done) | (simp; omega) | (simp only [ll]; omega)), ?_⟩; ((conv=>whnf);repeat(refine And.intro rfl ?_;(conv=>whnf))))
        refine ⟨_, rbl_atN st.1.toNat (by omega) (by omega), ?_⟩
        ((conv=>whnf);repeat(refine And.intro rfl ?_;(conv=>whnf)))
        rw [rbl_mark (v := st.1.toNat) (by omega), ← eR]
        (refine ⟨by omega, (by first | omega | (simp; done) | (simp; omega) | (simp only [ll]; omega)), ?_⟩; ((conv=>whnf);repeat(refine And.intro rfl ?_;(conv=>whnf))))
        refine ⟨_, ogRows_at (i := n) (by omega) (by omega), ?_⟩
        ((conv=>whnf);repeat(refine And.intro rfl ?_;(conv=>whnf)))
        refine ⟨by omega, _, hrd, ?_⟩
        ((conv=>whnf);repeat(refine And.intro rfl ?_;(conv=>whnf)))
        refine ⟨by omega, _, hpr, ?_⟩
        ((conv=>whnf);repeat(refine And.intro rfl ?_;(conv=>whnf)))
        refine og_push ?_
        ((conv=>whnf);repeat(refine And.intro rfl ?_;(conv=>whnf)))
        (repeat (first | (refine og_getE 0 rfl ?_; ((conv=>whnf);repeat(refine And.intro rfl ?_;(conv=>whnf)))) | (refine og_putE 0 rfl ?_; ((conv=>whnf);repeat(refine And.intro rfl ?_;(conv=>whnf)))) | (refine og_getE 1 rfl ?_; ((conv=>whnf);repeat(refine And.intro rfl ?_;(conv=>whnf)))) | (refine og_putE 1 rfl ?_; ((conv=>whnf);repeat(refine And.intro rfl ?_;(conv=>whnf))))))
        refine og_getT (by omega) ?_
        ((conv=>whnf);repeat(refine And.intro rfl ?_;(conv=>whnf)))
        rw [hrow]
        refine ⟨by unfold sliceAppend; simp only [List.length_drop, List.length_take, List.length_cons, List.length_nil]; omega, ?_⟩
        ((conv=>whnf);repeat(refine And.intro rfl ?_;(conv=>whnf)))
        refine og_putT ((rowT N n).take k ++ [e.2]) (by omega) ?_ ?_
        · exact og_app
        ((conv=>whnf);repeat(refine And.intro rfl ?_;(conv=>whnf)))
        (refine ⟨by omega, (by first | omega | (simp; done) | (simp; omega) | (simp only [ll]; omega)), ?_⟩; ((conv=>whnf);repeat(refine And.intro rfl ?_;(conv=>whnf))))
        refine ⟨_, ogRows_at (i := n) (by omega) (by omega), ?_⟩
        ((conv=>whnf);repeat(refine And.intro rfl ?_;(conv=>whnf)))
        (refine .inl ⟨by (unfold InR; rw [IntKind.wrap_i64]; omega), ?_⟩; ((conv=>whnf);repeat(refine And.intro rfl ?_;(conv=>whnf))))
        refine ⟨k + 1, by omega, by dsimp only; omega, ?_⟩
        dsimp only
        rw [← hset]
        refine leB_close (M.length + 8) (by simp [hl]) (by simp [hl]) (by (repeat' (first | exact trivial | exact rfl | exact DeepM.refl _ | exact DeepML.refl _ | exact DeepMLL.refl _ | refine And.intro ?_ ?_ | (simp [Under, UnderL, UnderLL, -List.map_take, -List.map_drop]; done)))) ⟨⟨rfl, .refl _, by simp⟩, ⟨rfl, .refl _, by simp [scells, UnderL, Under]⟩, ⟨rfl, .refl _, by simp [rest0, UnderL, Under]⟩, ⟨rfl, .refl _, by simp [UnderL, Under]⟩, ⟨rfl, .refl _, by simp [UnderL, Under]⟩, ⟨rfl, rfl, rfl, .refl _, by simp⟩, ⟨rfl, rfl, rfl, deepMLL_eq ?_, underLL_ogRows (by simp; omega)⟩, ⟨rfl, .refl _, by simp [UnderL, Under]⟩, closeH_og under_wcell⟩
        exact ogRows_set (by omega) (by omega) _ (by simp)
      · have hk' : k = (N.getD n []).length := by have : ¬ k < (N.getD n []).length := by ((try simp only [oo, reduceCtorEq] at *) <;> omega)
                                                  omega
        subst hk'
        (refine .inl ⟨by (unfold InR; rw [IntKind.wrap_i64]; omega), ?_⟩; ((conv=>whnf);repeat(refine And.intro rfl ?_;(conv=>whnf))))
        refine ⟨n + 1, by omega, by dsimp only; omega, ?_⟩
        rw [gTo_next]
        dsimp only
        rw [eN]
        exact leB_envH (by (repeat' (first | exact trivial | refine And.intro rfl ?_))) rfl
    · have hn' : n = N.length := by have : ¬ n < M.length := by ((try simp only [oo, reduceCtorEq] at *) <;> omega)
                                    omega
      subst hn'
      rw [gTo_all]
      refine ⟨(), trivial, leB_close 8 (by simp) rfl (by (repeat' (first | exact trivial | exact rfl | exact DeepM.refl _ | exact DeepML.refl _ | exact DeepMLL.refl _ | refine And.intro ?_ ?_ | (simp [Under, UnderL, UnderLL, -List.map_take, -List.map_drop]; done))))
        ⟨⟨rfl, .refl _, by simp⟩, ⟨rfl, .refl _, by simp [scells, UnderL, Under]⟩, ⟨rfl, .refl _, by simp [rest0, UnderL, Under]⟩, ⟨rfl, .refl _, by simp [UnderL, Under]⟩, ⟨rfl, .refl _, by simp [UnderL, Under]⟩, ⟨rfl, rfl, rfl, .refl _, by simp⟩, ⟨rfl, rfl, rfl, deepM_ogRows (c := wcell) (fun i hi => by simp [fromN]) (fun i hi => ?_), by simp [UnderL]⟩, ⟨rfl, .refl _, by simp [UnderL, Under]⟩, closeH_nil _⟩⟩
      show (ogObjs 1 wcell (gN N))[i]? = _
      exact ogObjs_at hi
  rintro _ _
  ((conv=>whnf);repeat(refine And.intro rfl ?_;(conv=>whnf)))
  refine pwp_ghostB (leB_freeze (fromN 6) (env' := [(13, .sc (.int .i64 0)), (2, .loc 0 0), (3, .loc 1 0), (4, .loc 2 0), (7, .loc 3 0), (8, .loc 4 0), (9, .own 5 0 0 P.nodes.length), (10, .ipt [dgrid (gN N)])])
    (H' := [.row true P.cells, .row true (scells M N), .row true rest0, .row true [.sc (.int .i64 M.length)], .row true [.sc (.slice none 0 0), .sc (.int .i64 (-1)), .sc (.int .i64 (-1)), .sc (.slice none 0 0), .sc (.slice none 0 0)], .vec true 0 1 (rbl P.nodes.length (dsTo P.stepsL N N.length)), .vec false 0 1 ((gN N).map fun l => [dints l]), .row false [dgrid (gN N)]])
    ⟨.refl _, .refl _, .refl _, .refl _, .refl _, .refl _, .refl _, .loc _ _ _ _ _ rfl rfl (.cons _ _ _ _ (.own _ _ _ _ _ _ _ _ rfl rfl (deepMLL_eq (drop_take_all (by simp [hl])))) (.refl _)), trivial⟩
    ⟨⟨.inl rfl, (fun h => by cases h), .refl _⟩, ⟨.inl rfl, (fun h => by cases h), .refl _⟩, ⟨.inl rfl, (fun h => by cases h), .refl _⟩, ⟨.inl rfl, (fun h => by cases h), .refl _⟩, ⟨.inl rfl, (fun h => by cases h), .refl _⟩, ⟨.inl rfl, (fun h => by cases h), rfl, rfl, .refl _⟩, ⟨.inr ⟨rfl, rfl⟩, fun _ => rfl, rfl, rfl, .refl _⟩, ⟨.inr ⟨rfl, rfl⟩, fun _ => rfl, .cons _ _ _ _ (.own _ _ _ _ _ _ _ _ rfl rfl (deepMLL_eq (drop_take_all (by simp [hl])))) (.refl _)⟩, trivial⟩) ?_
  have eD : deadL P N = deadTo P (dsTo P.stepsL N N.length) P.nodes.length := rfl
  have fD : findD P M N = dfind (deadL P N) (frst (stillB M N) M.length M.length) (frst (neverB M N) M.length M.length) (leadL N (frst (stillB M N) M.length M.length)) (leadL N (frst (neverB M N) M.length M.length)) := rfl
  rw [fD]
  generalize dsTo P.stepsL N N.length = s0 at eD
  refine pwp_ghostB (leB_nilc 4 0 1 (by simp) rfl rfl) ?_
  refine pwp_for [2, 3, 4, 7, 8, 9, 10] (fun ((k, c, l) : Nat × Nat × List Int) => [(13, .sc (.int .i64 k))]) (fun (k, c, l) => [(4, .row true [.own 8 c 0 c, .sc (.int .i64 (-1)), .sc (.int .i64 (-1)), .sc (.slice none 0 0), .sc (.slice none 0 0)]), (8, .vec true c 1 (i64s l))]) (fun (k, c, l) => k ≤ P.nodes.length ∧ c = l.length ∧ c ≤ k ∧ l = deadTo P s0 k) (fun (k, c, l) => P.nodes.length - k) (0, 0, []) ?_
  ((conv=>whnf);repeat(refine And.intro rfl ?_;(conv=>whnf)))
  refine ⟨⟨by omega, rfl, by omega, rfl⟩, by (repeat' (first | exact trivial | refine And.intro rfl ?_)), rfl, ?_⟩
  rintro ⟨k, c, l⟩ ⟨hk, hc, hck, hl'⟩
  ((conv=>whnf);repeat(refine And.intro rfl ?_;(conv=>whnf)))
  (apply rd_sound; focus (repeat' constructor))
  ((conv=>whnf);repeat(refine And.intro rfl ?_;(conv=>whnf)))
  (refine ifK_split (fun h1 => ?_) (fun h1 => ?_) <;> (rw [h1]; ((conv=>whnf);repeat(refine And.intro rfl ?_;(conv=>whnf)))))
  · have hk' : k < P.nodes.length := by ((try simp only [oo, reduceCtorEq] at *) <;> omega)
    have eT : deadTo P s0 (k + 1) = if s0 k = false ∧ P.kind k ≠ 1 then deadTo P s0 k ++ [(k : Int)] else deadTo P s0 k := rfl
    (refine ⟨by omega, (by first | omega | (simp; done) | (simp; omega) | (simp only [ll]; omega)), ?_⟩; ((conv=>whnf);repeat(refine And.intro rfl ?_;(conv=>whnf))))
    refine ⟨_, rbl_atN k (by omega) hk', ?_⟩
    ((conv=>whnf);repeat(refine And.intro rfl ?_;(conv=>whnf)))
    cases hs : s0 k
    · ((conv=>whnf);repeat(refine And.intro rfl ?_;(conv=>whnf)))
      refine ⟨by omega, _, node_at P (k := k) (by omega) hk', ?_⟩
      ((conv=>whnf);repeat(refine And.intro rfl ?_;(conv=>whnf)))
      (refine ifK_split (fun h2 => ?_) (fun h2 => ?_) <;> (rw [h2]; ((conv=>whnf);repeat(refine And.intro rfl ?_;(conv=>whnf)))))
      · have h2 : P.kind k ≠ 1 := by ((try simp only [oo, reduceCtorEq] at *) <;> omega)
        rw [if_pos ⟨hs, h2⟩] at eT
        refine ⟨(by unfold sliceAppend; simp only [ll]; omega), ?_⟩
        ((conv=>whnf);repeat(refine And.intro rfl ?_;(conv=>whnf)))
        (refine .inl ⟨by (unfold InR; rw [IntKind.wrap_i64]; omega), ?_⟩; ((conv=>whnf);repeat(refine And.intro rfl ?_;(conv=>whnf))))
        refine ⟨(k + 1, c + 1, l ++ [(k : Int)]), ⟨by omega, by simp [hc], by omega, by rw [eT, hl']⟩, by dsimp only; omega, ?_⟩
        (refine leB_close 9 (by simp) rfl ?_ ?_ <;> (repeat' (first | exact trivial | exact rfl | exact DeepM.refl _ | exact DeepML.refl _ | exact DeepMLL.refl _ | refine And.intro ?_ ?_ | (simp [Under, UnderL, UnderLL, -List.map_take, -List.map_drop]; done))))
        exact deepMLL_eq (i64s_snoc hc)
      · have h2 : P.kind k = 1 := by ((try simp only [oo, reduceCtorEq] at *) <;> omega)
        rw [if_neg (fun q => q.2 h2)] at eT
        (refine .inl ⟨by (unfold InR; rw [IntKind.wrap_i64]; omega), ?_⟩; ((conv=>whnf);repeat(refine And.intro rfl ?_;(conv=>whnf))))
        exact ⟨(k + 1, c, l), ⟨by omega, hc, by omega, by rw [eT, hl']⟩, by dsimp only; omega, leB_envH (by (repeat' (first | exact trivial | refine And.intro rfl ?_))) rfl⟩
    · ((conv=>whnf);repeat(refine And.intro rfl ?_;(conv=>whnf)))
      rw [if_neg (fun q => by rw [hs] at q; cases q.1)] at eT
      (refine .inl ⟨by (unfold InR; rw [IntKind.wrap_i64]; omega), ?_⟩; ((conv=>whnf);repeat(refine And.intro rfl ?_;(conv=>whnf))))
      exact ⟨(k + 1, c, l), ⟨by omega, hc, by omega, by rw [eT, hl']⟩, by dsimp only; omega, leB_envH (by (repeat' (first | exact trivial | refine And.intro rfl ?_))) rfl⟩
  have hk' : k = P.nodes.length := by have : ¬ k < P.nodes.length := by ((try simp only [oo, reduceCtorEq] at *) <;> omega)
                                      omega
  subst hk'
  rw [eD, ← hl']
  clear h1 hk hck
  (refine .inl ⟨by (unfold InR; rw [IntKind.wrap_i64]; omega), ?_⟩; ((conv=>whnf);repeat(refine And.intro rfl ?_;(conv=>whnf))))
  have hS1 := fun j (hj : j < M.length) => frst_step (p := stillB M N) hj
  have hS2 := fun j (hj : j < M.length) => frst_step (p := neverB M N) hj
  have hlead := fun to h => ref_lead M N _ hS to h
  have hfr : ∀ p : Nat → Bool, frst p M.length M.length < (M.length : Int) := fun p => by
    rcases frst_spec (p := p) (n := M.length) M.length (Nat.le_refl _) with ⟨h1, _⟩ | ⟨k, h1, _, h3, _⟩ <;> omega
  have hb1 : ∀ (p : Nat → Bool) d, -1 ≤ frst p M.length d := fun p d => by
    induction d with
    | zero => simp [frst]
    | succ d ih => simp only [frst]; split <;> omega
  refine pwp_for [3, 4, 7, 8, 10] (fun k : Nat => [(14, .sc (.int .i64 ((k : Int) - 1)))]) (fun k => [(4, .row true [.own 8 c 0 c, .sc (.int .i64 (frst (stillB M N) M.length (M.length - k))), .sc (.int .i64 (frst (neverB M N) M.length (M.length - k))), .sc (.slice none 0 0), .sc (.slice none 0 0)])]) (fun k => k ≤ M.length) (fun k => k) M.length ?_
  ((conv=>whnf);repeat(refine And.intro rfl ?_;(conv=>whnf)))
  refine ⟨by omega, by (repeat' (first | exact trivial | refine And.intro rfl ?_)), by rw [Nat.sub_self]; rfl, ?_⟩
  rintro k hk
  ((conv=>whnf);repeat(refine And.intro rfl ?_;(conv=>whnf)))
  (apply rd_sound; focus (repeat' constructor))
  ((conv=>whnf);repeat(refine And.intro rfl ?_;(conv=>whnf)))
  (refine ifK_split (fun h1 => ?_) (fun h1 => ?_) <;> (rw [h1]; ((conv=>whnf);repeat(refine And.intro rfl ?_;(conv=>whnf)))))
  · have h1 : 1 ≤ k := by ((try simp only [oo, reduceCtorEq] at *) <;> omega)
    obtain ⟨i, rfl⟩ : ∃ i, k = i + 1 := ⟨k - 1, by omega⟩
    rw [show ((i + 1 : Nat) : Int) - 1 = (i : Int) by omega]
    have hi : i < M.length := by omega
    have hm := hS.mark _ (ProcD.mem_getDL hi)
    have hz := fun j (hj : j < M.length) => zero_empty (hS.mark _ (ProcD.mem_getDL hj)).2
    have hZ := fun j (hj : j < M.length) => ref_Zero (M.getD j []) (by have := (hS.mark _ (ProcD.mem_getDL hj)).1; omega)
    have e1 := hS1 i hi
    have e2 := hS2 i hi
    have eS : stillB M N i = (decide ((N.getD i []).length = 0) && !(emptyB (M.getD i []))) := rfl
    rw [never_ref hS hi] at e2
    refine ⟨by omega, _, erowD_at (L := N) (k := i) (by omega) (by omega), ?_⟩
    ((conv=>whnf);repeat(refine And.intro rfl ?_;(conv=>whnf)))
    rw [prows_len]
    cases q1 : (((N.getD i []).length : Int) == 0)
    · have q1 : (N.getD i []).length ≠ 0 := by ((try simp only [oo, reduceCtorEq] at *) <;> omega)
      ((conv=>whnf);repeat(refine And.intro rfl ?_;(conv=>whnf)))
      rw [eS, decide_eq_false q1, Bool.false_and, if_neg (by decide)] at e1
      have hCm := ref_Comes (gN N) g1 g2' [(i : Int)] (inB_of fun x hx => by rw [List.mem_singleton] at hx; subst hx; rw [gN_len]; omega) (by simp)
      rw [gN_len, hl] at hCm
      (refine .inr (.inr (.inr (.inr (.inl ⟨_, _, _, (acallAt_frz1 (pre := [dgrid (gN N)]) (post := []) (xs := [[.sc (.int .i64 i)]]) hCm (pure_dbl _ _) ⟨pure_dgrid _, trivial⟩ trivial (by simp [PureLL, PureL, Pure]) rfl), ?_⟩)))); ((conv=>whnf);repeat(refine And.intro rfl ?_;(conv=>whnf))))
      refine pwp_for [3, 4, 7, 8, 10, 14, 16] (fun ((j, b) : Nat × Bool) => [(15, .sc (.bool b)), (17, .sc (.int .i64 j))]) (fun _ => []) (fun (j, b) => j ≤ M.length ∧ b = (List.range j).any fun j => rchB (gN N) [(i : Int)] j && emptyB (M.getD j [])) (fun (j, b) => M.length - j) (0, false) ?_
      ((conv=>whnf);repeat(refine And.intro rfl ?_;(conv=>whnf)))
      refine ⟨⟨by omega, rfl⟩, by (repeat' (first | exact trivial | refine And.intro rfl ?_)), rfl, ?_⟩
      rintro ⟨j, b⟩ ⟨hj, hb⟩
      ((conv=>whnf);repeat(refine And.intro rfl ?_;(conv=>whnf)))
      (apply rd_sound; focus (repeat' constructor))
      ((conv=>whnf);repeat(refine And.intro rfl ?_;(conv=>whnf)))
      (refine ifK_split (fun q3 => ?_) (fun q3 => ?_) <;> (rw [q3]; ((conv=>whnf);repeat(refine And.intro rfl ?_;(conv=>whnf)))))
      · have hj' : j < M.length := by ((try simp only [oo, reduceCtorEq] at *) <;> omega)
        have hnext : (List.range (j + 1)).any (fun j => rchB (gN N) [(i : Int)] j && emptyB (M.getD j [])) = (b || (rchB (gN N) [(i : Int)] j && emptyB (M.getD j []))) := by
          rw [List.range_succ, List.any_append, ← hb]
          simp
        cases b
        · ((conv=>whnf);repeat(refine And.intro rfl ?_;(conv=>whnf)))
          refine ⟨by omega, _, rbl_atN j (by omega) hj', ?_⟩
          ((conv=>whnf);repeat(refine And.intro rfl ?_;(conv=>whnf)))
          cases q4 : rchB (gN N) [(i : Int)] j
          · ((conv=>whnf);repeat(refine And.intro rfl ?_;(conv=>whnf)))
            (refine .inl ⟨by (unfold InR; rw [IntKind.wrap_i64]; omega), ?_⟩; ((conv=>whnf);repeat(refine And.intro rfl ?_;(conv=>whnf))))
            exact ⟨(j + 1, false), ⟨by omega, by rw [hnext, q4]; rfl⟩, by dsimp only; omega, leB_envH (by (repeat' (first | exact trivial | refine And.intro rfl ?_))) rfl⟩
          · ((conv=>whnf);repeat(refine And.intro rfl ?_;(conv=>whnf)))
            refine ⟨by omega, _, gridD_at (k := j) (by omega) hj', ?_⟩
            ((conv=>whnf);repeat(refine And.intro rfl ?_;(conv=>whnf)))
            (refine .inl ⟨_, (hZ j hj'), ?_⟩; ((conv=>whnf);repeat(refine And.intro rfl ?_;(conv=>whnf))))
            rw [hz j hj']
            (refine .inl ⟨by (unfold InR; rw [IntKind.wrap_i64]; omega), ?_⟩; ((conv=>whnf);repeat(refine And.intro rfl ?_;(conv=>whnf))))
            exact ⟨(j + 1, emptyB (M.getD j [])), ⟨by omega, by rw [hnext, q4]; rfl⟩, by dsimp only; omega, leB_envH (by (repeat' (first | exact trivial | refine And.intro rfl ?_))) rfl⟩
        · ((conv=>whnf);repeat(refine And.intro rfl ?_;(conv=>whnf)))
          (refine .inl ⟨by (unfold InR; rw [IntKind.wrap_i64]; omega), ?_⟩; ((conv=>whnf);repeat(refine And.intro rfl ?_;(conv=>whnf))))
          exact ⟨(j + 1, true), ⟨by omega, by rw [hnext]; rfl⟩, by dsimp only; omega, leB_envH (by (repeat' (first | exact trivial | refine And.intro rfl ?_))) rfl⟩
      · have hj' : j = M.length := by have : ¬ j < M.length := by ((try simp only [oo, reduceCtorEq] at *) <;> omega)
                                      omega
        subst hj'
        rw [← hb] at e2
        cases b
        · rw [if_pos (by decide)] at e2
          ((conv=>whnf);repeat(refine And.intro rfl ?_;(conv=>whnf)))
          (refine .inl ⟨by (unfold InR; rw [IntKind.wrap_i64]; omega), ?_⟩; ((conv=>whnf);repeat(refine And.intro rfl ?_;(conv=>whnf))))
          refine ⟨i, by omega, by dsimp only; omega, ?_⟩
          dsimp only
          rw [e1, e2]
          (refine leB_close 9 (by simp) rfl ?_ ?_ <;> (repeat' (first | exact trivial | exact rfl | exact DeepM.refl _ | exact DeepML.refl _ | exact DeepMLL.refl _ | refine And.intro ?_ ?_ | (simp [Under, UnderL, UnderLL, -List.map_take, -List.map_drop]; done))))
        · rw [if_neg (by decide)] at e2
          ((conv=>whnf);repeat(refine And.intro rfl ?_;(conv=>whnf)))
          (refine .inl ⟨by (unfold InR; rw [IntKind.wrap_i64]; omega), ?_⟩; ((conv=>whnf);repeat(refine And.intro rfl ?_;(conv=>whnf))))
          refine ⟨i, by omega, by dsimp only; omega, ?_⟩
          dsimp only
          rw [e1, e2]
          (refine leB_close 9 (by simp) rfl ?_ ?_ <;> (repeat' (first | exact trivial | exact rfl | exact DeepM.refl _ | exact DeepML.refl _ | exact DeepMLL.refl _ | refine And.intro ?_ ?_ | (simp [Under, UnderL, UnderLL, -List.map_take, -List.map_drop]; done))))
    · have q1 : (N.getD i []).length = 0 := by ((try simp only [oo, reduceCtorEq] at *) <;> omega)
      ((conv=>whnf);repeat(refine And.intro rfl ?_;(conv=>whnf)))
      refine ⟨by omega, _, gridD_at (k := i) (by omega) hi, ?_⟩
      ((conv=>whnf);repeat(refine And.intro rfl ?_;(conv=>whnf)))
      (refine .inl ⟨_, (hZ i hi), ?_⟩; ((conv=>whnf);repeat(refine And.intro rfl ?_;(conv=>whnf))))
      rw [hz i hi]
      (refine ifK_split (fun q2 => ?_) (fun q2 => ?_) <;> (rw [q2]; ((conv=>whnf);repeat(refine And.intro rfl ?_;(conv=>whnf)))))
      · have q2 : emptyB (M.getD i []) = false := by simpa using q2
        rw [eS, decide_eq_true q1, q2, if_pos (by decide)] at e1
        have hCm := ref_Comes (gN N) g1 g2' [(i : Int)] (inB_of fun x hx => by rw [List.mem_singleton] at hx; subst hx; rw [gN_len]; omega) (by simp)
        rw [gN_len, hl] at hCm
        (refine .inr (.inr (.inr (.inr (.inl ⟨_, _, _, (acallAt_frz1 (pre := [dgrid (gN N)]) (post := []) (xs := [[.sc (.int .i64 i)]]) hCm (pure_dbl _ _) ⟨pure_dgrid _, trivial⟩ trivial (by simp [PureLL, PureL, Pure]) rfl), ?_⟩)))); ((conv=>whnf);repeat(refine And.intro rfl ?_;(conv=>whnf))))
        refine pwp_for [3, 4, 7, 8, 10, 14, 16] (fun ((j, b) : Nat × Bool) => [(15, .sc (.bool b)), (17, .sc (.int .i64 j))]) (fun _ => []) (fun (j, b) => j ≤ M.length ∧ b = (List.range j).any fun j => rchB (gN N) [(i : Int)] j && emptyB (M.getD j [])) (fun (j, b) => M.length - j) (0, false) ?_
        ((conv=>whnf);repeat(refine And.intro rfl ?_;(conv=>whnf)))
        refine ⟨⟨by omega, rfl⟩, by (repeat' (first | exact trivial | refine And.intro rfl ?_)), rfl, ?_⟩
        rintro ⟨j, b⟩ ⟨hj, hb⟩
        ((conv=>whnf);repeat(refine And.intro rfl ?_;(conv=>whnf)))
        (apply rd_sound; focus (repeat' constructor))
        ((conv=>whnf);repeat(refine And.intro rfl ?_;(conv=>whnf)))
        (refine ifK_split (fun q3 => ?_) (fun q3 => ?_) <;> (rw [q3]; ((conv=>whnf);repeat(refine And.intro rfl ?_;(conv=>whnf)))))
        · have hj' : j < M.length := by ((try simp only [oo, reduceCtorEq] at *) <;> omega)
          have hnext : (List.range (j + 1)).any (fun j => rchB (gN N) [(i : Int)] j && emptyB (M.getD j [])) = (b || (rchB (gN N) [(i : Int)] j && emptyB (M.getD j []))) := by
            rw [List.range_succ, List.any_append, ← hb]
            simp
          cases b
          · ((conv=>whnf);repeat(refine And.intro rfl ?_;(conv=>whnf)))
            refine ⟨by omega, _, rbl_atN j (by omega) hj', ?_⟩
            ((conv=>whnf);repeat(refine And.intro rfl ?_;(conv=>whnf)))
            cases q4 : rchB (gN N) [(i : Int)] j
            · ((conv=>whnf);repeat(refine And.intro rfl ?_;(conv=>whnf)))
              (refine .inl ⟨by (unfold InR; rw [IntKind.wrap_i64]; omega), ?_⟩; ((conv=>whnf);repeat(refine And.intro rfl ?_;(conv=>whnf))))
              exact ⟨(j + 1, false), ⟨by omega, by rw [hnext, q4]; rfl⟩, by dsimp only; omega, leB_envH (by (repeat' (first | exact trivial | refine And.intro rfl ?_))) rfl⟩
            · ((conv=>whnf);repeat(refine And.intro rfl ?_;(conv=>whnf)))
              refine ⟨by omega, _, gridD_at (k := j) (by omega) hj', ?_⟩
              ((conv=>whnf);repeat(refine And.intro rfl ?_;(conv=>whnf)))
              (refine .inl ⟨_, (hZ j hj'), ?_⟩; ((conv=>whnf);repeat(refine And.intro rfl ?_;(conv=>whnf))))
              rw [hz j hj']
              (refine .inl ⟨by (unfold InR; rw [IntKind.wrap_i64]; omega), ?_⟩; ((conv=>whnf);repeat(refine And.intro rfl ?_;(conv=>whnf))))
              exact ⟨(j + 1, emptyB (M.getD j [])), ⟨by omega, by rw [hnext, q4]; rfl⟩, by dsimp only; omega, leB_envH (by (repeat' (first | exact trivial | refine And.intro rfl ?_))) rfl⟩
          · ((conv=>whnf);repeat(refine And.intro rfl ?_;(conv=>whnf)))
            (refine .inl ⟨by (unfold InR; rw [IntKind.wrap_i64]; omega), ?_⟩; ((conv=>whnf);repeat(refine And.intro rfl ?_;(conv=>whnf))))
            exact ⟨(j + 1, true), ⟨by omega, by rw [hnext]; rfl⟩, by dsimp only; omega, leB_envH (by (repeat' (first | exact trivial | refine And.intro rfl ?_))) rfl⟩
        · have hj' : j = M.length := by have : ¬ j < M.length := by ((try simp only [oo, reduceCtorEq] at *) <;> omega)
                                        omega
          subst hj'
          rw [← hb] at e2
          cases b
          · rw [if_pos (by decide)] at e2
            ((conv=>whnf);repeat(refine And.intro rfl ?_;(conv=>whnf)))
            (refine .inl ⟨by (unfold InR; rw [IntKind.wrap_i64]; omega), ?_⟩; ((conv=>whnf);repeat(refine And.intro rfl ?_;(conv=>whnf))))
            refine ⟨i, by omega, by dsimp only; omega, ?_⟩
            dsimp only
            rw [e1, e2]
            (refine leB_close 9 (by simp) rfl ?_ ?_ <;> (repeat' (first | exact trivial | exact rfl | exact DeepM.refl _ | exact DeepML.refl _ | exact DeepMLL.refl _ | refine And.intro ?_ ?_ | (simp [Under, UnderL, UnderLL, -List.map_take, -List.map_drop]; done))))
          · rw [if_neg (by decide)] at e2
            ((conv=>whnf);repeat(refine And.intro rfl ?_;(conv=>whnf)))
            (refine .inl ⟨by (unfold InR; rw [IntKind.wrap_i64]; omega), ?_⟩; ((conv=>whnf);repeat(refine And.intro rfl ?_;(conv=>whnf))))
            refine ⟨i, by omega, by dsimp only; omega, ?_⟩
            dsimp only
            rw [e1, e2]
            (refine leB_close 9 (by simp) rfl ?_ ?_ <;> (repeat' (first | exact trivial | exact rfl | exact DeepM.refl _ | exact DeepML.refl _ | exact DeepMLL.refl _ | refine And.intro ?_ ?_ | (simp [Under, UnderL, UnderLL, -List.map_take, -List.map_drop]; done))))
      · have q2 : emptyB (M.getD i []) = true := by simpa using q2
        rw [eS, decide_eq_true q1, q2, if_neg (by decide)] at e1
        have hCm := ref_Comes (gN N) g1 g2' [(i : Int)] (inB_of fun x hx => by rw [List.mem_singleton] at hx; subst hx; rw [gN_len]; omega) (by simp)
        rw [gN_len, hl] at hCm
        (refine .inr (.inr (.inr (.inr (.inl ⟨_, _, _, (acallAt_frz1 (pre := [dgrid (gN N)]) (post := []) (xs := [[.sc (.int .i64 i)]]) hCm (pure_dbl _ _) ⟨pure_dgrid _, trivial⟩ trivial (by simp [PureLL, PureL, Pure]) rfl), ?_⟩)))); ((conv=>whnf);repeat(refine And.intro rfl ?_;(conv=>whnf))))
        refine pwp_for [3, 4, 7, 8, 10, 14, 16] (fun ((j, b) : Nat × Bool) => [(15, .sc (.bool b)), (17, .sc (.int .i64 j))]) (fun _ => []) (fun (j, b) => j ≤ M.length ∧ b = (List.range j).any fun j => rchB (gN N) [(i : Int)] j && emptyB (M.getD j [])) (fun (j, b) => M.length - j) (0, false) ?_
        ((conv=>whnf);repeat(refine And.intro rfl ?_;(conv=>whnf)))
        refine ⟨⟨by omega, rfl⟩, by (repeat' (first | exact trivial | refine And.intro rfl ?_)), rfl, ?_⟩
        rintro ⟨j, b⟩ ⟨hj, hb⟩
        ((conv=>whnf);repeat(refine And.intro rfl ?_;(conv=>whnf)))
        (apply rd_sound; focus (repeat' constructor))
        ((conv=>whnf);repeat(refine And.intro rfl ?_;(conv=>whnf)))
        (refine ifK_split (fun q3 => ?_) (fun q3 => ?_) <;> (rw [q3]; ((conv=>whnf);repeat(refine And.intro rfl ?_;(conv=>whnf)))))
        · have hj' : j < M.length := by ((try simp only [oo, reduceCtorEq] at *) <;> omega)
          have hnext : (List.range (j + 1)).any (fun j => rchB (gN N) [(i : Int)] j && emptyB (M.getD j [])) = (b || (rchB (gN N) [(i : Int)] j && emptyB (M.getD j []))) := by
            rw [List.range_succ, List.any_append, ← hb]
            simp
          cases b
          · ((conv=>whnf);repeat(refine And.intro rfl ?_;(conv=>whnf)))
            refine ⟨by omega, _, rbl_atN j (by omega) hj', ?_⟩
            ((conv=>whnf);repeat(refine And.intro rfl ?_;(conv=>whnf)))
            cases q4 : rchB (gN N) [(i : Int)] j
            · ((conv=>whnf);repeat(refine And.intro rfl ?_;(conv=>whnf)))
              (refine .inl ⟨by (unfold InR; rw [IntKind.wrap_i64]; omega), ?_⟩; ((conv=>whnf);repeat(refine And.intro rfl ?_;(conv=>whnf))))
              exact ⟨(j + 1, false), ⟨by omega, by rw [hnext, q4]; rfl⟩, by dsimp only; omega, leB_envH (by (repeat' (first | exact trivial | refine And.intro rfl ?_))) rfl⟩
            · ((conv=>whnf);repeat(refine And.intro rfl ?_;(conv=>whnf)))
              refine ⟨by omega, _, gridD_at (k := j) (by omega) hj', ?_⟩
              ((conv=>whnf);repeat(refine And.intro rfl ?_;(conv=>whnf)))
              (refine .inl ⟨_, (hZ j hj'), ?_⟩; ((conv=>whnf);repeat(refine And.intro rfl ?_;(conv=>whnf))))
              rw [hz j hj']
              (refine .inl ⟨by (unfold InR; rw [IntKind.wrap_i64]; omega), ?_⟩; ((conv=>whnf);repeat(refine And.intro rfl ?_;(conv=>whnf))))
              exact ⟨(j + 1, emptyB (M.getD j [])), ⟨by omega, by rw [hnext, q4]; rfl⟩, by dsimp only; omega, leB_envH (by (repeat' (first | exact trivial | refine And.intro rfl ?_))) rfl⟩
          · ((conv=>whnf);repeat(refine And.intro rfl ?_;(conv=>whnf)))
            (refine .inl ⟨by (unfold InR; rw [IntKind.wrap_i64]; omega), ?_⟩; ((conv=>whnf);repeat(refine And.intro rfl ?_;(conv=>whnf))))
            exact ⟨(j + 1, true), ⟨by omega, by rw [hnext]; rfl⟩, by dsimp only; omega, leB_envH (by (repeat' (first | exact trivial | refine And.intro rfl ?_))) rfl⟩
        · have hj' : j = M.length := by have : ¬ j < M.length := by ((try simp only [oo, reduceCtorEq] at *) <;> omega)
                                        omega
          subst hj'
          rw [← hb] at e2
          cases b
          · rw [if_pos (by decide)] at e2
            ((conv=>whnf);repeat(refine And.intro rfl ?_;(conv=>whnf)))
            (refine .inl ⟨by (unfold InR; rw [IntKind.wrap_i64]; omega), ?_⟩; ((conv=>whnf);repeat(refine And.intro rfl ?_;(conv=>whnf))))
            refine ⟨i, by omega, by dsimp only; omega, ?_⟩
            dsimp only
            rw [e1, e2]
            (refine leB_close 9 (by simp) rfl ?_ ?_ <;> (repeat' (first | exact trivial | exact rfl | exact DeepM.refl _ | exact DeepML.refl _ | exact DeepMLL.refl _ | refine And.intro ?_ ?_ | (simp [Under, UnderL, UnderLL, -List.map_take, -List.map_drop]; done))))
          · rw [if_neg (by decide)] at e2
            ((conv=>whnf);repeat(refine And.intro rfl ?_;(conv=>whnf)))
            (refine .inl ⟨by (unfold InR; rw [IntKind.wrap_i64]; omega), ?_⟩; ((conv=>whnf);repeat(refine And.intro rfl ?_;(conv=>whnf))))
            refine ⟨i, by omega, by dsimp only; omega, ?_⟩
            dsimp only
            rw [e1, e2]
            (refine leB_close 9 (by simp) rfl ?_ ?_ <;> (repeat' (first | exact trivial | exact rfl | exact DeepM.refl _ | exact DeepML.refl _ | exact DeepMLL.refl _ | refine And.intro ?_ ?_ | (simp [Under, UnderL, UnderLL, -List.map_take, -List.map_drop]; done))))
  · have hk0 : k = 0 := by have : ¬ 1 ≤ k := by ((try simp only [oo, reduceCtorEq] at *) <;> omega)
                           omega
    subst hk0
    rw [Nat.sub_zero]
    have ha1 := hfr (stillB M N)
    have ha2 := hfr (neverB M N)
    generalize frst (stillB M N) M.length M.length = f1 at ha1
    generalize frst (neverB M N) M.length M.length = f2 at ha2
    refine pwp_ghostB (leB_freeze (fun i => i == 1 || i == 3) (env' := [(3, .ipt (scells M N)), (4, .loc 2 0), (7, .ipt [.sc (.int .i64 M.length)]), (8, .loc 4 0), (10, .ipt [dgrid (gN N)])])
      (H' := [.row true P.cells, .row false (scells M N), .row true rest0, .row false [.sc (.int .i64 M.length)], .row true [.own 8 c 0 c, .sc (.int .i64 f1), .sc (.int .i64 f2), .sc (.slice none 0 0), .sc (.slice none 0 0)], .vec true 0 1 (rbl P.nodes.length s0), .vec false 0 1 ((gN N).map fun l => [dints l]), .row false [dgrid (gN N)], .vec true c 1 (i64s l)])
      ⟨.loc _ _ _ _ _ rfl rfl (.refl _), .refl _, .loc _ _ _ _ _ rfl rfl (.refl _), .refl _, .refl _, trivial⟩
      ⟨⟨.inl rfl, (fun h => by cases h), .refl _⟩, ⟨.inr ⟨rfl, rfl⟩, fun _ => rfl, .refl _⟩, ⟨.inl rfl, (fun h => by cases h), .refl _⟩, ⟨.inr ⟨rfl, rfl⟩, fun _ => rfl, .refl _⟩, ⟨.inl rfl, (fun h => by cases h), .refl _⟩, ⟨.inl rfl, (fun h => by cases h), rfl, rfl, .refl _⟩, ⟨.inl rfl, (fun h => by cases h), rfl, rfl, .refl _⟩, ⟨.inl rfl, (fun h => by cases h), .refl _⟩, ⟨.inl rfl, (fun h => by cases h), rfl, rfl, .refl _⟩, trivial⟩) ?_
    (apply rd_sound; focus (repeat' constructor))
    ((conv=>whnf);repeat(refine And.intro rfl ?_;(conv=>whnf)))
    (refine .inl ⟨_, (hlead f1 ha1), ?_⟩; ((conv=>whnf);repeat(refine And.intro rfl ?_;(conv=>whnf))))
    (refine .inl ⟨_, (hlead f2 ha2), ?_⟩; ((conv=>whnf);repeat(refine And.intro rfl ?_;(conv=>whnf))))
    refine .agg _ _ (.cons _ _ _ _ (.own _ _ _ _ _ _ _ _ rfl ?_) (deepL_refl _))
    rw [List.drop_zero, List.take_of_length_le (by simp; omega)]
    exact deepLL_refl _
end Go.Proofs.Ytjnfahdolkgnoaa
