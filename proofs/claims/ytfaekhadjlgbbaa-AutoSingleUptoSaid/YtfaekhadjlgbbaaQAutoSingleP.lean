/-
  watchlaw.AutoSingle returns true for every automaton, and the argument reads afterwards as it read before. The condition: it is of a bulk of at most 1048576.
-/
import Derived.Test.YtfaekhadjlgbbaaQDC
import Derived.Test.YtfaekhadjlgbbaaQNb7
import Derived.Test.YtfaekhadjlgbbaaQAf
import Derived.Test.YtfaekhadjlgbbaaRows
import Derived.Deep.CondSized
import Derived.JoinedCond
namespace Go.Proofs.Ytfaekhadjlgbbaa
open Go.RowKit Go.ChangeShapes Go.WideShapes Go.ChangeAt
set_option linter.unusedSimpArgs false
set_option linter.unusedVariables false
def c13x_1 : PC := .seq (.ops [⟨some 30,.bin .lss (.tmp 29) (.tmp 28),none,0⟩] false) (.seq (.cond (.tmp 30) (.skip) (.exit 0)) (.seq (.block 1 (.seq (.ops [⟨some 31,.move (.tmp 29),none,0⟩,
 ⟨some 32,.iaddr 1 (.tmp 27) (.tmp 29),none,0⟩,
 ⟨some 33,.load1 (.tmp 32),none,0⟩,
 ⟨some 6,.move (.tmp 31),none,0⟩,
 ⟨some 7,.move (.tmp 33),none,0⟩] false) (.ops [⟨some 34,.load1 (.tmp 5),none,0⟩,
 ⟨some 35,.move (.tmp 6),none,0⟩,
 ⟨some 36,.move (.tmp 7),none,0⟩,
 ⟨some 37,.faddr 1 (.tmp 1),none,0⟩,
 ⟨some 38,.load1 (.tmp 37),none,8⟩,
 ⟨some 39,.len (.tmp 38),none,24⟩,
 ⟨some 40,.call 37 [(.tmp 36), (.tmp 39)],none,60⟩,
 ⟨some 41,.iaddr 1 (.tmp 34) (.tmp 35),none,127⟩,
 ⟨none,.store 1 (.tmp 41) (.tmp 40),none,255⟩] true))) (.ops [⟨some 42,.bin .add (.tmp 29) (.const (.int .i64 1)),none,0⟩,
 ⟨some 29,.move (.tmp 42),none,0⟩] false)))
def c13x_2 : PC := .seq (.ops [⟨some 48,.bin .lss (.tmp 47) (.tmp 46),none,0⟩] false) (.seq (.cond (.tmp 48) (.skip) (.exit 2)) (.seq (.block 3 (.seq (.ops [⟨some 49,.iaddr 1 (.tmp 45) (.tmp 47),none,0⟩,
 ⟨some 50,.load1 (.tmp 49),none,0⟩,
 ⟨some 11,.move (.tmp 50),none,0⟩] false) (.ops [⟨some 51,.move (.tmp 9),none,0⟩,
 ⟨some 52,.move (.tmp 11),none,0⟩,
 ⟨some 53,.build [(.int .i64 0), (.int .i64 0)] [(0, 1, (.tmp 52)), (1, 1, (.const (.int .i64 0)))],none,0⟩,
 ⟨some 54,.bslice 2 1 [(.tmp 53)],none,0⟩,
 ⟨some 55,.append 2 16 (.tmp 51) (.tmp 54),none,0⟩,
 ⟨some 9,.move (.tmp 55),none,0⟩] false))) (.ops [⟨some 56,.bin .add (.tmp 47) (.const (.int .i64 1)),none,0⟩,
 ⟨some 47,.move (.tmp 56),none,0⟩] false)))
def c13x_3 : PC := .seq (.ops [⟨some 72,.bin .lss (.tmp 71) (.tmp 70),none,0⟩] false) (.seq (.cond (.tmp 72) (.skip) (.exit 4)) (.seq (.block 5 (.seq (.ops [⟨some 73,.move (.tmp 71),none,0⟩,
 ⟨some 74,.iaddr 2 (.tmp 69) (.tmp 71),none,0⟩,
 ⟨some 75,.loadA 2 (.tmp 74),none,0⟩,
 ⟨some 15,.alloc [(.int .i64 0), (.int .i64 0)],none,0⟩,
 ⟨some 14,.move (.tmp 73),none,0⟩,
 ⟨none,.store 2 (.tmp 15) (.tmp 75),none,0⟩] false) (.seq (.ops [⟨some 76,.move (.tmp 12),none,0⟩,
 ⟨some 77,.move (.tmp 12),none,0⟩,
 ⟨some 78,.nilchk (.tmp 77),none,2⟩,
 ⟨some 79,.faddr 2 (.tmp 78),none,6⟩,
 ⟨some 80,.faddr 2 (.tmp 79),none,14⟩,
 ⟨some 81,.load1 (.tmp 80),none,30⟩,
 ⟨some 82,.faddr 2 (.tmp 1),none,0⟩,
 ⟨some 83,.load1 (.tmp 82),none,64⟩,
 ⟨some 84,.faddr 0 (.tmp 15),none,0⟩,
 ⟨some 85,.load1 (.tmp 84),none,256⟩,
 ⟨some 86,.iaddr 1 (.tmp 83) (.tmp 85),none,960⟩,
 ⟨some 87,.load1 (.tmp 86),none,1984⟩,
 ⟨some 88,.bslice 1 1 [(.tmp 87)],none,4032⟩,
 ⟨some 89,.append 1 8 (.tmp 81) (.tmp 88),none,8190⟩,
 ⟨some 90,.nilchk (.tmp 76),none,16383⟩,
 ⟨some 91,.faddr 2 (.tmp 90),none,32767⟩,
 ⟨some 92,.faddr 2 (.tmp 91),none,65535⟩,
 ⟨none,.store 1 (.tmp 92) (.tmp 89),none,131071⟩] true) (.seq (.ops [⟨some 93,.move (.tmp 12),none,0⟩,
 ⟨some 94,.move (.tmp 12),none,0⟩,
 ⟨some 95,.nilchk (.tmp 94),none,2⟩,
 ⟨some 96,.faddr 2 (.tmp 95),none,6⟩,
 ⟨some 97,.faddr 3 (.tmp 96),none,14⟩,
 ⟨some 98,.load1 (.tmp 97),none,30⟩,
 ⟨some 99,.faddr 3 (.tmp 1),none,0⟩,
 ⟨some 100,.load1 (.tmp 99),none,64⟩,
 ⟨some 101,.faddr 0 (.tmp 15),none,0⟩,
 ⟨some 102,.load1 (.tmp 101),none,256⟩,
 ⟨some 103,.iaddr 1 (.tmp 100) (.tmp 102),none,960⟩,
 ⟨some 104,.load1 (.tmp 103),none,1984⟩,
 ⟨some 105,.bslice 1 1 [(.tmp 104)],none,4032⟩,
 ⟨some 106,.append 1 8 (.tmp 98) (.tmp 105),none,8190⟩,
 ⟨some 107,.nilchk (.tmp 93),none,16383⟩,
 ⟨some 108,.faddr 2 (.tmp 107),none,32767⟩,
 ⟨some 109,.faddr 3 (.tmp 108),none,65535⟩,
 ⟨none,.store 1 (.tmp 109) (.tmp 106),none,131071⟩] true) (.seq (.ops [⟨some 110,.faddr 1 (.tmp 15),none,0⟩,
 ⟨some 111,.load1 (.tmp 110),none,1⟩,
 ⟨some 112,.bin .eql (.tmp 111) (.const (.int .i64 0)),none,3⟩,
 ⟨some 113,.move (.tmp 112),none,7⟩,
 ⟨some 114,.load1 (.tmp 5),some (113,true),15⟩,
 ⟨some 115,.len (.tmp 114),some (113,true),31⟩,
 ⟨some 116,.bin .eql (.tmp 115) (.const (.int .i64 0)),some (113,true),63⟩,
 ⟨some 117,.move (.tmp 116),some (113,true),127⟩,
 ⟨some 118,.load1 (.tmp 5),some (117,false),255⟩,
 ⟨some 119,.iaddr 1 (.tmp 118) (.const (.int .i64 0)),some (117,false),511⟩,
 ⟨some 120,.load1 (.tmp 119),some (117,false),1023⟩,
 ⟨some 121,.faddr 0 (.tmp 15),some (117,false),255⟩,
 ⟨some 122,.load1 (.tmp 121),some (117,false),2303⟩,
 ⟨some 123,.iaddr 1 (.tmp 120) (.tmp 122),some (117,false),8191⟩,
 ⟨some 124,.load1 (.tmp 123),some (117,false),16383⟩,
 ⟨some 125,.pick (.tmp 117) (.const (.bool true)) (.tmp 124),some (113,true),32767⟩,
 ⟨some 126,.pick (.tmp 113) (.tmp 125) (.const (.bool false)),none,65535⟩] true) (.cond (.tmp 126) (.ops [⟨some 127,.move (.tmp 13),none,0⟩,
 ⟨some 128,.move (.tmp 14),none,0⟩,
 ⟨some 129,.bslice 1 1 [(.tmp 128)],none,0⟩,
 ⟨some 130,.append 1 8 (.tmp 127) (.tmp 129),none,0⟩,
 ⟨some 13,.move (.tmp 130),none,0⟩] false) (.skip))))))) (.ops [⟨some 131,.bin .add (.tmp 71) (.const (.int .i64 1)),none,0⟩,
 ⟨some 71,.move (.tmp 131),none,0⟩] false)))
def c13x : PC := .seq (.ops [⟨some 1,.box (.tmp 0),none,0⟩,
 ⟨some 2,.alloc [(.slice none 0 0), (.slice none 0 0), (.slice none 0 0), (.slice none 0 0), (.slice none 0 0)],none,0⟩,
 ⟨some 3,.move (.const (.int .i64 0)),none,0⟩] false) (.seq (.seq (.ops [⟨some 16,.loadA 5 (.tmp 1),none,0⟩,
 ⟨some 17,.call 10 [(.tmp 16)],none,0⟩,
 ⟨some 4,.move (.tmp 17),none,0⟩] false) (.seq (.ops [⟨some 18,.move (.tmp 4),none,0⟩,
 ⟨some 19,.bin .neq (.tmp 18) (.const (.int .i64 0)),none,0⟩] false) (.cond (.tmp 19) (.seq (.ops [⟨some 20,.build [(.slice none 0 0), (.slice none 0 0), (.slice none 0 0), (.slice none 0 0), (.slice none 0 0)] [],none,0⟩,
 ⟨some 21,.move (.tmp 4),none,0⟩,
 ⟨none,.store 5 (.tmp 2) (.tmp 20),none,0⟩,
 ⟨some 3,.move (.tmp 21),none,0⟩] false) (.ret)) (.skip)))) (.seq (.ops [⟨some 22,.faddr 4 (.tmp 1),none,0⟩,
 ⟨some 23,.load1 (.tmp 22),none,0⟩,
 ⟨some 24,.len (.tmp 23),none,0⟩,
 ⟨some 25,.mslice 1 24 [(.slice none 0 0)] (.tmp 24) (.tmp 24),none,0⟩,
 ⟨some 5,.alloc [(.slice none 0 0)],none,0⟩,
 ⟨none,.store 1 (.tmp 5) (.tmp 25),none,0⟩] false) (.seq (.seq (.ops [⟨some 26,.faddr 4 (.tmp 1),none,0⟩,
 ⟨some 27,.load1 (.tmp 26),none,0⟩,
 ⟨some 28,.len (.tmp 27),none,0⟩,
 ⟨some 29,.move (.const (.int .i64 0)),none,0⟩] false) (.block 0 (.loop c13x_1))) (.seq (.ops [⟨some 43,.mkfn (.func 38) [] [(.tmp 5), (.tmp 1)],none,0⟩,
 ⟨some 8,.move (.tmp 43),none,0⟩] false) (.seq (.ops [⟨some 9,.move (.const (.slice none 0 0)),none,0⟩] false) (.seq (.seq (.ops [⟨some 44,.faddr 0 (.tmp 1),none,0⟩,
 ⟨some 45,.load1 (.tmp 44),none,0⟩,
 ⟨some 46,.len (.tmp 45),none,0⟩,
 ⟨some 47,.move (.const (.int .i64 0)),none,0⟩] false) (.block 2 (.loop c13x_2))) (.seq (.ops [⟨some 57,.mkmap 69,none,0⟩,
 ⟨some 58,.build [(.map none), (.slice none 0 0), (.slice none 0 0), (.slice none 0 0), (.slice none 0 0), (.slice none 0 0), (.slice none 0 0)] [(0, 1, (.tmp 57))],none,0⟩,
 ⟨some 59,.box (.tmp 58),none,0⟩,
 ⟨some 12,.move (.tmp 59),none,0⟩] false) (.seq (.seq (.ops [⟨some 60,.move (.tmp 12),none,0⟩,
 ⟨some 61,.move (.tmp 9),none,0⟩,
 ⟨some 62,.move (.tmp 8),none,0⟩,
 ⟨some 63,.call 39 [(.tmp 60), (.tmp 61), (.tmp 62)],none,0⟩,
 ⟨some 64,.un .not (.tmp 63),none,0⟩] false) (.cond (.tmp 64) (.seq (.ops [⟨some 65,.build [(.slice none 0 0), (.slice none 0 0), (.slice none 0 0), (.slice none 0 0), (.slice none 0 0)] [],none,0⟩,
 ⟨none,.store 5 (.tmp 2) (.tmp 65),none,0⟩,
 ⟨some 3,.move (.const (.int .i64 2)),none,0⟩] false) (.ret)) (.skip))) (.seq (.ops [⟨some 13,.move (.const (.slice none 0 0)),none,0⟩] false) (.seq (.seq (.ops [⟨some 66,.move (.tmp 12),none,0⟩,
 ⟨some 67,.nilchk (.tmp 66),none,0⟩,
 ⟨some 68,.faddr 1 (.tmp 67),none,0⟩,
 ⟨some 69,.load1 (.tmp 68),none,0⟩,
 ⟨some 70,.len (.tmp 69),none,0⟩,
 ⟨some 71,.move (.const (.int .i64 0)),none,0⟩] false) (.block 4 (.loop c13x_3))) (.seq (.ops [⟨some 132,.move (.tmp 12),none,0⟩,
 ⟨some 133,.move (.tmp 13),none,0⟩,
 ⟨some 134,.bslice 1 1 [(.tmp 133)],none,0⟩,
 ⟨some 135,.nilchk (.tmp 132),none,0⟩,
 ⟨some 136,.faddr 2 (.tmp 135),none,0⟩,
 ⟨some 137,.faddr 4 (.tmp 136),none,0⟩,
 ⟨none,.store 1 (.tmp 137) (.tmp 134),none,0⟩] false) (.seq (.ops [⟨some 138,.move (.tmp 12),none,0⟩,
 ⟨some 139,.nilchk (.tmp 138),none,0⟩,
 ⟨some 140,.faddr 2 (.tmp 139),none,0⟩,
 ⟨some 141,.loadA 5 (.tmp 140),none,0⟩,
 ⟨none,.store 5 (.tmp 2) (.tmp 141),none,0⟩,
 ⟨some 3,.move (.const (.int .i64 0)),none,0⟩] false) (.ret)))))))))))))
set_option maxRecDepth 100000 in
theorem c13x_ok : FunOK Try.prog 13 142 [.agg 2 5, .tmp 3] c13x := ⟨⟨Try.f13, Try.func13, rfl, by kernel_rfl, rfl, by kernel_rfl⟩⟩
theorem au_Single_bad (A : AutoD) (hA : A.Fits) (h : A.chk ≠ 0) : PCall Try.prog 13 [dauto A] (.tup [dauto emptyA, .sc (.int .i64 A.chk)]) := by
  refine pcall_intro c13x_ok (by simp) (by simp [PureL, pure_dauto]) ?_ (by simp [Pure, PureL, pure_dauto])
  have hC := au_Check A hA
  generalize A.chk = c at *
  unfold dauto at *
  (apply rd_sound; focus (repeat' constructor))
  ((conv=>whnf);repeat(refine .intro rfl ?_;conv=>whnf))
  (refine .inl ⟨_, hC, ?_⟩; ((conv=>whnf);repeat(refine .intro rfl ?_;conv=>whnf)))
  (refine ifK_split (fun h1 => ?_) (fun h1 => ?_) <;> (rw [h1]; ((conv=>whnf);repeat(refine .intro rfl ?_;conv=>whnf))))
  · exact .tup _ _ (.cons _ _ _ _ (.agg _ _ (.cons _ _ _ _ (.none _) (.cons _ _ _ _ (.none _) (.cons _ _ _ _ (.none _) (.cons _ _ _ _ (.none _) (.cons _ _ _ _ (.none _) .nil)))))) (.cons _ _ _ _ (.refl _) .nil))
  · exact absurd (by ((try simp only[oo,reduceCtorEq]at*)<;>omega)) h
/-- What comes out, as one automaton and a number. -/
theorem outS_is (A : AutoD) (hsl : A.start.length ≤ 1048576) (hrl : ∀ l ∈ A.next, l.length ≤ 1048576) : ∃ (B : AutoD) (e : Int), outS A = .tup [dauto B, .sc (.int .i64 e)] ∧ B.Size := by
  have hnl : ∀ p, (nxS A p).length ≤ 1048576 := fun p => by unfold nxS; rw [List.length_map]; exact row_le hrl p.1.toNat
  unfold outS
  have hbl := beginS_len (A := A) (Nat.le_refl A.start.length)
  rcases madeS_eq (beginS A A.start.length) (nxS A) with ⟨h1, h2⟩ | ⟨L, T, h1, h2, h3⟩
  · rw [h1]; exact ⟨emptyA, 2, rfl, emptyA_size⟩
  · have hr := runR_rows hnl 2050 0 _ [] L T (fun l hl => by cases hl) h1
    have hp := pPut_row (beginS A A.start.length) []
    have hL : L.length ≤ 2049 := by
      have := (madeS_good (Good := fun _ => True) (start := beginS A A.start.length) (nx := nxS A) (fun _ _ => trivial) fun _ _ _ _ => trivial).2
      rw [h2] at this
      exact this
    rw [h1]
    have hf := fairK_len A.fair L L.length
    refine ⟨_, 0, rfl, ⟨?_, ?_, ?_, ?_, ?_, ?_, ?_⟩⟩
    · show (pPut (beginS A A.start.length) [] []).2.length ≤ _; omega
    · have := hr.2; simp at this; show T.length ≤ _; omega
    · show (letsAt A.must L L.length).length ≤ _; rw [letsAt_len (Nat.le_refl _)]; omega
    · show (letsAt A.nots L L.length).length ≤ _; rw [letsAt_len (Nat.le_refl _)]; omega
    · show 1 ≤ _; omega
    · intro l hl; have := hr.1 l hl; omega
    · intro l hl
      rw [List.mem_singleton] at hl
      subst hl
      omega
def c4 : PC := .seq (.ops [⟨some 1,.box (.tmp 0),none,0⟩,
 ⟨some 2,.move (.const (.bool false)),none,0⟩] false) (.seq (.ops [⟨some 9,.loadA 5 (.tmp 1),none,0⟩,
 ⟨some 10,.call 13 [(.tmp 9)],none,0⟩,
 ⟨some 8,.move (.tmp 10),none,0⟩,
 ⟨some 11,.ext 0 (.tmp 8),none,0⟩,
 ⟨some 12,.ext 1 (.tmp 8),none,0⟩,
 ⟨some 3,.alloc [(.slice none 0 0), (.slice none 0 0), (.slice none 0 0), (.slice none 0 0), (.slice none 0 0)],none,0⟩,
 ⟨none,.store 5 (.tmp 3) (.tmp 11),none,0⟩,
 ⟨some 4,.move (.tmp 12),none,0⟩] false) (.seq (.seq (.ops [⟨some 13,.loadA 5 (.tmp 1),none,0⟩,
 ⟨some 14,.call 8 [(.tmp 13)],none,0⟩,
 ⟨some 5,.move (.tmp 14),none,0⟩] false) (.seq (.ops [⟨some 15,.move (.tmp 5),none,0⟩,
 ⟨some 16,.bin .neq (.tmp 15) (.const (.int .i64 0)),none,0⟩] false) (.cond (.tmp 16) (.seq (.ops [⟨some 17,.move (.tmp 4),none,0⟩,
 ⟨some 18,.move (.tmp 5),none,0⟩,
 ⟨some 19,.bin .eql (.tmp 17) (.tmp 18),none,0⟩,
 ⟨some 20,.move (.tmp 19),none,0⟩,
 ⟨some 21,.loadA 5 (.tmp 3),some (20,true),0⟩,
 ⟨some 22,.build [(.slice none 0 0), (.slice none 0 0), (.slice none 0 0), (.slice none 0 0), (.slice none 0 0)] [],some (20,true),0⟩,
 ⟨some 23,.call 14 [(.tmp 21), (.tmp 22)],some (20,true),0⟩,
 ⟨some 24,.pick (.tmp 20) (.tmp 23) (.const (.bool false)),none,0⟩,
 ⟨some 2,.move (.tmp 24),none,0⟩] false) (.ret)) (.skip)))) (.seq (.seq (.ops [⟨some 25,.faddr 1 (.tmp 1),none,0⟩,
 ⟨some 26,.load1 (.tmp 25),none,0⟩,
 ⟨some 27,.len (.tmp 26),none,0⟩,
 ⟨some 28,.bin .gtr (.tmp 27) (.const (.int .i64 60)),none,0⟩] false) (.cond (.tmp 28) (.seq (.ops [⟨some 2,.move (.const (.bool true)),none,0⟩] false) (.ret)) (.skip))) (.seq (.ops [⟨some 30,.loadA 5 (.tmp 1),none,0⟩,
 ⟨some 31,.call 15 [(.tmp 30)],none,0⟩,
 ⟨some 29,.move (.tmp 31),none,0⟩,
 ⟨some 32,.ext 0 (.tmp 29),none,0⟩,
 ⟨some 33,.ext 1 (.tmp 29),none,0⟩,
 ⟨some 6,.alloc [(.slice none 0 0), (.slice none 0 0), (.slice none 0 0), (.slice none 0 0), (.slice none 0 0)],none,0⟩,
 ⟨none,.store 5 (.tmp 6) (.tmp 32),none,0⟩,
 ⟨some 7,.move (.tmp 33),none,0⟩] false) (.seq (.ops [⟨some 34,.move (.tmp 4),none,0⟩,
 ⟨some 35,.move (.tmp 7),none,0⟩,
 ⟨some 36,.bin .eql (.tmp 34) (.tmp 35),none,0⟩,
 ⟨some 37,.move (.tmp 36),none,0⟩,
 ⟨some 38,.loadA 5 (.tmp 3),some (37,true),0⟩,
 ⟨some 39,.loadA 5 (.tmp 6),some (37,true),0⟩,
 ⟨some 40,.call 14 [(.tmp 38), (.tmp 39)],some (37,true),0⟩,
 ⟨some 41,.pick (.tmp 37) (.tmp 40) (.const (.bool false)),none,0⟩,
 ⟨some 2,.move (.tmp 41),none,0⟩] false) (.ret))))))
set_option maxRecDepth 100000 in
theorem c4_ok : FunOK Try.prog 4 42 [.tmp 2] c4 := ⟨⟨Try.f4, Try.func4, rfl, by kernel_rfl, rfl, by kernel_rfl⟩⟩
set_option maxRecDepth 100000 in
theorem law_AutoSingle (A : AutoD) (hA : A.Fits) (hsl : A.start.length ≤ 1048576) (hrl : ∀ l ∈ A.next, l.length ≤ 1048576) : PCall Try.prog 4 [dauto A] (dbool true) := by
  refine pcall_intro c4_ok (by simp) (by simp [PureL, pure_dauto]) ?_ (by simp [dbool, Pure])
  have hR := ref_Auto A hA
  by_cases h : A.chk = 0
  · obtain ⟨B, e, h1, hB⟩ := outS_is A hsl hrl
    have hS := au_Single A hA h hsl hrl
    have hRS := ref_Single A hA h hsl hrl
    have hSame := ref_SameAuto B hB
    rw [h] at hR
    rw [h1] at hS hRS
    have hpB := pure_aucells B
    unfold dauto at *
    (apply rd_sound; focus (repeat' constructor))
    ((conv=>whnf);repeat(refine .intro rfl ?_;conv=>whnf))
    (refine .inl ⟨_, hS, ?_⟩; ((conv=>whnf);repeat(refine .intro rfl ?_;conv=>whnf)))
    (refine .inl ⟨_, hR, ?_⟩; ((conv=>whnf);repeat(refine .intro rfl ?_;conv=>whnf)))
    rw [List.length_map]
    (refine ifK_split (fun g => ?_) (fun g => ?_) <;> (rw [g]; ((conv=>whnf);repeat(refine .intro rfl ?_;conv=>whnf))))
    · exact .refl _
    (refine .inl ⟨_, hRS, ?_⟩; ((conv=>whnf);repeat(refine .intro rfl ?_;conv=>whnf)))
    rw [show (e == e) = true by simp]
    ((conv=>whnf);repeat(refine .intro rfl ?_;conv=>whnf))
    (refine .inl ⟨_, hSame, ?_⟩; ((conv=>whnf);repeat(refine .intro rfl ?_;conv=>whnf)))
    exact .refl _
  · have hS := au_Single_bad A hA h
    have hSame := same_auto0
    generalize A.chk = c at *
    unfold dauto at *
    (apply rd_sound; focus (repeat' constructor))
    ((conv=>whnf);repeat(refine .intro rfl ?_;conv=>whnf))
    (refine .inl ⟨_, hS, ?_⟩; ((conv=>whnf);repeat(refine .intro rfl ?_;conv=>whnf)))
    (refine .inl ⟨_, hR, ?_⟩; ((conv=>whnf);repeat(refine .intro rfl ?_;conv=>whnf)))
    (refine ifK_split (fun g => ?_) (fun g => ?_) <;> (rw [g]; ((conv=>whnf);repeat(refine .intro rfl ?_;conv=>whnf))))
    · rw [show (c == c) = true by simp]
      ((conv=>whnf);repeat(refine .intro rfl ?_;conv=>whnf))
      (refine .inl ⟨_, hSame, ?_⟩; ((conv=>whnf);repeat(refine .intro rfl ?_;conv=>whnf)))
      exact .refl _
    · exfalso; ((try simp only[oo,reduceCtorEq]at*)<;>omega)
namespace autoSingle
set_option maxRecDepth 100000 in
theorem law : ∀ Ds, OfAsz Try.prog 1048576 [26] Ds → PCall Try.prog 4 Ds (dbool true)
  | [d], h => by
    have h1 := h.1
    unfold OfAz at h1
    rw [Try.underlying26] at h1
    obtain ⟨cs, rfl, h1⟩ := h1
    have k1 := of_struct Try.underlying26 h1
    simp only [List.map_cons, List.map_nil] at k1
    obtain ⟨start, r, rfl, b1, _, k1⟩ := fListL (L := 1048575) Try.underlying22 Try.underlying3 (by kernel_rfl) k1
    obtain ⟨next, r, rfl, b2, k1⟩ := fGridL (L := 1048575) Try.underlying23 Try.underlying22 Try.underlying3 (by kernel_rfl) (by kernel_rfl) k1
    obtain ⟨must, r, rfl, b3, c3, k1⟩ := fListL (L := 1048575) Try.underlying24 Try.underlying62 (by kernel_rfl) k1
    obtain ⟨nots, r, rfl, b4, _, k1⟩ := fListL (L := 1048575) Try.underlying24 Try.underlying62 (by kernel_rfl) k1
    obtain ⟨fair, r, rfl, b5, k1⟩ := fGridL (L := 1048575) Try.underlying23 Try.underlying22 Try.underlying3 (by kernel_rfl) (by kernel_rfl) k1
    obtain rfl := ofTs_nil k1
    exact law_AutoSingle ⟨start, next, must, nots, fair⟩ ⟨by show start.length ≤ _; omega, by show next.length ≤ _; omega, by show must.length ≤ _; omega, by show nots.length ≤ _; omega, by show fair.length ≤ _; omega, fun l hl => by have := b2.2 l hl; omega, fun l hl => by have := b5.2 l hl; omega⟩ b1 b2.2
theorem types : typesOK Try.prog [26, 22, 23, 24, 3, 62] = true := by kernel_rfl
set_option maxRecDepth 100000 in
theorem laidOut : laidOutB Try.prog = true := by kernel_rfl
set_option maxRecDepth 100000 in
theorem readable : (Try.f4.params.toList.all fun t => Try.prog.readableRec t && decide (t < Try.prog.types.size)) = true := by kernel_rfl
theorem own : ownKnob Try.prog.godebug = none := by kernel_rfl
theorem one_le {H : Type} (d : DataW H) : 1 ≤ Rows.uptoBulk d := by
  cases d with
  | lit l => cases l <;> simp [Rows.uptoBulk]
  | _ => simp [Rows.uptoBulk]
theorem length_le {H : Type} (l : List (DataW H)) : l.length ≤ Rows.uptoBulkAll l := by
  induction l with
  | nil => simp [Rows.uptoBulkAll]
  | cons x r ih => have := one_le x; simp only [Rows.uptoBulkAll, List.length_cons]; omega
mutual
theorem lens_of {H : Type} {L : Nat} : ∀ d : DataW H, Rows.uptoBulk d ≤ L → lens L d
  | .lit (.string b), h => by simp only [Rows.uptoBulk] at h; simp only [lens]; omega
  | .lit (.bool _), _ | .lit (.int _ _), _ | .lit (.float _ _), _ | .lit .nil, _ => by simp only [lens]
  | .nil, _ | .ptr _, _ | .iface _ _, _ | .map _, _ | .held _, _ => by simp only [lens]
  | .slice elems spare, h => by
    simp only [Rows.uptoBulk] at h
    simp only [lens]
    have := length_le elems
    exact ⟨by omega, lensAll_of elems (by omega)⟩
  | .agg parts, h => by
    simp only [Rows.uptoBulk] at h
    simp only [lens]
    exact lensAll_of parts (by omega)
theorem lensAll_of {H : Type} {L : Nat} : ∀ l : List (DataW H), Rows.uptoBulkAll l ≤ L → lensAll L l
  | [], _ => by simp only [lensAll]
  | d :: r, h => by
    simp only [Rows.uptoBulkAll] at h
    simp only [lensAll]
    exact ⟨lens_of d (by omega), lensAll_of r (by omega)⟩
end
theorem bulk_app {H : Type} : ∀ l r : List (DataW H), Rows.uptoBulkAll (l ++ r) = Rows.uptoBulkAll l + Rows.uptoBulkAll r
  | [], r => by simp [Rows.uptoBulkAll]
  | d :: l, r => by simp only [List.cons_append, Rows.uptoBulkAll, bulk_app l r]; omega
set_option maxRecDepth 100000 in
theorem lifted (os : Os) (started : os.Started) (H : Type) (enc : TypeId × Value → H) (F : Stop.Interp) :
    ReturnsInHanded {} Try.checked os 4 .any ((Rows.OpenSpec.upto Rows.autoSingleSpec).pre6 enc Try.prog Try.f4 Rows.autoSingleUptoRow.domain false) (((Rows.OpenSpec.upto Rows.autoSingleSpec).at F).post enc Try.prog Try.f4 false true false false) := by
  refine returnsInHanded_of_cond_sized (C := Try.checked) (s := Rows.OpenSpec.upto Rows.autoSingleSpec) (k := Rows.uptoSmall) rfl own started (by kernel_rfl) Try.func4
    (OpenSpec.witness (enc := enc) (C := Try.checked) (s := Rows.OpenSpec.upto Rows.autoSingleSpec) (k := Rows.uptoSmall) rfl false ⟨#[], #[.agg #[.slice none 0 0, .slice none 0 0, .slice none 0 0, .slice none 0 0, .slice none 0 0]], []⟩ 8 (by kernel_rfl) (by kernel_rfl) (by kernel_rfl)
      (x := ([.agg [.nil, .nil, .nil, .nil, .nil]], [], [])) (by kernel_rfl) rfl (by kernel_rfl)) ?_
  intro W base args ds gs before hval0 hW _ hk hsz _
  have hval : ∀ (j : Nat) t v, Try.f4.params[j]? = some t → args[j]? = some v → Value.okWide Try.prog W .any base t v := hval0
  have hW' := hW
  obtain ⟨p, q, hA0, hV, _, hfz, hnd⟩ := hW
  have hA : DataW.TrodAll enc Try.prog W 0 (fun _ => true) true Try.f4.params.toList args.toList ds p := hA0
  have hps : Try.f4.params.toList = [26] := by kernel_rfl
  have hb : Rows.uptoBulkAll (ds ++ gs) ≤ 1048576 := of_decide_eq_true hk
  rw [bulk_app] at hb
  obtain ⟨Ds, hD, hR⟩ := args_repL (L := 1048576) types (base := base) _ _ _ _ (fun t ht => by rw [hps] at ht; revert t; decide) (fun j t v h1 h2 => hval j t v (by simpa using h1) (by simpa using h2)) hA (fun n hn => by
    have := List.all_eq_true.1 hsz n (weightsEach_pre _ _ _ _ (trodAll_len _ _ _ _ hA).symm n hn)
    simpa using this) (.inr (lensAll_of ds (by omega)))
  rw [hps] at hD
  have hC := (law Ds hD).run noInj (There W) W args.toList (fun b h => h) hR
  rw [show args.toList.toArray = args from rfl] at hC
  refine hC.mono fun e W' ⟨v, F', he, _, hv, hx⟩ => ?_
  have hv' : v = .bool true := by simpa only [rep, dbool] using hv
  subst he hv'
  exact ⟨_, rfl, row_post hW' rfl (by kernel_rfl) Try.underlying4 laidOut (fun t ht => by
      have := List.all_eq_true.1 readable t ht
      simp only [Bool.and_eq_true, decide_eq_true_eq] at this
      exact this) (fun ds h => by rw [hps] at h; match ds, h with | [_], _ => rfl) (below_of_ext hx) (ok_one (by kernel_rfl) rfl (okWide_bool_mk Try.underlying4 _))⟩

theorem proved : Rows.AutoSingleUptoSaid :=
  OpenClaim.holds_of_cond 4 Try.f4 rfl rfl rfl rfl rfl rfl rfl ⟨rfl, rfl, rfl, rfl, rfl⟩ rfl rfl rfl rfl rfl (by kernel_rfl) Try.func4 (by kernel_rfl)
    (of_decide_eq_true (by kernel_rfl)) (by unfold Func.isWrapper; first | (rw [if_pos (by decide +kernel)]; kernel_rfl) | (rw [if_neg (by decide +kernel)]; exact ⟨rfl, rfl⟩))
    (fun os started H enc _ F => lifted os started H enc F)
end autoSingle
end Go.Proofs.Ytfaekhadjlgbbaa
