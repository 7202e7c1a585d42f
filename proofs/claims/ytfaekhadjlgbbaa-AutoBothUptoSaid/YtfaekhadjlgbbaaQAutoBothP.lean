/-
  watchlaw.AutoBoth returns true for every two automata, and each argument reads afterwards as it read before. The condition: both together are of a bulk of at most 1048576.
-/
import Derived.Test.YtfaekhadjlgbbaaQDC
import Derived.Test.YtfaekhadjlgbbaaQNb7
import Derived.Test.YtfaekhadjlgbbaaQNbB
import Derived.Test.YtfaekhadjlgbbaaQAf
import Derived.Test.YtfaekhadjlgbbaaRows
import Derived.Deep.CondSized
import Derived.JoinedCond
namespace Go.Proofs.Ytfaekhadjlgbbaa
open Go.RowKit Go.ChangeShapes Go.WideShapes Go.ChangeAt
set_option linter.unusedSimpArgs false
set_option linter.unusedVariables false
def c16x_1 : PC := .seq (.ops [⟨some 55,.bin .lss (.tmp 54) (.tmp 53),none,0⟩] false) (.seq (.cond (.tmp 55) (.skip) (.exit 0)) (.seq (.block 1 (.seq (.ops [⟨some 56,.iaddr 2 (.tmp 52) (.tmp 54),none,0⟩,
 ⟨some 57,.loadA 2 (.tmp 56),none,0⟩,
 ⟨some 11,.alloc [(.int .i64 0), (.int .i64 0)],none,0⟩,
 ⟨none,.store 2 (.tmp 11) (.tmp 57),none,0⟩] false) (.seq (.ops [⟨some 58,.move (.tmp 9),none,0⟩,
 ⟨some 59,.move (.tmp 9),none,0⟩,
 ⟨some 60,.nilchk (.tmp 59),none,2⟩,
 ⟨some 61,.faddr 2 (.tmp 60),none,6⟩,
 ⟨some 62,.faddr 2 (.tmp 61),none,14⟩,
 ⟨some 63,.load1 (.tmp 62),none,30⟩,
 ⟨some 64,.faddr 2 (.tmp 2),none,0⟩,
 ⟨some 65,.load1 (.tmp 64),none,64⟩,
 ⟨some 66,.faddr 0 (.tmp 11),none,0⟩,
 ⟨some 67,.load1 (.tmp 66),none,256⟩,
 ⟨some 68,.iaddr 1 (.tmp 65) (.tmp 67),none,960⟩,
 ⟨some 69,.load1 (.tmp 68),none,1984⟩,
 ⟨some 70,.faddr 2 (.tmp 3),none,0⟩,
 ⟨some 71,.load1 (.tmp 70),none,4096⟩,
 ⟨some 72,.faddr 1 (.tmp 11),none,0⟩,
 ⟨some 73,.load1 (.tmp 72),none,16384⟩,
 ⟨some 74,.iaddr 1 (.tmp 71) (.tmp 73),none,61440⟩,
 ⟨some 75,.load1 (.tmp 74),none,126976⟩,
 ⟨some 76,.bin .or (.tmp 69) (.tmp 75),none,262080⟩,
 ⟨some 77,.bslice 1 1 [(.tmp 76)],none,524224⟩,
 ⟨some 78,.append 1 8 (.tmp 63) (.tmp 77),none,1048574⟩,
 ⟨some 79,.nilchk (.tmp 58),none,2097151⟩,
 ⟨some 80,.faddr 2 (.tmp 79),none,4194303⟩,
 ⟨some 81,.faddr 2 (.tmp 80),none,8388607⟩,
 ⟨none,.store 1 (.tmp 81) (.tmp 78),none,16777215⟩] true) (.ops [⟨some 82,.move (.tmp 9),none,0⟩,
 ⟨some 83,.move (.tmp 9),none,0⟩,
 ⟨some 84,.nilchk (.tmp 83),none,2⟩,
 ⟨some 85,.faddr 2 (.tmp 84),none,6⟩,
 ⟨some 86,.faddr 3 (.tmp 85),none,14⟩,
 ⟨some 87,.load1 (.tmp 86),none,30⟩,
 ⟨some 88,.faddr 3 (.tmp 2),none,0⟩,
 ⟨some 89,.load1 (.tmp 88),none,64⟩,
 ⟨some 90,.faddr 0 (.tmp 11),none,0⟩,
 ⟨some 91,.load1 (.tmp 90),none,256⟩,
 ⟨some 92,.iaddr 1 (.tmp 89) (.tmp 91),none,960⟩,
 ⟨some 93,.load1 (.tmp 92),none,1984⟩,
 ⟨some 94,.faddr 3 (.tmp 3),none,0⟩,
 ⟨some 95,.load1 (.tmp 94),none,4096⟩,
 ⟨some 96,.faddr 1 (.tmp 11),none,0⟩,
 ⟨some 97,.load1 (.tmp 96),none,16384⟩,
 ⟨some 98,.iaddr 1 (.tmp 95) (.tmp 97),none,61440⟩,
 ⟨some 99,.load1 (.tmp 98),none,126976⟩,
 ⟨some 100,.bin .or (.tmp 93) (.tmp 99),none,262080⟩,
 ⟨some 101,.bslice 1 1 [(.tmp 100)],none,524224⟩,
 ⟨some 102,.append 1 8 (.tmp 87) (.tmp 101),none,1048574⟩,
 ⟨some 103,.nilchk (.tmp 82),none,2097151⟩,
 ⟨some 104,.faddr 2 (.tmp 103),none,4194303⟩,
 ⟨some 105,.faddr 3 (.tmp 104),none,8388607⟩,
 ⟨none,.store 1 (.tmp 105) (.tmp 102),none,16777215⟩] true)))) (.ops [⟨some 106,.bin .add (.tmp 54) (.const (.int .i64 1)),none,0⟩,
 ⟨some 54,.move (.tmp 106),none,0⟩] false)))
def c16x : PC := .seq (.ops [⟨some 2,.box (.tmp 0),none,0⟩,
 ⟨some 3,.box (.tmp 1),none,0⟩,
 ⟨some 4,.alloc [(.slice none 0 0), (.slice none 0 0), (.slice none 0 0), (.slice none 0 0), (.slice none 0 0)],none,0⟩,
 ⟨some 5,.move (.const (.int .i64 0)),none,0⟩] false) (.seq (.seq (.ops [⟨some 12,.loadA 5 (.tmp 2),none,0⟩,
 ⟨some 13,.call 10 [(.tmp 12)],none,0⟩,
 ⟨some 6,.move (.tmp 13),none,0⟩] false) (.seq (.ops [⟨some 14,.move (.tmp 6),none,0⟩,
 ⟨some 15,.bin .neq (.tmp 14) (.const (.int .i64 0)),none,0⟩] false) (.cond (.tmp 15) (.seq (.ops [⟨some 16,.build [(.slice none 0 0), (.slice none 0 0), (.slice none 0 0), (.slice none 0 0), (.slice none 0 0)] [],none,0⟩,
 ⟨some 17,.move (.tmp 6),none,0⟩,
 ⟨none,.store 5 (.tmp 4) (.tmp 16),none,0⟩,
 ⟨some 5,.move (.tmp 17),none,0⟩] false) (.ret)) (.skip)))) (.seq (.seq (.ops [⟨some 18,.loadA 5 (.tmp 3),none,0⟩,
 ⟨some 19,.call 10 [(.tmp 18)],none,0⟩,
 ⟨some 7,.move (.tmp 19),none,0⟩] false) (.seq (.ops [⟨some 20,.move (.tmp 7),none,0⟩,
 ⟨some 21,.bin .neq (.tmp 20) (.const (.int .i64 0)),none,0⟩] false) (.cond (.tmp 21) (.seq (.ops [⟨some 22,.build [(.slice none 0 0), (.slice none 0 0), (.slice none 0 0), (.slice none 0 0), (.slice none 0 0)] [],none,0⟩,
 ⟨some 23,.move (.tmp 7),none,0⟩,
 ⟨none,.store 5 (.tmp 4) (.tmp 22),none,0⟩,
 ⟨some 5,.move (.tmp 23),none,0⟩] false) (.ret)) (.skip)))) (.seq (.ops [⟨some 24,.mkfn (.func 47) [] [(.tmp 2), (.tmp 3)],none,0⟩,
 ⟨some 8,.alloc [(.nilFunc)],none,0⟩,
 ⟨none,.store 1 (.tmp 8) (.tmp 24),none,0⟩] false) (.seq (.ops [⟨some 25,.mkmap 69,none,0⟩,
 ⟨some 26,.build [(.map none), (.slice none 0 0), (.slice none 0 0), (.slice none 0 0), (.slice none 0 0), (.slice none 0 0), (.slice none 0 0)] [(0, 1, (.tmp 25))],none,0⟩,
 ⟨some 27,.box (.tmp 26),none,0⟩,
 ⟨some 9,.move (.tmp 27),none,0⟩] false) (.seq (.seq (.ops [⟨some 28,.move (.tmp 9),none,0⟩,
 ⟨some 29,.load1 (.tmp 8),none,0⟩,
 ⟨some 30,.faddr 0 (.tmp 2),none,0⟩,
 ⟨some 31,.load1 (.tmp 30),none,0⟩,
 ⟨some 32,.faddr 0 (.tmp 3),none,0⟩,
 ⟨some 33,.load1 (.tmp 32),none,0⟩,
 ⟨some 34,.callv (.tmp 29) [(.tmp 31), (.tmp 33)],none,0⟩,
 ⟨some 35,.mkfn (.func 48) [] [(.tmp 8), (.tmp 2), (.tmp 3)],none,0⟩,
 ⟨some 36,.call 39 [(.tmp 28), (.tmp 34), (.tmp 35)],none,0⟩,
 ⟨some 37,.un .not (.tmp 36),none,0⟩,
 ⟨some 38,.move (.tmp 37),none,0⟩,
 ⟨some 39,.faddr 4 (.tmp 2),some (38,false),0⟩,
 ⟨some 40,.load1 (.tmp 39),some (38,false),0⟩,
 ⟨some 41,.len (.tmp 40),some (38,false),0⟩,
 ⟨some 42,.faddr 4 (.tmp 3),some (38,false),0⟩,
 ⟨some 43,.load1 (.tmp 42),some (38,false),0⟩,
 ⟨some 44,.len (.tmp 43),some (38,false),0⟩,
 ⟨some 45,.bin .add (.tmp 41) (.tmp 44),some (38,false),0⟩,
 ⟨some 46,.bin .gtr (.tmp 45) (.const (.int .i64 80)),some (38,false),0⟩,
 ⟨some 47,.pick (.tmp 38) (.const (.bool true)) (.tmp 46),none,0⟩] false) (.cond (.tmp 47) (.seq (.ops [⟨some 48,.build [(.slice none 0 0), (.slice none 0 0), (.slice none 0 0), (.slice none 0 0), (.slice none 0 0)] [],none,0⟩,
 ⟨none,.store 5 (.tmp 4) (.tmp 48),none,0⟩,
 ⟨some 5,.move (.const (.int .i64 2)),none,0⟩] false) (.ret)) (.skip))) (.seq (.seq (.ops [⟨some 49,.move (.tmp 9),none,0⟩,
 ⟨some 50,.nilchk (.tmp 49),none,0⟩,
 ⟨some 51,.faddr 1 (.tmp 50),none,0⟩,
 ⟨some 52,.load1 (.tmp 51),none,0⟩,
 ⟨some 53,.len (.tmp 52),none,0⟩,
 ⟨some 54,.move (.const (.int .i64 0)),none,0⟩] false) (.block 0 (.loop c16x_1))) (.seq (.ops [⟨some 107,.move (.tmp 9),none,0⟩,
 ⟨some 108,.faddr 4 (.tmp 2),none,0⟩,
 ⟨some 109,.load1 (.tmp 108),none,0⟩,
 ⟨some 110,.faddr 1 (.tmp 2),none,0⟩,
 ⟨some 111,.load1 (.tmp 110),none,0⟩,
 ⟨some 112,.len (.tmp 111),none,0⟩,
 ⟨some 113,.call 49 [(.tmp 107), (.tmp 109), (.tmp 112), (.func 50)],none,0⟩] false) (.seq (.ops [⟨some 114,.move (.tmp 9),none,0⟩,
 ⟨some 115,.faddr 4 (.tmp 3),none,0⟩,
 ⟨some 116,.load1 (.tmp 115),none,0⟩,
 ⟨some 117,.faddr 1 (.tmp 3),none,0⟩,
 ⟨some 118,.load1 (.tmp 117),none,0⟩,
 ⟨some 119,.len (.tmp 118),none,0⟩,
 ⟨some 120,.call 49 [(.tmp 114), (.tmp 116), (.tmp 119), (.func 51)],none,0⟩] false) (.seq (.ops [⟨some 121,.move (.tmp 9),none,0⟩,
 ⟨some 122,.nilchk (.tmp 121),none,0⟩,
 ⟨some 123,.faddr 2 (.tmp 122),none,0⟩,
 ⟨some 124,.loadA 5 (.tmp 123),none,0⟩,
 ⟨none,.store 5 (.tmp 4) (.tmp 124),none,0⟩,
 ⟨some 5,.move (.const (.int .i64 0)),none,0⟩] false) (.ret))))))))))
set_option maxRecDepth 100000 in
theorem c16x_ok : FunOK Try.prog 16 125 [.agg 4 5, .tmp 5] c16x := ⟨⟨Try.f16, Try.func16, rfl, by kernel_rfl, rfl, by kernel_rfl⟩⟩
theorem au_Both_bad (A B : AutoD) (hA : A.Fits) (h : A.chk ≠ 0) : PCall Try.prog 16 [dauto A, dauto B] (.tup [dauto emptyA, .sc (.int .i64 A.chk)]) := by
  refine pcall_intro c16x_ok (by simp) (by simp [PureL, pure_dauto]) ?_ (by simp [Pure, PureL, pure_dauto])
  have hC := au_Check A hA
  generalize A.chk = c at *
  unfold dauto at *
  (apply rd_sound; focus (repeat' constructor))
  ((conv=>whnf);repeat(refine .intro rfl ?_;conv=>whnf))
  (refine .inl ⟨_, hC, ?_⟩; ((conv=>whnf);repeat(refine .intro rfl ?_;conv=>whnf)))
  (refine ifK_split (fun h1 => ?_) (fun h1 => ?_) <;> (rw [h1]; ((conv=>whnf);repeat(refine .intro rfl ?_;conv=>whnf))))
  · exact .tup _ _ (.cons _ _ _ _ (.agg _ _ (.cons _ _ _ _ (.none _) (.cons _ _ _ _ (.none _) (.cons _ _ _ _ (.none _) (.cons _ _ _ _ (.none _) (.cons _ _ _ _ (.none _) .nil)))))) (.cons _ _ _ _ (.refl _) .nil))
  · exact absurd (by ((try simp only[oo,reduceCtorEq]at*)<;>omega)) h
theorem au_Both_bad2 (A B : AutoD) (hA : A.Fits) (hB : B.Fits) (h : A.chk = 0) (h' : B.chk ≠ 0) : PCall Try.prog 16 [dauto A, dauto B] (.tup [dauto emptyA, .sc (.int .i64 B.chk)]) := by
  refine pcall_intro c16x_ok (by simp) (by simp [PureL, pure_dauto]) ?_ (by simp [Pure, PureL, pure_dauto])
  have hC := au_Check A hA
  have hC' := au_Check B hB
  rw [h] at hC
  generalize B.chk = c at *
  unfold dauto at *
  (apply rd_sound; focus (repeat' constructor))
  ((conv=>whnf);repeat(refine .intro rfl ?_;conv=>whnf))
  (refine .inl ⟨_, hC, ?_⟩; ((conv=>whnf);repeat(refine .intro rfl ?_;conv=>whnf)))
  (refine .inl ⟨_, hC', ?_⟩; ((conv=>whnf);repeat(refine .intro rfl ?_;conv=>whnf)))
  (refine ifK_split (fun h1 => ?_) (fun h1 => ?_) <;> (rw [h1]; ((conv=>whnf);repeat(refine .intro rfl ?_;conv=>whnf))))
  · exact .tup _ _ (.cons _ _ _ _ (.agg _ _ (.cons _ _ _ _ (.none _) (.cons _ _ _ _ (.none _) (.cons _ _ _ _ (.none _) (.cons _ _ _ _ (.none _) (.cons _ _ _ _ (.none _) .nil)))))) (.cons _ _ _ _ (.refl _) .nil))
  · exact absurd (by ((try simp only[oo,reduceCtorEq]at*)<;>omega)) h'
/-- What comes out, as one automaton and a number. -/
theorem outB_is {A B : AutoD} (h : TwoA A B) : ∃ (C : AutoD) (e : Int), outB A B = .tup [dauto C, .sc (.int .i64 e)] ∧ C.Size := by
  have hsz : ∀ (C : AutoD), C.start.length ≤ 1099511627776 → C.next.length ≤ 2050 → C.must.length ≤ 2049 → C.nots.length ≤ 2049 → C.fair.length ≤ 1000 → (∀ l ∈ C.next, l.length ≤ 1099511627776) → (∀ l ∈ C.fair, l.length ≤ 2049) → C.Size := fun C a b c d e f g => ⟨by omega, by omega, by omega, by omega, by omega, fun l hl => by have := f l hl; omega, fun l hl => by have := g l hl; omega⟩
  unfold outB
  rcases madeS_eq (crossL A B A.start B.start) (nxB A B) with ⟨h1, h2⟩ | ⟨L, T, h1, h2, h3⟩
  · rw [h1]; exact ⟨emptyA, 2, rfl, emptyA_size⟩
  · rw [h1]
    dsimp only
    split
    · exact ⟨emptyA, 2, rfl, emptyA_size⟩
    · have hr := runR_rows (fun p => (h.next p).2) 2050 0 _ [] L T (fun l hl => by cases hl) h1
      have hp := pPut_row (crossL A B A.start B.start) []
      have hp2 := h.begin.2
      have hL : L.length ≤ 2049 := by
        have := (madeS_good (Good := fun _ => True) (start := crossL A B A.start B.start) (nx := nxB A B) (fun _ _ => trivial) fun _ _ _ _ => trivial).2
        rw [h2] at this
        exact this
      refine ⟨_, 0, rfl, hsz _ ?_ ?_ ?_ ?_ ?_ ?_ ?_⟩
      · show (pPut (crossL A B A.start B.start) [] []).2.length ≤ _; omega
      · have := hr.2; simp at this; show T.length ≤ _; omega
      · show (orsAt A.must B.must L L.length).length ≤ _; rw [orsAt_len (Nat.le_refl _)]; omega
      · show (orsAt A.nots B.nots L L.length).length ≤ _; rw [orsAt_len (Nat.le_refl _)]; omega
      · show (setsL L (·.1) A.fair ++ setsL L (·.2) B.fair).length ≤ _; simp; omega
      · exact fun l hl => hr.1 l hl
      · intro l hl
        have key : ∀ (sel : Pr → Int) (G : List (List Int)), l ∈ setsL L sel G → l.length ≤ 2049 := fun sel G hg => by
          obtain ⟨x, _, rfl⟩ := List.mem_map.1 hg
          have := setsK_len L sel x L.length
          omega
        rcases List.mem_append.1 hl with hl | hl
        · exact key _ _ hl
        · exact key _ _ hl
def c5 : PC := .seq (.ops [⟨some 2,.box (.tmp 0),none,0⟩,
 ⟨some 3,.box (.tmp 1),none,0⟩,
 ⟨some 4,.move (.const (.bool false)),none,0⟩] false) (.seq (.ops [⟨some 11,.loadA 5 (.tmp 2),none,0⟩,
 ⟨some 12,.loadA 5 (.tmp 3),none,0⟩,
 ⟨some 13,.call 16 [(.tmp 11), (.tmp 12)],none,0⟩,
 ⟨some 10,.move (.tmp 13),none,0⟩,
 ⟨some 14,.ext 0 (.tmp 10),none,0⟩,
 ⟨some 15,.ext 1 (.tmp 10),none,0⟩,
 ⟨some 5,.alloc [(.slice none 0 0), (.slice none 0 0), (.slice none 0 0), (.slice none 0 0), (.slice none 0 0)],none,0⟩,
 ⟨none,.store 5 (.tmp 5) (.tmp 14),none,0⟩,
 ⟨some 6,.move (.tmp 15),none,0⟩] false) (.seq (.ops [⟨some 16,.loadA 5 (.tmp 2),none,0⟩,
 ⟨some 17,.call 8 [(.tmp 16)],none,0⟩,
 ⟨some 7,.move (.tmp 17),none,0⟩] false) (.seq (.seq (.ops [⟨some 18,.move (.tmp 7),none,0⟩,
 ⟨some 19,.bin .eql (.tmp 18) (.const (.int .i64 0)),none,0⟩] false) (.cond (.tmp 19) (.ops [⟨some 20,.loadA 5 (.tmp 3),none,0⟩,
 ⟨some 21,.call 8 [(.tmp 20)],none,0⟩,
 ⟨some 7,.move (.tmp 21),none,0⟩] false) (.skip))) (.seq (.seq (.ops [⟨some 22,.move (.tmp 7),none,0⟩,
 ⟨some 23,.bin .neq (.tmp 22) (.const (.int .i64 0)),none,0⟩] false) (.cond (.tmp 23) (.seq (.ops [⟨some 24,.move (.tmp 6),none,0⟩,
 ⟨some 25,.move (.tmp 7),none,0⟩,
 ⟨some 26,.bin .eql (.tmp 24) (.tmp 25),none,0⟩,
 ⟨some 27,.move (.tmp 26),none,0⟩,
 ⟨some 28,.loadA 5 (.tmp 5),some (27,true),0⟩,
 ⟨some 29,.build [(.slice none 0 0), (.slice none 0 0), (.slice none 0 0), (.slice none 0 0), (.slice none 0 0)] [],some (27,true),0⟩,
 ⟨some 30,.call 14 [(.tmp 28), (.tmp 29)],some (27,true),0⟩,
 ⟨some 31,.pick (.tmp 27) (.tmp 30) (.const (.bool false)),none,0⟩,
 ⟨some 4,.move (.tmp 31),none,0⟩] false) (.ret)) (.skip))) (.seq (.seq (.ops [⟨some 32,.faddr 1 (.tmp 2),none,0⟩,
 ⟨some 33,.load1 (.tmp 32),none,0⟩,
 ⟨some 34,.len (.tmp 33),none,0⟩,
 ⟨some 35,.bin .gtr (.tmp 34) (.const (.int .i64 60)),none,0⟩,
 ⟨some 36,.move (.tmp 35),none,0⟩,
 ⟨some 37,.faddr 1 (.tmp 3),some (36,false),0⟩,
 ⟨some 38,.load1 (.tmp 37),some (36,false),0⟩,
 ⟨some 39,.len (.tmp 38),some (36,false),0⟩,
 ⟨some 40,.bin .gtr (.tmp 39) (.const (.int .i64 60)),some (36,false),0⟩,
 ⟨some 41,.pick (.tmp 36) (.const (.bool true)) (.tmp 40),none,0⟩] false) (.cond (.tmp 41) (.seq (.ops [⟨some 4,.move (.const (.bool true)),none,0⟩] false) (.ret)) (.skip))) (.seq (.ops [⟨some 43,.loadA 5 (.tmp 2),none,0⟩,
 ⟨some 44,.loadA 5 (.tmp 3),none,0⟩,
 ⟨some 45,.call 17 [(.tmp 43), (.tmp 44)],none,0⟩,
 ⟨some 42,.move (.tmp 45),none,0⟩,
 ⟨some 46,.ext 0 (.tmp 42),none,0⟩,
 ⟨some 47,.ext 1 (.tmp 42),none,0⟩,
 ⟨some 8,.alloc [(.slice none 0 0), (.slice none 0 0), (.slice none 0 0), (.slice none 0 0), (.slice none 0 0)],none,0⟩,
 ⟨none,.store 5 (.tmp 8) (.tmp 46),none,0⟩,
 ⟨some 9,.move (.tmp 47),none,0⟩] false) (.seq (.ops [⟨some 48,.move (.tmp 6),none,0⟩,
 ⟨some 49,.move (.tmp 9),none,0⟩,
 ⟨some 50,.bin .eql (.tmp 48) (.tmp 49),none,0⟩,
 ⟨some 51,.move (.tmp 50),none,0⟩,
 ⟨some 52,.loadA 5 (.tmp 5),some (51,true),0⟩,
 ⟨some 53,.loadA 5 (.tmp 8),some (51,true),0⟩,
 ⟨some 54,.call 14 [(.tmp 52), (.tmp 53)],some (51,true),0⟩,
 ⟨some 55,.pick (.tmp 51) (.tmp 54) (.const (.bool false)),none,0⟩,
 ⟨some 4,.move (.tmp 55),none,0⟩] false) (.ret))))))))
set_option maxRecDepth 100000 in
theorem c5_ok : FunOK Try.prog 5 56 [.tmp 4] c5 := ⟨⟨Try.f5, Try.func5, rfl, by kernel_rfl, rfl, by kernel_rfl⟩⟩
set_option maxRecDepth 100000 in
theorem law_AutoBoth (A B : AutoD) (hA : A.Fits) (hB : B.Fits) (hsl : A.start.length ≤ 1048576) (hrl : ∀ l ∈ A.next, l.length ≤ 1048576) (hsl' : B.start.length ≤ 1048576) (hrl' : ∀ l ∈ B.next, l.length ≤ 1048576) : PCall Try.prog 5 [dauto A, dauto B] (dbool true) := by
  refine pcall_intro c5_ok (by simp) (by simp [PureL, pure_dauto]) ?_ (by simp [dbool, Pure])
  have hR := ref_Auto A hA
  have hR' := ref_Auto B hB
  by_cases h : A.chk = 0
  · rw [h] at hR
    by_cases h' : B.chk = 0
    · have hT : TwoA A B := ⟨h, h', hA, hB, hsl, hsl', hrl, hrl'⟩
      obtain ⟨C, e, h1, hC⟩ := outB_is hT
      have hS := au_Both hT
      have hRS := ref_Both hT
      have hSame := ref_SameAuto C hC
      rw [h'] at hR'
      rw [h1] at hS hRS
      have hpC := pure_aucells C
      unfold dauto at *
      (apply rd_sound; focus (repeat' constructor))
      ((conv=>whnf);repeat(refine .intro rfl ?_;conv=>whnf))
      (refine .inl ⟨_, hS, ?_⟩; ((conv=>whnf);repeat(refine .intro rfl ?_;conv=>whnf)))
      (refine .inl ⟨_, hR, ?_⟩; ((conv=>whnf);repeat(refine .intro rfl ?_;conv=>whnf)))
      (refine .inl ⟨_, hR', ?_⟩; ((conv=>whnf);repeat(refine .intro rfl ?_;conv=>whnf)))
      rw [List.length_map]
      (refine ifK_split (fun g => ?_) (fun g => ?_) <;> (rw [g]; ((conv=>whnf);repeat(refine .intro rfl ?_;conv=>whnf))))
      · exact .refl _
      rw [List.length_map]
      (refine ifK_split (fun g2 => ?_) (fun g2 => ?_) <;> (rw [g2]; ((conv=>whnf);repeat(refine .intro rfl ?_;conv=>whnf))))
      · exact .refl _
      (refine .inl ⟨_, hRS, ?_⟩; ((conv=>whnf);repeat(refine .intro rfl ?_;conv=>whnf)))
      rw [show (e == e) = true by simp]
      ((conv=>whnf);repeat(refine .intro rfl ?_;conv=>whnf))
      (refine .inl ⟨_, hSame, ?_⟩; ((conv=>whnf);repeat(refine .intro rfl ?_;conv=>whnf)))
      exact .refl _
    · have hS := au_Both_bad2 A B hA hB h h'
      have hSame := same_auto0
      generalize B.chk = c at *
      unfold dauto at *
      (apply rd_sound; focus (repeat' constructor))
      ((conv=>whnf);repeat(refine .intro rfl ?_;conv=>whnf))
      (refine .inl ⟨_, hS, ?_⟩; ((conv=>whnf);repeat(refine .intro rfl ?_;conv=>whnf)))
      (refine .inl ⟨_, hR, ?_⟩; ((conv=>whnf);repeat(refine .intro rfl ?_;conv=>whnf)))
      (refine .inl ⟨_, hR', ?_⟩; ((conv=>whnf);repeat(refine .intro rfl ?_;conv=>whnf)))
      (refine ifK_split (fun g => ?_) (fun g => ?_) <;> (rw [g]; ((conv=>whnf);repeat(refine .intro rfl ?_;conv=>whnf))))
      · rw [show (c == c) = true by simp]
        ((conv=>whnf);repeat(refine .intro rfl ?_;conv=>whnf))
        (refine .inl ⟨_, hSame, ?_⟩; ((conv=>whnf);repeat(refine .intro rfl ?_;conv=>whnf)))
        exact .refl _
      · exfalso; ((try simp only[oo,reduceCtorEq]at*)<;>omega)
  · have hS := au_Both_bad A B hA h
    have hSame := same_auto0
    generalize A.chk = c at *
    unfold dauto at *
    (apply rd_sound; focus (repeat' constructor))
    ((conv=>whnf);repeat(refine .intro rfl ?_;conv=>whnf))
    (refine .inl ⟨_, hS, ?_⟩; ((conv=>whnf);repeat(refine .intro rfl ?_;conv=>whnf)))
    (refine .inl ⟨_, hR, ?_⟩; ((conv=>whnf);repeat(refine .intro rfl ?_;conv=>whnf)))
    (refine ifK_split (fun g => ?_) (fun g => ?_) <;> (rw [g]; ((conv=>whnf);repeat(refine .intro rfl ?_;conv=>whnf))))
    · exfalso; ((try simp only[oo,reduceCtorEq]at*)<;>omega)
    (refine ifK_split (fun g2 => ?_) (fun g2 => ?_) <;> (rw [g2]; ((conv=>whnf);repeat(refine .intro rfl ?_;conv=>whnf))))
    · rw [show (c == c) = true by simp]
      ((conv=>whnf);repeat(refine .intro rfl ?_;conv=>whnf))
      (refine .inl ⟨_, hSame, ?_⟩; ((conv=>whnf);repeat(refine .intro rfl ?_;conv=>whnf)))
      exact .refl _
    · exfalso; ((try simp only[oo,reduceCtorEq]at*)<;>omega)
set_option maxRecDepth 100000 in
theorem argAuto {d : D} (h1 : OfAz Try.prog 1048576 26 d) : ∃ A : AutoD, d = dauto A ∧ A.Fits ∧ A.start.length ≤ 1048576 ∧ ∀ l ∈ A.next, l.length ≤ 1048576 := by
  unfold OfAz at h1
  rw [Try.underlying26] at h1
  obtain ⟨cs, rfl, h1⟩ := h1
  have k1 := of_struct Try.underlying26 h1
  simp only [List.map_cons, List.map_nil] at k1
  obtain ⟨start, r, rfl, b1, _, k1⟩ := fListL (L := 1048575) Try.underlying22 Try.underlying3 (by kernel_rfl) k1
  obtain ⟨next, r, rfl, b2, k1⟩ := fGridL (L := 1048575) Try.underlying23 Try.underlying22 Try.underlying3 (by kernel_rfl) (by kernel_rfl) k1
  obtain ⟨must, r, rfl, b3, c3, k1⟩ := fListL (L := 1048575) Try.underlying24 Try.underlying62 (by kernel_rfl) k1
  obtain ⟨nots, r, rfl, b4, _, k1⟩ := fListL (L := 1048575) Try.underlying24 Try.underlying62 (by kernel_rfl) k1
  obtain ⟨fair, r, rfl, b5, k1⟩ := fGridL (L := 1048575) Try.underlying23 Try.underlying22 Try.underlying3 (by kernel_rfl) (by kernel_rfl) k1
  obtain rfl := ofTs_nil k1
  exact ⟨⟨start, next, must, nots, fair⟩, rfl, ⟨by show start.length ≤ _; omega, by show next.length ≤ _; omega, by show must.length ≤ _; omega, by show nots.length ≤ _; omega, by show fair.length ≤ _; omega, fun l hl => by have := b2.2 l hl; omega, fun l hl => by have := b5.2 l hl; omega⟩, b1, b2.2⟩
namespace autoBoth
set_option maxRecDepth 100000 in
theorem law : ∀ Ds, OfAsz Try.prog 1048576 [26, 26] Ds → PCall Try.prog 5 Ds (dbool true)
  | [d, e], h => by
    obtain ⟨A, rfl, a1, a2, a3⟩ := argAuto h.1
    obtain ⟨B, rfl, b1, b2, b3⟩ := argAuto h.2.1
    exact law_AutoBoth A B a1 b1 a2 a3 b2 b3
theorem types : typesOK Try.prog [26, 22, 23, 24, 3, 62] = true := by kernel_rfl
set_option maxRecDepth 100000 in
theorem laidOut : laidOutB Try.prog = true := by kernel_rfl
set_option maxRecDepth 100000 in
theorem readable : (Try.f5.params.toList.all fun t => Try.prog.readableRec t && decide (t < Try.prog.types.size)) = true := by kernel_rfl
theorem own : ownKnob Try.prog.godebug = none := by kernel_rfl
theorem one_le {H : Type} (d : DataW H) : 1 ≤ Rows.uptoBulk d := by
  cases d with
  | lit l => cases l <;> simp [Rows.uptoBulk]
  | _ => simp [Rows.uptoBulk]
theorem length_le {H : Type} (l : List (DataW H)) : l.length ≤ Rows.uptoBulkAll l := by
  induction l with
  | nil => simp [Rows.uptoBulkAll]
  | cons x r ih => have := one_le x; simp only [Rows.uptoBulkAll, List.length_cons]; omega
mutual
theorem lens_of {H : Type} {L : Nat} : ∀ d : DataW H, Rows.uptoBulk d ≤ L → lens L d
  | .lit (.string b), h => by simp only [Rows.uptoBulk] at h; simp only [lens]; omega
  | .lit (.bool _), _ | .lit (.int _ _), _ | .lit (.float _ _), _ | .lit .nil, _ => by simp only [lens]
  | .nil, _ | .ptr _, _ | .iface _ _, _ | .map _, _ | .held _, _ => by simp only [lens]
  | .slice elems spare, h => by
    simp only [Rows.uptoBulk] at h
    simp only [lens]
    have := length_le elems
    exact ⟨by omega, lensAll_of elems (by omega)⟩
  | .agg parts, h => by
    simp only [Rows.uptoBulk] at h
    simp only [lens]
    exact lensAll_of parts (by omega)
theorem lensAll_of {H : Type} {L : Nat} : ∀ l : List (DataW H), Rows.uptoBulkAll l ≤ L → lensAll L l
  | [], _ => by simp only [lensAll]
  | d :: r, h => by
    simp only [Rows.uptoBulkAll] at h
    simp only [lensAll]
    exact ⟨lens_of d (by omega), lensAll_of r (by omega)⟩
end
theorem bulk_app {H : Type} : ∀ l r : List (DataW H), Rows.uptoBulkAll (l ++ r) = Rows.uptoBulkAll l + Rows.uptoBulkAll r
  | [], r => by simp [Rows.uptoBulkAll]
  | d :: l, r => by simp only [List.cons_append, Rows.uptoBulkAll, bulk_app l r]; omega
set_option maxRecDepth 100000 in
theorem lifted (os : Os) (started : os.Started) (H : Type) (enc : TypeId × Value → H) (F : Stop.Interp) :
    ReturnsInHanded {} Try.checked os 5 .any ((Rows.OpenSpec.upto Rows.autoBothSpec).pre6 enc Try.prog Try.f5 Rows.autoBothUptoRow.domain false) (((Rows.OpenSpec.upto Rows.autoBothSpec).at F).post enc Try.prog Try.f5 false true false false) := by
  refine returnsInHanded_of_cond_sized (C := Try.checked) (s := Rows.OpenSpec.upto Rows.autoBothSpec) (k := Rows.uptoSmall) rfl own started (by kernel_rfl) Try.func5
    (OpenSpec.witness (enc := enc) (C := Try.checked) (s := Rows.OpenSpec.upto Rows.autoBothSpec) (k := Rows.uptoSmall) rfl false ⟨#[], #[.agg #[.slice none 0 0, .slice none 0 0, .slice none 0 0, .slice none 0 0, .slice none 0 0], .agg #[.slice none 0 0, .slice none 0 0, .slice none 0 0, .slice none 0 0, .slice none 0 0]], []⟩ 8 (by kernel_rfl) (by kernel_rfl) (by kernel_rfl)
      (x := ([.agg [.nil, .nil, .nil, .nil, .nil], .agg [.nil, .nil, .nil, .nil, .nil]], [], [])) (by kernel_rfl) rfl (by kernel_rfl)) ?_
  intro W base args ds gs before hval0 hW _ hk hsz _
  have hval : ∀ (j : Nat) t v, Try.f5.params[j]? = some t → args[j]? = some v → Value.okWide Try.prog W .any base t v := hval0
  have hW' := hW
  obtain ⟨p, q, hA0, hV, _, hfz, hnd⟩ := hW
  have hA : DataW.TrodAll enc Try.prog W 0 (fun _ => true) true Try.f5.params.toList args.toList ds p := hA0
  have hps : Try.f5.params.toList = [26, 26] := by kernel_rfl
  have hb : Rows.uptoBulkAll (ds ++ gs) ≤ 1048576 := of_decide_eq_true hk
  rw [bulk_app] at hb
  obtain ⟨Ds, hD, hR⟩ := args_repL (L := 1048576) types (base := base) _ _ _ _ (fun t ht => by rw [hps] at ht; revert t; decide) (fun j t v h1 h2 => hval j t v (by simpa using h1) (by simpa using h2)) hA (fun n hn => by
    have := List.all_eq_true.1 hsz n (weightsEach_pre _ _ _ _ (trodAll_len _ _ _ _ hA).symm n hn)
    simpa using this) (.inr (lensAll_of ds (by omega)))
  rw [hps] at hD
  have hC := (law Ds hD).run noInj (There W) W args.toList (fun b h => h) hR
  rw [show args.toList.toArray = args from rfl] at hC
  refine hC.mono fun e W' ⟨v, F', he, _, hv, hx⟩ => ?_
  have hv' : v = .bool true := by simpa only [rep, dbool] using hv
  subst he hv'
  exact ⟨_, rfl, row_post hW' rfl (by kernel_rfl) Try.underlying4 laidOut (fun t ht => by
      have := List.all_eq_true.1 readable t ht
      simp only [Bool.and_eq_true, decide_eq_true_eq] at this
      exact this) (fun ds h => by rw [hps] at h; match ds, h with | [_, _], _ => rfl) (below_of_ext hx) (ok_one (by kernel_rfl) rfl (okWide_bool_mk Try.underlying4 _))⟩

theorem proved : Rows.AutoBothUptoSaid :=
  OpenClaim.holds_of_cond 5 Try.f5 rfl rfl rfl rfl rfl rfl rfl ⟨rfl, rfl, rfl, rfl, rfl⟩ rfl rfl rfl rfl rfl (by kernel_rfl) Try.func5 (by kernel_rfl)
    (of_decide_eq_true (by kernel_rfl)) (by unfold Func.isWrapper; first | (rw [if_pos (by decide +kernel)]; kernel_rfl) | (rw [if_neg (by decide +kernel)]; exact ⟨rfl, rfl⟩))
    (fun os started H enc _ F => lifted os started H enc F)
end autoBoth
end Go.Proofs.Ytfaekhadjlgbbaa
