/-
  The program's automaton of a formula, over deep values. No statement is proved here.
-/
import Derived.Test.YtihgbinhidppdaaTa3
namespace Go.Proofs.Ytihgbinhidppdaa
open Go.RowKit
set_option linter.unusedSimpArgs false
set_option linter.unusedVariables false
/-- What Make answers. -/
noncomputable def makeD (t : Tree) : D :=
  if (nansD t (plainT t)).2 = 0 then ansT (plainT t) else .tup [dauto emptyA, .sc (.int .i64 (nansD t (plainT t)).2)]
theorem nans_plain {t : Tree} (h : (nansD t (plainT t)).2 = 0) : (nansD t (plainT t)).1 = plainT t ∧ chk lKids t = 0 ∧ chk lKids (plainT t) = 0 := by
  unfold nansD at *
  split at h
  · rename_i h1
    split at h
    · rename_i h2
      rw [if_pos h1, if_pos h2]
      exact ⟨rfl, h1, h2⟩
    · rename_i h2; exact absurd h h2
  · rename_i h1; exact absurd h h1
def c4_1 : PC := .seq (.ops [⟨some 59,.bin .lss (.tmp 58) (.tmp 57),none,0⟩] false) (.seq (.cond (.tmp 59) (.skip) (.exit 0)) (.seq (.block 1 (.seq (.ops [⟨some 60,.move (.tmp 58),none,0⟩,
 ⟨some 9,.move (.tmp 60),none,0⟩] false) (.seq (.ops [⟨some 61,.move (.tmp 5),none,0⟩,
 ⟨some 62,.move (.tmp 9),none,0⟩,
 ⟨some 63,.call 12 [(.tmp 61), (.tmp 62)],none,0⟩,
 ⟨some 10,.move (.tmp 63),none,0⟩] false) (.ops [⟨some 64,.move (.tmp 8),none,0⟩,
 ⟨some 65,.move (.tmp 10),none,0⟩,
 ⟨some 66,.move (.tmp 8),none,0⟩,
 ⟨some 67,.move (.tmp 10),none,0⟩,
 ⟨some 68,.iaddr 1 (.tmp 66) (.tmp 67),none,0⟩,
 ⟨some 69,.load1 (.tmp 68),none,0⟩,
 ⟨some 70,.move (.tmp 9),none,0⟩,
 ⟨some 71,.bslice 1 1 [(.tmp 70)],none,0⟩,
 ⟨some 72,.append 1 8 (.tmp 69) (.tmp 71),none,0⟩,
 ⟨some 73,.iaddr 1 (.tmp 64) (.tmp 65),none,0⟩,
 ⟨none,.store 1 (.tmp 73) (.tmp 72),none,0⟩] false)))) (.ops [⟨some 74,.bin .add (.tmp 58) (.const (.int .i64 1)),none,0⟩,
 ⟨some 58,.move (.tmp 74),none,0⟩] false)))
def c4_2 : PC := .seq (.ops [⟨some 78,.bin .lss (.tmp 77) (.tmp 76),none,0⟩] false) (.seq (.cond (.tmp 78) (.skip) (.exit 2)) (.seq (.block 3 (.seq (.ops [⟨some 79,.move (.tmp 77),none,0⟩,
 ⟨some 11,.move (.tmp 79),none,0⟩] false) (.seq (.seq (.ops [⟨some 80,.move (.tmp 5),none,0⟩,
 ⟨some 81,.loadA 3 (.tmp 1),none,0⟩,
 ⟨some 82,.move (.tmp 11),none,0⟩,
 ⟨some 83,.call 13 [(.tmp 80), (.tmp 81), (.tmp 82)],none,0⟩] false) (.cond (.tmp 83) (.ops [⟨some 84,.faddr 0 (.tmp 7),none,0⟩,
 ⟨some 85,.load1 (.tmp 84),none,0⟩,
 ⟨some 86,.move (.tmp 11),none,0⟩,
 ⟨some 87,.bslice 1 1 [(.tmp 86)],none,0⟩,
 ⟨some 88,.append 1 8 (.tmp 85) (.tmp 87),none,0⟩,
 ⟨some 89,.faddr 0 (.tmp 7),none,0⟩,
 ⟨none,.store 1 (.tmp 89) (.tmp 88),none,0⟩] false) (.skip))) (.seq (.ops [⟨some 90,.faddr 1 (.tmp 7),none,0⟩,
 ⟨some 91,.load1 (.tmp 90),none,1⟩,
 ⟨some 92,.move (.tmp 8),none,0⟩,
 ⟨some 93,.move (.tmp 5),none,0⟩,
 ⟨some 94,.move (.tmp 11),none,0⟩,
 ⟨some 95,.call 15 [(.tmp 93), (.tmp 94)],none,24⟩,
 ⟨some 96,.iaddr 1 (.tmp 92) (.tmp 95),none,60⟩,
 ⟨some 97,.load1 (.tmp 96),none,124⟩,
 ⟨some 98,.call 14 [(.tmp 97)],none,252⟩,
 ⟨some 99,.bslice 1 1 [(.tmp 98)],none,508⟩,
 ⟨some 100,.append 1 24 (.tmp 91) (.tmp 99),none,1023⟩,
 ⟨some 101,.faddr 1 (.tmp 7),none,2047⟩,
 ⟨none,.store 1 (.tmp 101) (.tmp 100),none,4095⟩] true) (.seq (.ops [⟨some 102,.faddr 2 (.tmp 7),none,0⟩,
 ⟨some 103,.load1 (.tmp 102),none,1⟩,
 ⟨some 104,.move (.tmp 5),none,0⟩,
 ⟨some 105,.move (.tmp 11),none,0⟩,
 ⟨some 106,.call 16 [(.tmp 104), (.tmp 105), (.const (.bool true))],none,12⟩,
 ⟨some 107,.bslice 1 1 [(.tmp 106)],none,28⟩,
 ⟨some 108,.append 1 8 (.tmp 103) (.tmp 107),none,63⟩,
 ⟨some 109,.faddr 2 (.tmp 7),none,127⟩,
 ⟨none,.store 1 (.tmp 109) (.tmp 108),none,255⟩] true) (.ops [⟨some 110,.faddr 3 (.tmp 7),none,0⟩,
 ⟨some 111,.load1 (.tmp 110),none,1⟩,
 ⟨some 112,.move (.tmp 5),none,0⟩,
 ⟨some 113,.move (.tmp 11),none,0⟩,
 ⟨some 114,.call 16 [(.tmp 112), (.tmp 113), (.const (.bool false))],none,12⟩,
 ⟨some 115,.bslice 1 1 [(.tmp 114)],none,28⟩,
 ⟨some 116,.append 1 8 (.tmp 111) (.tmp 115),none,63⟩,
 ⟨some 117,.faddr 3 (.tmp 7),none,127⟩,
 ⟨none,.store 1 (.tmp 117) (.tmp 116),none,255⟩] true)))))) (.ops [⟨some 118,.bin .add (.tmp 77) (.const (.int .i64 1)),none,0⟩,
 ⟨some 77,.move (.tmp 118),none,0⟩] false)))
def c4_4 : PC := .seq (.ops [⟨some 134,.bin .lss (.tmp 133) (.tmp 132),none,0⟩] false) (.seq (.cond (.tmp 134) (.skip) (.exit 6)) (.seq (.block 7 (.seq (.ops [⟨some 135,.move (.tmp 133),none,0⟩,
 ⟨some 15,.move (.tmp 135),none,0⟩] false) (.seq (.ops [⟨some 136,.move (.tmp 5),none,0⟩,
 ⟨some 137,.loadA 3 (.tmp 13),none,0⟩,
 ⟨some 138,.move (.tmp 15),none,0⟩,
 ⟨some 139,.call 17 [(.tmp 136), (.tmp 137), (.tmp 138)],none,0⟩] false) (.cond (.tmp 139) (.ops [⟨some 140,.move (.tmp 14),none,0⟩,
 ⟨some 141,.move (.tmp 15),none,0⟩,
 ⟨some 142,.bslice 1 1 [(.tmp 141)],none,0⟩,
 ⟨some 143,.append 1 8 (.tmp 140) (.tmp 142),none,0⟩,
 ⟨some 14,.move (.tmp 143),none,0⟩] false) (.skip))))) (.ops [⟨some 144,.bin .add (.tmp 133) (.const (.int .i64 1)),none,0⟩,
 ⟨some 133,.move (.tmp 144),none,0⟩] false)))
def c4_3 : PC := .seq (.ops [⟨some 125,.bin .lss (.tmp 124) (.tmp 123),none,0⟩] false) (.seq (.cond (.tmp 125) (.skip) (.exit 4)) (.seq (.block 5 (.seq (.ops [⟨some 126,.iaddr 3 (.tmp 122) (.tmp 124),none,0⟩,
 ⟨some 127,.loadA 3 (.tmp 126),none,0⟩,
 ⟨some 13,.alloc [(.int .i64 0), (.int .i64 0), (.slice none 0 0)],none,0⟩,
 ⟨none,.store 3 (.tmp 13) (.tmp 127),none,0⟩] false) (.seq (.seq (.ops [⟨some 128,.faddr 0 (.tmp 13),none,0⟩,
 ⟨some 129,.load1 (.tmp 128),none,0⟩,
 ⟨some 130,.bin .eql (.tmp 129) (.const (.int .i64 7)),none,0⟩] false) (.cond (.tmp 130) (.exit 5) (.skip))) (.seq (.ops [⟨some 14,.move (.const (.slice none 0 0)),none,0⟩] false) (.seq (.seq (.ops [⟨some 131,.move (.tmp 6),none,0⟩,
 ⟨some 132,.bin .shl (.const (.int .i64 1)) (.tmp 131),none,0⟩,
 ⟨some 133,.move (.const (.int .i64 0)),none,0⟩] false) (.block 6 (.loop c4_4))) (.ops [⟨some 145,.faddr 4 (.tmp 7),none,0⟩,
 ⟨some 146,.load1 (.tmp 145),none,0⟩,
 ⟨some 147,.move (.tmp 14),none,0⟩,
 ⟨some 148,.bslice 1 1 [(.tmp 147)],none,0⟩,
 ⟨some 149,.append 1 24 (.tmp 146) (.tmp 148),none,0⟩,
 ⟨some 150,.faddr 4 (.tmp 7),none,0⟩,
 ⟨none,.store 1 (.tmp 150) (.tmp 149),none,0⟩] false)))))) (.ops [⟨some 151,.bin .add (.tmp 124) (.const (.int .i64 1)),none,0⟩,
 ⟨some 124,.move (.tmp 151),none,0⟩] false)))
def c4 : PC := .seq (.ops [⟨some 1,.box (.tmp 0),none,0⟩,
 ⟨some 2,.alloc [(.slice none 0 0), (.slice none 0 0), (.slice none 0 0), (.slice none 0 0), (.slice none 0 0)],none,0⟩,
 ⟨some 3,.move (.const (.int .i64 0)),none,0⟩] false) (.seq (.ops [⟨some 17,.loadA 3 (.tmp 1),none,0⟩,
 ⟨some 18,.call 9 [(.tmp 17)],none,0⟩,
 ⟨some 16,.move (.tmp 18),none,0⟩,
 ⟨some 19,.ext 0 (.tmp 16),none,0⟩,
 ⟨some 20,.ext 1 (.tmp 16),none,0⟩,
 ⟨none,.store 3 (.tmp 1) (.tmp 19),none,0⟩,
 ⟨some 4,.move (.tmp 20),none,0⟩] false) (.seq (.seq (.ops [⟨some 21,.move (.tmp 4),none,0⟩,
 ⟨some 22,.bin .neq (.tmp 21) (.const (.int .i64 0)),none,0⟩] false) (.cond (.tmp 22) (.seq (.ops [⟨some 23,.build [(.slice none 0 0), (.slice none 0 0), (.slice none 0 0), (.slice none 0 0), (.slice none 0 0)] [],none,0⟩,
 ⟨some 24,.move (.tmp 4),none,0⟩,
 ⟨none,.store 5 (.tmp 2) (.tmp 23),none,0⟩,
 ⟨some 3,.move (.tmp 24),none,0⟩] false) (.ret)) (.skip))) (.seq (.ops [⟨some 25,.build [(.slice none 0 0), (.slice none 0 0)] [],none,0⟩,
 ⟨some 26,.box (.tmp 25),none,0⟩,
 ⟨some 5,.move (.tmp 26),none,0⟩] false) (.seq (.stop (.ops [⟨some 27,.move (.tmp 5),none,0⟩,
 ⟨some 28,.loadA 3 (.tmp 1),none,0⟩,
 ⟨some 29,.call 10 [(.tmp 27), (.tmp 28)],none,0⟩] false)) (.seq (.ops [⟨some 30,.move (.tmp 5),none,0⟩,
 ⟨some 31,.nilchk (.tmp 30),none,0⟩,
 ⟨some 32,.faddr 0 (.tmp 31),none,0⟩,
 ⟨some 33,.load1 (.tmp 32),none,0⟩,
 ⟨some 34,.call 11 [(.tmp 33)],none,0⟩] false) (.seq (.stop (.ops [⟨some 35,.move (.tmp 5),none,0⟩,
 ⟨some 36,.nilchk (.tmp 35),none,1⟩,
 ⟨some 37,.faddr 0 (.tmp 36),none,3⟩,
 ⟨some 38,.load1 (.tmp 37),none,7⟩,
 ⟨some 39,.len (.tmp 38),none,15⟩,
 ⟨some 40,.move (.tmp 5),none,0⟩,
 ⟨some 41,.nilchk (.tmp 40),none,32⟩,
 ⟨some 42,.faddr 1 (.tmp 41),none,96⟩,
 ⟨some 43,.load1 (.tmp 42),none,224⟩,
 ⟨some 44,.len (.tmp 43),none,480⟩,
 ⟨some 45,.bin .add (.tmp 39) (.tmp 44),none,1023⟩,
 ⟨some 6,.move (.tmp 45),none,2047⟩] true)) (.seq (.seq (.ops [⟨some 46,.move (.tmp 6),none,0⟩,
 ⟨some 47,.bin .gtr (.tmp 46) (.const (.int .i64 10)),none,0⟩] false) (.cond (.tmp 47) (.seq (.ops [⟨some 48,.build [(.slice none 0 0), (.slice none 0 0), (.slice none 0 0), (.slice none 0 0), (.slice none 0 0)] [],none,0⟩,
 ⟨none,.store 5 (.tmp 2) (.tmp 48),none,0⟩,
 ⟨some 3,.move (.const (.int .i64 2)),none,0⟩] false) (.ret)) (.skip))) (.seq (.ops [⟨some 7,.alloc [(.slice none 0 0), (.slice none 0 0), (.slice none 0 0), (.slice none 0 0), (.slice none 0 0)],none,0⟩] false) (.seq (.ops [⟨some 49,.move (.tmp 5),none,0⟩,
 ⟨some 50,.nilchk (.tmp 49),none,0⟩,
 ⟨some 51,.faddr 1 (.tmp 50),none,0⟩,
 ⟨some 52,.load1 (.tmp 51),none,0⟩,
 ⟨some 53,.len (.tmp 52),none,0⟩,
 ⟨some 54,.bin .shl (.const (.int .i64 1)) (.tmp 53),none,0⟩,
 ⟨some 55,.mslice 1 24 [(.slice none 0 0)] (.tmp 54) (.tmp 54),none,0⟩,
 ⟨some 8,.move (.tmp 55),none,0⟩] false) (.seq (.seq (.ops [⟨some 56,.move (.tmp 6),none,0⟩,
 ⟨some 57,.bin .shl (.const (.int .i64 1)) (.tmp 56),none,0⟩,
 ⟨some 58,.move (.const (.int .i64 0)),none,0⟩] false) (.stop (.block 0 (.loop c4_1)))) (.seq (.seq (.ops [⟨some 75,.move (.tmp 6),none,0⟩,
 ⟨some 76,.bin .shl (.const (.int .i64 1)) (.tmp 75),none,0⟩,
 ⟨some 77,.move (.const (.int .i64 0)),none,0⟩] false) (.stop (.block 2 (.loop c4_2)))) (.seq (.seq (.ops [⟨some 119,.move (.tmp 5),none,0⟩,
 ⟨some 120,.nilchk (.tmp 119),none,0⟩,
 ⟨some 121,.faddr 1 (.tmp 120),none,0⟩,
 ⟨some 122,.load1 (.tmp 121),none,0⟩,
 ⟨some 123,.len (.tmp 122),none,0⟩,
 ⟨some 124,.move (.const (.int .i64 0)),none,0⟩] false) (.stop (.block 4 (.loop c4_3)))) (.seq (.ops [⟨some 152,.loadA 5 (.tmp 7),none,0⟩,
 ⟨none,.store 5 (.tmp 2) (.tmp 152),none,0⟩,
 ⟨some 3,.move (.const (.int .i64 0)),none,0⟩] false) (.ret))))))))))))))
set_option maxRecDepth 100000 in
theorem c4_ok : FunOK Try.prog 4 153 [.agg 2 5, .tmp 3] c4 := ⟨⟨Try.f4, Try.func4, rfl, by kernel_rfl, rfl, by kernel_rfl⟩⟩
set_option maxRecDepth 100000 in
theorem ta_Make (t : Tree) (hs : Small t) : PCall Try.prog 4 [dtree t] (makeD t) := by
  have hP := push_Plain t hs
  have hpm : Pure (makeD t) := by
    unfold makeD ansT
    split
    · dsimp only; split <;> simp [Pure, PureL, pure_dauto]
    · simp [Pure, PureL, pure_dauto]
  refine pcall_intro c4_ok (by simp) (by simp [PureL, pure_dtree]) ?_ hpm
  (apply rd_sound; focus (repeat' constructor))
  ((conv=>whnf);repeat(refine .intro rfl ?_;conv=>whnf))
  (refine .inl ⟨_, hP, ?_⟩; ((conv=>whnf);repeat(refine .intro rfl ?_;conv=>whnf)))
  unfold makeD
  (refine ifK_split (fun h0 => ?_) (fun h0 => ?_) <;> (rw [h0]; ((conv=>whnf);repeat(refine .intro rfl ?_;conv=>whnf))))
  · have h0 : ¬ (nansD t (plainT t)).2 = 0 := by simpa using h0
    rw [if_neg h0]
    (repeat' (first | exact Deep.refl _ | exact Deep.none _ | exact deep_row _ | exact DeepL.nil | exact DeepLL.nil | refine Deep.agg _ _ ?_ | refine Deep.tup _ _ ?_ | refine Deep.own _ _ _ _ _ _ _ _ rfl ?_ | refine Deep.loc _ _ _ _ _ rfl ?_ | refine Deep.ifc _ _ _ ?_ | refine Deep.fn _ _ _ _ _ ?_ ?_ | refine DeepL.cons _ _ _ _ ?_ ?_ | refine DeepLL.cons _ _ _ _ ?_ ?_ | exact deepLL_refl _))
  have h0 : (nansD t (plainT t)).2 = 0 := by simpa using h0
  obtain ⟨e1, hc, hc2⟩ := nans_plain h0
  rw [if_pos h0, e1]
  have hwl := ((chk_zero _ _).1 hc2).2.2
  have hsz := ((chk_zero _ _).1 hc2).1
  have hwp := plain_p t ((chk_zero _ _).1 hc).2.2
  clear hP hpm h0 e1 hc hc2
  generalize plainT t = f at *
  have hla := atoms_le f
  have hlp := parts_le f
  have hG := ta_gather f hwl [] [] (by simp; omega) (by simp; omega)
  have hlA := addI_len (atomsOf f) []
  have hlP := addT_len (partsOf f) []
  have hSo := sort_int (addI [] (atomsOf f)).length (addI [] (atomsOf f)) (by simp at *; omega)
  rw [sort_atoms hwl] at hSo
  have hAn : (sortA (atomsOf f)).length = (addI [] (atomsOf f)).length := by rw [← sort_atoms hwl]; simp
  have hT := tabI_of hwp
  have hTf := sortA_told hwl
  unfold ansT
  dsimp only
  generalize hA0 : addI [] (atomsOf f) = A0 at *
  generalize hA1 : sortA (atomsOf f) = A at *
  generalize hP1 : addT [] (partsOf f) = P at *
  obtain ⟨N5, hN5⟩ : ∃ N5 : List D, N5 = [.sc (.slice none 0 0), .sc (.slice none 0 0), .sc (.slice none 0 0), .sc (.slice none 0 0), .sc (.slice none 0 0)] := ⟨_, rfl⟩
  refine pwp_ghostB (leB_close 3 (env' := [(1, .loc 0 0), (2, .loc 1 0), (3, .sc (.int .i64 0)), (5, .loc 2 0)]) (H' := [.row true (drow f), .row true N5, .row true [.sc (.slice none 0 0), .sc (.slice none 0 0)]]) (by simp) rfl (by (repeat' (first | exact trivial | exact rfl | exact DeepM.refl _ | exact DeepML.refl _ | exact DeepMLL.refl _ | refine And.intro ?_ ?_ | (simp [Under, UnderL, UnderLL, -List.map_take, -List.map_drop]; done)))) ⟨⟨rfl, .refl _, underL_pure _ (pure_drow _)⟩, ⟨rfl, by rw [hN5]; exact .refl _, by rw [hN5]; simp [UnderL, Under]⟩, ⟨rfl, .refl _, by simp [UnderL, Under]⟩, trivial⟩) ?_
  refine pwp_ghostB (leB_trans (leB_nilc 2 0 1 (by simp) rfl rfl) (leB_nilc 2 1 3 (by simp) rfl rfl)) ?_
  (apply rd_sound; focus (repeat' constructor))
  ((conv=>whnf);repeat(refine .intro rfl ?_;conv=>whnf))
  have hG2 : ACall Try.prog 10 [.loc 2 0, dtree f] [.row true (drow f), .row true N5, .row true [.own 3 0 0 0, .own 4 0 0 0], .vec true 0 1 [], .vec true 0 3 []] (.tup [])
      [.row true (drow f), .row true N5, .row true [.own 3 A0.length 0 A0.length, .own 4 P.length 0 P.length], .vec true A0.length 1 (i64s A0), .vec true P.length 3 (trows P)] := by
    refine acall_mid hG [.row true (drow f), .row true N5] [] rfl (by simp [gheap, UnderL, Under, under_pure _ (pure_dtree _)]) (underO_gheap (by simp [gheap])) (by simp [renL, D.ren]) (by simp [D.ren, renL]) ?_ ?_
    · simp [gheap, AObj.ren, renL, D.ren, renLL, i64s, trows]
    · simp only [gheap, List.map_cons, List.map_nil, AObj.ren, renL, D.ren, List.length_cons, List.length_nil, renLL_i64s, renLL_trows]
      rfl
  (refine .inr (.inr (.inl ⟨rfl, _, _, hG2, ?_⟩)); ((conv=>whnf);repeat(refine .intro rfl ?_;conv=>whnf)))
  have hS2 : ACall Try.prog 11 [.own 3 A0.length 0 A0.length] [.row true (drow f), .row true N5, .row true [.own 3 A0.length 0 A0.length, .own 4 P.length 0 P.length], .vec true A0.length 1 (i64s A0), .vec true P.length 3 (trows P)] (.tup [])
      [.row true (drow f), .row true N5, .row true [.own 3 A0.length 0 A0.length, .own 4 P.length 0 P.length], .vec true A0.length 1 (i64s A), .vec true P.length 3 (trows P)] := by
    refine acall_mid hSo [.row true (drow f), .row true N5, .row true [.own 3 A0.length 0 A0.length, .own 4 P.length 0 P.length]] [.vec true P.length 3 (trows P)] rfl (by simp [UnderL, Under]) ⟨underLL_pure _ (pureLL_map _ (fun l => by simp [PureL, Pure]) A0), trivial⟩ (by simp [renL, D.ren]) (by simp [D.ren, renL]) ?_ ?_
    · simp only [List.map_cons, List.map_nil, AObj.ren, renLL_i64s]
      rfl
    · simp only [List.map_cons, List.map_nil, AObj.ren, renLL_i64s]
      rfl
  (refine .inr (.inr (.inl ⟨rfl, _, _, hS2, ?_⟩)); ((conv=>whnf);repeat(refine .intro rfl ?_;conv=>whnf)))
  have hmd := pure_mdat A P
  refine pwp_ghostB (leB_freeze (fromN 2) (env' := [(1, .loc 0 0), (2, .loc 1 0), (3, .sc (.int .i64 0)), (5, mdat A P)]) (H' := [.row true (drow f), .row true N5, .row false [dints A, .lst 3 (trows P)], .vec false A0.length 1 (i64s A), .vec false P.length 3 (trows P)]) ?_ ?_) ?_
  · refine ⟨.refl _, .refl _, .refl _, DeepM.loc _ _ _ _ _ rfl rfl (.cons _ _ _ _ (.own _ _ _ _ _ _ _ _ rfl rfl ?_) (.cons _ _ _ _ (.own _ _ _ _ _ _ _ _ rfl rfl ?_) (.refl _))), trivial⟩
    · rw [← hAn]; exact deepMLL_eq (drop_take_all (by simp [i64s]))
    · exact deepMLL_eq (drop_take_all (by simp))
  · refine ⟨⟨.inl rfl, (fun h => by cases h), .refl _⟩, ⟨.inl rfl, (fun h => by cases h), .refl _⟩, ⟨.inr ⟨rfl, rfl⟩, fun _ => rfl, .cons _ _ _ _ (.own _ _ _ _ _ _ _ _ rfl rfl ?_) (.cons _ _ _ _ (.own _ _ _ _ _ _ _ _ rfl rfl ?_) (.refl _))⟩, ⟨.inr ⟨rfl, rfl⟩, fun _ => rfl, rfl, rfl, .refl _⟩, ⟨.inr ⟨rfl, rfl⟩, fun _ => rfl, rfl, rfl, .refl _⟩, trivial⟩
    · rw [← hAn]; exact deepMLL_eq (drop_take_all (by simp [i64s]))
    · exact deepMLL_eq (drop_take_all (by simp))
  have hA60 : A.length ≤ 60 := by simp at hlA; omega
  have hP60 : P.length ≤ 60 := by simp at hlP; omega
  subst hN5
  clear hG hSo hG2 hS2 hlA hlP hA0 hAn
  unfold mdat
  (apply rd_sound; focus (repeat' constructor))
  ((conv=>whnf);repeat(refine .intro rfl ?_;conv=>whnf))
  rw [List.length_map, trows_len]
  (refine .inl ⟨by (unfold InR; rw [IntKind.wrap_i64]; omega), ?_⟩; ((conv=>whnf);repeat(refine .intro rfl ?_;conv=>whnf)))
  (refine ifK_split (fun h10 => ?_) (fun h10 => ?_) <;> (rw [h10]; ((conv=>whnf);repeat(refine .intro rfl ?_;conv=>whnf))))
  · have h10 : 10 < A.length + P.length := by ((try simp only[oo,reduceCtorEq]at*)<;>omega)
    rw [if_pos h10]
    (repeat' (first | exact Deep.refl _ | exact Deep.none _ | exact deep_row _ | exact DeepL.nil | exact DeepLL.nil | refine Deep.agg _ _ ?_ | refine Deep.tup _ _ ?_ | refine Deep.own _ _ _ _ _ _ _ _ rfl ?_ | refine Deep.loc _ _ _ _ _ rfl ?_ | refine Deep.ifc _ _ _ ?_ | refine Deep.fn _ _ _ _ _ ?_ ?_ | refine DeepL.cons _ _ _ _ ?_ ?_ | refine DeepLL.cons _ _ _ _ ?_ ?_ | exact deepLL_refl _))
  have h10 : ¬ 10 < A.length + P.length := by ((try simp only[oo,reduceCtorEq]at*)<;>omega)
  rw [if_neg h10]
  have hI := hT (by omega)
  have hp2 := two_pow10 (n := P.length) (by omega)
  have hn2 := two_pow10 (n := A.length + P.length) (by omega)
  have s1 : (1 : Int) * 2 ^ min ((P.length : Nat) : Int).toNat IntKind.i64.bits = ((2 ^ P.length : Nat) : Int) := one_shl P.length (by omega)
  have s2 : (1 : Int) * 2 ^ min ((A.length + P.length : Nat) : Int).toNat IntKind.i64.bits = ((2 ^ (A.length + P.length) : Nat) : Int) := one_shl _ (by omega)
  rw [trows_len]
  refine ⟨by omega, ?_⟩
  rw [s1]
  generalize h2P : 2 ^ P.length = NP at *
  generalize h2N : 2 ^ (A.length + P.length) = N at *
  (refine .inl ⟨by (unfold InR; rw [IntKind.wrap_i64]; omega), ?_⟩; ((conv=>whnf);repeat(refine .intro rfl ?_;conv=>whnf)))
  refine ⟨by omega, by omega, by omega, ?_⟩
  rw [Int.toNat_natCast]
  ((conv=>whnf);repeat(refine .intro rfl ?_;conv=>whnf))
  rw [← Int.natCast_add]
  simp only [Nat.sub_zero]
  refine ⟨by omega, ?_⟩
  rw [s2]
  (refine .inl ⟨by (unfold InR; rw [IntKind.wrap_i64]; omega), ?_⟩; ((conv=>whnf);repeat(refine .intro rfl ?_;conv=>whnf)))
  have hK := ta_kept A P hI
  have hmd2 : D.ipt [dints A, .lst 3 (trows P)] = mdat A P := rfl
  have hbl : ∀ k, (byTab A P k).length = NP := fun k => by rw [byTab_len, h2P]
  refine pwp_cut (fun _ : Unit => [(1, .loc 0 0), (2, .loc 1 0), (5, mdat A P), (6, .sc (.int .i64 ((A.length + P.length : Nat) : Int))), (7, .loc 5 0), (8, .own 6 0 0 NP)])
    (fun _ => [.row true (drow f), .row true [.sc (.slice none 0 0), .sc (.slice none 0 0), .sc (.slice none 0 0), .sc (.slice none 0 0), .sc (.slice none 0 0)], .row false [dints A, .lst 3 (trows P)], .vec false A0.length 1 (i64s A), .vec false P.length 3 (trows P), .row true [.sc (.slice none 0 0), .sc (.slice none 0 0), .sc (.slice none 0 0), .sc (.slice none 0 0), .sc (.slice none 0 0)], .vec true 0 1 ((byTab A P N).map fun l => [dints l])]) (fun _ => True) ?_ ?_
  · (apply rd_sound; focus (repeat' constructor))
    ((conv=>whnf);repeat(refine .intro rfl ?_;conv=>whnf))
    refine pwp_ghostB (leB_nils 6 1 NP 0 (by simp) rfl) ?_
    refine pwp_forH [1, 2, 5, 6, 7, 8, 57] (fun k : Nat => [(58, .sc (.int .i64 k))]) (fun k => .row true (drow f) :: .row true [.sc (.slice none 0 0), .sc (.slice none 0 0), .sc (.slice none 0 0), .sc (.slice none 0 0), .sc (.slice none 0 0)] :: .row false [dints A, .lst 3 (trows P)] :: .vec false A0.length 1 (i64s A) :: .vec false P.length 3 (trows P) :: .row true [.sc (.slice none 0 0), .sc (.slice none 0 0), .sc (.slice none 0 0), .sc (.slice none 0 0), .sc (.slice none 0 0)] :: .vec true 0 1 (ogRows 7 (byTab A P k)) :: ogObjs 1 ncell (byTab A P k)) (fun k => k ≤ N) (fun k => N - k) 0 ?_
    ((conv=>whnf);repeat(refine .intro rfl ?_;conv=>whnf))
    refine ⟨by omega, by (repeat' (first | exact trivial | refine And.intro rfl ?_)), ?_, ?_⟩
    · rw [byTab_zero, h2P]
      show _ :: _ :: _ :: _ :: _ :: _ :: _ :: _ = _ :: _ :: _ :: _ :: _ :: _ :: _ :: _
      rw [ogObjs_nils 1 _ ncell]
      exact congrArg (fun x => _ :: _ :: _ :: _ :: _ :: _ :: AObj.vec true 0 1 x :: _) (ogRows_nils (α := Int) 7 _)
    rintro k hk
    ((conv=>whnf);repeat(refine .intro rfl ?_;conv=>whnf))
    (apply rd_sound; focus (repeat' constructor))
    ((conv=>whnf);repeat(refine .intro rfl ?_;conv=>whnf))
    (refine ifK_split (fun q0 => ?_) (fun q0 => ?_) <;> (rw [q0]; ((conv=>whnf);repeat(refine .intro rfl ?_;conv=>whnf))))
    · have q0 : k < N := by ((try simp only[oo,reduceCtorEq]at*)<;>omega)
      have hkl := kept_lt A P k
      have hlen := hbl k
      have hset := byTab_set A P k
      have hat := byTab_at (A := A) (P := P) (k := k) hkl
      have hrl := byRow_len A P k (keptE A P k)
      rw [h2P] at hkl
      (refine .inl ⟨_, (hK k), ?_⟩; ((conv=>whnf);repeat(refine .intro rfl ?_;conv=>whnf)))
      generalize keptE A P k = v at *
      generalize byRow A P k v = C at *
      generalize hR2 : byTab A P (k + 1) = R2 at *
      generalize byTab A P k = R at *
      (refine ⟨by omega, (by first | omega | (simp; done) | (simp; omega) | (simp only [ll]; omega)), ?_⟩; ((conv=>whnf);repeat(refine .intro rfl ?_;conv=>whnf)))
      refine ⟨_, ogRows_at (i := v) (by omega) (by omega), ?_⟩
      ((conv=>whnf);repeat(refine .intro rfl ?_;conv=>whnf))
      refine og_push ?_
      ((conv=>whnf);repeat(refine .intro rfl ?_;conv=>whnf))
      (repeat (first | (refine og_getE 0 rfl ?_; ((conv=>whnf);repeat(refine .intro rfl ?_;conv=>whnf))) | (refine og_putE 0 rfl ?_; ((conv=>whnf);repeat(refine .intro rfl ?_;conv=>whnf))) | (refine og_getE 1 rfl ?_; ((conv=>whnf);repeat(refine .intro rfl ?_;conv=>whnf))) | (refine og_putE 1 rfl ?_; ((conv=>whnf);repeat(refine .intro rfl ?_;conv=>whnf)))))
      refine og_getT (by omega) ?_
      ((conv=>whnf);repeat(refine .intro rfl ?_;conv=>whnf))
      rw [hat]
      refine ⟨by unfold sliceAppend; simp only [List.length_drop, List.length_take, List.length_cons, List.length_nil]; omega, ?_⟩
      ((conv=>whnf);repeat(refine .intro rfl ?_;conv=>whnf))
      refine og_putT (C ++ [(k : Int)]) (by omega) ?_ ?_
      · exact og_app
      ((conv=>whnf);repeat(refine .intro rfl ?_;conv=>whnf))
      (refine ⟨by omega, (by first | omega | (simp; done) | (simp; omega) | (simp only [ll]; omega)), ?_⟩; ((conv=>whnf);repeat(refine .intro rfl ?_;conv=>whnf)))
      refine ⟨_, ogRows_at (i := v) (by omega) (by omega), ?_⟩
      ((conv=>whnf);repeat(refine .intro rfl ?_;conv=>whnf))
      (refine .inl ⟨by (unfold InR; rw [IntKind.wrap_i64]; omega), ?_⟩; ((conv=>whnf);repeat(refine .intro rfl ?_;conv=>whnf)))
      refine ⟨k + 1, by omega, by dsimp only; omega, ?_⟩
      dsimp only
      rw [hR2]
      have hl2 : R2.length = NP := by rw [← hset, List.length_set, hlen]
      refine leB_close (NP + 7) (by simp) (by simp [hl2]) (by (repeat' (first | exact trivial | exact rfl | exact DeepM.refl _ | exact DeepML.refl _ | exact DeepMLL.refl _ | refine And.intro ?_ ?_ | (simp [Under, UnderL, UnderLL, -List.map_take, -List.map_drop]; done)))) ⟨⟨rfl, .refl _, underL_pure _ (pure_drow _)⟩, ⟨rfl, .refl _, by simp [UnderL, Under]⟩, ⟨rfl, .refl _, by simp [UnderL, under_pure _ (pure_dints A), Under, underLL_pure _ (pure_trows P)]⟩, ⟨rfl, rfl, rfl, .refl _, underLL_pure _ (pureLL_map _ (fun l => by simp [PureL, Pure]) A)⟩, ⟨rfl, rfl, rfl, .refl _, underLL_pure _ (pure_trows P)⟩, ⟨rfl, .refl _, by simp [UnderL, Under]⟩, ⟨rfl, rfl, rfl, deepMLL_eq ?_, underLL_ogRows (by rw [← hset, List.length_set]; omega)⟩, by rw [← hset]; exact closeH_og under_ncell⟩
      rw [← hset]
      exact (ogRows_set (by omega) (by omega) (C ++ [(k : Int)]) (by simp))
    · have q0 : k = N := by have : ¬ k < N := by ((try simp only[oo,reduceCtorEq]at*)<;>omega)
                            omega
      subst q0
      refine ⟨(), trivial, leB_close 7 (by simp) rfl (by (repeat' (first | exact trivial | exact rfl | exact DeepM.refl _ | exact DeepML.refl _ | exact DeepMLL.refl _ | refine And.intro ?_ ?_ | (simp [Under, UnderL, UnderLL, -List.map_take, -List.map_drop]; done)))) ⟨⟨rfl, .refl _, underL_pure _ (pure_drow _)⟩, ⟨rfl, .refl _, by simp [UnderL, Under]⟩, ⟨rfl, .refl _, by simp [UnderL, under_pure _ (pure_dints A), Under, underLL_pure _ (pure_trows P)]⟩, ⟨rfl, rfl, rfl, .refl _, underLL_pure _ (pureLL_map _ (fun l => by simp [PureL, Pure]) A)⟩, ⟨rfl, rfl, rfl, .refl _, underLL_pure _ (pure_trows P)⟩, ⟨rfl, .refl _, by simp [UnderL, Under]⟩, ⟨rfl, rfl, rfl, deepM_ogRows (c := ncell) (fun i hi => by simp [fromN]) (fun i hi => ?_), underLL_pure _ (pure_gridV _)⟩, closeH_nil _⟩⟩
      show (ogObjs 1 ncell (byTab A P k))[i]? = _
      exact ogObjs_at hi
  · intro _ _
    ((conv=>whnf);repeat(refine .intro rfl ?_;conv=>whnf))
    refine ⟨by omega, ?_⟩
    rw [s2]
    (refine .inl ⟨by (unfold InR; rw [IntKind.wrap_i64]; omega), ?_⟩; ((conv=>whnf);repeat(refine .intro rfl ?_;conv=>whnf)))
    (apply rd_sound; focus (repeat' constructor))
    ((conv=>whnf);repeat(refine .intro rfl ?_;conv=>whnf))
    refine pwp_ghostB (leB_trans (leB_nilc 5 0 1 (by simp) rfl rfl) (leB_trans (leB_nilc 5 1 1 (by simp) rfl rfl) (leB_trans (leB_nilc 5 2 1 (by simp) rfl rfl) (leB_nilc 5 3 1 (by simp) rfl rfl)))) ?_
    refine pwp_forH [1, 2, 5, 6, 7, 8, 76] (fun k : Nat => [(77, .sc (.int .i64 k))]) (fun k => [.row true (drow f), .row true [.sc (.slice none 0 0), .sc (.slice none 0 0), .sc (.slice none 0 0), .sc (.slice none 0 0), .sc (.slice none 0 0)], .row false [dints A, .lst 3 (trows P)], .vec false A0.length 1 (i64s A), .vec false P.length 3 (trows P), .row true [.own 7 (stE A P f k).length 0 (stE A P f k).length, .own 8 k 0 k, .own 9 k 0 k, .own 10 k 0 k, .sc (.slice none 0 0)], .vec true 0 1 ((byTab A P N).map fun l => [dints l]), .vec true (stE A P f k).length 1 (i64s (stE A P f k)), .vec true k 1 (growsI (nxE A P k)), .vec true k 1 (u64r (leE A true k)), .vec true k 1 (u64r (leE A false k))]) (fun k => k ≤ N) (fun k => N - k) 0 ?_
    ((conv=>whnf);repeat(refine .intro rfl ?_;conv=>whnf))
    refine ⟨by omega, by (repeat' (first | exact trivial | refine And.intro rfl ?_)), rfl, ?_⟩
    rintro k hk
    have hsl := stE_len A P f k
    ((conv=>whnf);repeat(refine .intro rfl ?_;conv=>whnf))
    (apply rd_sound; focus (repeat' constructor))
    ((conv=>whnf);repeat(refine .intro rfl ?_;conv=>whnf))
    (refine ifK_split (fun q0 => ?_) (fun q0 => ?_) <;> (rw [q0]; ((conv=>whnf);repeat(refine .intro rfl ?_;conv=>whnf))))
    · have q0 : k < N := by ((try simp only[oo,reduceCtorEq]at*)<;>omega)
      have hH := ta_holds A P hI k f hwp hTf
      have eS := stE_succ A P f k
      have hO := ta_owed A P hA60 k
      have hOl : k / 2 ^ A.length < NP := by rw [← h2P]; exact owed_lt (by rw [h2N]; exact q0)
      have hrow := byTab_owed (A := A) (P := P) (s := k) (by rw [h2N]; exact q0)
      rw [h2N] at hrow
      have eN := nxE_succ A P k
      rw [← h2P] at hOl
      have eT := leE_succ A true k
      have eF := leE_succ A false k
      have hbT := ta_bits A P hA60 hI.atoms k true
      have hbF := ta_bits A P hA60 hI.atoms k false
      have hnl : (nextE A P (A.length + P.length) k).length ≤ 1024 := by have h : (nextE A P (A.length + P.length) k).length ≤ 2 ^ (A.length + P.length) := numsF_len _ _; rw [h2N] at h; exact Nat.le_trans h hn2
      generalize nextE A P (A.length + P.length) k = R at *
      generalize lettA A k true A.length = xT at *
      generalize lettA A k false A.length = xF at *
      generalize k / 2 ^ A.length = v at *
      have hCl := cloneO_int R (by omega)
      (refine .inl ⟨_, hH, ?_⟩; ((conv=>whnf);repeat(refine .intro rfl ?_;conv=>whnf)))
      cases r : holdsT (chE A P k) f
      · rw [r, if_neg (by decide)] at eS
        ((conv=>whnf);repeat(refine .intro rfl ?_;conv=>whnf))
        (refine .inl ⟨_, hO, ?_⟩; ((conv=>whnf);repeat(refine .intro rfl ?_;conv=>whnf)))
        (refine ⟨by omega, (by first | omega | (simp; done) | (simp; omega) | (simp only [ll]; omega)), ?_⟩; ((conv=>whnf);repeat(refine .intro rfl ?_;conv=>whnf)))
        refine ⟨_, rowsD_at (i := v) (by omega) (by simpa using hOl) hrow, ?_⟩
        ((conv=>whnf);repeat(refine .intro rfl ?_;conv=>whnf))
        (refine .inr (.inr (.inr (.inr (.inl ⟨_, _, _, (acallAt_new hCl (by simp [PureL, Pure, pure_dints]) (d := .own 11 1 0 R.length) [11] rfl rfl (by simp [AObj.ren, renL, D.ren]; rfl)), ?_⟩)))); ((conv=>whnf);repeat(refine .intro rfl ?_;conv=>whnf)))
        refine ⟨(by unfold sliceAppend; simp only [ll]; omega), ?_⟩
        ((conv=>whnf);repeat(refine .intro rfl ?_;conv=>whnf))
        (refine .inl ⟨_, hbT, ?_⟩; ((conv=>whnf);repeat(refine .intro rfl ?_;conv=>whnf)))
        refine ⟨(by unfold sliceAppend; simp only [ll]; omega), ?_⟩
        ((conv=>whnf);repeat(refine .intro rfl ?_;conv=>whnf))
        (refine .inl ⟨_, hbF, ?_⟩; ((conv=>whnf);repeat(refine .intro rfl ?_;conv=>whnf)))
        refine ⟨(by unfold sliceAppend; simp only [ll]; omega), ?_⟩
        ((conv=>whnf);repeat(refine .intro rfl ?_;conv=>whnf))
        (refine .inl ⟨by (unfold InR; rw [IntKind.wrap_i64]; omega), ?_⟩; ((conv=>whnf);repeat(refine .intro rfl ?_;conv=>whnf)))
        refine ⟨k + 1, by omega, by dsimp only; omega, ?_⟩
        dsimp only
        rw [eS, eN, eT, eF]
        try rw [show (stE A P f k ++ [(k : Int)]).length = (stE A P f k).length + 1 by simp]
        (refine leB_close 11 (by simp) rfl ?_ ?_ <;> (repeat' (first | exact trivial | exact rfl | exact DeepM.refl _ | exact DeepML.refl _ | exact DeepMLL.refl _ | refine And.intro ?_ ?_ | (simp [Under, UnderL, UnderLL, -List.map_take, -List.map_drop]; done))))
        all_goals
          first | exact underL_pure _ (pure_drow _) | exact under_pure _ (pure_dints _) | exact under_pure _ hmd | exact underLL_pure _ (pure_gridV _) | exact underLL_pure _ (pure_u64r _) | exact underLL_pure _ (pure_growsI _) | exact underLL_pure _ (pureLL_map _ (fun l => by simp [PureL, Pure]) _) | exact deepMLL_eq (u64r_snoc (by simp)) | exact deepM_grow (by simp) rfl rfl rfl | exact deepMLL_eq (i64s_snoc _ _) | skip
      · rw [r, if_pos rfl] at eS
        ((conv=>whnf);repeat(refine .intro rfl ?_;conv=>whnf))
        refine ⟨(by unfold sliceAppend; simp only [ll]; omega), ?_⟩
        ((conv=>whnf);repeat(refine .intro rfl ?_;conv=>whnf))
        (refine .inl ⟨_, hO, ?_⟩; ((conv=>whnf);repeat(refine .intro rfl ?_;conv=>whnf)))
        (refine ⟨by omega, (by first | omega | (simp; done) | (simp; omega) | (simp only [ll]; omega)), ?_⟩; ((conv=>whnf);repeat(refine .intro rfl ?_;conv=>whnf)))
        refine ⟨_, rowsD_at (i := v) (by omega) (by simpa using hOl) hrow, ?_⟩
        ((conv=>whnf);repeat(refine .intro rfl ?_;conv=>whnf))
        (refine .inr (.inr (.inr (.inr (.inl ⟨_, _, _, (acallAt_new hCl (by simp [PureL, Pure, pure_dints]) (d := .own 12 1 0 R.length) [12] rfl rfl (by simp [AObj.ren, renL, D.ren]; rfl)), ?_⟩)))); ((conv=>whnf);repeat(refine .intro rfl ?_;conv=>whnf)))
        refine ⟨(by unfold sliceAppend; simp only [ll]; omega), ?_⟩
        ((conv=>whnf);repeat(refine .intro rfl ?_;conv=>whnf))
        (refine .inl ⟨_, hbT, ?_⟩; ((conv=>whnf);repeat(refine .intro rfl ?_;conv=>whnf)))
        refine ⟨(by unfold sliceAppend; simp only [ll]; omega), ?_⟩
        ((conv=>whnf);repeat(refine .intro rfl ?_;conv=>whnf))
        (refine .inl ⟨_, hbF, ?_⟩; ((conv=>whnf);repeat(refine .intro rfl ?_;conv=>whnf)))
        refine ⟨(by unfold sliceAppend; simp only [ll]; omega), ?_⟩
        ((conv=>whnf);repeat(refine .intro rfl ?_;conv=>whnf))
        (refine .inl ⟨by (unfold InR; rw [IntKind.wrap_i64]; omega), ?_⟩; ((conv=>whnf);repeat(refine .intro rfl ?_;conv=>whnf)))
        refine ⟨k + 1, by omega, by dsimp only; omega, ?_⟩
        dsimp only
        rw [eS, eN, eT, eF]
        try rw [show (stE A P f k ++ [(k : Int)]).length = (stE A P f k).length + 1 by simp]
        (refine leB_close 11 (by simp) rfl ?_ ?_ <;> (repeat' (first | exact trivial | exact rfl | exact DeepM.refl _ | exact DeepML.refl _ | exact DeepMLL.refl _ | refine And.intro ?_ ?_ | (simp [Under, UnderL, UnderLL, -List.map_take, -List.map_drop]; done))))
        all_goals
          first | exact underL_pure _ (pure_drow _) | exact under_pure _ (pure_dints _) | exact under_pure _ hmd | exact underLL_pure _ (pure_gridV _) | exact underLL_pure _ (pure_u64r _) | exact underLL_pure _ (pure_growsI _) | exact underLL_pure _ (pureLL_map _ (fun l => by simp [PureL, Pure]) _) | exact deepMLL_eq (u64r_snoc (by simp)) | exact deepM_grow (by simp) rfl rfl rfl | exact deepMLL_eq (i64s_snoc _ _) | skip
    · have q0 : k = N := by have : ¬ k < N := by ((try simp only[oo,reduceCtorEq]at*)<;>omega)
                            omega
      obtain rfl : N = k := q0.symm
      (apply rd_sound; focus (repeat' constructor))
      ((conv=>whnf);repeat(refine .intro rfl ?_;conv=>whnf))
      refine pwp_ghostB (leB_nilc 5 4 1 (by simp) rfl rfl) ?_
      refine pwp_forH [2, 5, 6, 7, 122, 123] (fun k : Nat => [(124, .sc (.int .i64 k))]) (fun k => [.row true (drow f), .row true [.sc (.slice none 0 0), .sc (.slice none 0 0), .sc (.slice none 0 0), .sc (.slice none 0 0), .sc (.slice none 0 0)], .row false [dints A, .lst 3 (trows P)], .vec false A0.length 1 (i64s A), .vec false P.length 3 (trows P), .row true [.own 7 (stE A P f N).length 0 (stE A P f N).length, .own 8 N 0 N, .own 9 N 0 N, .own 10 N 0 N, .own 11 (fairsE A P (A.length + P.length) k).length 0 (fairsE A P (A.length + P.length) k).length], .vec true 0 1 ((byTab A P N).map fun l => [dints l]), .vec true (stE A P f N).length 1 (i64s (stE A P f N)), .vec true N 1 (growsI (nxE A P N)), .vec true N 1 (u64r (leE A true N)), .vec true N 1 (u64r (leE A false N)), .vec true (fairsE A P (A.length + P.length) k).length 1 (growsI (fairsE A P (A.length + P.length) k))]) (fun k => k ≤ P.length) (fun k => P.length - k) 0 ?_
      ((conv=>whnf);repeat(refine .intro rfl ?_;conv=>whnf))
      rw [trows_len]
      refine ⟨by omega, by (repeat' (first | exact trivial | refine And.intro rfl ?_)), rfl, ?_⟩
      rintro k hk
      have hfl := fairsE_len A P (A.length + P.length) k
      ((conv=>whnf);repeat(refine .intro rfl ?_;conv=>whnf))
      (apply rd_sound; focus (repeat' constructor))
      ((conv=>whnf);repeat(refine .intro rfl ?_;conv=>whnf))
      (refine ifK_split (fun q0 => ?_) (fun q0 => ?_) <;> (rw [q0]; ((conv=>whnf);repeat(refine .intro rfl ?_;conv=>whnf))))
      · have q0 : k < P.length := by ((try simp only[oo,reduceCtorEq]at*)<;>omega)
        have hg := treeP_mem q0
        obtain ⟨hw, hk7⟩ := hI.wf _ hg
        have hTg := hI.told _ hg
        have eFa := fairsE_succ A P (A.length + P.length) q0
        have hsE : setE A P (A.length + P.length) (P.getD k default) = numsF (fairE A P (P.getD k default)) N := by unfold setE; rw [h2N]
        refine ⟨by omega, _, trows_at (k := k) (by omega) q0, ?_⟩
        ((conv=>whnf);repeat(refine .intro rfl ?_;conv=>whnf))
        generalize P.getD k default = g at *
        (refine ifK_split (fun g7 => ?_) (fun g7 => ?_) <;> (rw [g7]; ((conv=>whnf);repeat(refine .intro rfl ?_;conv=>whnf))))
        · have g7 : g.kind = 7 := by simpa using g7
          rw [if_pos g7] at eFa
          ((conv=>whnf);repeat(refine .intro rfl ?_;conv=>whnf))
          (refine .inl ⟨by (unfold InR; rw [IntKind.wrap_i64]; omega), ?_⟩; ((conv=>whnf);repeat(refine .intro rfl ?_;conv=>whnf)))
          refine ⟨k + 1, by omega, by dsimp only; omega, ?_⟩
          dsimp only
          rw [eFa]
          (refine leB_close 12 (by simp) rfl ?_ ?_ <;> (repeat' (first | exact trivial | exact rfl | exact DeepM.refl _ | exact DeepML.refl _ | exact DeepMLL.refl _ | refine And.intro ?_ ?_ | (simp [Under, UnderL, UnderLL, -List.map_take, -List.map_drop]; done))))
          all_goals
            first | exact underL_pure _ (pure_drow _) | exact under_pure _ (pure_dints _) | exact under_pure _ hmd | exact underLL_pure _ (pure_gridV _) | exact underLL_pure _ (pure_u64r _) | exact underLL_pure _ (pure_growsI _) | exact underLL_pure _ (pureLL_map _ (fun l => by simp [PureL, Pure]) _) | exact deepMLL_eq (u64r_snoc (by simp)) | exact deepM_grow (by simp) rfl rfl rfl | exact deepMLL_eq (i64s_snoc _ _) | skip
        · have g7 : ¬ g.kind = 7 := by simpa using g7
          rw [if_neg g7, hsE] at eFa
          have hFa := fun s => ta_fair A P hI s g hw hTg (by omega)
          refine ⟨by omega, ?_⟩
          rw [s2]
          (refine .inl ⟨by (unfold InR; rw [IntKind.wrap_i64]; omega), ?_⟩; ((conv=>whnf);repeat(refine .intro rfl ?_;conv=>whnf)))
          refine pwp_ghostB (leB_nil 14 1 (by simp) rfl) ?_
          refine pwp_forH [2, 5, 6, 7, 13, 122, 123, 124, 132] (fun s : Nat => [(14, .own 13 (numsF (fairE A P g) s).length 0 (numsF (fairE A P g) s).length), (133, .sc (.int .i64 s))]) (fun s => [.row true (drow f), .row true [.sc (.slice none 0 0), .sc (.slice none 0 0), .sc (.slice none 0 0), .sc (.slice none 0 0), .sc (.slice none 0 0)], .row false [dints A, .lst 3 (trows P)], .vec false A0.length 1 (i64s A), .vec false P.length 3 (trows P), .row true [.own 7 (stE A P f N).length 0 (stE A P f N).length, .own 8 N 0 N, .own 9 N 0 N, .own 10 N 0 N, .own 11 (fairsE A P (A.length + P.length) k).length 0 (fairsE A P (A.length + P.length) k).length], .vec true 0 1 ((byTab A P N).map fun l => [dints l]), .vec true (stE A P f N).length 1 (i64s (stE A P f N)), .vec true N 1 (growsI (nxE A P N)), .vec true N 1 (u64r (leE A true N)), .vec true N 1 (u64r (leE A false N)), .vec true (fairsE A P (A.length + P.length) k).length 1 (growsI (fairsE A P (A.length + P.length) k)), .row true (drow g), .vec true (numsF (fairE A P g) s).length 1 (i64s (numsF (fairE A P g) s))]) (fun s => s ≤ N) (fun s => N - s) 0 ?_
          ((conv=>whnf);repeat(refine .intro rfl ?_;conv=>whnf))
          refine ⟨by omega, by (repeat' (first | exact trivial | refine And.intro rfl ?_)), rfl, ?_⟩
          rintro s hs
          have hsl2 := numsF_len (fairE A P g) s
          ((conv=>whnf);repeat(refine .intro rfl ?_;conv=>whnf))
          (apply rd_sound; focus (repeat' constructor))
          ((conv=>whnf);repeat(refine .intro rfl ?_;conv=>whnf))
          (refine ifK_split (fun q1 => ?_) (fun q1 => ?_) <;> (rw [q1]; ((conv=>whnf);repeat(refine .intro rfl ?_;conv=>whnf))))
          · have q1 : s < N := by ((try simp only[oo,reduceCtorEq]at*)<;>omega)
            have eG := numsF_succ (fairE A P g) s
            (refine .inl ⟨_, (hFa s), ?_⟩; ((conv=>whnf);repeat(refine .intro rfl ?_;conv=>whnf)))
            cases r : fairE A P g s
            · rw [r, if_neg (by decide)] at eG
              ((conv=>whnf);repeat(refine .intro rfl ?_;conv=>whnf))
              (refine .inl ⟨by (unfold InR; rw [IntKind.wrap_i64]; omega), ?_⟩; ((conv=>whnf);repeat(refine .intro rfl ?_;conv=>whnf)))
              refine ⟨s + 1, by omega, by dsimp only; omega, ?_⟩
              dsimp only
              rw [eG]
              exact leB_envH (by (repeat' (first | exact trivial | refine And.intro rfl ?_))) rfl
            · rw [r, if_pos rfl] at eG
              ((conv=>whnf);repeat(refine .intro rfl ?_;conv=>whnf))
              refine ⟨(by unfold sliceAppend; simp only [ll]; omega), ?_⟩
              ((conv=>whnf);repeat(refine .intro rfl ?_;conv=>whnf))
              (refine .inl ⟨by (unfold InR; rw [IntKind.wrap_i64]; omega), ?_⟩; ((conv=>whnf);repeat(refine .intro rfl ?_;conv=>whnf)))
              refine ⟨s + 1, by omega, by dsimp only; omega, ?_⟩
              dsimp only
              rw [eG]
              rw [show (numsF (fairE A P g) s ++ [(s : Int)]).length = (numsF (fairE A P g) s).length + 1 by simp]
              (refine leB_close 14 (by simp) rfl ?_ ?_ <;> (repeat' (first | exact trivial | exact rfl | exact DeepM.refl _ | exact DeepML.refl _ | exact DeepMLL.refl _ | refine And.intro ?_ ?_ | (simp [Under, UnderL, UnderLL, -List.map_take, -List.map_drop]; done))))
              all_goals
                first | exact underL_pure _ (pure_drow _) | exact under_pure _ (pure_dints _) | exact under_pure _ hmd | exact underLL_pure _ (pure_gridV _) | exact underLL_pure _ (pure_u64r _) | exact underLL_pure _ (pure_growsI _) | exact underLL_pure _ (pureLL_map _ (fun l => by simp [PureL, Pure]) _) | exact deepMLL_eq (u64r_snoc (by simp)) | exact deepM_grow (by simp) rfl rfl rfl | exact deepMLL_eq (i64s_snoc _ _) | skip
          · have q1 : s = N := by have : ¬ s < N := by ((try simp only[oo,reduceCtorEq]at*)<;>omega)
                                  omega
            obtain rfl : N = s := q1.symm
            refine ⟨(by unfold sliceAppend; simp only [ll]; omega), ?_⟩
            ((conv=>whnf);repeat(refine .intro rfl ?_;conv=>whnf))
            (refine .inl ⟨by (unfold InR; rw [IntKind.wrap_i64]; omega), ?_⟩; ((conv=>whnf);repeat(refine .intro rfl ?_;conv=>whnf)))
            refine ⟨k + 1, by omega, by dsimp only; omega, ?_⟩
            dsimp only
            rw [eFa]
            rw [show (fairsE A P (A.length + P.length) k ++ [numsF (fairE A P g) N]).length = (fairsE A P (A.length + P.length) k).length + 1 by simp]
            (refine leB_close 12 (by simp) rfl ?_ ?_ <;> (repeat' (first | exact trivial | exact rfl | exact DeepM.refl _ | exact DeepML.refl _ | exact DeepMLL.refl _ | refine And.intro ?_ ?_ | (simp [Under, UnderL, UnderLL, -List.map_take, -List.map_drop]; done))))
            all_goals
              first | exact underL_pure _ (pure_drow _) | exact under_pure _ (pure_dints _) | exact under_pure _ hmd | exact underLL_pure _ (pure_gridV _) | exact underLL_pure _ (pure_u64r _) | exact underLL_pure _ (pure_growsI _) | exact underLL_pure _ (pureLL_map _ (fun l => by simp [PureL, Pure]) _) | exact deepMLL_eq (u64r_snoc (by simp)) | exact deepM_grow (by simp) rfl rfl rfl | exact deepMLL_eq (i64s_snoc _ _) | skip
      · have q0 : k = P.length := by have : ¬ k < P.length := by ((try simp only[oo,reduceCtorEq]at*)<;>omega)
                                     omega
        subst q0
        have hE := tabE_eq A P f
        rw [h2N] at hE
        rw [hE]
        refine .tup _ _ (.cons _ _ _ _ (.agg _ _ (.cons _ _ _ _ (.own _ _ _ _ _ _ _ _ rfl ?_) (.cons _ _ _ _ (.own _ _ _ _ _ _ _ _ rfl ?_) (.cons _ _ _ _ (.own _ _ _ _ _ _ _ _ rfl ?_) (.cons _ _ _ _ (.own _ _ _ _ _ _ _ _ rfl ?_) (.cons _ _ _ _ (.own _ _ _ _ _ _ _ _ rfl ?_) .nil)))))) (.cons _ _ _ _ (.refl _) .nil))
        · exact deepLL_all (by simp [i64s])
        · exact deepLL_all (by simp)
        · exact deepLL_all (by simp)
        · exact deepLL_all (by simp)
        · exact deepLL_all (by simp)
end Go.Proofs.Ytihgbinhidppdaa
