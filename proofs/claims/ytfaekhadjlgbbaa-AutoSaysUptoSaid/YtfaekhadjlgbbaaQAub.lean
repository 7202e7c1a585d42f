/-
  The reference's question whether an automaton accepts a word, over deep values. No statement is proved here.
-/
import Derived.Test.YtfaekhadjlgbbaaQAuB
import Derived.Test.YtfaekhadjlgbbaaQWj
import Derived.Test.YtfaekhadjlgbbaaQLa
namespace Go.Proofs.Ytfaekhadjlgbbaa
open Go.RowKit
set_option linter.unusedSimpArgs false
set_option linter.unusedVariables false
theorem cellR_snoc (m j : Nat) (l : List Int) (t : Int) : cellR m j (l ++ [t]) = cellR m j l ++ [t * (m : Int) + (j : Int)] := by simp [cellR]
@[simp] theorem cellR_len (m j : Nat) (l : List Int) : (cellR m j l).length = l.length := by simp [cellR]
def sgridR (N m : Nat) (F : List (List Int)) : List (List D) := F.map fun l => [dbl N (setR m l)]
theorem pure_sgridR (N m : Nat) (F : List (List Int)) : PureLL (sgridR N m F) := pureLL_map _ (fun l => by simp [PureL, pure_dbl]) F
@[simp] theorem sgridR_len (N m : Nat) (F : List (List Int)) : (sgridR N m F).length = F.length := by simp [sgridR]
theorem sgridR_snoc {N m k : Nat} {F : List (List Int)} (h : k < F.length) : sgridR N m (F.take (k + 1)) = sgridR N m (F.take k) ++ [[dbl N (setR m (F.getD k []))]] := by
  unfold sgridR
  rw [List.take_add_one, List.getElem?_eq_getElem h, List.map_append, List.getD_eq_getElem?_getD, List.getElem?_eq_getElem h]
  rfl
def c12_3 : PC := .seq (.seq (.ops [⟨some 52,.move (.tmp 11),none,0⟩,
 ⟨some 53,.faddr 1 (.tmp 2),none,0⟩,
 ⟨some 54,.load1 (.tmp 53),none,2⟩,
 ⟨some 55,.move (.tmp 10),none,0⟩,
 ⟨some 56,.iaddr 1 (.tmp 54) (.tmp 55),none,14⟩,
 ⟨some 57,.load1 (.tmp 56),none,30⟩,
 ⟨some 58,.len (.tmp 57),none,62⟩,
 ⟨some 59,.bin .lss (.tmp 52) (.tmp 58),none,127⟩,
 ⟨some 60,.move (.tmp 59),none,255⟩,
 ⟨some 61,.loadA 5 (.tmp 2),some (60,true),511⟩,
 ⟨some 62,.move (.tmp 10),some (60,true),511⟩,
 ⟨some 63,.loadA 2 (.tmp 3),some (60,true),511⟩,
 ⟨some 64,.move (.tmp 8),some (60,true),511⟩,
 ⟨some 65,.call 34 [(.tmp 63), (.tmp 64)],some (60,true),6655⟩,
 ⟨some 66,.call 33 [(.tmp 61), (.tmp 62), (.tmp 65)],some (60,true),16383⟩,
 ⟨some 67,.pick (.tmp 60) (.tmp 66) (.const (.bool false)),none,32767⟩] true) (.cond (.tmp 67) (.skip) (.exit 4))) (.seq (.block 5 (.seq (.ops [⟨some 70,.faddr 1 (.tmp 2),none,0⟩,
 ⟨some 71,.load1 (.tmp 70),none,0⟩,
 ⟨some 72,.move (.tmp 10),none,0⟩,
 ⟨some 73,.iaddr 1 (.tmp 71) (.tmp 72),none,0⟩,
 ⟨some 74,.load1 (.tmp 73),none,0⟩,
 ⟨some 75,.move (.tmp 11),none,0⟩,
 ⟨some 76,.iaddr 1 (.tmp 74) (.tmp 75),none,0⟩,
 ⟨some 77,.load1 (.tmp 76),none,0⟩,
 ⟨some 12,.move (.tmp 77),none,0⟩] false) (.seq (.ops [⟨some 78,.loadA 5 (.tmp 2),none,0⟩,
 ⟨some 79,.move (.tmp 12),none,0⟩,
 ⟨some 80,.loadA 2 (.tmp 3),none,0⟩,
 ⟨some 81,.move (.tmp 9),none,0⟩,
 ⟨some 82,.call 34 [(.tmp 80), (.tmp 81)],none,12⟩,
 ⟨some 83,.call 33 [(.tmp 78), (.tmp 79), (.tmp 82)],none,31⟩] true) (.cond (.tmp 83) (.ops [⟨some 84,.move (.tmp 7),none,0⟩,
 ⟨some 85,.move (.tmp 10),none,0⟩,
 ⟨some 86,.move (.tmp 6),none,0⟩,
 ⟨some 87,.bin .mul (.tmp 85) (.tmp 86),none,0⟩,
 ⟨some 88,.move (.tmp 8),none,0⟩,
 ⟨some 89,.bin .add (.tmp 87) (.tmp 88),none,0⟩,
 ⟨some 90,.move (.tmp 7),none,0⟩,
 ⟨some 91,.move (.tmp 10),none,0⟩,
 ⟨some 92,.move (.tmp 6),none,0⟩,
 ⟨some 93,.bin .mul (.tmp 91) (.tmp 92),none,0⟩,
 ⟨some 94,.move (.tmp 8),none,0⟩,
 ⟨some 95,.bin .add (.tmp 93) (.tmp 94),none,0⟩,
 ⟨some 96,.iaddr 1 (.tmp 90) (.tmp 95),none,0⟩,
 ⟨some 97,.load1 (.tmp 96),none,0⟩,
 ⟨some 98,.move (.tmp 12),none,0⟩,
 ⟨some 99,.move (.tmp 6),none,0⟩,
 ⟨some 100,.bin .mul (.tmp 98) (.tmp 99),none,0⟩,
 ⟨some 101,.move (.tmp 9),none,0⟩,
 ⟨some 102,.bin .add (.tmp 100) (.tmp 101),none,0⟩,
 ⟨some 103,.bslice 1 1 [(.tmp 102)],none,0⟩,
 ⟨some 104,.append 1 8 (.tmp 97) (.tmp 103),none,0⟩,
 ⟨some 105,.iaddr 1 (.tmp 84) (.tmp 89),none,0⟩,
 ⟨none,.store 1 (.tmp 105) (.tmp 104),none,0⟩] false) (.skip))))) (.ops [⟨some 68,.move (.tmp 11),none,0⟩,
 ⟨some 69,.bin .add (.tmp 68) (.const (.int .i64 1)),none,0⟩,
 ⟨some 11,.move (.tmp 69),none,0⟩] false))
def c12_2 : PC := .seq (.seq (.ops [⟨some 47,.move (.tmp 10),none,0⟩,
 ⟨some 48,.move (.tmp 5),none,0⟩,
 ⟨some 49,.bin .lss (.tmp 47) (.tmp 48),none,0⟩] false) (.cond (.tmp 49) (.skip) (.exit 2))) (.seq (.block 3 (.seq (.ops [⟨some 11,.move (.const (.int .i64 0)),none,0⟩] false) (.block 4 (.loop c12_3)))) (.ops [⟨some 50,.move (.tmp 10),none,0⟩,
 ⟨some 51,.bin .add (.tmp 50) (.const (.int .i64 1)),none,0⟩,
 ⟨some 10,.move (.tmp 51),none,0⟩] false))
def c12_1 : PC := .seq (.seq (.ops [⟨some 34,.move (.tmp 8),none,0⟩,
 ⟨some 35,.move (.tmp 6),none,0⟩,
 ⟨some 36,.bin .lss (.tmp 34) (.tmp 35),none,0⟩] false) (.cond (.tmp 36) (.skip) (.exit 0))) (.seq (.block 1 (.seq (.ops [⟨some 39,.move (.tmp 8),none,0⟩,
 ⟨some 40,.bin .add (.tmp 39) (.const (.int .i64 1)),none,0⟩,
 ⟨some 9,.move (.tmp 40),none,0⟩] false) (.seq (.stop (.seq (.ops [⟨some 41,.move (.tmp 9),none,0⟩,
 ⟨some 42,.move (.tmp 6),none,0⟩,
 ⟨some 43,.bin .eql (.tmp 41) (.tmp 42),none,0⟩] false) (.cond (.tmp 43) (.ops [⟨some 44,.faddr 0 (.tmp 3),none,0⟩,
 ⟨some 45,.load1 (.tmp 44),none,0⟩,
 ⟨some 46,.len (.tmp 45),none,0⟩,
 ⟨some 9,.move (.tmp 46),none,0⟩] false) (.skip)))) (.seq (.ops [⟨some 10,.move (.const (.int .i64 0)),none,0⟩] false) (.block 2 (.loop c12_2)))))) (.ops [⟨some 37,.move (.tmp 8),none,0⟩,
 ⟨some 38,.bin .add (.tmp 37) (.const (.int .i64 1)),none,0⟩,
 ⟨some 8,.move (.tmp 38),none,0⟩] false))
def c12_5 : PC := .seq (.seq (.ops [⟨some 124,.move (.tmp 17),none,0⟩,
 ⟨some 125,.move (.tmp 5),none,0⟩,
 ⟨some 126,.move (.tmp 6),none,0⟩,
 ⟨some 127,.bin .mul (.tmp 125) (.tmp 126),none,0⟩,
 ⟨some 128,.bin .lss (.tmp 124) (.tmp 127),none,0⟩] false) (.cond (.tmp 128) (.skip) (.exit 8))) (.seq (.block 9 (.ops [⟨some 131,.move (.tmp 16),none,0⟩,
 ⟨some 132,.move (.tmp 17),none,0⟩,
 ⟨some 133,.move (.tmp 15),none,0⟩,
 ⟨some 134,.move (.tmp 17),none,0⟩,
 ⟨some 135,.move (.tmp 6),none,0⟩,
 ⟨some 136,.bin .quo (.tmp 134) (.tmp 135),none,0⟩,
 ⟨some 137,.iaddr 1 (.tmp 133) (.tmp 136),none,0⟩,
 ⟨some 138,.load1 (.tmp 137),none,0⟩,
 ⟨some 139,.iaddr 1 (.tmp 131) (.tmp 132),none,0⟩,
 ⟨none,.store 1 (.tmp 139) (.tmp 138),none,0⟩] false)) (.ops [⟨some 129,.move (.tmp 17),none,0⟩,
 ⟨some 130,.bin .add (.tmp 129) (.const (.int .i64 1)),none,0⟩,
 ⟨some 17,.move (.tmp 130),none,0⟩] false))
def c12_4 : PC := .seq (.seq (.ops [⟨some 106,.move (.tmp 14),none,0⟩,
 ⟨some 107,.faddr 4 (.tmp 2),none,0⟩,
 ⟨some 108,.load1 (.tmp 107),none,0⟩,
 ⟨some 109,.len (.tmp 108),none,0⟩,
 ⟨some 110,.bin .lss (.tmp 106) (.tmp 109),none,0⟩] false) (.cond (.tmp 110) (.skip) (.exit 6))) (.seq (.block 7 (.seq (.ops [⟨some 113,.faddr 4 (.tmp 2),none,0⟩,
 ⟨some 114,.load1 (.tmp 113),none,0⟩,
 ⟨some 115,.move (.tmp 14),none,0⟩,
 ⟨some 116,.iaddr 1 (.tmp 114) (.tmp 115),none,0⟩,
 ⟨some 117,.load1 (.tmp 116),none,0⟩,
 ⟨some 118,.move (.tmp 5),none,0⟩,
 ⟨some 119,.call 35 [(.tmp 117), (.tmp 118)],none,0⟩,
 ⟨some 15,.move (.tmp 119),none,0⟩] false) (.seq (.ops [⟨some 120,.move (.tmp 5),none,0⟩,
 ⟨some 121,.move (.tmp 6),none,0⟩,
 ⟨some 122,.bin .mul (.tmp 120) (.tmp 121),none,0⟩,
 ⟨some 123,.mslice 1 1 [(.bool false)] (.tmp 122) (.tmp 122),none,0⟩,
 ⟨some 16,.move (.tmp 123),none,0⟩] false) (.seq (.seq (.ops [⟨some 17,.move (.const (.int .i64 0)),none,0⟩] false) (.block 8 (.loop c12_5))) (.ops [⟨some 140,.move (.tmp 13),none,0⟩,
 ⟨some 141,.move (.tmp 16),none,0⟩,
 ⟨some 142,.bslice 1 1 [(.tmp 141)],none,0⟩,
 ⟨some 143,.append 1 24 (.tmp 140) (.tmp 142),none,0⟩,
 ⟨some 13,.move (.tmp 143),none,0⟩] false))))) (.ops [⟨some 111,.move (.tmp 14),none,0⟩,
 ⟨some 112,.bin .add (.tmp 111) (.const (.int .i64 1)),none,0⟩,
 ⟨some 14,.move (.tmp 112),none,0⟩] false))
def c12_6 : PC := .seq (.seq (.ops [⟨some 147,.move (.tmp 19),none,0⟩,
 ⟨some 148,.faddr 0 (.tmp 2),none,0⟩,
 ⟨some 149,.load1 (.tmp 148),none,0⟩,
 ⟨some 150,.len (.tmp 149),none,0⟩,
 ⟨some 151,.bin .lss (.tmp 147) (.tmp 150),none,0⟩] false) (.cond (.tmp 151) (.skip) (.exit 10))) (.seq (.block 11 (.seq (.ops [⟨some 154,.loadA 5 (.tmp 2),none,0⟩,
 ⟨some 155,.faddr 0 (.tmp 2),none,0⟩,
 ⟨some 156,.load1 (.tmp 155),none,2⟩,
 ⟨some 157,.move (.tmp 19),none,0⟩,
 ⟨some 158,.iaddr 1 (.tmp 156) (.tmp 157),none,14⟩,
 ⟨some 159,.load1 (.tmp 158),none,30⟩,
 ⟨some 160,.loadA 2 (.tmp 3),none,0⟩,
 ⟨some 161,.call 34 [(.tmp 160), (.const (.int .i64 0))],none,64⟩,
 ⟨some 162,.call 33 [(.tmp 154), (.tmp 159), (.tmp 161)],none,255⟩,
 ⟨some 163,.move (.tmp 162),none,511⟩,
 ⟨some 164,.move (.tmp 18),some (163,true),1023⟩,
 ⟨some 165,.faddr 0 (.tmp 2),some (163,true),1023⟩,
 ⟨some 166,.load1 (.tmp 165),some (163,true),3071⟩,
 ⟨some 167,.move (.tmp 19),some (163,true),1023⟩,
 ⟨some 168,.iaddr 1 (.tmp 166) (.tmp 167),some (163,true),15359⟩,
 ⟨some 169,.load1 (.tmp 168),some (163,true),31743⟩,
 ⟨some 170,.move (.tmp 6),some (163,true),1023⟩,
 ⟨some 171,.bin .mul (.tmp 169) (.tmp 170),some (163,true),130047⟩,
 ⟨some 172,.iaddr 1 (.tmp 164) (.tmp 171),some (163,true),262143⟩,
 ⟨some 173,.load1 (.tmp 172),some (163,true),524287⟩,
 ⟨some 174,.pick (.tmp 163) (.tmp 173) (.const (.bool false)),none,1048575⟩] true) (.cond (.tmp 174) (.seq (.ops [⟨some 4,.move (.const (.bool true)),none,0⟩] false) (.ret)) (.skip)))) (.ops [⟨some 152,.move (.tmp 19),none,0⟩,
 ⟨some 153,.bin .add (.tmp 152) (.const (.int .i64 1)),none,0⟩,
 ⟨some 19,.move (.tmp 153),none,0⟩] false))
def c12 : PC := .seq (.ops [⟨some 2,.box (.tmp 0),none,0⟩,
 ⟨some 3,.box (.tmp 1),none,0⟩,
 ⟨some 4,.move (.const (.bool false)),none,0⟩] false) (.seq (.ops [⟨some 20,.faddr 1 (.tmp 2),none,0⟩,
 ⟨some 21,.load1 (.tmp 20),none,1⟩,
 ⟨some 22,.len (.tmp 21),none,3⟩,
 ⟨some 23,.faddr 0 (.tmp 3),none,0⟩,
 ⟨some 24,.load1 (.tmp 23),none,8⟩,
 ⟨some 25,.len (.tmp 24),none,24⟩,
 ⟨some 26,.faddr 1 (.tmp 3),none,0⟩,
 ⟨some 27,.load1 (.tmp 26),none,64⟩,
 ⟨some 28,.len (.tmp 27),none,192⟩,
 ⟨some 29,.bin .add (.tmp 25) (.tmp 28),none,504⟩,
 ⟨some 5,.move (.tmp 22),none,7⟩,
 ⟨some 6,.move (.tmp 29),none,2047⟩] true) (.seq (.ops [⟨some 30,.move (.tmp 5),none,0⟩,
 ⟨some 31,.move (.tmp 6),none,0⟩,
 ⟨some 32,.bin .mul (.tmp 30) (.tmp 31),none,0⟩,
 ⟨some 33,.mslice 1 24 [(.slice none 0 0)] (.tmp 32) (.tmp 32),none,0⟩,
 ⟨some 7,.move (.tmp 33),none,0⟩] false) (.seq (.seq (.ops [⟨some 8,.move (.const (.int .i64 0)),none,0⟩] false) (.stop (.block 0 (.loop c12_1)))) (.seq (.ops [⟨some 13,.move (.const (.slice none 0 0)),none,0⟩] false) (.seq (.seq (.ops [⟨some 14,.move (.const (.int .i64 0)),none,0⟩] false) (.block 6 (.loop c12_4))) (.seq (.ops [⟨some 144,.move (.tmp 7),none,0⟩,
 ⟨some 145,.move (.tmp 13),none,0⟩,
 ⟨some 146,.call 36 [(.tmp 144), (.tmp 145)],none,0⟩,
 ⟨some 18,.move (.tmp 146),none,0⟩] false) (.seq (.seq (.ops [⟨some 19,.move (.const (.int .i64 0)),none,0⟩] false) (.block 10 (.loop c12_6))) (.seq (.ops [⟨some 4,.move (.const (.bool false)),none,0⟩] false) (.ret)))))))))
set_option maxRecDepth 100000 in
theorem c12_ok : FunOK Try.prog 12 175 [.tmp 4] c12 := ⟨⟨Try.f12, Try.func12, rfl, by kernel_rfl, rfl, by kernel_rfl⟩⟩
set_option maxRecDepth 100000 in
theorem ref_Accepts (A : AutoD) (hc : A.chk = 0) (hT : A.Tame) (hM : Lett A.must) (s l : List Int) (hw : wchk s l = 0) (b : Bool)
    (hb : b = true ↔ ∃ t ∈ A.start, fitsV A t.toNat (atW s l 0) = true ∧ Fw (prodR A (atW s l) s.length l.length) (A.fair.map (setR (s.length + l.length))) (t.toNat * (s.length + l.length))) :
    PCall Try.prog 12 [dauto A, dword s l] (.sc (.bool b)) := by
  obtain ⟨hm, hnn, h2048, h80, hst, hin, hfr⟩ := chk_auto A hc
  obtain ⟨h60, h1⟩ := (wchk_zero s l).1 hw
  have hF : FitsG A.next := ⟨by omega, fun l hl => by have := hT.next l hl; omega⟩
  have hFF : FitsG A.fair := ⟨by omega, fun l hl => by have := hT.fair l hl; omega⟩
  have hsl := hT.start
  have hrow := fun k => inB_row hin k
  have hnm : A.next.length * (s.length + l.length) ≤ 2048 * 60 := Nat.mul_le_mul h2048 h60
  have hAt := fun i (hi : i ≤ 1000000000) => ref_At s l h1 (by omega) (by omega) i hi
  have hLe := fun s (hs : s < A.next.length) x => ref_Letter A hm hnn hM s hs x
  have hMk := fun k (hk : k < A.fair.length) => ref_Marked (A.fair.getD k []) A.next.length (by omega) (hFF.at k) (inB_row hfr k)
  have hcw := pure_wcells s l
  have hgr := fun i s' k => gridR_len A (atW s l) s.length l.length i s' k
  have hz0 := gridR_zero A (atW s l) s.length l.length
  have hdone := gridR_done A (atW s l) (a := s.length) h1
  have hset := fun i s' j k (hs : s' < A.next.length) (hi : i < s.length + l.length) => gridR_set (A := A) (f := atW s l) (a := s.length) (p := l.length) (i := i) (s := s') (k := j) (k' := k) hs hi
  have hgat := fun i s' k (hs : s' < A.next.length) (hi : i < s.length + l.length) => gridR_at (A := A) (f := atW s l) (a := s.length) (p := l.length) (i := i) (s := s') (k := k) hs hi
  have hnext := fun i s' k => gridR_next (A := A) (f := atW s l) (a := s.length) (p := l.length) (i := i) (s := s') (k := k)
  have hturn := fun i => gridR_turn A (atW s l) s.length l.length i
  obtain ⟨f1, f2⟩ := prodR_fine hin hT.next (atW s l) (a := s.length) h1
  have hRl := prodR_len A (atW s l) s.length l.length
  have hRF : FitsG (prodR A (atW s l) s.length l.length) := ⟨by omega, fun l hl => by have := f2 l hl; omega⟩
  have hWa := ref_WaysG (prodR A (atW s l) s.length l.length) (by omega) f1 hRF (A.fair.map (setR (s.length + l.length))) (by rw [List.length_map]; omega)
  refine pcall_intro c12_ok (by simp) (by simp [PureL, Pure, pure_dauto, pure_dword]) ?_ (by simp [Pure])
  unfold dauto dword wcells dlet at *
  (apply rd_sound; focus (repeat' constructor))
  ((conv=>whnf);repeat(refine .intro rfl ?_;conv=>whnf))
  rw [List.length_map, List.length_map, List.length_map]
  (refine .inl ⟨by (unfold InR; rw [IntKind.wrap_i64]; omega), ?_⟩; ((conv=>whnf);repeat(refine .intro rfl ?_;conv=>whnf)))
  rw [show ((A.next.length : Int) * ((s.length : Int) + (l.length : Int))) = ((A.next.length * (s.length + l.length) : Nat) : Int) by rw [Int.natCast_mul, Int.natCast_add]]
  (refine .inl ⟨by (unfold InR; rw [IntKind.wrap_i64]; omega), ?_⟩; ((conv=>whnf);repeat(refine .intro rfl ?_;conv=>whnf)))
  generalize hN : A.next.length * (s.length + l.length) = N at *
  refine ⟨by omega, by omega, by omega, ?_⟩
  rw [Int.toNat_natCast]
  ((conv=>whnf);repeat(refine .intro rfl ?_;conv=>whnf))
  obtain ⟨W, hW⟩ : ∃ W : List D, W = [D.lst 1 (List.map (fun n => [D.sc (.int .u64 n)]) s), D.lst 1 (List.map (fun n => [D.sc (.int .u64 n)]) l)] := ⟨_, rfl⟩
  rw [← hW] at hcw hAt ⊢
  refine pwp_cut (fun _ : Unit => [(2, .loc 0 0), (3, .loc 1 0), (5, .sc (.int .i64 A.next.length)), (6, .sc (.int .i64 ((s.length : Int) + l.length))), (7, .own 2 0 0 N)]) (fun _ => [.row true A.cells, .row true W, .vec true 0 1 ((prodR A (atW s l) s.length l.length).map fun l => [dints l])]) (fun _ => True) ?_ ?_
  · (apply rd_sound; focus (repeat' constructor))
    ((conv=>whnf);repeat(refine .intro rfl ?_;conv=>whnf))
    refine pwp_ghostB (leB_nils 2 1 N 0 (by simp) rfl) ?_
    refine pwp_forH [2, 3, 5, 6, 7] (fun i : Nat => [(8, .sc (.int .i64 i))]) (fun i => .row true A.cells :: .row true W :: .vec true 0 1 (ogRows 3 (gridR A (atW s l) s.length l.length i 0 0)) :: ogObjs 1 ncell (gridR A (atW s l) s.length l.length i 0 0)) (fun i => i ≤ s.length + l.length) (fun i => s.length + l.length - i) 0 ?_
    ((conv=>whnf);repeat(refine .intro rfl ?_;conv=>whnf))
    refine ⟨by omega, by (repeat' (first | exact trivial | refine And.intro rfl ?_)), ?_, ?_⟩
    · rw [hz0]
      show _ :: _ :: _ :: _ = _ :: _ :: _ :: _
      rw [ogObjs_nils 1 _ ncell]
      exact congrArg (fun x => _ :: _ :: AObj.vec true 0 1 x :: _) (ogRows_nils (α := Int) 3 _)
    rintro i hi
    ((conv=>whnf);repeat(refine .intro rfl ?_;conv=>whnf))
    (apply rd_sound; focus (repeat' constructor))
    ((conv=>whnf);repeat(refine .intro rfl ?_;conv=>whnf))
    (refine ifK_split (fun q0 => ?_) (fun q0 => ?_) <;> (rw [q0]; ((conv=>whnf);repeat(refine .intro rfl ?_;conv=>whnf))))
    · have q0 : i < s.length + l.length := by ((try simp only[oo,reduceCtorEq]at*)<;>omega)
      (refine .inl ⟨by (unfold InR; rw [IntKind.wrap_i64]; omega), ?_⟩; ((conv=>whnf);repeat(refine .intro rfl ?_;conv=>whnf)))
      refine pwp_cut (fun _ : Unit => [(2, .loc 0 0), (3, .loc 1 0), (5, .sc (.int .i64 A.next.length)), (6, .sc (.int .i64 ((s.length : Int) + l.length))), (7, .own 2 0 0 N), (8, .sc (.int .i64 i)), (9, .sc (.int .i64 (thenW s.length l.length i)))])
        (fun _ => .row true A.cells :: .row true W :: .vec true 0 1 (ogRows 3 (gridR A (atW s l) s.length l.length i 0 0)) :: ogObjs 1 ncell (gridR A (atW s l) s.length l.length i 0 0)) (fun _ => True) ?_ ?_
      · (apply rd_sound; focus (repeat' constructor))
        ((conv=>whnf);repeat(refine .intro rfl ?_;conv=>whnf))
        (refine ifK_split (fun q1 => ?_) (fun q1 => ?_) <;> (rw [q1]; ((conv=>whnf);repeat(refine .intro rfl ?_;conv=>whnf))))
        · have e : thenW s.length l.length i = s.length := by unfold thenW; rw [if_pos (by ((try simp only[oo,reduceCtorEq]at*)<;>omega))]
          rw [e, hW]
          ((conv=>whnf);repeat(refine .intro rfl ?_;conv=>whnf))
          rw [List.length_map]
          exact ⟨(), trivial, leB_env (by (repeat' (first | exact trivial | refine And.intro rfl ?_)))⟩
        · have e : thenW s.length l.length i = i + 1 := by unfold thenW; rw [if_neg (by ((try simp only[oo,reduceCtorEq]at*)<;>omega))]
          rw [e]
          exact ⟨(), trivial, leB_env (by (repeat' (first | exact trivial | refine And.intro rfl ?_)))⟩
      rintro _ _
      have hth := thenW_lt (a := s.length) h1 q0
      ((conv=>whnf);repeat(refine .intro rfl ?_;conv=>whnf))
      refine pwp_forH [2, 3, 5, 6, 7, 8, 9] (fun t : Nat => [(10, .sc (.int .i64 t))]) (fun t => .row true A.cells :: .row true W :: .vec true 0 1 (ogRows 3 (gridR A (atW s l) s.length l.length i t 0)) :: ogObjs 1 ncell (gridR A (atW s l) s.length l.length i t 0)) (fun t => t ≤ A.next.length) (fun t => A.next.length - t) 0 ?_
      ((conv=>whnf);repeat(refine .intro rfl ?_;conv=>whnf))
      refine ⟨by omega, by (repeat' (first | exact trivial | refine And.intro rfl ?_)), rfl, ?_⟩
      rintro t ht
      ((conv=>whnf);repeat(refine .intro rfl ?_;conv=>whnf))
      (apply rd_sound; focus (repeat' constructor))
      ((conv=>whnf);repeat(refine .intro rfl ?_;conv=>whnf))
      (refine ifK_split (fun q1 => ?_) (fun q1 => ?_) <;> (rw [q1]; ((conv=>whnf);repeat(refine .intro rfl ?_;conv=>whnf))))
      · have q1 : t < A.next.length := by ((try simp only[oo,reduceCtorEq]at*)<;>omega)
        have hgF := hF.at t
        have hnode := node_lt (n := s.length + l.length) (m := A.next.length) q0 q1
        rw [Nat.mul_comm (s.length + l.length), hN] at hnode
        refine pwp_forH [2, 3, 5, 6, 7, 8, 9, 10] (fun j : Nat => [(11, .sc (.int .i64 j))]) (fun j => .row true A.cells :: .row true W :: .vec true 0 1 (ogRows 3 (gridR A (atW s l) s.length l.length i t j)) :: ogObjs 1 ncell (gridR A (atW s l) s.length l.length i t j)) (fun j => j ≤ (A.next.getD t []).length) (fun j => (A.next.getD t []).length - j) 0 ?_
        ((conv=>whnf);repeat(refine .intro rfl ?_;conv=>whnf))
        refine ⟨by omega, by (repeat' (first | exact trivial | refine And.intro rfl ?_)), rfl, ?_⟩
        rintro j hj
        ((conv=>whnf);repeat(refine .intro rfl ?_;conv=>whnf))
        (apply rd_sound; focus (repeat' constructor))
        ((conv=>whnf);repeat(refine .intro rfl ?_;conv=>whnf))
        refine ⟨by omega, _, gridD_at (g := A.next) (k := t) (by omega) q1, ?_⟩
        ((conv=>whnf);repeat(refine .intro rfl ?_;conv=>whnf))
        rw [List.length_map]
        have hA1 := hAt i (by omega)
        have hA2 := hAt (thenW s.length l.length i) (by omega)
        have hL1 := hLe t q1 (atW s l i)
        unfold du at hA1 hA2
        subst hW
        (refine ifK_split (fun q2 => ?_) (fun q2 => ?_) <;> (rw [q2]; ((conv=>whnf);repeat(refine .intro rfl ?_;conv=>whnf))))
        · have q2 : j < (A.next.getD t []).length := by ((try simp only[oo,reduceCtorEq]at*)<;>omega)
          (refine .inl ⟨_, hA1, ?_⟩; ((conv=>whnf);repeat(refine .intro rfl ?_;conv=>whnf)))
          (refine .inl ⟨_, hL1, ?_⟩; ((conv=>whnf);repeat(refine .intro rfl ?_;conv=>whnf)))
          cases r : fitsV A t (atW s l i)
          · ((conv=>whnf);repeat(refine .intro rfl ?_;conv=>whnf))
            rw [hnext i t j (by rw [← nextsT_all, nextsT_no r, nextsT_no r])]
            (refine .inl ⟨by (unfold InR; rw [IntKind.wrap_i64]; omega), ?_⟩; ((conv=>whnf);repeat(refine .intro rfl ?_;conv=>whnf)))
            exact ⟨t + 1, by omega, by dsimp only; omega, leB_envH (by (repeat' (first | exact trivial | refine And.intro rfl ?_))) rfl⟩
          · ((conv=>whnf);repeat(refine .intro rfl ?_;conv=>whnf))
            have eS := nextsT_succ (a := s.length) (p := l.length) r q2
            have hx := inB_mem (hrow t) (mem_getD q2)
            have hrl := nextsT_len A (atW s l) s.length l.length t i j
            refine ⟨by omega, _, gridD_at (g := A.next) (k := t) (by omega) q1, ?_⟩
            ((conv=>whnf);repeat(refine .intro rfl ?_;conv=>whnf))
            refine ⟨by omega, _, intsD_at (l := A.next.getD t []) (k := j) (by omega) q2, ?_⟩
            ((conv=>whnf);repeat(refine .intro rfl ?_;conv=>whnf))
            generalize (A.next.getD t []).getD j 0 = x at *
            have hL2 := hLe x.toNat (by omega) (atW s l (thenW s.length l.length i))
            rw [Int.toNat_of_nonneg hx.1] at hL2
            (refine .inl ⟨_, hA2, ?_⟩; ((conv=>whnf);repeat(refine .intro rfl ?_;conv=>whnf)))
            (refine .inl ⟨_, hL2, ?_⟩; ((conv=>whnf);repeat(refine .intro rfl ?_;conv=>whnf)))
            cases r2 : fitsV A x.toNat (atW s l (thenW s.length l.length i))
            · rw [r2, if_neg (by decide)] at eS
              ((conv=>whnf);repeat(refine .intro rfl ?_;conv=>whnf))
              (refine .inl ⟨by (unfold InR; rw [IntKind.wrap_i64]; omega), ?_⟩; ((conv=>whnf);repeat(refine .intro rfl ?_;conv=>whnf)))
              have hsame : gridR A (atW s l) s.length l.length i t (j + 1) = gridR A (atW s l) s.length l.length i t j := by
                unfold gridR
                refine List.map_congr_left fun x _ => ?_
                unfold curR
                rw [eS]
              refine ⟨j + 1, by omega, by dsimp only; omega, leB_envH (by (repeat' (first | exact trivial | refine And.intro rfl ?_))) ?_⟩
              dsimp only
              rw [hsame]
            · rw [r2, if_pos rfl] at eS
              have hst2 := hset i t j (j + 1) q1 q0
              rw [eS, cellR_snoc] at hst2
              have hgk := hgat i t j q1 q0
              have hlen := hgr i t j
              have hcl := cellR_len (s.length + l.length) (thenW s.length l.length i) (nextsT A (atW s l) s.length l.length t i j)
              generalize hcv : cellR (s.length + l.length) (thenW s.length l.length i) (nextsT A (atW s l) s.length l.length t i j) = C at *
              have e1 : (t : Int) * ((s.length : Int) + (l.length : Int)) = ((t * (s.length + l.length) : Nat) : Int) := by rw [Int.natCast_mul, Int.natCast_add]
              have hth2 := node_lt (n := s.length + l.length) (m := A.next.length) (k := x.toNat) hth (by omega)
              rw [Nat.mul_comm (s.length + l.length), hN] at hth2
              have e2 : x * ((s.length : Int) + (l.length : Int)) = ((x.toNat * (s.length + l.length) : Nat) : Int) := by rw [Int.natCast_mul, Int.natCast_add, Int.toNat_of_nonneg hx.1]
              rw [show x * ((s.length + l.length : Nat) : Int) = ((x.toNat * (s.length + l.length) : Nat) : Int) by rw [Int.natCast_add, e2]] at hst2
              generalize hR2 : gridR A (atW s l) s.length l.length i t (j + 1) = R2 at *
              generalize hR : gridR A (atW s l) s.length l.length i t j = R at *
              ((conv=>whnf);repeat(refine .intro rfl ?_;conv=>whnf))
              rw [e1]
              generalize hv : t * (s.length + l.length) = v at *
              generalize x.toNat * (s.length + l.length) = v2 at *
              (refine .inl ⟨by (unfold InR; rw [IntKind.wrap_i64]; omega), ?_⟩; ((conv=>whnf);repeat(refine .intro rfl ?_;conv=>whnf)))
              (refine .inl ⟨by (unfold InR; rw [IntKind.wrap_i64]; omega), ?_⟩; ((conv=>whnf);repeat(refine .intro rfl ?_;conv=>whnf)))
              rw [e1]
              (refine .inl ⟨by (unfold InR; rw [IntKind.wrap_i64]; omega), ?_⟩; ((conv=>whnf);repeat(refine .intro rfl ?_;conv=>whnf)))
              (refine .inl ⟨by (unfold InR; rw [IntKind.wrap_i64]; omega), ?_⟩; ((conv=>whnf);repeat(refine .intro rfl ?_;conv=>whnf)))
              (refine ⟨by omega, (by first | omega | (simp; done) | (simp; omega) | (simp only [ll]; omega)), ?_⟩; ((conv=>whnf);repeat(refine .intro rfl ?_;conv=>whnf)))
              refine ⟨_, ogRows_at (i := v + i) (by omega) (by omega), ?_⟩
              ((conv=>whnf);repeat(refine .intro rfl ?_;conv=>whnf))
              rw [e2]
              (refine .inl ⟨by (unfold InR; rw [IntKind.wrap_i64]; omega), ?_⟩; ((conv=>whnf);repeat(refine .intro rfl ?_;conv=>whnf)))
              (refine .inl ⟨by (unfold InR; rw [IntKind.wrap_i64]; omega), ?_⟩; ((conv=>whnf);repeat(refine .intro rfl ?_;conv=>whnf)))
              refine og_push ?_
              ((conv=>whnf);repeat(refine .intro rfl ?_;conv=>whnf))
              (repeat (first | (refine og_getE 0 rfl ?_; ((conv=>whnf);repeat(refine .intro rfl ?_;conv=>whnf))) | (refine og_putE 0 rfl ?_; ((conv=>whnf);repeat(refine .intro rfl ?_;conv=>whnf))) | (refine og_getE 1 rfl ?_; ((conv=>whnf);repeat(refine .intro rfl ?_;conv=>whnf))) | (refine og_putE 1 rfl ?_; ((conv=>whnf);repeat(refine .intro rfl ?_;conv=>whnf)))))
              refine og_getT (by omega) ?_
              ((conv=>whnf);repeat(refine .intro rfl ?_;conv=>whnf))
              rw [hgk]
              refine ⟨by unfold sliceAppend; simp only [List.length_drop, List.length_take, List.length_cons, List.length_nil]; omega, ?_⟩
              ((conv=>whnf);repeat(refine .intro rfl ?_;conv=>whnf))
              refine og_putT (C ++ [(v2 : Int) + (thenW s.length l.length i : Int)]) (by omega) ?_ ?_
              · exact og_app
              ((conv=>whnf);repeat(refine .intro rfl ?_;conv=>whnf))
              (refine ⟨by omega, (by first | omega | (simp; done) | (simp; omega) | (simp only [ll]; omega)), ?_⟩; ((conv=>whnf);repeat(refine .intro rfl ?_;conv=>whnf)))
              refine ⟨_, ogRows_at (i := v + i) (by omega) (by omega), ?_⟩
              ((conv=>whnf);repeat(refine .intro rfl ?_;conv=>whnf))
              (refine .inl ⟨by (unfold InR; rw [IntKind.wrap_i64]; omega), ?_⟩; ((conv=>whnf);repeat(refine .intro rfl ?_;conv=>whnf)))
              refine ⟨j + 1, by omega, by dsimp only; omega, ?_⟩
              dsimp only
              rw [hR2]
              have hl2 : R2.length = N := by rw [← hst2, List.length_set, hlen]
              refine leB_close (N + 3) (by simp [hN]) (by simp [hl2]) (by (repeat' (first | exact trivial | exact rfl | exact DeepM.refl _ | exact DeepML.refl _ | exact DeepMLL.refl _ | refine And.intro ?_ ?_ | (simp [Under, UnderL, UnderLL, -List.map_take, -List.map_drop]; done)))) ⟨⟨rfl, .refl _, underL_pure _ (pure_aucells A)⟩, ⟨rfl, .refl _, underL_pure _ hcw⟩, ⟨rfl, rfl, rfl, deepMLL_eq ?_, underLL_ogRows (by rw [← hst2, List.length_set]; omega)⟩, by rw [← hst2]; exact closeH_og under_ncell⟩
              rw [← hst2]
              exact (ogRows_set (by omega) (by omega) (C ++ [(v2 : Int) + (thenW s.length l.length i : Int)]) (by simp))
        · have q2 : j = (A.next.getD t []).length := by have : ¬ j < (A.next.getD t []).length := by ((try simp only[oo,reduceCtorEq]at*)<;>omega)
                                                        omega
          subst q2
          rw [hnext i t _ (nextsT_all ..)]
          (refine .inl ⟨by (unfold InR; rw [IntKind.wrap_i64]; omega), ?_⟩; ((conv=>whnf);repeat(refine .intro rfl ?_;conv=>whnf)))
          exact ⟨t + 1, by omega, by dsimp only; omega, leB_envH (by (repeat' (first | exact trivial | refine And.intro rfl ?_))) rfl⟩
      · have q1 : t = A.next.length := by have : ¬ t < A.next.length := by ((try simp only[oo,reduceCtorEq]at*)<;>omega)
                                          omega
        subst q1
        rw [hturn]
        (refine .inl ⟨by (unfold InR; rw [IntKind.wrap_i64]; omega), ?_⟩; ((conv=>whnf);repeat(refine .intro rfl ?_;conv=>whnf)))
        exact ⟨i + 1, by omega, by dsimp only; omega, leB_envH (by (repeat' (first | exact trivial | refine And.intro rfl ?_))) rfl⟩
    · have q0 : i = s.length + l.length := by have : ¬ i < s.length + l.length := by ((try simp only[oo,reduceCtorEq]at*)<;>omega)
                                              omega
      subst q0
      rw [hdone]
      refine ⟨(), trivial, leB_close 3 (by simp) rfl (by (repeat' (first | exact trivial | exact rfl | exact DeepM.refl _ | exact DeepML.refl _ | exact DeepMLL.refl _ | refine And.intro ?_ ?_ | (simp [Under, UnderL, UnderLL, -List.map_take, -List.map_drop]; done)))) ⟨⟨rfl, .refl _, underL_pure _ (pure_aucells A)⟩, ⟨rfl, .refl _, underL_pure _ hcw⟩, ⟨rfl, rfl, rfl, deepM_ogRows (c := ncell) (fun i hi => by simp [fromN]) (fun i hi => ?_), underLL_pure _ (pure_gridV _)⟩, closeH_nil _⟩⟩
      show (ogObjs 1 ncell (prodR A (atW s l) s.length l.length))[i]? = _
      exact ogObjs_at hi
  · intro _ _
    ((conv=>whnf);repeat(refine .intro rfl ?_;conv=>whnf))
    have hm0 : 0 < s.length + l.length := by omega
    have em : ((s.length : Int) + (l.length : Int)) = ((s.length + l.length : Nat) : Int) := by rw [Int.natCast_add]
    rw [em]
    generalize hmm : s.length + l.length = m at *
    refine pwp_ghostB (leB_nil 13 1 (by simp) rfl) ?_
    refine pwp_for [2, 3, 5, 6, 7] (fun k : Nat => [(13, .own 3 k 0 k), (14, .sc (.int .i64 k))]) (fun k => [(3, .vec true k 1 (sgridR N m (A.fair.take k)))]) (fun k => k ≤ A.fair.length) (fun k => A.fair.length - k) 0 ?_
    ((conv=>whnf);repeat(refine .intro rfl ?_;conv=>whnf))
    refine ⟨by omega, by (repeat' (first | exact trivial | refine And.intro rfl ?_)), rfl, ?_⟩
    rintro k hk
    ((conv=>whnf);repeat(refine .intro rfl ?_;conv=>whnf))
    (apply rd_sound; focus (repeat' constructor))
    ((conv=>whnf);repeat(refine .intro rfl ?_;conv=>whnf))
    rw [List.length_map]
    (refine ifK_split (fun q0 => ?_) (fun q0 => ?_) <;> (rw [q0]; ((conv=>whnf);repeat(refine .intro rfl ?_;conv=>whnf))))
    · have q0 : k < A.fair.length := by ((try simp only[oo,reduceCtorEq]at*)<;>omega)
      have hMe := hMk k q0
      have eS := sgridR_snoc (N := N) (m := m) q0
      have hinl := inB_row hfr k
      refine ⟨by omega, _, gridD_at (g := A.fair) (k := k) (by omega) q0, ?_⟩
      ((conv=>whnf);repeat(refine .intro rfl ?_;conv=>whnf))
      (refine .inl ⟨_, hMe, ?_⟩; ((conv=>whnf);repeat(refine .intro rfl ?_;conv=>whnf)))
      generalize A.fair.getD k [] = q at *
      rw [show (A.next.length : Int) * (m : Int) = (N : Int) by rw [← hN, Int.natCast_mul]]
      (refine .inl ⟨by (unfold InR; rw [IntKind.wrap_i64]; omega), ?_⟩; ((conv=>whnf);repeat(refine .intro rfl ?_;conv=>whnf)))
      refine ⟨by omega, by omega, by omega, ?_⟩
      rw [Int.toNat_natCast, show List.map D.sc [Value.bool false] = [D.sc (.bool false)] from rfl, rbl_rep]
      ((conv=>whnf);repeat(refine .intro rfl ?_;conv=>whnf))
      refine pwp_for [2, 3, 5, 6, 7, 13, 14, 15, 16] (fun j : Nat => [(17, .sc (.int .i64 j))]) (fun j => [(4, .vec true 0 1 (rbl N fun v => decide (v < j) && setR m q v))]) (fun j => j ≤ N) (fun j => N - j) 0 ?_
      ((conv=>whnf);repeat(refine .intro rfl ?_;conv=>whnf))
      refine ⟨by omega, by (repeat' (first | exact trivial | refine And.intro rfl ?_)), by simp; rfl, ?_⟩
      rintro j hj
      ((conv=>whnf);repeat(refine .intro rfl ?_;conv=>whnf))
      (apply rd_sound; focus (repeat' constructor))
      ((conv=>whnf);repeat(refine .intro rfl ?_;conv=>whnf))
      rw [show (A.next.length : Int) * (m : Int) = (N : Int) by rw [← hN, Int.natCast_mul]]
      (refine .inl ⟨by (unfold InR; rw [IntKind.wrap_i64]; omega), ?_⟩; ((conv=>whnf);repeat(refine .intro rfl ?_;conv=>whnf)))
      (refine ifK_split (fun q1 => ?_) (fun q1 => ?_) <;> (rw [q1]; ((conv=>whnf);repeat(refine .intro rfl ?_;conv=>whnf))))
      · have q1 : j < N := by ((try simp only[oo,reduceCtorEq]at*)<;>omega)
        have hd : j / m < A.next.length := Nat.div_lt_of_lt_mul (by rw [Nat.mul_comm, hN]; exact q1)
        have fin : (rbl N fun v => decide (v < j) && setR m q v).set j [.sc (.bool (setB q (j / m)))] = rbl N fun v => decide (v < j + 1) && setR m q v := rbl_put rfl fun v _ => by
          by_cases e : v = j
          · subst e; rw [if_pos rfl, decide_eq_true (by omega), Bool.true_and]; rfl
          · rw [if_neg e, show decide (v < j + 1) = decide (v < j) by rw [decide_eq_decide]; omega]
        refine ⟨by omega, ?_⟩
        rw [show (j : Int).tdiv (m : Int) = ((j / m : Nat) : Int) from rfl]
        generalize hjm : j / m = jm at *
        (refine .inl ⟨by (unfold InR; rw [IntKind.wrap_i64]; omega), ?_⟩; ((conv=>whnf);repeat(refine .intro rfl ?_;conv=>whnf)))
        refine ⟨by omega, _, rbl_atN jm (by omega) hd, ?_⟩
        ((conv=>whnf);repeat(refine .intro rfl ?_;conv=>whnf))
        (refine ⟨by omega, (by first | omega | (simp; done) | (simp; omega) | (simp only [ll]; omega)), ?_⟩; ((conv=>whnf);repeat(refine .intro rfl ?_;conv=>whnf)))
        refine ⟨_, rbl_atN j (by omega) q1, ?_⟩
        ((conv=>whnf);repeat(refine .intro rfl ?_;conv=>whnf))
        (refine .inl ⟨by (unfold InR; rw [IntKind.wrap_i64]; omega), ?_⟩; ((conv=>whnf);repeat(refine .intro rfl ?_;conv=>whnf)))
        refine ⟨j + 1, by omega, by dsimp only; omega, leB_envH (by (repeat' (first | exact trivial | refine And.intro rfl ?_))) ?_⟩
        rw [Nat.zero_add, show (j : Int).toNat = j from Int.toNat_natCast j, fin]
        rfl
      · have q1 : j = N := by have : ¬ j < N := by ((try simp only[oo,reduceCtorEq]at*)<;>omega)
                              omega
        rw [q1]
        clear q1 hj
        refine ⟨(by unfold sliceAppend; simp only [ll]; omega), ?_⟩
        ((conv=>whnf);repeat(refine .intro rfl ?_;conv=>whnf))
        (refine .inl ⟨by (unfold InR; rw [IntKind.wrap_i64]; omega), ?_⟩; ((conv=>whnf);repeat(refine .intro rfl ?_;conv=>whnf)))
        refine ⟨k + 1, by omega, by dsimp only; omega, ?_⟩
        dsimp only
        (refine leB_close 4 (by simp) rfl ?_ ?_ <;> (repeat' (first | exact trivial | exact rfl | exact DeepM.refl _ | exact DeepML.refl _ | exact DeepMLL.refl _ | refine And.intro ?_ ?_ | (simp [Under, UnderL, UnderLL, -List.map_take, -List.map_drop]; done))))
        all_goals first | exact underL_pure _ hcw | exact underL_pure _ (pure_aucells A) | exact underLL_pure _ (pure_gridV _) | exact underLL_pure _ (pure_sgridR _ _ _) | skip
        rw [eS]
        exact .append _ _ _ _ (deepMLL_eq (drop_take_all (by simp; omega))) (.cons _ _ _ _ (.cons _ _ _ _ (.own _ _ _ _ _ _ _ _ rfl rfl (deepMLL_eq (by rw [rbl_all]; exact rbl_congr fun v hv => by rw [decide_eq_true hv, Bool.true_and]))) (.refl _)) (.refl _))
    have q0 : k = A.fair.length := by have : ¬ k < A.fair.length := by ((try simp only[oo,reduceCtorEq]at*)<;>omega)
                                      omega
    subst q0
    rw [List.take_length]
    have hdl : dbls N (A.fair.map (setR m)) = D.lst 1 (sgridR N m A.fair) := by unfold dbls sgridR; rw [List.map_map]; rfl
    rw [hRl, hdl, ← gridV_cut (L := prodR A (atW s l) s.length l.length) hRl.symm] at hWa
    (refine .inr (.inr (.inr (.inr (.inl ⟨_, _, _, (acallAt_frz (args0 := [.own 0 0 0 N, .own 1 A.fair.length 0 A.fair.length]) (H0 := [.vec true 0 1 ((prodR A (atW s l) s.length l.length).map fun l => [dints l]), .vec true A.fair.length 1 (sgridR N m A.fair)])
      (.cons _ _ _ _ (.own _ _ _ _ _ _ _ _ rfl (deepLL_refl _)) (.cons _ _ _ _ (.own _ _ _ _ _ _ _ _ rfl (by rw [drop_take_all (by simp)]; exact deepLL_refl _)) .nil)) hWa (pure_dbl _ _) [2, 3] rfl (by decide) (by simp [UnderL, Under]) ⟨underLL_pure _ (pure_gridV _), underLL_pure _ (pure_sgridR _ _ _), trivial⟩ rfl (fun i o ho => by
        rcases i with _ | _ | i
        · simp at ho; subst ho; simp only [AObj.ren, renLL_pure _ (pure_gridV _)]; rfl
        · simp at ho; subst ho; simp only [AObj.ren, renLL_pure _ (pure_sgridR _ _ _)]; rfl
        · simp at ho)), ?_⟩)))); ((conv=>whnf);repeat(refine .intro rfl ?_;conv=>whnf)))
    have hA0 := hAt 0 (by omega)
    unfold du at hA0
    clear hAt
    subst hW
    refine pwp_for [2, 3, 6, 18] (fun k : Nat => [(19, .sc (.int .i64 k))]) (fun _ => []) (fun k => k ≤ A.start.length ∧ ∀ j, j < k → ¬ (fitsV A (A.start.getD j 0).toNat (atW s l 0) = true ∧ Fw (prodR A (atW s l) s.length l.length) (A.fair.map (setR m)) ((A.start.getD j 0).toNat * m))) (fun k => A.start.length - k) 0 ?_
    ((conv=>whnf);repeat(refine .intro rfl ?_;conv=>whnf))
    refine ⟨⟨by omega, fun j hj => by omega⟩, by (repeat' (first | exact trivial | refine And.intro rfl ?_)), rfl, ?_⟩
    rintro k ⟨hk, hall⟩
    ((conv=>whnf);repeat(refine .intro rfl ?_;conv=>whnf))
    (apply rd_sound; focus (repeat' constructor))
    ((conv=>whnf);repeat(refine .intro rfl ?_;conv=>whnf))
    rw [List.length_map]
    (refine ifK_split (fun q0 => ?_) (fun q0 => ?_) <;> (rw [q0]; ((conv=>whnf);repeat(refine .intro rfl ?_;conv=>whnf))))
    · have q0 : k < A.start.length := by ((try simp only[oo,reduceCtorEq]at*)<;>omega)
      have hx := inB_mem hst (mem_getD q0)
      have hno : ¬ (fitsV A (A.start.getD k 0).toNat (atW s l 0) = true ∧ Fw (prodR A (atW s l) s.length l.length) (A.fair.map (setR m)) ((A.start.getD k 0).toNat * m)) → ∀ j, j < k + 1 → ¬ (fitsV A (A.start.getD j 0).toNat (atW s l 0) = true ∧ Fw (prodR A (atW s l) s.length l.length) (A.fair.map (setR m)) ((A.start.getD j 0).toNat * m)) := fun h j hj => by
        by_cases e : j = k
        · subst e; exact h
        · exact hall j (by omega)
      have hyes : fitsV A (A.start.getD k 0).toNat (atW s l 0) = true → Fw (prodR A (atW s l) s.length l.length) (A.fair.map (setR m)) ((A.start.getD k 0).toNat * m) → b = true := fun h1 h2 => hb.2 ⟨_, mem_getD q0, h1, h2⟩
      refine ⟨by omega, _, intsD_at (l := A.start) (k := k) (by omega) q0, ?_⟩
      ((conv=>whnf);repeat(refine .intro rfl ?_;conv=>whnf))
      clear hall
      have hL1 := hLe (A.start.getD k 0).toNat (by omega) (atW s l 0)
      rw [Int.toNat_of_nonneg hx.1] at hL1
      (refine .inl ⟨_, hA0, ?_⟩; ((conv=>whnf);repeat(refine .intro rfl ?_;conv=>whnf)))
      (refine .inl ⟨_, hL1, ?_⟩; ((conv=>whnf);repeat(refine .intro rfl ?_;conv=>whnf)))
      cases r : fitsV A (A.start.getD k 0).toNat (atW s l 0)
      · ((conv=>whnf);repeat(refine .intro rfl ?_;conv=>whnf))
        (refine .inl ⟨by (unfold InR; rw [IntKind.wrap_i64]; omega), ?_⟩; ((conv=>whnf);repeat(refine .intro rfl ?_;conv=>whnf)))
        exact ⟨k + 1, ⟨by omega, hno fun q => by rw [r] at q; cases q.1⟩, by dsimp only; omega, leB_envH (by (repeat' (first | exact trivial | refine And.intro rfl ?_))) rfl⟩
      · ((conv=>whnf);repeat(refine .intro rfl ?_;conv=>whnf))
        refine ⟨by omega, _, intsD_at (l := A.start) (k := k) (by omega) q0, ?_⟩
        ((conv=>whnf);repeat(refine .intro rfl ?_;conv=>whnf))
        have hlt : (A.start.getD k 0).toNat * m < N := by
          have := node_lt (n := m) (m := A.next.length) (k := (A.start.getD k 0).toNat) hm0 (by omega)
          rw [Nat.mul_comm m, hN] at this
          omega
        rw [show A.start.getD k 0 * (m : Int) = (((A.start.getD k 0).toNat * m : Nat) : Int) by rw [Int.natCast_mul, Int.toNat_of_nonneg hx.1]]
        generalize hv : (A.start.getD k 0).toNat * m = v at *
        (refine .inl ⟨by (unfold InR; rw [IntKind.wrap_i64]; omega), ?_⟩; ((conv=>whnf);repeat(refine .intro rfl ?_;conv=>whnf)))
        refine ⟨by omega, _, rbl_atN v (by omega) hlt, ?_⟩
        ((conv=>whnf);repeat(refine .intro rfl ?_;conv=>whnf))
        cases r2 : fwB (prodR A (atW s l) s.length l.length) (A.fair.map (setR m)) v
        · ((conv=>whnf);repeat(refine .intro rfl ?_;conv=>whnf))
          (refine .inl ⟨by (unfold InR; rw [IntKind.wrap_i64]; omega), ?_⟩; ((conv=>whnf);repeat(refine .intro rfl ?_;conv=>whnf)))
          exact ⟨k + 1, ⟨by omega, hno fun q => by rw [← fwB_iff, r2] at q; cases q.2⟩, by dsimp only; omega, leB_envH (by (repeat' (first | exact trivial | refine And.intro rfl ?_))) rfl⟩
        · ((conv=>whnf);repeat(refine .intro rfl ?_;conv=>whnf))
          rw [hyes r (fwB_iff.1 r2)]
          exact .refl _
    · have q0 : k = A.start.length := by have : ¬ k < A.start.length := by ((try simp only[oo,reduceCtorEq]at*)<;>omega)
                                         omega
      subst q0
      have : b = false := by
        rw [← Bool.not_eq_true, hb]
        rintro ⟨t, ht, h1, h2⟩
        obtain ⟨j, hj, rfl⟩ := getD_mem ht
        exact hall j hj ⟨h1, h2⟩
      rw [this]
      exact .refl _
end Go.Proofs.Ytfaekhadjlgbbaa
