/-
  An automaton of one set for many: the program's Single, over deep values. No statement is proved here.
-/
import Derived.Test.YtfaekhadjlgbbaaQNb4
namespace Go.Proofs.Ytfaekhadjlgbbaa
open Go.RowKit
set_option linter.unusedSimpArgs false
set_option linter.unusedVariables false
def letsAt (M : List Int) (L : List Pr) (k : Nat) : List Int := (L.take k).map fun p => M.getD p.1.toNat 0
theorem letsAt_succ {M : List Int} {L : List Pr} {k : Nat} (h : k < L.length) : letsAt M L (k + 1) = letsAt M L k ++ [M.getD (L.getD k (0, 0)).1.toNat 0] := by
  unfold letsAt
  rw [List.take_add_one, List.getElem?_eq_getElem h, List.map_append, List.getD_eq_getElem?_getD (l := L), List.getElem?_eq_getElem h]
  rfl
theorem letsAt_len {M : List Int} {L : List Pr} {k : Nat} (h : k ≤ L.length) : (letsAt M L k).length = k := by simp [letsAt]; omega
def u64s (l : List Int) : List (List D) := l.map fun n => [.sc (.int .u64 n)]
@[simp] theorem u64s_len (l : List Int) : (u64s l).length = l.length := by simp [u64s]
theorem pure_u64s (l : List Int) : PureLL (u64s l) := pureLL_map _ (fun _ => by simp [PureL, Pure]) _
@[simp] theorem underLL_u64s {m : Nat} (l : List Int) : UnderLL m (u64s l) ↔ True := ⟨fun _ => trivial, fun _ => underLL_pure _ (pure_u64s l)⟩
theorem u64s_snoc (l : List Int) (x : Int) {k : Nat} (h : l.length = k) : List.drop 0 (List.take k (u64s l)) ++ List.drop 0 (List.take 1 [[D.sc (.int .u64 x)]]) = u64s (l ++ [x]) := by
  subst h
  rw [drop_take_all (by simp)]
  simp [u64s]
/-- Is a pair one of the new set? -/
def isS (F : List (List Int)) (p : Pr) : Bool := p.2 == 0 && (F.length == 0 || setB (F.getD 0 []) p.1.toNat)
def fairK (F : List (List Int)) (L : List Pr) (k : Nat) : List Int := ((List.range k).filter fun i => isS F (L.getD i (0, 0))).map fun i : Nat => (i : Int)
theorem fairK_succ (F : List (List Int)) (L : List Pr) (k : Nat) : fairK F L (k + 1) = if isS F (L.getD k (0, 0)) = true then fairK F L k ++ [(k : Int)] else fairK F L k := by
  unfold fairK
  rw [List.range_succ, List.filter_append, List.map_append]
  simp only [List.filter_cons, List.filter_nil]
  split <;> simp
theorem fairK_len (F : List (List Int)) (L : List Pr) (k : Nat) : (fairK F L k).length ≤ k := by
  unfold fairK
  rw [List.length_map]
  exact Nat.le_trans (List.length_filter_le _ _) (by simp)
def inK (n : Nat) (F : List (List Int)) (k : Nat) : List (List D) := (List.range F.length).map fun j => if j < k then [dbl n (setB (F.getD j []))] else [nilV]
theorem inK_set {n : Nat} {F : List (List Int)} {k : Nat} (h : k < F.length) : (inK n F k).set k [dbl n (setB (F.getD k []))] = inK n F (k + 1) := by
  apply List.ext_getElem?
  intro i
  rw [List.getElem?_set]
  unfold inK
  by_cases hi : i < F.length
  · by_cases e : k = i
    · subst e
      rw [if_pos rfl, if_pos (by simpa using hi), List.getElem?_map, List.getElem?_range hi, Option.map_some, if_pos (by omega)]
    · rw [if_neg e, List.getElem?_map, List.getElem?_map, List.getElem?_range hi, Option.map_some, Option.map_some]
      by_cases q : i < k
      · rw [if_pos q, if_pos (by omega)]
      · rw [if_neg q, if_neg (by omega)]
  · rw [List.getElem?_eq_none (l := (List.range F.length).map _) (by simp; omega), List.getElem?_eq_none (l := (List.range F.length).map _) (by simp; omega)]
    split
    · simp; omega
    · rfl
theorem inK_all (n : Nat) (F : List (List Int)) : inK n F F.length = sgridS n F := by
  unfold inK sgridS
  apply List.ext_getElem?
  intro i
  by_cases hi : i < F.length
  · rw [List.getElem?_map, List.getElem?_range hi, List.getElem?_map, List.getElem?_eq_getElem hi, Option.map_some, Option.map_some, if_pos hi, List.getD_eq_getElem?_getD, List.getElem?_eq_getElem hi]
    rfl
  · rw [List.getElem?_eq_none (by simp; omega), List.getElem?_eq_none (by simp; omega)]
theorem inK_zero (n : Nat) (F : List (List Int)) : inK n F 0 = List.replicate F.length [nilV] := by
  unfold inK
  apply List.ext_getElem?
  intro i
  by_cases hi : i < F.length
  · rw [List.getElem?_map, List.getElem?_range hi, Option.map_some, if_neg (by omega), List.getElem?_replicate, if_pos hi]
  · rw [List.getElem?_eq_none (by simp; omega), List.getElem?_eq_none (by simp; omega)]
theorem inK_at {n : Nat} {F : List (List Int)} {k z : Nat} (hz : z = k) (h : k < F.length) : (inK n F k)[z]? = some [nilV] := by
  subst hz
  unfold inK
  rw [List.getElem?_map, List.getElem?_range h, Option.map_some, if_neg (by omega)]
def beginS (A : AutoD) (k : Nat) : List Pr := (A.start.take k).map fun s => (s, 0)
theorem beginS_succ {A : AutoD} {k : Nat} (h : k < A.start.length) : beginS A (k + 1) = beginS A k ++ [(A.start.getD k 0, 0)] := by
  unfold beginS
  rw [List.take_add_one, List.getElem?_eq_getElem h, List.map_append, List.getD_eq_getElem?_getD, List.getElem?_eq_getElem h]
  rfl
theorem beginS_len {A : AutoD} {k : Nat} (h : k ≤ A.start.length) : (beginS A k).length = k := by simp [beginS]; omega
theorem beginS_good {A : AutoD} (hst : inB A.start A.next.length = true) (k : Nat) : ∀ p ∈ beginS A k, GoodS A p := by
  intro p hp
  obtain ⟨s, hs, rfl⟩ := List.mem_map.1 hp
  have hx := inB_mem hst (List.mem_of_mem_take hs)
  refine ⟨hx.1, hx.2, by simp, ?_⟩
  show (0 : Int) < _ ∨ _
  by_cases q : A.fair.length = 0
  · exact .inr ⟨q, rfl⟩
  · left; omega
def emptyA : AutoD := ⟨[], [], [], [], []⟩
/-- What Single answers of a right automaton. -/
def outS (A : AutoD) : D := match runR (nxS A) 2050 0 (pPut (beginS A A.start.length) [] []).1 [] with
  | some (L, T) => .tup [dauto ⟨(pPut (beginS A A.start.length) [] []).2, T, letsAt A.must L L.length, letsAt A.nots L L.length, [fairK A.fair L L.length]⟩, .sc (.int .i64 0)]
  | none => .tup [dauto emptyA, .sc (.int .i64 2)]
theorem pure_outS (A : AutoD) : Pure (outS A) := by unfold outS; split <;> simp [Pure, PureL, pure_dauto]
/-- The maker's memory behind five other things. -/
noncomputable def mheap5 (L : List Pr) (S : D) (T : List (List Int)) : List AObj :=
  [.mapo true (mapIs Try.prog 69 (fP L)), .row true [.mp 5, .own 7 L.length 0 L.length, S, .own 8 T.length 0 T.length, nilV, nilV, nilV], .vec true L.length 2 (prows L), .vec true T.length 1 (growsI T)]
@[simp] theorem mheap5_len (L : List Pr) (S : D) (T : List (List Int)) : (mheap5 L S T).length = 4 := rfl
theorem mheap5_eq {L : List Pr} {S : D} (hS : Pure S) {T : List (List Int)} : (mheap L S T).map (AObj.ren fun i => 5 + i) = mheap5 L S T := by
  simp only [mheap, mheap5, mbox, List.map_cons, List.map_nil, AObj.ren, renL, D.ren, renLL_pure _ (pure_prows L), renLL_pure _ (pure_growsI T), ren_pure _ hS, ren_nilV]
def c13_1 : PC := .seq (.ops [⟨some 30,.bin .lss (.tmp 29) (.tmp 28),none,0⟩] false) (.seq (.cond (.tmp 30) (.skip) (.exit 0)) (.seq (.block 1 (.seq (.ops [⟨some 31,.move (.tmp 29),none,0⟩,
 ⟨some 32,.iaddr 1 (.tmp 27) (.tmp 29),none,0⟩,
 ⟨some 33,.load1 (.tmp 32),none,0⟩,
 ⟨some 6,.move (.tmp 31),none,0⟩,
 ⟨some 7,.move (.tmp 33),none,0⟩] false) (.ops [⟨some 34,.load1 (.tmp 5),none,0⟩,
 ⟨some 35,.move (.tmp 6),none,0⟩,
 ⟨some 36,.move (.tmp 7),none,0⟩,
 ⟨some 37,.faddr 1 (.tmp 1),none,0⟩,
 ⟨some 38,.load1 (.tmp 37),none,8⟩,
 ⟨some 39,.len (.tmp 38),none,24⟩,
 ⟨some 40,.call 37 [(.tmp 36), (.tmp 39)],none,60⟩,
 ⟨some 41,.iaddr 1 (.tmp 34) (.tmp 35),none,127⟩,
 ⟨none,.store 1 (.tmp 41) (.tmp 40),none,255⟩] true))) (.ops [⟨some 42,.bin .add (.tmp 29) (.const (.int .i64 1)),none,0⟩,
 ⟨some 29,.move (.tmp 42),none,0⟩] false)))
def c13_2 : PC := .seq (.ops [⟨some 48,.bin .lss (.tmp 47) (.tmp 46),none,0⟩] false) (.seq (.cond (.tmp 48) (.skip) (.exit 2)) (.seq (.block 3 (.seq (.ops [⟨some 49,.iaddr 1 (.tmp 45) (.tmp 47),none,0⟩,
 ⟨some 50,.load1 (.tmp 49),none,0⟩,
 ⟨some 11,.move (.tmp 50),none,0⟩] false) (.ops [⟨some 51,.move (.tmp 9),none,0⟩,
 ⟨some 52,.move (.tmp 11),none,0⟩,
 ⟨some 53,.build [(.int .i64 0), (.int .i64 0)] [(0, 1, (.tmp 52)), (1, 1, (.const (.int .i64 0)))],none,0⟩,
 ⟨some 54,.bslice 2 1 [(.tmp 53)],none,0⟩,
 ⟨some 55,.append 2 16 (.tmp 51) (.tmp 54),none,0⟩,
 ⟨some 9,.move (.tmp 55),none,0⟩] false))) (.ops [⟨some 56,.bin .add (.tmp 47) (.const (.int .i64 1)),none,0⟩,
 ⟨some 47,.move (.tmp 56),none,0⟩] false)))
def c13_3 : PC := .seq (.ops [⟨some 72,.bin .lss (.tmp 71) (.tmp 70),none,0⟩] false) (.seq (.cond (.tmp 72) (.skip) (.exit 4)) (.seq (.block 5 (.seq (.ops [⟨some 73,.move (.tmp 71),none,0⟩,
 ⟨some 74,.iaddr 2 (.tmp 69) (.tmp 71),none,0⟩,
 ⟨some 75,.loadA 2 (.tmp 74),none,0⟩,
 ⟨some 15,.alloc [(.int .i64 0), (.int .i64 0)],none,0⟩,
 ⟨some 14,.move (.tmp 73),none,0⟩,
 ⟨none,.store 2 (.tmp 15) (.tmp 75),none,0⟩] false) (.seq (.ops [⟨some 76,.move (.tmp 12),none,0⟩,
 ⟨some 77,.move (.tmp 12),none,0⟩,
 ⟨some 78,.nilchk (.tmp 77),none,2⟩,
 ⟨some 79,.faddr 2 (.tmp 78),none,6⟩,
 ⟨some 80,.faddr 2 (.tmp 79),none,14⟩,
 ⟨some 81,.load1 (.tmp 80),none,30⟩,
 ⟨some 82,.faddr 2 (.tmp 1),none,0⟩,
 ⟨some 83,.load1 (.tmp 82),none,64⟩,
 ⟨some 84,.faddr 0 (.tmp 15),none,0⟩,
 ⟨some 85,.load1 (.tmp 84),none,256⟩,
 ⟨some 86,.iaddr 1 (.tmp 83) (.tmp 85),none,960⟩,
 ⟨some 87,.load1 (.tmp 86),none,1984⟩,
 ⟨some 88,.bslice 1 1 [(.tmp 87)],none,4032⟩,
 ⟨some 89,.append 1 8 (.tmp 81) (.tmp 88),none,8190⟩,
 ⟨some 90,.nilchk (.tmp 76),none,16383⟩,
 ⟨some 91,.faddr 2 (.tmp 90),none,32767⟩,
 ⟨some 92,.faddr 2 (.tmp 91),none,65535⟩,
 ⟨none,.store 1 (.tmp 92) (.tmp 89),none,131071⟩] true) (.seq (.ops [⟨some 93,.move (.tmp 12),none,0⟩,
 ⟨some 94,.move (.tmp 12),none,0⟩,
 ⟨some 95,.nilchk (.tmp 94),none,2⟩,
 ⟨some 96,.faddr 2 (.tmp 95),none,6⟩,
 ⟨some 97,.faddr 3 (.tmp 96),none,14⟩,
 ⟨some 98,.load1 (.tmp 97),none,30⟩,
 ⟨some 99,.faddr 3 (.tmp 1),none,0⟩,
 ⟨some 100,.load1 (.tmp 99),none,64⟩,
 ⟨some 101,.faddr 0 (.tmp 15),none,0⟩,
 ⟨some 102,.load1 (.tmp 101),none,256⟩,
 ⟨some 103,.iaddr 1 (.tmp 100) (.tmp 102),none,960⟩,
 ⟨some 104,.load1 (.tmp 103),none,1984⟩,
 ⟨some 105,.bslice 1 1 [(.tmp 104)],none,4032⟩,
 ⟨some 106,.append 1 8 (.tmp 98) (.tmp 105),none,8190⟩,
 ⟨some 107,.nilchk (.tmp 93),none,16383⟩,
 ⟨some 108,.faddr 2 (.tmp 107),none,32767⟩,
 ⟨some 109,.faddr 3 (.tmp 108),none,65535⟩,
 ⟨none,.store 1 (.tmp 109) (.tmp 106),none,131071⟩] true) (.seq (.ops [⟨some 110,.faddr 1 (.tmp 15),none,0⟩,
 ⟨some 111,.load1 (.tmp 110),none,1⟩,
 ⟨some 112,.bin .eql (.tmp 111) (.const (.int .i64 0)),none,3⟩,
 ⟨some 113,.move (.tmp 112),none,7⟩,
 ⟨some 114,.load1 (.tmp 5),some (113,true),15⟩,
 ⟨some 115,.len (.tmp 114),some (113,true),31⟩,
 ⟨some 116,.bin .eql (.tmp 115) (.const (.int .i64 0)),some (113,true),63⟩,
 ⟨some 117,.move (.tmp 116),some (113,true),127⟩,
 ⟨some 118,.load1 (.tmp 5),some (117,false),255⟩,
 ⟨some 119,.iaddr 1 (.tmp 118) (.const (.int .i64 0)),some (117,false),511⟩,
 ⟨some 120,.load1 (.tmp 119),some (117,false),1023⟩,
 ⟨some 121,.faddr 0 (.tmp 15),some (117,false),255⟩,
 ⟨some 122,.load1 (.tmp 121),some (117,false),2303⟩,
 ⟨some 123,.iaddr 1 (.tmp 120) (.tmp 122),some (117,false),8191⟩,
 ⟨some 124,.load1 (.tmp 123),some (117,false),16383⟩,
 ⟨some 125,.pick (.tmp 117) (.const (.bool true)) (.tmp 124),some (113,true),32767⟩,
 ⟨some 126,.pick (.tmp 113) (.tmp 125) (.const (.bool false)),none,65535⟩] true) (.cond (.tmp 126) (.ops [⟨some 127,.move (.tmp 13),none,0⟩,
 ⟨some 128,.move (.tmp 14),none,0⟩,
 ⟨some 129,.bslice 1 1 [(.tmp 128)],none,0⟩,
 ⟨some 130,.append 1 8 (.tmp 127) (.tmp 129),none,0⟩,
 ⟨some 13,.move (.tmp 130),none,0⟩] false) (.skip))))))) (.ops [⟨some 131,.bin .add (.tmp 71) (.const (.int .i64 1)),none,0⟩,
 ⟨some 71,.move (.tmp 131),none,0⟩] false)))
def c13 : PC := .seq (.ops [⟨some 1,.box (.tmp 0),none,0⟩,
 ⟨some 2,.alloc [(.slice none 0 0), (.slice none 0 0), (.slice none 0 0), (.slice none 0 0), (.slice none 0 0)],none,0⟩,
 ⟨some 3,.move (.const (.int .i64 0)),none,0⟩] false) (.seq (.seq (.ops [⟨some 16,.loadA 5 (.tmp 1),none,0⟩,
 ⟨some 17,.call 10 [(.tmp 16)],none,0⟩,
 ⟨some 4,.move (.tmp 17),none,0⟩] false) (.seq (.ops [⟨some 18,.move (.tmp 4),none,0⟩,
 ⟨some 19,.bin .neq (.tmp 18) (.const (.int .i64 0)),none,0⟩] false) (.cond (.tmp 19) (.seq (.ops [⟨some 20,.build [(.slice none 0 0), (.slice none 0 0), (.slice none 0 0), (.slice none 0 0), (.slice none 0 0)] [],none,0⟩,
 ⟨some 21,.move (.tmp 4),none,0⟩,
 ⟨none,.store 5 (.tmp 2) (.tmp 20),none,0⟩,
 ⟨some 3,.move (.tmp 21),none,0⟩] false) (.ret)) (.skip)))) (.seq (.ops [⟨some 22,.faddr 4 (.tmp 1),none,0⟩,
 ⟨some 23,.load1 (.tmp 22),none,0⟩,
 ⟨some 24,.len (.tmp 23),none,0⟩,
 ⟨some 25,.mslice 1 24 [(.slice none 0 0)] (.tmp 24) (.tmp 24),none,0⟩,
 ⟨some 5,.alloc [(.slice none 0 0)],none,0⟩,
 ⟨none,.store 1 (.tmp 5) (.tmp 25),none,0⟩] false) (.seq (.seq (.ops [⟨some 26,.faddr 4 (.tmp 1),none,0⟩,
 ⟨some 27,.load1 (.tmp 26),none,0⟩,
 ⟨some 28,.len (.tmp 27),none,0⟩,
 ⟨some 29,.move (.const (.int .i64 0)),none,0⟩] false) (.block 0 (.loop c13_1))) (.seq (.ops [⟨some 43,.mkfn (.func 38) [] [(.tmp 5), (.tmp 1)],none,0⟩,
 ⟨some 8,.move (.tmp 43),none,0⟩] false) (.seq (.ops [⟨some 9,.move (.const (.slice none 0 0)),none,0⟩] false) (.seq (.seq (.ops [⟨some 44,.faddr 0 (.tmp 1),none,0⟩,
 ⟨some 45,.load1 (.tmp 44),none,0⟩,
 ⟨some 46,.len (.tmp 45),none,0⟩,
 ⟨some 47,.move (.const (.int .i64 0)),none,0⟩] false) (.block 2 (.loop c13_2))) (.seq (.ops [⟨some 57,.mkmap 69,none,0⟩,
 ⟨some 58,.build [(.map none), (.slice none 0 0), (.slice none 0 0), (.slice none 0 0), (.slice none 0 0), (.slice none 0 0), (.slice none 0 0)] [(0, 1, (.tmp 57))],none,0⟩,
 ⟨some 59,.box (.tmp 58),none,0⟩,
 ⟨some 12,.move (.tmp 59),none,0⟩] false) (.seq (.seq (.stop (.ops [⟨some 60,.move (.tmp 12),none,0⟩,
 ⟨some 61,.move (.tmp 9),none,0⟩,
 ⟨some 62,.move (.tmp 8),none,0⟩,
 ⟨some 63,.call 39 [(.tmp 60), (.tmp 61), (.tmp 62)],none,0⟩,
 ⟨some 64,.un .not (.tmp 63),none,0⟩] false)) (.cond (.tmp 64) (.seq (.ops [⟨some 65,.build [(.slice none 0 0), (.slice none 0 0), (.slice none 0 0), (.slice none 0 0), (.slice none 0 0)] [],none,0⟩,
 ⟨none,.store 5 (.tmp 2) (.tmp 65),none,0⟩,
 ⟨some 3,.move (.const (.int .i64 2)),none,0⟩] false) (.ret)) (.skip))) (.seq (.stop (.ops [⟨some 13,.move (.const (.slice none 0 0)),none,0⟩] false)) (.seq (.seq (.ops [⟨some 66,.move (.tmp 12),none,0⟩,
 ⟨some 67,.nilchk (.tmp 66),none,0⟩,
 ⟨some 68,.faddr 1 (.tmp 67),none,0⟩,
 ⟨some 69,.load1 (.tmp 68),none,0⟩,
 ⟨some 70,.len (.tmp 69),none,0⟩,
 ⟨some 71,.move (.const (.int .i64 0)),none,0⟩] false) (.block 4 (.loop c13_3))) (.seq (.ops [⟨some 132,.move (.tmp 12),none,0⟩,
 ⟨some 133,.move (.tmp 13),none,0⟩,
 ⟨some 134,.bslice 1 1 [(.tmp 133)],none,0⟩,
 ⟨some 135,.nilchk (.tmp 132),none,0⟩,
 ⟨some 136,.faddr 2 (.tmp 135),none,0⟩,
 ⟨some 137,.faddr 4 (.tmp 136),none,0⟩,
 ⟨none,.store 1 (.tmp 137) (.tmp 134),none,0⟩] false) (.seq (.ops [⟨some 138,.move (.tmp 12),none,0⟩,
 ⟨some 139,.nilchk (.tmp 138),none,0⟩,
 ⟨some 140,.faddr 2 (.tmp 139),none,0⟩,
 ⟨some 141,.loadA 5 (.tmp 140),none,0⟩,
 ⟨none,.store 5 (.tmp 2) (.tmp 141),none,0⟩,
 ⟨some 3,.move (.const (.int .i64 0)),none,0⟩] false) (.ret)))))))))))))
set_option maxRecDepth 100000 in
theorem c13_ok : FunOK Try.prog 13 142 [.agg 2 5, .tmp 3] c13 := ⟨⟨Try.f13, Try.func13, rfl, by kernel_rfl, rfl, by kernel_rfl⟩⟩
set_option maxRecDepth 100000 in
theorem au_Single (A : AutoD) (hA : A.Fits) (hc : A.chk = 0) (hsl : A.start.length ≤ 1048576) (hrl : ∀ l ∈ A.next, l.length ≤ 1048576) : PCall Try.prog 13 [dauto A] (outS A) := by
  obtain ⟨hm, hnn, h2048, h80, hst, hin, hfr⟩ := chk_auto A hc
  have hF : FitsG A.next := ⟨hA.next, hA.nextEach⟩
  have hFF : FitsG A.fair := ⟨hA.fair, hA.fairEach⟩
  have hC := au_Check A hA
  rw [hc] at hC
  have hmem := fun k (hk : k < A.fair.length) => au_member (A.fair.getD k []) A.next.length (by omega) (hFF.at k) (inB_row hfr k)
  refine pcall_intro c13_ok (by simp) (by simp [PureL, pure_dauto]) ?_ (pure_outS A)
  have hpu := pure_aucells A
  unfold dauto at *
  (apply rd_sound; focus (repeat' constructor))
  ((conv=>whnf);repeat(refine .intro rfl ?_;conv=>whnf))
  (refine .inl ⟨_, hC, ?_⟩; ((conv=>whnf);repeat(refine .intro rfl ?_;conv=>whnf)))
  rw [List.length_map]
  refine ⟨by omega, by omega, by omega, ?_⟩
  rw [Int.toNat_natCast, show List.map D.sc [Value.slice none 0 0] = [nilV] from rfl, ← inK_zero A.next.length]
  ((conv=>whnf);repeat(refine .intro rfl ?_;conv=>whnf))
  rw [List.length_map]
  refine pwp_for [1, 2, 5, 27, 28] (fun k : Nat => [(29, .sc (.int .i64 k))]) (fun k => [(2, .vec true 0 1 (inK A.next.length A.fair k))]) (fun k => k ≤ A.fair.length) (fun k => A.fair.length - k) 0 ?_
  ((conv=>whnf);repeat(refine .intro rfl ?_;conv=>whnf))
  refine ⟨by omega, by (repeat' (first | exact trivial | refine And.intro rfl ?_)), rfl, ?_⟩
  rintro k hk
  ((conv=>whnf);repeat(refine .intro rfl ?_;conv=>whnf))
  (apply rd_sound; focus (repeat' constructor))
  ((conv=>whnf);repeat(refine .intro rfl ?_;conv=>whnf))
  (refine ifK_split (fun q0 => ?_) (fun q0 => ?_) <;> (rw [q0]; ((conv=>whnf);repeat(refine .intro rfl ?_;conv=>whnf))))
  · have q0 : k < A.fair.length := by ((try simp only[oo,reduceCtorEq]at*)<;>omega)
    refine ⟨by omega, _, gridD_at (g := A.fair) (k := k) (by omega) q0, ?_⟩
    ((conv=>whnf);repeat(refine .intro rfl ?_;conv=>whnf))
    rw [List.length_map]
    (refine .inl ⟨_, (hmem k q0), ?_⟩; ((conv=>whnf);repeat(refine .intro rfl ?_;conv=>whnf)))
    (refine ⟨by omega, (by first | omega | (simp; done) | (simp; omega) | (simp only [ll]; omega)), ?_⟩; ((conv=>whnf);repeat(refine .intro rfl ?_;conv=>whnf)))
    refine ⟨_, inK_at (k := k) (by omega) q0, ?_⟩
    ((conv=>whnf);repeat(refine .intro rfl ?_;conv=>whnf))
    (refine .inl ⟨by (unfold InR; rw [IntKind.wrap_i64]; omega), ?_⟩; ((conv=>whnf);repeat(refine .intro rfl ?_;conv=>whnf)))
    refine ⟨k + 1, by omega, by dsimp only; omega, leB_envH (by (repeat' (first | exact trivial | refine And.intro rfl ?_))) ?_⟩
    rw [Nat.zero_add, show (k : Int).toNat = k from Int.toNat_natCast k, inK_set q0]
    rfl
  have q0 : k = A.fair.length := by have : ¬ k < A.fair.length := by ((try simp only[oo,reduceCtorEq]at*)<;>omega)
                                    omega
  subst q0
  rw [inK_all]
  refine pwp_ghostB (leB_nil 9 2 (by simp) rfl) ?_
  refine pwp_for [1, 2, 5, 8, 45, 46] (fun k : Nat => [(9, .own 4 k 0 k), (47, .sc (.int .i64 k))]) (fun k => [(4, .vec true k 2 (prows (beginS A k)))]) (fun k => k ≤ A.start.length) (fun k => A.start.length - k) 0 ?_
  ((conv=>whnf);repeat(refine .intro rfl ?_;conv=>whnf))
  refine ⟨by omega, by (repeat' (first | exact trivial | refine And.intro rfl ?_)), rfl, ?_⟩
  rintro k hk
  ((conv=>whnf);repeat(refine .intro rfl ?_;conv=>whnf))
  (apply rd_sound; focus (repeat' constructor))
  ((conv=>whnf);repeat(refine .intro rfl ?_;conv=>whnf))
  rw [List.length_map]
  (refine ifK_split (fun q0 => ?_) (fun q0 => ?_) <;> (rw [q0]; ((conv=>whnf);repeat(refine .intro rfl ?_;conv=>whnf))))
  · have q0 : k < A.start.length := by ((try simp only[oo,reduceCtorEq]at*)<;>omega)
    have eS := beginS_succ q0
    have hbl := beginS_len hk
    refine ⟨by omega, _, intsD_at (l := A.start) (k := k) (by omega) q0, ?_⟩
    ((conv=>whnf);repeat(refine .intro rfl ?_;conv=>whnf))
    refine ⟨(by unfold sliceAppend; simp only [ll]; omega), ?_⟩
    ((conv=>whnf);repeat(refine .intro rfl ?_;conv=>whnf))
    (refine .inl ⟨by (unfold InR; rw [IntKind.wrap_i64]; omega), ?_⟩; ((conv=>whnf);repeat(refine .intro rfl ?_;conv=>whnf)))
    refine ⟨k + 1, by omega, by dsimp only; omega, ?_⟩
    dsimp only
    rw [eS]
    (refine leB_close 5 (by simp) rfl ?_ ?_ <;> (repeat' (first | exact trivial | exact rfl | exact DeepM.refl _ | exact DeepML.refl _ | exact DeepMLL.refl _ | refine And.intro ?_ ?_ | (simp [Under, UnderL, UnderLL, -List.map_take, -List.map_drop]; done))))
    all_goals first | exact underL_pure _ hpu | exact underLL_pure _ (pure_sgridS _ _) | exact deepMLL_eq (prows_snoc hbl.symm)
  have q0 : k = A.start.length := by have : ¬ k < A.start.length := by ((try simp only[oo,reduceCtorEq]at*)<;>omega)
                                     omega
  subst q0
  have hbl := beginS_len (A := A) (Nat.le_refl A.start.length)
  have hbg := beginS_good hst A.start.length
  unfold outS
  generalize hS : beginS A A.start.length = S at *
  have hnl : ∀ p, GoodS A p → (∀ q ∈ nxS A p, GoodS A q) ∧ (nxS A p).length ≤ 100000000000 := fun p hp => ⟨hp.next hin, by unfold nxS; rw [List.length_map]; have := row_le hrl p.1.toNat; omega⟩
  have hMd := au_made S (nxS A) (GoodS A) (fun p hp => hp.wf h2048 h80) hbg hnl (by omega) 38 [.ipt [.lst 1 (sgridS A.next.length A.fair)], .ipt A.cells] (by simp [PureL, Pure, pure_sgridS, hpu]) (fun p hp => au_nextS A hc hF hrl p hp)
  have hMe := madeS_eq S (nxS A)
  have hMg := madeS_good (nx := nxS A) hbg fun p hp => (hnl p hp).1
  have hs0 := pure_dints (pPutS S [] [] true).2.1
  generalize madeS S (nxS A) = R at *
  generalize (pPutS S [] [] true).2.1 = s0 at *
  obtain ⟨L, T, ok⟩ := R
  dsimp only at *
  refine pwp_ghostB (leB_freeze (fun i => i == 0 || i == 2 || i == 3 || i == 4) (env' := [(1, .ipt A.cells), (2, .loc 1 0), (5, .ipt [.lst 1 (sgridS A.next.length A.fair)]), (8, .fn (.func 38) [] [.ipt [.lst 1 (sgridS A.next.length A.fair)], .ipt A.cells]), (9, dpairs S), (12, .loc 6 0)])
    (H' := [.row false A.cells, .row true [nilV, nilV, nilV, nilV, nilV], .vec false 0 1 (sgridS A.next.length A.fair), .row false [.lst 1 (sgridS A.next.length A.fair)], .vec false A.start.length 2 (prows S), .mapo true (mapIs Try.prog 69 (fP [])), .row true [.mp 5, nilV, nilV, nilV, nilV, nilV, nilV]]) ?_ ?_) ?_
  · have hgr : ∀ {H : List AObj}, H[2]? = some (.vec true 0 1 (sgridS A.next.length A.fair)) → DeepM (fun i => i == 0 || i == 2 || i == 3 || i == 4) H (.own 2 0 0 A.fair.length) (.lst 1 (sgridS A.next.length A.fair)) := fun h => .own _ _ _ _ _ _ _ _ rfl h (deepMLL_eq (drop_take_all (by simp)))
    have hin5 : ∀ {H : List AObj} {q : Bool}, H[2]? = some (.vec true 0 1 (sgridS A.next.length A.fair)) → H[3]? = some (.row q [.own 2 0 0 A.fair.length]) → DeepM (fun i => i == 0 || i == 2 || i == 3 || i == 4) H (.loc 3 0) (.ipt [.lst 1 (sgridS A.next.length A.fair)]) := fun h h2 => .loc _ _ _ _ _ rfl h2 (.cons _ _ _ _ (hgr h) (.refl _))
    exact ⟨.loc _ _ _ _ _ rfl rfl (.refl _), .refl _, hin5 rfl rfl, .fn _ _ _ _ _ (.refl _) (.cons _ _ _ _ (hin5 rfl rfl) (.cons _ _ _ _ (.loc _ _ _ _ _ rfl rfl (.refl _)) (.refl _))), .own _ _ _ _ _ _ _ _ rfl rfl (deepMLL_eq (drop_take_all (by simp; omega))), .refl _, trivial⟩
  · have hgr : ∀ {H : List AObj}, H[2]? = some (.vec true 0 1 (sgridS A.next.length A.fair)) → DeepM (fun i => i == 0 || i == 2 || i == 3 || i == 4) H (.own 2 0 0 A.fair.length) (.lst 1 (sgridS A.next.length A.fair)) := fun h => .own _ _ _ _ _ _ _ _ rfl h (deepMLL_eq (drop_take_all (by simp)))
    exact ⟨⟨.inr ⟨rfl, rfl⟩, fun _ => rfl, .refl _⟩, ⟨.inl rfl, fun h => absurd h (by decide), .refl _⟩, ⟨.inr ⟨rfl, rfl⟩, fun _ => rfl, rfl, rfl, .refl _⟩, ⟨.inr ⟨rfl, rfl⟩, fun _ => rfl, .cons _ _ _ _ (hgr rfl) (.refl _)⟩, ⟨.inr ⟨rfl, rfl⟩, fun _ => rfl, rfl, rfl, .refl _⟩, ⟨.inl rfl, fun h => absurd h (by decide), rfl⟩, ⟨.inl rfl, fun h => absurd h (by decide), .refl _⟩, trivial⟩
  refine pwp_ghostB (leB_nilc 6 1 2 (by simp) rfl rfl) ?_
  refine pwp_ghostB (leB_nilc 6 3 1 (by simp) rfl rfl) ?_
  (apply rd_sound; focus (repeat' constructor))
  ((conv=>whnf);repeat(refine .intro rfl ?_;conv=>whnf))
  (refine .inr (.inr (.inl ⟨rfl, _, _, (acall_mid hMd [.row false A.cells, .row true [nilV, nilV, nilV, nilV, nilV], .vec false 0 1 (sgridS A.next.length A.fair), .row false [.lst 1 (sgridS A.next.length A.fair)], .vec false A.start.length 2 (prows S)] [] rfl ⟨by simp [Under, mheap], under_pure _ (pure_dpairs S), by simp only [Under, UnderL]; exact ⟨trivial, ⟨⟨underLL_pure _ (pure_sgridS _ _), trivial⟩, underL_pure _ hpu, trivial⟩⟩, trivial⟩ (underO_of (under_mheap pure_nilV (Nat.le_refl _))) (by simp only [renL, D.ren, ren_pure _ (pure_dpairs S), renLL_pure _ (pure_sgridS A.next.length A.fair), renL_pure _ hpu]; rfl) rfl (congrArg (_ ++ ·) ((List.append_nil _).trans (mheap5_eq pure_nilV))) (congrArg (_ ++ ·) ((List.append_nil _).trans (mheap5_eq hs0)))), ?_⟩)); ((conv=>whnf);repeat(refine .intro rfl ?_;conv=>whnf)))
  rcases hMe with ⟨h1, h2⟩ | ⟨L', T', h1, h2, h3⟩
  · rw [h1, h2]
    ((conv=>whnf);repeat(refine .intro rfl ?_;conv=>whnf))
    exact .tup _ _ (.cons _ _ _ _ (.agg _ _ (.cons _ _ _ _ (.none _) (.cons _ _ _ _ (.none _) (.cons _ _ _ _ (.none _) (.cons _ _ _ _ (.none _) (.cons _ _ _ _ (.none _) .nil)))))) (.cons _ _ _ _ (.refl _) .nil))
  cases h2
  rw [h1, ← h3]
  ((conv=>whnf);repeat(refine .intro rfl ?_;conv=>whnf))
  refine pwp_ghostB (leB_nilc 6 4 1 (by simp) rfl rfl) ?_
  refine pwp_ghostB (leB_nilc 6 5 1 (by simp) rfl rfl) ?_
  (apply rd_sound; focus (repeat' constructor))
  ((conv=>whnf);repeat(refine .intro rfl ?_;conv=>whnf))
  refine pwp_ghostB (leB_nil 13 1 (by simp) rfl) ?_
  obtain ⟨hLg, hL9⟩ := hMg
  refine pwp_forH [1, 2, 5, 12, 69, 70] (fun ((k, c) : Nat × Nat) => [(13, .own 11 c 0 c), (71, .sc (.int .i64 k))]) (fun (k, c) => [.row false A.cells, .row true [nilV, nilV, nilV, nilV, nilV], .vec false 0 1 (sgridS A.next.length A.fair), .row false [.lst 1 (sgridS A.next.length A.fair)], .vec false A.start.length 2 (prows S), .mapo true (mapIs Try.prog 69 (fP L)), .row true [.mp 5, .own 7 L.length 0 L.length, dints s0, .own 8 T.length 0 T.length, .own 9 k 0 k, .own 10 k 0 k, nilV], .vec true L.length 2 (prows L), .vec true T.length 1 (growsI T), .vec true k 1 (u64s (letsAt A.must L k)), .vec true k 1 (u64s (letsAt A.nots L k)), .vec true c 1 (i64s (fairK A.fair L k))])
    (fun (k, c) => k ≤ L.length ∧ (fairK A.fair L k).length = c) (fun (k, c) => L.length - k) (0, 0) ?_
  ((conv=>whnf);repeat(refine .intro rfl ?_;conv=>whnf))
  refine ⟨⟨by omega, by simp [fairK]⟩, by (repeat' (first | exact trivial | refine And.intro rfl ?_)), rfl, ?_⟩
  rintro ⟨k, c⟩ ⟨hk, hc'⟩
  have hcl := fairK_len A.fair L k
  ((conv=>whnf);repeat(refine .intro rfl ?_;conv=>whnf))
  (apply rd_sound; focus (repeat' constructor))
  ((conv=>whnf);repeat(refine .intro rfl ?_;conv=>whnf))
  (refine ifK_split (fun q0 => ?_) (fun q0 => ?_) <;> (rw [q0]; ((conv=>whnf);repeat(refine .intro rfl ?_;conv=>whnf))))
  · have q0 : k < L.length := by ((try simp only[oo,reduceCtorEq]at*)<;>omega)
    have hp := hLg _ (mem_getDP q0)
    have e1 := letsAt_succ (M := A.must) q0
    have e2 := letsAt_succ (M := A.nots) q0
    have e3 := fairK_succ A.fair L k
    have l1 := letsAt_len (M := A.must) hk
    have l2 := letsAt_len (M := A.nots) hk
    (refine ⟨by omega, (by first | omega | (simp; done) | (simp; omega) | (simp only [ll]; omega)), ?_⟩; ((conv=>whnf);repeat(refine .intro rfl ?_;conv=>whnf)))
    refine ⟨_, prows_at (k := k) (by omega) q0, ?_⟩
    ((conv=>whnf);repeat(refine .intro rfl ?_;conv=>whnf))
    generalize L.getD k (0, 0) = p at *
    obtain ⟨p1, p2, p3, p4⟩ := hp
    refine ⟨by omega, _, u64a_at (l := A.must) (k := p.1.toNat) (by omega) (by omega), ?_⟩
    ((conv=>whnf);repeat(refine .intro rfl ?_;conv=>whnf))
    refine ⟨(by unfold sliceAppend; simp only [ll]; omega), ?_⟩
    ((conv=>whnf);repeat(refine .intro rfl ?_;conv=>whnf))
    refine ⟨by omega, _, u64a_at (l := A.nots) (k := p.1.toNat) (by omega) (by omega), ?_⟩
    ((conv=>whnf);repeat(refine .intro rfl ?_;conv=>whnf))
    refine ⟨(by unfold sliceAppend; simp only [ll]; omega), ?_⟩
    ((conv=>whnf);repeat(refine .intro rfl ?_;conv=>whnf))
    have no : isS A.fair p = false → fairK A.fair L (k + 1) = fairK A.fair L k := fun h => by rw [e3, h, if_neg (by decide)]
    have yes : isS A.fair p = true → fairK A.fair L (k + 1) = fairK A.fair L k ++ [(k : Int)] := fun h => by rw [e3, h, if_pos rfl]
    clear e3
    cases r : (p.2 == 0)
    · have e : isS A.fair p = false := by unfold isS; rw [r]; rfl
      ((conv=>whnf);repeat(refine .intro rfl ?_;conv=>whnf))
      (refine .inl ⟨by (unfold InR; rw [IntKind.wrap_i64]; omega), ?_⟩; ((conv=>whnf);repeat(refine .intro rfl ?_;conv=>whnf)))
      refine ⟨(k + 1, c), ⟨by omega, by rw [no e]; exact hc'⟩, by dsimp only; omega, ?_⟩
      dsimp only
      rw [no e, e1, e2]
      (refine leB_close 12 (by simp) rfl ?_ ?_ <;> (repeat' (first | exact trivial | exact rfl | exact DeepM.refl _ | exact DeepML.refl _ | exact DeepMLL.refl _ | refine And.intro ?_ ?_ | (simp [Under, UnderL, UnderLL, -List.map_take, -List.map_drop]; done))))
      all_goals first | exact underL_pure _ hpu | exact underLL_pure _ (pure_sgridS _ _) | exact deepMLL_eq (u64s_snoc _ _ l1) | exact deepMLL_eq (u64s_snoc _ _ l2) | exact under_pure _ hs0 | simp
    · ((conv=>whnf);repeat(refine .intro rfl ?_;conv=>whnf))
      rw [sgridS_len]
      cases r2 : ((A.fair.length : Int) == 0)
      · have hpos : 0 < A.fair.length := by rw [beq_eq_false_iff_ne] at r2; omega
        have e0 : isS A.fair p = setB (A.fair.getD 0 []) p.1.toNat := by unfold isS; rw [r, show (A.fair.length == 0) = false by rw [beq_eq_false_iff_ne]; omega]; rfl
        ((conv=>whnf);repeat(refine .intro rfl ?_;conv=>whnf))
        refine ⟨by omega, _, sgridS_at (k := 0) (by omega) hpos, ?_⟩
        ((conv=>whnf);repeat(refine .intro rfl ?_;conv=>whnf))
        refine ⟨by omega, _, rbl_atN p.1.toNat (by omega) (by omega), ?_⟩
        ((conv=>whnf);repeat(refine .intro rfl ?_;conv=>whnf))
        cases r3 : setB (A.fair.getD 0 []) p.1.toNat
        · have e : isS A.fair p = false := by rw [e0, r3]
          ((conv=>whnf);repeat(refine .intro rfl ?_;conv=>whnf))
          (refine .inl ⟨by (unfold InR; rw [IntKind.wrap_i64]; omega), ?_⟩; ((conv=>whnf);repeat(refine .intro rfl ?_;conv=>whnf)))
          refine ⟨(k + 1, c), ⟨by omega, by rw [no e]; exact hc'⟩, by dsimp only; omega, ?_⟩
          dsimp only
          rw [no e, e1, e2]
          (refine leB_close 12 (by simp) rfl ?_ ?_ <;> (repeat' (first | exact trivial | exact rfl | exact DeepM.refl _ | exact DeepML.refl _ | exact DeepMLL.refl _ | refine And.intro ?_ ?_ | (simp [Under, UnderL, UnderLL, -List.map_take, -List.map_drop]; done))))
          all_goals first | exact underL_pure _ hpu | exact underLL_pure _ (pure_sgridS _ _) | exact deepMLL_eq (u64s_snoc _ _ l1) | exact deepMLL_eq (u64s_snoc _ _ l2) | exact under_pure _ hs0 | simp
        · have e : isS A.fair p = true := by rw [e0, r3]
          ((conv=>whnf);repeat(refine .intro rfl ?_;conv=>whnf))
          refine ⟨(by unfold sliceAppend; simp only [ll]; omega), ?_⟩
          ((conv=>whnf);repeat(refine .intro rfl ?_;conv=>whnf))
          (refine .inl ⟨by (unfold InR; rw [IntKind.wrap_i64]; omega), ?_⟩; ((conv=>whnf);repeat(refine .intro rfl ?_;conv=>whnf)))
          refine ⟨(k + 1, c + 1), ⟨by omega, by rw [yes e, List.length_append, hc']; rfl⟩, by dsimp only; omega, ?_⟩
          dsimp only
          rw [yes e, e1, e2]
          (refine leB_close 12 (by simp) rfl ?_ ?_ <;> (repeat' (first | exact trivial | exact rfl | exact DeepM.refl _ | exact DeepML.refl _ | exact DeepMLL.refl _ | refine And.intro ?_ ?_ | (simp [Under, UnderL, UnderLL, -List.map_take, -List.map_drop]; done))))
          all_goals first | exact underL_pure _ hpu | exact underLL_pure _ (pure_sgridS _ _) | exact deepMLL_eq (u64s_snoc _ _ l1) | exact deepMLL_eq (u64s_snoc _ _ l2) | exact under_pure _ hs0 | exact deepMLL_eq (by rw [← hc', i64s_snoc]) | simp
      · have hz : A.fair.length = 0 := by rw [beq_iff_eq] at r2; omega
        have e : isS A.fair p = true := by unfold isS; rw [r, hz]; rfl
        ((conv=>whnf);repeat(refine .intro rfl ?_;conv=>whnf))
        refine ⟨(by unfold sliceAppend; simp only [ll]; omega), ?_⟩
        ((conv=>whnf);repeat(refine .intro rfl ?_;conv=>whnf))
        (refine .inl ⟨by (unfold InR; rw [IntKind.wrap_i64]; omega), ?_⟩; ((conv=>whnf);repeat(refine .intro rfl ?_;conv=>whnf)))
        refine ⟨(k + 1, c + 1), ⟨by omega, by rw [yes e, List.length_append, hc']; rfl⟩, by dsimp only; omega, ?_⟩
        dsimp only
        rw [yes e, e1, e2]
        (refine leB_close 12 (by simp) rfl ?_ ?_ <;> (repeat' (first | exact trivial | exact rfl | exact DeepM.refl _ | exact DeepML.refl _ | exact DeepMLL.refl _ | refine And.intro ?_ ?_ | (simp [Under, UnderL, UnderLL, -List.map_take, -List.map_drop]; done))))
        all_goals first | exact underL_pure _ hpu | exact underLL_pure _ (pure_sgridS _ _) | exact deepMLL_eq (u64s_snoc _ _ l1) | exact deepMLL_eq (u64s_snoc _ _ l2) | exact under_pure _ hs0 | exact deepMLL_eq (by rw [← hc', i64s_snoc]) | simp
  · have q0 : k = L.length := by have : ¬ k < L.length := by ((try simp only[oo,reduceCtorEq]at*)<;>omega)
                                 omega
    subst q0
    have l1 := letsAt_len (M := A.must) (Nat.le_refl L.length)
    have l2 := letsAt_len (M := A.nots) (Nat.le_refl L.length)
    exact .tup _ _ (.cons _ _ _ _ (.agg _ _ (.cons _ _ _ _ (.refl _) (.cons _ _ _ _ (.own _ _ _ _ _ _ _ _ rfl (by rw [drop_take_all (by simp)]; exact deepLL_refl _)) (.cons _ _ _ _ (.own _ _ _ _ _ _ _ _ rfl (by rw [drop_take_all (by simp [l1])]; exact deepLL_refl _)) (.cons _ _ _ _ (.own _ _ _ _ _ _ _ _ rfl (by rw [drop_take_all (by simp [l2])]; exact deepLL_refl _)) (.cons _ _ _ _ (.own _ _ _ _ _ _ _ _ rfl (.cons _ _ _ _ (.cons _ _ _ _ (.own _ _ _ _ _ _ _ _ rfl (by rw [drop_take_all (by simp [i64s]; omega)]; exact deepLL_refl _)) .nil) .nil)) .nil)))))) (.cons _ _ _ _ (.refl _) .nil))
end Go.Proofs.Ytfaekhadjlgbbaa
