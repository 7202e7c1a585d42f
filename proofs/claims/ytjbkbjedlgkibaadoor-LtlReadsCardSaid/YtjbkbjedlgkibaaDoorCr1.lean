/-
  The reader of formulas of all ways, over deep values: tokens, signs, words. No statement is proved here.
-/
import Derived.Test.YtjbkbjedlgkibaaDoorRd0
import Derived.Test.YtjbkbjedlgkibaaDoorTx
import Derived.Test.YtjbkbjedlgkibaaDoorDl
import Derived.Test.YtjbkbjedlgkibaaDoorDC
namespace Go.Proofs.YtjbkbjedlgkibaaDoor
open Go.RowKit
set_option linter.unusedSimpArgs false
set_option linter.unusedVariables false
/-- A reader: the text, the names, the token, where it begins and ends, what is open. -/
def rdB (s : ByteArray) (names : List ByteArray) (t : ByteArray) (a e o : Int) : List D := [.sc (.string s), dstrs names, .sc (.string t), .sc (.int .i64 a), .sc (.int .i64 e), .sc (.int .i64 o)]
/-- A reader that stands at a token. -/
def rdr (s : ByteArray) (names : List ByteArray) (n o : Nat) : List D := rdB s names (tokT s n) (atT s n) (posT s (n + 1)) o
theorem pure_rdB (s : ByteArray) (names : List ByteArray) (t : ByteArray) (a e o : Int) : PureL (rdB s names t a e o) := by simp [rdB, PureL, Pure, pure_dstrs]
theorem pure_rdr (s : ByteArray) (names : List ByteArray) (n o : Nat) : PureL (rdr s names n o) := pure_rdB _ _ _ _ _ _
theorem close_one {H rest : List AObj} {cs : List D} (h : PureL cs) : closeH 1 H (.row true cs :: rest) [.row true cs] := ⟨⟨rfl, .refl _, underL_pure _ h⟩, by cases rest <;> exact trivial⟩
theorem rdrH {P : Program} {f : FuncId} {post : List D} {d : D} {s : ByteArray} {names : List ByteArray} {n o m o' : Nat} (h : ACall P f (.loc 0 0 :: post) [.row true (rdr s names n o)] d [.row true (rdr s names m o')]) (hpost : PureL post) (hd : Pure d)
    {H : List AObj} {id : Nat} (e : H[id]? = some (.row true (rdr s names n o))) : ACall P f (.loc id 0 :: post) H d (H.set id (.row true (rdr s names m o'))) :=
  acall_row (pre := []) h (by simp [PureL]) hpost (pure_rdr _ _ _ _) (pure_rdr _ _ _ _) hd e
theorem chr_at {s : ByteArray} {p : Nat} {b : UInt8} (h : s[p]? = some b) : chr s p = b.toNat := by simp only [chr, h]
def c15 : PC := .seq (.ops [q 2 (.move (.const (.bool false)))] false) (.seq (.ops [qm 3 0,q 4 (.bin .geq (.tmp 3) (.const (.int .u8 97))),qm 5 4,⟨some 6,.move (.tmp 0),some (5,true),0⟩,⟨some 7,.bin .leq (.tmp 6) (.const (.int .u8 122)),some (5,true),0⟩,q 8 (.pick (.tmp 5) (.tmp 7) (.const (.bool false))),qm 2 8] false) (.ret))
set_option maxRecDepth 100000 in
theorem c15_ok : FunOK Tryd.prog 15 9 [.tmp 2] c15 := ⟨⟨Tryd.f15, Tryd.func15, rfl, by kernel_rfl, rfl, by kernel_rfl⟩⟩
theorem ltl_letter (b : Nat) : PCall Tryd.prog 15 [.sc (.int .u8 b)] (.sc (.bool (decide (97 ≤ b) && decide (b ≤ 122)))) := by
  refine pcall_intro c15_ok (by simp) (by simp [PureL, Pure]) ?_ (by simp [Pure])
  (apply rd_sound; focus (repeat' constructor))
  ((conv=>whnf);repeat(refine⟨rfl,?_⟩;conv=>whnf))
  refine ifK_split (fun h => ?_) (fun h => ?_) <;> (rw [h]; ((conv=>whnf);repeat(refine⟨rfl,?_⟩;conv=>whnf)))
  · exact deep_eq (congrArg (fun b => D.sc (.bool b)) (by have : 97 ≤ b := by ((try simp only[oo,reduceCtorEq]at*)<;>omega)
                                                          simp only [decide_eq_true this, Bool.true_and]; congr 1; rw [eq_iff_iff]; omega))
  · exact deep_eq (congrArg (fun b => D.sc (.bool b)) (by have : ¬ 97 ≤ b := by ((try simp only[oo,reduceCtorEq]at*)<;>omega)
                                                          simp [this]))
def c7_1 : PC := .seq (.seq (.ops [qm 7 2,qm 8 0,q 9 (.nilchk (.tmp 8)),q 10 (.faddr 0 (.tmp 9)),q 11 (.load1 (.tmp 10)),q 12 (.slen (.tmp 11)),q 13 (.bin .lss (.tmp 7) (.tmp 12)),qm 14 13,⟨some 15,.move (.tmp 0),some (14,true),0⟩,⟨some 16,.nilchk (.tmp 15),some (14,true),0⟩,⟨some 17,.faddr 0 (.tmp 16),some (14,true),0⟩,⟨some 18,.load1 (.tmp 17),some (14,true),0⟩,⟨some 19,.move (.tmp 2),some (14,true),0⟩,⟨some 20,.sidx (.tmp 18) (.tmp 19),some (14,true),0⟩,⟨some 21,.bin .eql (.tmp 20) (.const (.int .u8 32)),some (14,true),0⟩,q 22 (.pick (.tmp 14) (.tmp 21) (.const (.bool false)))] false) (.cond (.tmp 22) (.skip) (.exit 0))) (.block 1 (.ops [qm 23 2,q 24 (.bin .add (.tmp 23) (.const (.int .i64 1))),qm 2 24] false))
def c7_2 : PC := .seq (.seq (.ops [qm 33 0,qd 34 (.nilchk (.tmp 33)) 1,qd 35 (.faddr 4 (.tmp 34)) 3,qd 36 (.load1 (.tmp 35)) 7,qm 37 0,qd 38 (.nilchk (.tmp 37)) 16,qd 39 (.faddr 0 (.tmp 38)) 48,qd 40 (.load1 (.tmp 39)) 112,qd 41 (.slen (.tmp 40)) 240,qd 42 (.bin .lss (.tmp 36) (.tmp 41)) 511,qw 43 42 1023,⟨some 44,.move (.tmp 0),some (43,true),2047⟩,⟨some 45,.nilchk (.tmp 44),some (43,true),4095⟩,⟨some 46,.faddr 0 (.tmp 45),some (43,true),8191⟩,⟨some 47,.load1 (.tmp 46),some (43,true),16383⟩,⟨some 48,.move (.tmp 0),some (43,true),2047⟩,⟨some 49,.nilchk (.tmp 48),some (43,true),34815⟩,⟨some 50,.faddr 4 (.tmp 49),some (43,true),100351⟩,⟨some 51,.load1 (.tmp 50),some (43,true),231423⟩,⟨some 52,.sidx (.tmp 47) (.tmp 51),some (43,true),524287⟩,⟨some 53,.call 15 [(.tmp 52)],some (43,true),1048575⟩,qd 54 (.pick (.tmp 43) (.tmp 53) (.const (.bool false))) 2097151] true) (.cond (.tmp 54) (.skip) (.exit 2))) (.block 3 (.ops [qm 55 0,q 56 (.nilchk (.tmp 55)),q 57 (.faddr 4 (.tmp 56)),q 58 (.load1 (.tmp 57)),q 59 (.bin .add (.tmp 58) (.const (.int .i64 1))),q 60 (.nilchk (.tmp 55)),q 61 (.faddr 4 (.tmp 60)),qn (.store 1 (.tmp 61) (.tmp 59))] false))
def c7 : PC := .seq (.ops [qm 3 0,q 4 (.nilchk (.tmp 3)),q 5 (.faddr 4 (.tmp 4)),q 6 (.load1 (.tmp 5)),qm 2 6] false) (.seq (.stop (.block 0 (.loop c7_1))) (.seq (.ops [qm 25 0,qm 26 0,qm 27 2,qm 28 2,q 29 (.nilchk (.tmp 25)),q 30 (.faddr 3 (.tmp 29)),qn (.store 1 (.tmp 30) (.tmp 27)),q 31 (.nilchk (.tmp 26)),q 32 (.faddr 4 (.tmp 31)),qn (.store 1 (.tmp 32) (.tmp 28))] false) (.seq (.stop (.block 2 (.loop c7_2))) (.seq (.block 4 (.seq (.ops [qm 68 0,q 69 (.nilchk (.tmp 68)),q 70 (.faddr 4 (.tmp 69)),q 71 (.load1 (.tmp 70)),qm 72 2,q 73 (.bin .gtr (.tmp 71) (.tmp 72)),qm 74 73,⟨some 75,.move (.tmp 2),some (74,false),0⟩,⟨some 76,.move (.tmp 0),some (74,false),0⟩,⟨some 77,.nilchk (.tmp 76),some (74,false),0⟩,⟨some 78,.faddr 0 (.tmp 77),some (74,false),0⟩,⟨some 79,.load1 (.tmp 78),some (74,false),0⟩,⟨some 80,.slen (.tmp 79),some (74,false),0⟩,⟨some 81,.bin .eql (.tmp 75) (.tmp 80),some (74,false),0⟩,q 82 (.pick (.tmp 74) (.const (.bool true)) (.tmp 81)),qm 67 82] false) (.cond (.tmp 67) (.skip) (.seq (.ops [qm 84 0,q 85 (.nilchk (.tmp 84)),q 86 (.faddr 0 (.tmp 85)),q 87 (.load1 (.tmp 86)),qm 88 2,q 89 (.sidx (.tmp 87) (.tmp 88)),q 90 (.bin .eql (.tmp 89) (.const (.int .u8 45))),qm 91 90,⟨some 92,.move (.tmp 2),some (91,true),0⟩,⟨some 93,.bin .add (.tmp 92) (.const (.int .i64 1)),some (91,true),0⟩,⟨some 94,.move (.tmp 0),some (91,true),0⟩,⟨some 95,.nilchk (.tmp 94),some (91,true),0⟩,⟨some 96,.faddr 0 (.tmp 95),some (91,true),0⟩,⟨some 97,.load1 (.tmp 96),some (91,true),0⟩,⟨some 98,.slen (.tmp 97),some (91,true),0⟩,⟨some 99,.bin .lss (.tmp 93) (.tmp 98),some (91,true),0⟩,q 100 (.pick (.tmp 91) (.tmp 99) (.const (.bool false))),qm 101 100,⟨some 102,.move (.tmp 0),some (101,true),0⟩,⟨some 103,.nilchk (.tmp 102),some (101,true),0⟩,⟨some 104,.faddr 0 (.tmp 103),some (101,true),0⟩,⟨some 105,.load1 (.tmp 104),some (101,true),0⟩,⟨some 106,.move (.tmp 2),some (101,true),0⟩,⟨some 107,.bin .add (.tmp 106) (.const (.int .i64 1)),some (101,true),0⟩,⟨some 108,.sidx (.tmp 105) (.tmp 107),some (101,true),0⟩,⟨some 109,.bin .eql (.tmp 108) (.const (.int .u8 62)),some (101,true),0⟩,q 110 (.pick (.tmp 101) (.tmp 109) (.const (.bool false))),qm 83 110] false) (.cond (.tmp 83) (.ops [qm 111 0,qm 112 2,q 113 (.bin .add (.tmp 112) (.const (.int .i64 2))),q 114 (.nilchk (.tmp 111)),q 115 (.faddr 4 (.tmp 114)),qn (.store 1 (.tmp 115) (.tmp 113))] false) (.ops [qm 62 0,qm 63 2,q 64 (.bin .add (.tmp 63) (.const (.int .i64 1))),q 65 (.nilchk (.tmp 62)),q 66 (.faddr 4 (.tmp 65)),qn (.store 1 (.tmp 66) (.tmp 64))] false)))))) (.ops [qm 116 0,qm 117 0,qd 118 (.nilchk (.tmp 117)) 2,qd 119 (.faddr 0 (.tmp 118)) 6,qd 120 (.load1 (.tmp 119)) 14,qm 121 2,qm 122 0,qd 123 (.nilchk (.tmp 122)) 64,qd 124 (.faddr 4 (.tmp 123)) 192,qd 125 (.load1 (.tmp 124)) 448,qd 126 (.sslc (.tmp 120) (some (.tmp 121)) (some (.tmp 125))) 1022,qd 127 (.nilchk (.tmp 116)) 2047,qd 128 (.faddr 2 (.tmp 127)) 4095,qk (.store 1 (.tmp 128) (.tmp 126)) 8191] true)))))
set_option maxRecDepth 100000 in
theorem c7_ok : FunOK Tryd.prog 7 129 [] c7 := ⟨⟨Tryd.f7, Tryd.func7, rfl, by kernel_rfl, rfl, by kernel_rfl⟩⟩
theorem ltl_next (s : ByteArray) (hs : s.size ≤ 1000000000) (names : List ByteArray) (t : ByteArray) (a o : Int) (p : Nat) (hp : p ≤ s.size) :
    ACall Tryd.prog 7 [.loc 0 0] [.row true (rdB s names t a p o)] (.tup []) [.row true (rdB s names (s.extract (skB s p) (tkE s (skB s p))) (skB s p) (tkE s (skB s p)) o)] := by
  refine acall_intro c7_ok (by simp) (by simp) ?_ (by simp [Under, UnderL]) (by simp [AObj.under, underL_pure _ (pure_rdB _ _ _ _ _ _)])
  obtain ⟨hp1, hp2, _⟩ := skB_le (s := s) _ p rfl hp
  unfold rdB
  (apply rd_sound; focus (repeat' constructor))
  ((conv=>whnf);repeat(refine⟨rfl,?_⟩;conv=>whnf))
  refine pwp_cut (fun _ : Unit => [(0, .loc 0 0), (2, .sc (.int .i64 (skB s p)))]) (fun _ => [.row true (rdB s names t a p o)]) (fun _ => True) ?_ ?_
  · (apply rd_sound; focus (repeat' constructor))
    ((conv=>whnf);repeat(refine⟨rfl,?_⟩;conv=>whnf))
    refine pwp_for [0] (fun i : Nat => [(2, .sc (.int .i64 i))]) (fun _ => []) (fun i => p ≤ i ∧ i ≤ s.size ∧ skB s i = skB s p) (fun i => s.size - i) p ?_
    ((conv=>whnf);repeat(refine⟨rfl,?_⟩;conv=>whnf))
    refine ⟨⟨Nat.le_refl _, hp, rfl⟩, by (repeat' (first | exact trivial | refine And.intro rfl ?_)), rfl, ?_⟩
    rintro i ⟨h1, h2, h3⟩
    ((conv=>whnf);repeat(refine⟨rfl,?_⟩;conv=>whnf))
    (apply rd_sound; focus (repeat' constructor))
    ((conv=>whnf);repeat(refine⟨rfl,?_⟩;conv=>whnf))
    have stop : (i < s.size → chr s i ≠ 32) → i = skB s p := fun h => by rw [← h3, skB_stop h]
    (refine ifK_split (fun g1 => ?_) (fun g1 => ?_) <;> (rw [g1]; ((conv=>whnf);repeat(refine⟨rfl,?_⟩;conv=>whnf))))
    · have hi : i < s.size := by ((try simp only[oo,reduceCtorEq]at*)<;>omega)
      obtain ⟨b, hb⟩ := byte_at hi
      have hc := chr_at hb
      refine ⟨by omega, b, hb, ?_⟩
      ((conv=>whnf);repeat(refine⟨rfl,?_⟩;conv=>whnf))
      (refine ifK_split (fun g2 => ?_) (fun g2 => ?_) <;> (rw [g2]; ((conv=>whnf);repeat(refine⟨rfl,?_⟩;conv=>whnf))))
      · (refine .inl ⟨by (unfold InR; rw [IntKind.wrap_i64]; omega), ?_⟩; ((conv=>whnf);repeat(refine⟨rfl,?_⟩;conv=>whnf)))
        exact ⟨i + 1, ⟨by omega, by omega, by rw [← h3, skB_step hi (by ((try simp only[oo,reduceCtorEq]at*)<;>omega))]⟩, by dsimp only; omega, leB_envH (by (repeat' (first | exact trivial | refine And.intro rfl ?_))) rfl⟩
      · have := stop fun _ => by ((try simp only[oo,reduceCtorEq]at*)<;>omega)
        subst this
        exact ⟨(), trivial, leB_envH (by (repeat' (first | exact trivial | refine And.intro rfl ?_))) rfl⟩
    · have := stop fun h => by ((try simp only[oo,reduceCtorEq]at*)<;>omega)
      subst this
      exact ⟨(), trivial, leB_envH (by (repeat' (first | exact trivial | refine And.intro rfl ?_))) rfl⟩
  rintro - -
  generalize skB s p = i at hp1 hp2
  unfold rdB
  ((conv=>whnf);repeat(refine⟨rfl,?_⟩;conv=>whnf))
  obtain ⟨hl1, hl2⟩ := loE_le (s := s) _ i rfl hp2
  refine pwp_cut (fun _ : Unit => [(0, .loc 0 0), (2, .sc (.int .i64 i))]) (fun _ => [.row true (rdB s names t i (loE s i) o)]) (fun _ => True) ?_ ?_
  · (apply rd_sound; focus (repeat' constructor))
    ((conv=>whnf);repeat(refine⟨rfl,?_⟩;conv=>whnf))
    refine pwp_for [0, 2] (fun _ : Nat => []) (fun e => [(0, .row true (rdB s names t i e o))]) (fun e => i ≤ e ∧ e ≤ s.size ∧ loE s e = loE s i) (fun e => s.size - e) i ?_
    ((conv=>whnf);repeat(refine⟨rfl,?_⟩;conv=>whnf))
    refine ⟨⟨Nat.le_refl _, hp2, rfl⟩, by (repeat' (first | exact trivial | refine And.intro rfl ?_)), rfl, ?_⟩
    rintro e ⟨h1, h2, h3⟩
    unfold rdB
    ((conv=>whnf);repeat(refine⟨rfl,?_⟩;conv=>whnf))
    (apply rd_sound; focus (repeat' constructor))
    ((conv=>whnf);repeat(refine⟨rfl,?_⟩;conv=>whnf))
    have stop : (e < s.size → ¬ (97 ≤ chr s e ∧ chr s e ≤ 122)) → e = loE s i := fun h => by rw [← h3, loE_stop h]
    (refine ifK_split (fun g1 => ?_) (fun g1 => ?_) <;> (rw [g1]; ((conv=>whnf);repeat(refine⟨rfl,?_⟩;conv=>whnf))))
    · have hi : e < s.size := by ((try simp only[oo,reduceCtorEq]at*)<;>omega)
      obtain ⟨b, hb⟩ := byte_at hi
      have hc := chr_at hb
      refine ⟨by omega, b, hb, ?_⟩
      ((conv=>whnf);repeat(refine⟨rfl,?_⟩;conv=>whnf))
      (refine .inl ⟨_, (ltl_letter b.toNat), ?_⟩; ((conv=>whnf);repeat(refine⟨rfl,?_⟩;conv=>whnf)))
      (refine ifK_split (fun g2 => ?_) (fun g2 => ?_) <;> (rw [g2]; ((conv=>whnf);repeat(refine⟨rfl,?_⟩;conv=>whnf))))
      · (refine .inl ⟨by (unfold InR; rw [IntKind.wrap_i64]; omega), ?_⟩; ((conv=>whnf);repeat(refine⟨rfl,?_⟩;conv=>whnf)))
        exact ⟨e + 1, ⟨by omega, by omega, by rw [← h3, loE_step hi (by ((try simp only[oo,reduceCtorEq]at*)<;>omega)) (by ((try simp only[oo,reduceCtorEq]at*)<;>omega))]⟩, by dsimp only; omega, leB_envH (by (repeat' (first | exact trivial | refine And.intro rfl ?_))) rfl⟩
      · have := stop fun _ => by ((try simp only[oo,reduceCtorEq]at*)<;>omega)
        subst this
        exact ⟨(), trivial, leB_envH (by (repeat' (first | exact trivial | refine And.intro rfl ?_))) rfl⟩
    · have := stop fun h => by ((try simp only[oo,reduceCtorEq]at*)<;>omega)
      subst this
      exact ⟨(), trivial, leB_envH (by (repeat' (first | exact trivial | refine And.intro rfl ?_))) rfl⟩
  rintro - -
  unfold rdB
  ((conv=>whnf);repeat(refine⟨rfl,?_⟩;conv=>whnf))
  have fin : ∀ {E : Int}, E = tkE s i → List.take 1 [AObj.row true [.sc (.string s), dstrs names, .sc (.string (s.extract (i : Int).toNat E.toNat)), .sc (.int .i64 i), .sc (.int .i64 E), .sc (.int .i64 o)]] =
      [AObj.row true (rdB s names (s.extract i (tkE s i)) i (tkE s i) o)] ∧ [AObj.row true (rdB s names (s.extract i (tkE s i)) i (tkE s i) o)].length ≤ 1 := fun h => by subst h; exact ⟨rfl, Nat.le_refl _⟩
  have hte := tkE_le hp2
  (refine ifK_split (fun g1 => ?_) (fun g1 => ?_) <;> (rw [g1]; ((conv=>whnf);repeat(refine⟨rfl,?_⟩;conv=>whnf))))
  · have e1 : tkE s i = loE s i := by unfold tkE; rw [if_pos (by ((try simp only[oo,reduceCtorEq]at*)<;>omega))]
    refine ⟨by omega, by omega, by omega, by omega, ?_⟩
    ((conv=>whnf);repeat(refine⟨rfl,?_⟩;conv=>whnf))
    exact fin (by rw [e1])
  have g1 : ¬ i < loE s i := by ((try simp only[oo,reduceCtorEq]at*)<;>omega)
  have e0 : loE s i = i := by omega
  (refine ifK_split (fun g2 => ?_) (fun g2 => ?_) <;> (rw [g2]; ((conv=>whnf);repeat(refine⟨rfl,?_⟩;conv=>whnf))))
  · have e1 : tkE s i = i := by unfold tkE; rw [if_neg g1, if_pos (by ((try simp only[oo,reduceCtorEq]at*)<;>omega))]
    refine ⟨by omega, by omega, by omega, by omega, ?_⟩
    ((conv=>whnf);repeat(refine⟨rfl,?_⟩;conv=>whnf))
    exact fin (E := loE s i) (by rw [e1, e0])
  have g2 : i ≠ s.size := by ((try simp only[oo,reduceCtorEq]at*)<;>omega)
  obtain ⟨b, hb⟩ := byte_at (show i < s.size by omega)
  have hc := chr_at hb
  refine ⟨by omega, b, hb, ?_⟩
  ((conv=>whnf);repeat(refine⟨rfl,?_⟩;conv=>whnf))
  have no : ¬ (chr s i = 45 ∧ i + 1 < s.size ∧ chr s (i + 1) = 62) → tkE s i = i + 1 := fun h => by unfold tkE; rw [if_neg g1, if_neg g2, if_neg h]
  have yes : (chr s i = 45 ∧ i + 1 < s.size ∧ chr s (i + 1) = 62) → tkE s i = i + 2 := fun h => by unfold tkE; rw [if_neg g1, if_neg g2, if_pos h]
  have last : tkE s i = i + 1 → ∀ {E : Int}, E = (i : Int) + 1 → E = tkE s i := fun h E e => by rw [h, e]; omega
  (refine ifK_split (fun g3 => ?_) (fun g3 => ?_) <;> (rw [g3]; ((conv=>whnf);repeat(refine⟨rfl,?_⟩;conv=>whnf))))
  · have g3 : chr s i = 45 := by ((try simp only[oo,reduceCtorEq]at*)<;>omega)
    (refine .inl ⟨by (unfold InR; rw [IntKind.wrap_i64]; omega), ?_⟩; ((conv=>whnf);repeat(refine⟨rfl,?_⟩;conv=>whnf)))
    (refine ifK_split (fun g4 => ?_) (fun g4 => ?_) <;> (rw [g4]; ((conv=>whnf);repeat(refine⟨rfl,?_⟩;conv=>whnf))))
    · have g4 : i + 1 < s.size := by ((try simp only[oo,reduceCtorEq]at*)<;>omega)
      obtain ⟨b', hb'⟩ := byte_at g4
      have hc' := chr_at hb'
      (refine .inl ⟨by (unfold InR; rw [IntKind.wrap_i64]; omega), ?_⟩; ((conv=>whnf);repeat(refine⟨rfl,?_⟩;conv=>whnf)))
      refine ⟨by omega, b', by rw [show ((i : Int) + 1).toNat = i + 1 by omega]; exact hb', ?_⟩
      ((conv=>whnf);repeat(refine⟨rfl,?_⟩;conv=>whnf))
      (refine ifK_split (fun g5 => ?_) (fun g5 => ?_) <;> (rw [g5]; ((conv=>whnf);repeat(refine⟨rfl,?_⟩;conv=>whnf))))
      · have e1 := yes ⟨g3, g4, by ((try simp only[oo,reduceCtorEq]at*)<;>omega)⟩
        (refine .inl ⟨by (unfold InR; rw [IntKind.wrap_i64]; omega), ?_⟩; ((conv=>whnf);repeat(refine⟨rfl,?_⟩;conv=>whnf)))
        refine ⟨by omega, by omega, by omega, by omega, ?_⟩
        ((conv=>whnf);repeat(refine⟨rfl,?_⟩;conv=>whnf))
        exact fin (by rw [e1]; omega)
      · have e1 := no fun h => by ((try simp only[oo,reduceCtorEq]at*)<;>omega)
        (refine .inl ⟨by (unfold InR; rw [IntKind.wrap_i64]; omega), ?_⟩; ((conv=>whnf);repeat(refine⟨rfl,?_⟩;conv=>whnf)))
        refine ⟨by omega, by omega, by omega, by omega, ?_⟩
        ((conv=>whnf);repeat(refine⟨rfl,?_⟩;conv=>whnf))
        exact fin (by rw [e1]; omega)
    · have e1 := no fun h => by ((try simp only[oo,reduceCtorEq]at*)<;>omega)
      (refine .inl ⟨by (unfold InR; rw [IntKind.wrap_i64]; omega), ?_⟩; ((conv=>whnf);repeat(refine⟨rfl,?_⟩;conv=>whnf)))
      refine ⟨by omega, by omega, by omega, by omega, ?_⟩
      ((conv=>whnf);repeat(refine⟨rfl,?_⟩;conv=>whnf))
      exact fin (by rw [e1]; omega)
  · have e1 := no fun h => by ((try simp only[oo,reduceCtorEq]at*)<;>omega)
    (refine .inl ⟨by (unfold InR; rw [IntKind.wrap_i64]; omega), ?_⟩; ((conv=>whnf);repeat(refine⟨rfl,?_⟩;conv=>whnf)))
    refine ⟨by omega, by omega, by omega, by omega, ?_⟩
    ((conv=>whnf);repeat(refine⟨rfl,?_⟩;conv=>whnf))
    exact fin (by rw [e1]; omega)
/-- The next token, of a reader that stands at one. -/
theorem ltl_nextT (s : ByteArray) (hs : s.size ≤ 1000000000) (names : List ByteArray) (n o : Nat) : ACall Tryd.prog 7 [.loc 0 0] [.row true (rdr s names n o)] (.tup []) [.row true (rdr s names (n + 1) o)] :=
  ltl_next s hs names _ _ _ (posT s (n + 1)) (posT_le s _)
def c18 : PC := .seq (.ops [q 4 (.move (.const (.bool false)))] false) (.seq (.seq (.ops [qm 5 0,q 6 (.nilchk (.tmp 5)),q 7 (.faddr 2 (.tmp 6)),q 8 (.load1 (.tmp 7)),qm 9 1,q 10 (.bin .neq (.tmp 8) (.tmp 9))] false) (.cond (.tmp 10) (.seq (.ops [q 4 (.move (.const (.bool false)))] false) (.ret)) (.skip))) (.seq (.ops [qm 11 0,q 12 (.call 7 [(.tmp 11)])] false) (.seq (.ops [q 4 (.move (.const (.bool true)))] false) (.ret))))
set_option maxRecDepth 100000 in
theorem c18_ok : FunOK Tryd.prog 18 13 [.tmp 4] c18 := ⟨⟨Tryd.f18, Tryd.func18, rfl, by kernel_rfl, rfl, by kernel_rfl⟩⟩
theorem ltl_take (s : ByteArray) (hs : s.size ≤ 1000000000) (names : List ByteArray) (n o : Nat) (t : ByteArray) : ACall Tryd.prog 18 [.loc 0 0, .sc (.string t)] [.row true (rdr s names n o)] (.sc (.bool (eqS (tokT s n) t))) [.row true (rdr s names (if eqS (tokT s n) t then n + 1 else n) o)] := by
  refine acall_intro c18_ok (by simp) (by simp) ?_ (by simp [Under]) (by simp [AObj.under, underL_pure _ (pure_rdr _ _ _ _)])
  have hN := ltl_nextT s hs names n o
  unfold rdr rdB at hN
  unfold rdr rdB
  (apply rd_sound; focus (repeat' constructor))
  ((conv=>whnf);repeat(refine⟨rfl,?_⟩;conv=>whnf))
  (refine ifK_split (fun g1 => ?_) (fun g1 => ?_) <;> (rw [g1]; ((conv=>whnf);repeat(refine⟨rfl,?_⟩;conv=>whnf))))
  · have g1 : eqS (tokT s n) t = false := by unfold eqS; simpa using g1
    rw [g1]
    exact ⟨rfl, rfl, Nat.le_refl _⟩
  · have g1 : eqS (tokT s n) t = true := by unfold eqS; simpa using g1
    (refine .inr (.inr (.inl ⟨rfl, _, _, hN, ?_⟩)); ((conv=>whnf);repeat(refine⟨rfl,?_⟩;conv=>whnf)))
    rw [g1]
    exact ⟨rfl, rfl, Nat.le_refl _⟩
def c20 : PC := .seq (.ops [q 3 (.box (.tmp 1)),q 4 (.alloc [(.int .i64 0), (.int .i64 0), (.slice none 0 0)])] false) (.seq (.ops [qm 5 0,q 6 (.loadA 3 (.tmp 3)),q 7 (.bslice 3 1 [(.tmp 6)]),q 8 (.build [(.int .i64 0), (.int .i64 0), (.slice none 0 0)] [(0, 1, (.tmp 5)), (2, 1, (.tmp 7))]),qn (.store 3 (.tmp 4) (.tmp 8))] false) (.ret))
set_option maxRecDepth 100000 in
theorem c20_ok : FunOK Tryd.prog 20 9 [.agg 4 3] c20 := ⟨⟨Tryd.f20, Tryd.func20, rfl, by kernel_rfl, rfl, by kernel_rfl⟩⟩
theorem ltl_oneT (k : Int) (a : Tree) : PCall Tryd.prog 20 [.sc (.int .i64 k), dtree a] (dtree (mk1 k a)) := by
  refine pcall_intro c20_ok (by simp) (by simp [PureL, Pure, pure_dtree]) ?_ (pure_dtree _)
  (apply rd_sound; focus (repeat' constructor))
  ((conv=>whnf);repeat(refine⟨rfl,?_⟩;conv=>whnf))
  (repeat' (first | exact Deep.refl _ | exact Deep.none _ | exact deep_row _ | exact DeepL.nil | exact DeepLL.nil | refine Deep.agg _ _ ?_ | refine Deep.tup _ _ ?_ | refine Deep.own _ _ _ _ _ _ _ _ rfl ?_ | refine Deep.loc _ _ _ _ _ rfl ?_ | refine Deep.ifc _ _ _ ?_ | refine Deep.fn _ _ _ _ _ ?_ ?_ | refine DeepL.cons _ _ _ _ ?_ ?_ | refine DeepLL.cons _ _ _ _ ?_ ?_ | exact deepLL_refl _))
def c19 : PC := .seq (.ops [q 4 (.box (.tmp 1)),q 5 (.box (.tmp 2)),q 6 (.alloc [(.int .i64 0), (.int .i64 0), (.slice none 0 0)])] false) (.seq (.ops [qm 7 0,q 8 (.loadA 3 (.tmp 4)),q 9 (.loadA 3 (.tmp 5)),q 10 (.bslice 3 2 [(.tmp 8), (.tmp 9)]),q 11 (.build [(.int .i64 0), (.int .i64 0), (.slice none 0 0)] [(0, 1, (.tmp 7)), (2, 1, (.tmp 10))]),qn (.store 3 (.tmp 6) (.tmp 11))] false) (.ret))
set_option maxRecDepth 100000 in
theorem c19_ok : FunOK Tryd.prog 19 12 [.agg 6 3] c19 := ⟨⟨Tryd.f19, Tryd.func19, rfl, by kernel_rfl, rfl, by kernel_rfl⟩⟩
theorem ltl_twoT (k : Int) (a b : Tree) : PCall Tryd.prog 19 [.sc (.int .i64 k), dtree a, dtree b] (dtree (mk2 k a b)) := by
  refine pcall_intro c19_ok (by simp) (by simp [PureL, Pure, pure_dtree]) ?_ (pure_dtree _)
  (apply rd_sound; focus (repeat' constructor))
  ((conv=>whnf);repeat(refine⟨rfl,?_⟩;conv=>whnf))
  (repeat' (first | exact Deep.refl _ | exact Deep.none _ | exact deep_row _ | exact DeepL.nil | exact DeepLL.nil | refine Deep.agg _ _ ?_ | refine Deep.tup _ _ ?_ | refine Deep.own _ _ _ _ _ _ _ _ rfl ?_ | refine Deep.loc _ _ _ _ _ rfl ?_ | refine Deep.ifc _ _ _ ?_ | refine Deep.fn _ _ _ _ _ ?_ ?_ | refine DeepL.cons _ _ _ _ ?_ ?_ | refine DeepLL.cons _ _ _ _ ?_ ?_ | exact deepLL_refl _))
/-- A fault: what it is, and where. -/
def errD (c : Int) (a : Nat) : D := .ifc 39 (.ipt [.sc (.int .i64 c), .sc (.int .i64 a), .sc .nilIface])
theorem pure_errD (c : Int) (a : Nat) : Pure (errD c a) := by simp [errD, Pure, PureL]
end Go.Proofs.YtjbkbjedlgkibaaDoor
