/-
  The reference's reader of formulas, over deep values: tokens, signs. No statement is proved here.
-/
import Derived.Test.YtjbkbjedlgkibaaDoorRd0
import Derived.Test.YtjbkbjedlgkibaaDoorTx
import Derived.Test.YtjbkbjedlgkibaaDoorDl
import Derived.Test.YtjbkbjedlgkibaaDoorDC
namespace Go.Proofs.YtjbkbjedlgkibaaDoor
open Go.RowKit
set_option linter.unusedSimpArgs false
set_option linter.unusedVariables false
/-- A reference's tree is told by the tree that it stands for: its sign, its number, its kids. -/
def sgnC (all : Bool) (k : Int) : ByteArray :=
  if k = 1 then sTrue else if k = 2 then sFalse else if k = 4 then one 33 else if k = 5 then one 38 else if k = 6 then one 47
  else match all with
    | true => if k = 7 then ⟨#[69, 88]⟩ else if k = 8 then ⟨#[69, 70]⟩ else if k = 9 then ⟨#[69, 71]⟩ else if k = 10 then ⟨#[69, 85]⟩ else if k = 11 then ⟨#[65, 88]⟩ else if k = 12 then ⟨#[65, 70]⟩ else if k = 13 then ⟨#[65, 71]⟩ else if k = 14 then ⟨#[65, 85]⟩ else ⟨#[]⟩
    | false => if k = 7 then one 88 else if k = 8 then one 85 else if k = 9 then one 82 else if k = 10 then one 70 else if k = 11 then one 71 else ⟨#[]⟩
mutual
def rcells (all : Bool) : Tree → List D
  | .node k n ks => [.sc (.string (sgnC all k)), .sc (.int .i64 n), .lst 3 (rrows all ks)]
def rrows (all : Bool) : List Tree → List (List D)
  | [] => []
  | t :: r => rcells all t :: rrows all r
end
theorem rrows_map (all : Bool) : ∀ l, rrows all l = l.map (rcells all)
  | [] => by simp only [rrows, List.map_nil]
  | t :: r => by simp only [rrows, List.map_cons, rrows_map all r]
def rrow (all : Bool) (t : Tree) : List D := [.sc (.string (sgnC all t.kind)), .sc (.int .i64 t.num), .lst 3 (t.kids.map (rcells all))]
def rtree (all : Bool) (t : Tree) : D := .agg (rrow all t)
theorem rcells_eq (all : Bool) (t : Tree) : rcells all t = rrow all t := by cases t; simp only [rcells, rrows_map]; rfl
mutual
theorem pure_rcells (all : Bool) : ∀ t : Tree, PureL (rcells all t)
  | .node k n ks => by simp only [rcells, PureL, Pure, true_and, and_true]; exact pure_rrows all ks
theorem pure_rrows (all : Bool) : ∀ l : List Tree, PureLL (rrows all l)
  | [] => by simp only [rrows, PureLL]
  | t :: r => by simp only [rrows, PureLL]; exact ⟨pure_rcells all t, pure_rrows all r⟩
end
theorem pure_rrow (all : Bool) (t : Tree) : PureL (rrow all t) := by rw [← rcells_eq]; exact pure_rcells all t
theorem pure_rtree (all : Bool) (t : Tree) : Pure (rtree all t) := by simp only [rtree, Pure]; exact pure_rrow all t
/-- The tokens, up to the one of a number. -/
def tokL (s : ByteArray) (n : Nat) : List (List D) := (List.range n).map fun i => [.sc (.string (tokT s i)), .sc (.int .i64 (atT s i))]
theorem pure_tokL (s : ByteArray) (n : Nat) : PureLL (tokL s n) := pureLL_map _ (fun i => by simp [PureL, Pure]) _
@[simp] theorem tokL_len (s : ByteArray) (n : Nat) : (tokL s n).length = n := by simp [tokL]
theorem tokL_at (s : ByteArray) {n i : Nat} (h : i < n) : (tokL s n)[i]? = some [.sc (.string (tokT s i)), .sc (.int .i64 (atT s i))] := by
  simp [tokL, h]
theorem tokL_succ (s : ByteArray) (n : Nat) : tokL s (n + 1) = tokL s n ++ [[.sc (.string (tokT s n)), .sc (.int .i64 (atT s n))]] := by
  simp [tokL, List.range_succ]
@[simp] theorem underLL_tokL {m : Nat} (s : ByteArray) (n : Nat) : UnderLL m (tokL s n) ↔ True := ⟨fun _ => trivial, fun _ => underLL_pure _ (pure_tokL s n)⟩
theorem chr_of {s : ByteArray} {p : Nat} {b : UInt8} (h : s[p]? = some b) : chr s p = b.toNat := by simp only [chr, h]
def c27_2 : PC := .seq (.seq (.ops [qm 17 5,qm 18 0,q 19 (.slen (.tmp 18)),q 20 (.bin .lss (.tmp 17) (.tmp 19)),qm 21 20,⟨some 22,.move (.tmp 0),some (21,true),0⟩,⟨some 23,.move (.tmp 5),some (21,true),0⟩,⟨some 24,.sidx (.tmp 22) (.tmp 23),some (21,true),0⟩,⟨some 25,.bin .geq (.tmp 24) (.const (.int .u8 97)),some (21,true),0⟩,q 26 (.pick (.tmp 21) (.tmp 25) (.const (.bool false))),qm 27 26,⟨some 28,.move (.tmp 0),some (27,true),0⟩,⟨some 29,.move (.tmp 5),some (27,true),0⟩,⟨some 30,.sidx (.tmp 28) (.tmp 29),some (27,true),0⟩,⟨some 31,.bin .leq (.tmp 30) (.const (.int .u8 122)),some (27,true),0⟩,q 32 (.pick (.tmp 27) (.tmp 31) (.const (.bool false)))] false) (.cond (.tmp 32) (.skip) (.exit 2))) (.block 3 (.ops [qm 33 5,q 34 (.bin .add (.tmp 33) (.const (.int .i64 1))),qm 5 34] false))
def c27_1 : PC := .seq (.seq (.ops [qm 6 4,qm 7 0,q 8 (.slen (.tmp 7)),q 9 (.bin .lss (.tmp 6) (.tmp 8))] false) (.cond (.tmp 9) (.skip) (.exit 0))) (.block 1 (.seq (.seq (.ops [qm 10 0,qm 11 4,q 12 (.sidx (.tmp 10) (.tmp 11)),q 13 (.bin .eql (.tmp 12) (.const (.int .u8 32)))] false) (.cond (.tmp 13) (.seq (.ops [qm 14 4,q 15 (.bin .add (.tmp 14) (.const (.int .i64 1))),qm 4 15] false) (.exit 1)) (.skip))) (.seq (.ops [qm 16 4,qm 5 16] false) (.seq (.stop (.block 2 (.loop c27_2))) (.seq (.seq (.ops [qm 35 5,qm 36 4,q 37 (.bin .eql (.tmp 35) (.tmp 36))] false) (.cond (.tmp 37) (.seq (.ops [qm 38 4,q 39 (.bin .add (.tmp 38) (.const (.int .i64 1))),qm 5 39] false) (.seq (.ops [qm 40 0,qm 41 4,q 42 (.sidx (.tmp 40) (.tmp 41)),q 43 (.bin .eql (.tmp 42) (.const (.int .u8 45))),qm 44 43,⟨some 45,.move (.tmp 5),some (44,true),0⟩,⟨some 46,.move (.tmp 0),some (44,true),0⟩,⟨some 47,.slen (.tmp 46),some (44,true),0⟩,⟨some 48,.bin .lss (.tmp 45) (.tmp 47),some (44,true),0⟩,q 49 (.pick (.tmp 44) (.tmp 48) (.const (.bool false))),qm 50 49,⟨some 51,.move (.tmp 0),some (50,true),0⟩,⟨some 52,.move (.tmp 5),some (50,true),0⟩,⟨some 53,.sidx (.tmp 51) (.tmp 52),some (50,true),0⟩,⟨some 54,.bin .eql (.tmp 53) (.const (.int .u8 62)),some (50,true),0⟩,q 55 (.pick (.tmp 50) (.tmp 54) (.const (.bool false)))] false) (.cond (.tmp 55) (.ops [qm 56 5,q 57 (.bin .add (.tmp 56) (.const (.int .i64 1))),qm 5 57] false) (.skip)))) (.skip))) (.seq (.ops [qm 58 3,qm 59 0,qm 60 4,qm 61 5,q 62 (.sslc (.tmp 59) (some (.tmp 60)) (some (.tmp 61))),qm 63 4,q 64 (.build [(.string ⟨#[]⟩), (.int .i64 0)] [(0, 1, (.tmp 62)), (1, 1, (.tmp 63))]),q 65 (.bslice 2 1 [(.tmp 64)]),q 66 (.append 2 24 (.tmp 58) (.tmp 65)),qm 3 66] false) (.ops [qm 67 5,qm 4 67] false)))))))
def c27 : PC := .seq (.ops [q 2 (.move (.const (.slice none 0 0)))] false) (.seq (.ops [q 3 (.move (.const (.slice none 0 0)))] false) (.seq (.seq (.ops [q 4 (.move (.const (.int .i64 0)))] false) (.stop (.block 0 (.loop c27_1)))) (.seq (.ops [qm 68 3,qm 69 0,q 70 (.slen (.tmp 69)),q 71 (.build [(.string ⟨#[]⟩), (.int .i64 0)] [(0, 1, (.const (.string ⟨#[]⟩))), (1, 1, (.tmp 70))]),q 72 (.bslice 2 1 [(.tmp 71)]),q 73 (.append 2 24 (.tmp 68) (.tmp 72)),qm 2 73] false) (.ret))))
set_option maxRecDepth 100000 in
theorem c27_ok : FunOK Tryd.prog 27 74 [.tmp 2] c27 := ⟨⟨Tryd.f27, Tryd.func27, rfl, by kernel_rfl, rfl, by kernel_rfl⟩⟩
theorem ref_Tokens (s : ByteArray) (hs : s.size ≤ 300) (K : Nat) (hK : eqS (tokT s K) ⟨#[]⟩ = true) (hlt : ∀ n, n < K → eqS (tokT s n) ⟨#[]⟩ = false) (hK3 : K ≤ s.size) : PCall Tryd.prog 27 [.sc (.string s)] (.lst 2 (tokL s (K + 1))) := by
  refine pcall_intro c27_ok (by simp) (by simp [PureL, Pure]) ?_ (by simp [Pure, pure_tokL])
  have hKe := tokT_empty.1 hK
  have hin : ∀ {n : Nat}, n ≤ K → atT s n < s.size → n < K := fun {n} h1 h2 => by
    rcases Nat.lt_or_ge n K with h | h
    · exact h
    · rw [show n = K by omega] at h2; omega
  have hend : ∀ {n : Nat}, n ≤ K → ¬ atT s n < s.size → n = K := fun {n} h1 h2 => by
    rcases Nat.lt_or_ge n K with h | h
    · have := hlt n h
      rw [tokT_empty.2 (by have := (atT_le s n).2; omega)] at this
      cases this
    · omega
  (apply rd_sound; focus (repeat' constructor))
  ((conv=>whnf);repeat(refine⟨rfl,?_⟩;conv=>whnf))
  refine pwp_ghostB (leB_nil 3 2 (by simp) rfl) ?_
  refine pwp_cut (fun _ : Unit => [(0, .sc (.string s)), (3, .own 0 K 0 K)]) (fun _ => [.vec true K 2 (tokL s K)]) (fun _ => True) ?_ ?_
  · (apply rd_sound; focus (repeat' constructor))
    ((conv=>whnf);repeat(refine⟨rfl,?_⟩;conv=>whnf))
    refine pwp_for [0] (fun ((n, i, c) : Nat × Nat × Nat) => [(3, .own 0 c 0 c), (4, .sc (.int .i64 i))]) (fun (n, i, c) => [(0, .vec true c 2 (tokL s n))])
      (fun (n, i, c) => c = n ∧ n ≤ K ∧ i ≤ s.size ∧ skB s i = atT s n) (fun (n, i, c) => s.size - i) (0, 0, 0) ?_
    ((conv=>whnf);repeat(refine⟨rfl,?_⟩;conv=>whnf))
    refine ⟨⟨rfl, Nat.zero_le _, Nat.zero_le _, rfl⟩, by (repeat' (first | exact trivial | refine And.intro rfl ?_)), rfl, ?_⟩
    rintro ⟨n, i, c⟩ ⟨rfl, hn, hi, hsk⟩
    ((conv=>whnf);repeat(refine⟨rfl,?_⟩;conv=>whnf))
    (apply rd_sound; focus (repeat' constructor))
    ((conv=>whnf);repeat(refine⟨rfl,?_⟩;conv=>whnf))
    (refine ifK_split (fun g1 => ?_) (fun g1 => ?_) <;> (rw [g1]; ((conv=>whnf);repeat(refine⟨rfl,?_⟩;conv=>whnf))))
    · have hi' : i < s.size := by ((try simp only[oo,reduceCtorEq]at*)<;>omega)
      obtain ⟨b, hb⟩ := byte_at hi'
      have hc := chr_of hb
      refine ⟨by omega, b, hb, ?_⟩
      ((conv=>whnf);repeat(refine⟨rfl,?_⟩;conv=>whnf))
      (refine ifK_split (fun g2 => ?_) (fun g2 => ?_) <;> (rw [g2]; ((conv=>whnf);repeat(refine⟨rfl,?_⟩;conv=>whnf))))
      · (refine .inl ⟨by (unfold InR; rw [IntKind.wrap_i64]; omega), ?_⟩; ((conv=>whnf);repeat(refine⟨rfl,?_⟩;conv=>whnf)))
        refine ⟨(c, i + 1, c), ⟨rfl, hn, by omega, by rw [← hsk, skB_step hi' (by ((try simp only[oo,reduceCtorEq]at*)<;>omega))]⟩, by dsimp only; omega, leB_envH (by (repeat' (first | exact trivial | refine And.intro rfl ?_))) rfl⟩
      · have e0 : atT s c = i := by rw [← hsk, skB_stop fun _ => by ((try simp only[oo,reduceCtorEq]at*)<;>omega)]
        have hnK := hin hn (by omega)
        have e1 : posT s (c + 1) = tkE s i := by rw [← e0]; rfl
        obtain ⟨hl1, hl2⟩ := loE_le (s := s) _ i rfl (by omega)
        have hte := tkE_le (s := s) (i := i) (by omega)
        refine pwp_cut (fun _ : Unit => [(0, .sc (.string s)), (3, .own 0 c 0 c), (4, .sc (.int .i64 i)), (5, .sc (.int .i64 (loE s i)))]) (fun _ => [.vec true c 2 (tokL s c)]) (fun _ => True) ?_ ?_
        · (apply rd_sound; focus (repeat' constructor))
          ((conv=>whnf);repeat(refine⟨rfl,?_⟩;conv=>whnf))
          refine pwp_for [0, 3, 4] (fun k : Nat => [(5, .sc (.int .i64 k))]) (fun _ => []) (fun k => i ≤ k ∧ k ≤ s.size ∧ loE s k = loE s i) (fun k => s.size - k) i ?_
          ((conv=>whnf);repeat(refine⟨rfl,?_⟩;conv=>whnf))
          refine ⟨⟨Nat.le_refl _, by omega, rfl⟩, by (repeat' (first | exact trivial | refine And.intro rfl ?_)), rfl, ?_⟩
          rintro k ⟨h1, h2, h3⟩
          have stop : (k < s.size → ¬ (97 ≤ chr s k ∧ chr s k ≤ 122)) → k = loE s i := fun h => by rw [← h3, loE_stop h]
          ((conv=>whnf);repeat(refine⟨rfl,?_⟩;conv=>whnf))
          (apply rd_sound; focus (repeat' constructor))
          ((conv=>whnf);repeat(refine⟨rfl,?_⟩;conv=>whnf))
          (refine ifK_split (fun q1 => ?_) (fun q1 => ?_) <;> (rw [q1]; ((conv=>whnf);repeat(refine⟨rfl,?_⟩;conv=>whnf))))
          · have hk : k < s.size := by ((try simp only[oo,reduceCtorEq]at*)<;>omega)
            obtain ⟨b', hb'⟩ := byte_at hk
            have hc' := chr_of hb'
            refine ⟨by omega, b', hb', ?_⟩
            ((conv=>whnf);repeat(refine⟨rfl,?_⟩;conv=>whnf))
            (refine ifK_split (fun q2 => ?_) (fun q2 => ?_) <;> (rw [q2]; ((conv=>whnf);repeat(refine⟨rfl,?_⟩;conv=>whnf))))
            · refine ⟨by omega, b', hb', ?_⟩
              ((conv=>whnf);repeat(refine⟨rfl,?_⟩;conv=>whnf))
              (refine ifK_split (fun q3 => ?_) (fun q3 => ?_) <;> (rw [q3]; ((conv=>whnf);repeat(refine⟨rfl,?_⟩;conv=>whnf))))
              · (refine .inl ⟨by (unfold InR; rw [IntKind.wrap_i64]; omega), ?_⟩; ((conv=>whnf);repeat(refine⟨rfl,?_⟩;conv=>whnf)))
                exact ⟨k + 1, ⟨by omega, by omega, by rw [← h3, loE_step hk (by ((try simp only[oo,reduceCtorEq]at*)<;>omega)) (by ((try simp only[oo,reduceCtorEq]at*)<;>omega))]⟩, by dsimp only; omega, leB_envH (by (repeat' (first | exact trivial | refine And.intro rfl ?_))) rfl⟩
              · have := stop fun _ => by ((try simp only[oo,reduceCtorEq]at*)<;>omega)
                subst this
                exact ⟨(), trivial, leB_envH (by (repeat' (first | exact trivial | refine And.intro rfl ?_))) rfl⟩
            · have := stop fun _ => by ((try simp only[oo,reduceCtorEq]at*)<;>omega)
              subst this
              exact ⟨(), trivial, leB_envH (by (repeat' (first | exact trivial | refine And.intro rfl ?_))) rfl⟩
          · have := stop fun h => by ((try simp only[oo,reduceCtorEq]at*)<;>omega)
            subst this
            exact ⟨(), trivial, leB_envH (by (repeat' (first | exact trivial | refine And.intro rfl ?_))) rfl⟩
        rintro - -
        ((conv=>whnf);repeat(refine⟨rfl,?_⟩;conv=>whnf))
        have eT : tokT s c = s.extract i (tkE s i) := by unfold tokT; rw [e0, e1]
        (refine ifK_split (fun p1 => ?_) (fun p1 => ?_) <;> (rw [p1]; ((conv=>whnf);repeat(refine⟨rfl,?_⟩;conv=>whnf))))
        · have p1 : loE s i = i := by ((try simp only[oo,reduceCtorEq]at*)<;>omega)
          have g0 : ¬ i < loE s i := by omega
          have no : ¬ (chr s i = 45 ∧ i + 1 < s.size ∧ chr s (i + 1) = 62) → ((i : Int) + 1) = (tkE s i : Nat) := fun h => by unfold tkE; rw [if_neg g0, if_neg (by omega), if_neg h]; rfl
          have yes : (chr s i = 45 ∧ i + 1 < s.size ∧ chr s (i + 1) = 62) → ((i : Int) + 1 + 1) = (tkE s i : Nat) := fun h => by unfold tkE; rw [if_neg g0, if_neg (by omega), if_pos h]; omega
          (refine .inl ⟨by (unfold InR; rw [IntKind.wrap_i64]; omega), ?_⟩; ((conv=>whnf);repeat(refine⟨rfl,?_⟩;conv=>whnf)))
          refine ⟨by omega, b, hb, ?_⟩
          ((conv=>whnf);repeat(refine⟨rfl,?_⟩;conv=>whnf))
          (refine ifK_split (fun p2 => ?_) (fun p2 => ?_) <;> (rw [p2]; ((conv=>whnf);repeat(refine⟨rfl,?_⟩;conv=>whnf))))
          · (refine ifK_split (fun p3 => ?_) (fun p3 => ?_) <;> (rw [p3]; ((conv=>whnf);repeat(refine⟨rfl,?_⟩;conv=>whnf))))
            · obtain ⟨b', hb'⟩ := byte_at (show i + 1 < s.size by ((try simp only[oo,reduceCtorEq]at*)<;>omega))
              have hc' := chr_of hb'
              refine ⟨by omega, b', by rw [show ((i : Int) + 1).toNat = i + 1 by omega]; exact hb', ?_⟩
              ((conv=>whnf);repeat(refine⟨rfl,?_⟩;conv=>whnf))
              (refine ifK_split (fun p4 => ?_) (fun p4 => ?_) <;> (rw [p4]; ((conv=>whnf);repeat(refine⟨rfl,?_⟩;conv=>whnf))))
              · (refine .inl ⟨by (unfold InR; rw [IntKind.wrap_i64]; omega), ?_⟩; ((conv=>whnf);repeat(refine⟨rfl,?_⟩;conv=>whnf)))
                rw [yes ⟨by ((try simp only[oo,reduceCtorEq]at*)<;>omega), by ((try simp only[oo,reduceCtorEq]at*)<;>omega), by ((try simp only[oo,reduceCtorEq]at*)<;>omega)⟩]
                refine ⟨by omega, by omega, by omega, by omega, ?_⟩
                ((conv=>whnf);repeat(refine⟨rfl,?_⟩;conv=>whnf))
                refine ⟨by unfold sliceAppend; simp only [ll, tokL_len]; omega, ?_⟩
                ((conv=>whnf);repeat(refine⟨rfl,?_⟩;conv=>whnf))
                refine ⟨(c + 1, tkE s i, c + 1), ⟨rfl, by omega, by omega, by rw [← e1]; rfl⟩, by dsimp only; omega, ?_⟩
                dsimp only
                rw [tokL_succ, eT, e0]
                (refine leB_close 1 (by simp) rfl ?_ ?_ <;> (repeat' (first | exact trivial | exact rfl | exact DeepM.refl _ | exact DeepML.refl _ | exact DeepMLL.refl _ | refine And.intro ?_ ?_ | (simp [Under, UnderL, UnderLL, -List.map_take, -List.map_drop]; done))))
                all_goals first
                  | exact deepMLL_eq (by rw [List.drop_zero, List.take_of_length_le (by simp)]; rfl)
                  | exact underLL_pure _ (pureLL_mem.2 fun x hx => (List.mem_append.1 hx).elim (fun h => pureLL_mem.1 (pure_tokL s c) x h) (fun h => by rw [List.mem_singleton.1 h]; simp [PureL, Pure]))
              · rw [no fun h => by ((try simp only[oo,reduceCtorEq]at*)<;>omega)]
                refine ⟨by omega, by omega, by omega, by omega, ?_⟩
                ((conv=>whnf);repeat(refine⟨rfl,?_⟩;conv=>whnf))
                refine ⟨by unfold sliceAppend; simp only [ll, tokL_len]; omega, ?_⟩
                ((conv=>whnf);repeat(refine⟨rfl,?_⟩;conv=>whnf))
                refine ⟨(c + 1, tkE s i, c + 1), ⟨rfl, by omega, by omega, by rw [← e1]; rfl⟩, by dsimp only; omega, ?_⟩
                dsimp only
                rw [tokL_succ, eT, e0]
                (refine leB_close 1 (by simp) rfl ?_ ?_ <;> (repeat' (first | exact trivial | exact rfl | exact DeepM.refl _ | exact DeepML.refl _ | exact DeepMLL.refl _ | refine And.intro ?_ ?_ | (simp [Under, UnderL, UnderLL, -List.map_take, -List.map_drop]; done))))
                all_goals first
                  | exact deepMLL_eq (by rw [List.drop_zero, List.take_of_length_le (by simp)]; rfl)
                  | exact underLL_pure _ (pureLL_mem.2 fun x hx => (List.mem_append.1 hx).elim (fun h => pureLL_mem.1 (pure_tokL s c) x h) (fun h => by rw [List.mem_singleton.1 h]; simp [PureL, Pure]))
            · rw [no fun h => by ((try simp only[oo,reduceCtorEq]at*)<;>omega)]
              refine ⟨by omega, by omega, by omega, by omega, ?_⟩
              ((conv=>whnf);repeat(refine⟨rfl,?_⟩;conv=>whnf))
              refine ⟨by unfold sliceAppend; simp only [ll, tokL_len]; omega, ?_⟩
              ((conv=>whnf);repeat(refine⟨rfl,?_⟩;conv=>whnf))
              refine ⟨(c + 1, tkE s i, c + 1), ⟨rfl, by omega, by omega, by rw [← e1]; rfl⟩, by dsimp only; omega, ?_⟩
              dsimp only
              rw [tokL_succ, eT, e0]
              (refine leB_close 1 (by simp) rfl ?_ ?_ <;> (repeat' (first | exact trivial | exact rfl | exact DeepM.refl _ | exact DeepML.refl _ | exact DeepMLL.refl _ | refine And.intro ?_ ?_ | (simp [Under, UnderL, UnderLL, -List.map_take, -List.map_drop]; done))))
              all_goals first
                | exact deepMLL_eq (by rw [List.drop_zero, List.take_of_length_le (by simp)]; rfl)
                | exact underLL_pure _ (pureLL_mem.2 fun x hx => (List.mem_append.1 hx).elim (fun h => pureLL_mem.1 (pure_tokL s c) x h) (fun h => by rw [List.mem_singleton.1 h]; simp [PureL, Pure]))
          · rw [no fun h => by ((try simp only[oo,reduceCtorEq]at*)<;>omega)]
            refine ⟨by omega, by omega, by omega, by omega, ?_⟩
            ((conv=>whnf);repeat(refine⟨rfl,?_⟩;conv=>whnf))
            refine ⟨by unfold sliceAppend; simp only [ll, tokL_len]; omega, ?_⟩
            ((conv=>whnf);repeat(refine⟨rfl,?_⟩;conv=>whnf))
            refine ⟨(c + 1, tkE s i, c + 1), ⟨rfl, by omega, by omega, by rw [← e1]; rfl⟩, by dsimp only; omega, ?_⟩
            dsimp only
            rw [tokL_succ, eT, e0]
            (refine leB_close 1 (by simp) rfl ?_ ?_ <;> (repeat' (first | exact trivial | exact rfl | exact DeepM.refl _ | exact DeepML.refl _ | exact DeepMLL.refl _ | refine And.intro ?_ ?_ | (simp [Under, UnderL, UnderLL, -List.map_take, -List.map_drop]; done))))
            all_goals first
              | exact deepMLL_eq (by rw [List.drop_zero, List.take_of_length_le (by simp)]; rfl)
              | exact underLL_pure _ (pureLL_mem.2 fun x hx => (List.mem_append.1 hx).elim (fun h => pureLL_mem.1 (pure_tokL s c) x h) (fun h => by rw [List.mem_singleton.1 h]; simp [PureL, Pure]))
        · have p1 : i < loE s i := by ((try simp only[oo,reduceCtorEq]at*)<;>omega)
          have : loE s i = tkE s i := by unfold tkE; rw [if_pos p1]
          rw [this]
          refine ⟨by omega, by omega, by omega, by omega, ?_⟩
          ((conv=>whnf);repeat(refine⟨rfl,?_⟩;conv=>whnf))
          refine ⟨by unfold sliceAppend; simp only [ll, tokL_len]; omega, ?_⟩
          ((conv=>whnf);repeat(refine⟨rfl,?_⟩;conv=>whnf))
          refine ⟨(c + 1, tkE s i, c + 1), ⟨rfl, by omega, by omega, by rw [← e1]; rfl⟩, by dsimp only; omega, ?_⟩
          dsimp only
          rw [tokL_succ, eT, e0]
          (refine leB_close 1 (by simp) rfl ?_ ?_ <;> (repeat' (first | exact trivial | exact rfl | exact DeepM.refl _ | exact DeepML.refl _ | exact DeepMLL.refl _ | refine And.intro ?_ ?_ | (simp [Under, UnderL, UnderLL, -List.map_take, -List.map_drop]; done))))
          all_goals first
            | exact deepMLL_eq (by rw [List.drop_zero, List.take_of_length_le (by simp)]; rfl)
            | exact underLL_pure _ (pureLL_mem.2 fun x hx => (List.mem_append.1 hx).elim (fun h => pureLL_mem.1 (pure_tokL s c) x h) (fun h => by rw [List.mem_singleton.1 h]; simp [PureL, Pure]))
    · have e0 : atT s c = i := by rw [← hsk, skB_stop fun h => by ((try simp only[oo,reduceCtorEq]at*)<;>omega)]
      have := hend hn (by ((try simp only[oo,reduceCtorEq]at*)<;>omega))
      subst this
      exact ⟨(), trivial, leB_envH (by (repeat' (first | exact trivial | refine And.intro rfl ?_))) rfl⟩
  rintro - -
  ((conv=>whnf);repeat(refine⟨rfl,?_⟩;conv=>whnf))
  refine ⟨by unfold sliceAppend; simp only [ll, tokL_len]; omega, ?_⟩
  ((conv=>whnf);repeat(refine⟨rfl,?_⟩;conv=>whnf))
  have eK : tokT s K = ⟨#[]⟩ := ByteArray.size_eq_zero_iff.1 ((eqS_empty _).1 hK)
  rw [tokL_succ, eK, hKe]
  refine .own _ _ _ _ _ _ _ _ rfl ?_
  simp only [List.drop_zero]
  have e : ∀ x, List.take (K - 0 + (List.take 1 [x]).length) (List.take K (tokL s K) ++ List.take 1 [x]) = tokL s K ++ [x] := fun x => by
    rw [List.take_of_length_le (l := tokL s K) (by simp)]
    exact List.take_of_length_le (by simp)
  rw [e]
  exact deepLL_refl _
theorem close_oneT {H rest : List AObj} {cs : List D} (h : PureL cs) : closeH 1 H (.row true cs :: rest) [.row true cs] := ⟨⟨rfl, .refl _, underL_pure _ h⟩, by cases rest <;> exact trivial⟩
/-- The reference's reader: the tokens, where it stands, what is open, the names, what is wrong and where, of which formulas. -/
def txt (s : ByteArray) (K : Nat) (names : List ByteArray) (all : Bool) (n o : Nat) (e p : Int) : List D :=
  [.lst 2 (tokL s (K + 1)), .sc (.int .i64 n), .sc (.int .i64 o), dstrs names, .sc (.int .i64 e), .sc (.int .i64 p), .sc (.bool all)]
theorem pure_txt (s : ByteArray) (K : Nat) (names : List ByteArray) (all : Bool) (n o : Nat) (e p : Int) : PureL (txt s K names all n o e p) := by simp [txt, PureL, Pure, pure_dstrs, pure_tokL]
@[simp] theorem under_dstrsT {m : Nat} (l : List ByteArray) : Under m (dstrs l) ↔ True := ⟨fun _ => trivial, fun _ => under_pure _ (pure_dstrs l)⟩
@[simp] theorem underL_txt {m : Nat} (s : ByteArray) (K : Nat) (names : List ByteArray) (all : Bool) (n o : Nat) (e p : Int) : UnderL m (txt s K names all n o e p) ↔ True := ⟨fun _ => trivial, fun _ => underL_pure _ (pure_txt s K names all n o e p)⟩
section
variable (s : ByteArray) (K : Nat) (names : List ByteArray) (all : Bool)
def c29 : PC := .seq (.ops [q 4 (.move (.const (.bool false)))] false) (.seq (.ops [qm 5 0,qd 6 (.nilchk (.tmp 5)) 1,qd 7 (.faddr 4 (.tmp 6)) 3,qd 8 (.load1 (.tmp 7)) 7,qd 9 (.bin .eql (.tmp 8) (.const (.int .i64 0))) 15,qw 10 9 31,⟨some 11,.move (.tmp 0),some (10,true),63⟩,⟨some 12,.nilchk (.tmp 11),some (10,true),127⟩,⟨some 13,.faddr 0 (.tmp 12),some (10,true),255⟩,⟨some 14,.load1 (.tmp 13),some (10,true),511⟩,⟨some 15,.move (.tmp 0),some (10,true),63⟩,⟨some 16,.nilchk (.tmp 15),some (10,true),1087⟩,⟨some 17,.faddr 1 (.tmp 16),some (10,true),3135⟩,⟨some 18,.load1 (.tmp 17),some (10,true),7231⟩,⟨some 19,.iaddr 2 (.tmp 14) (.tmp 18),some (10,true),16383⟩,⟨some 20,.faddr 0 (.tmp 19),some (10,true),32767⟩,⟨some 21,.load1 (.tmp 20),some (10,true),65535⟩,⟨some 22,.move (.tmp 1),some (10,true),63⟩,⟨some 23,.bin .eql (.tmp 21) (.tmp 22),some (10,true),262143⟩,qd 24 (.pick (.tmp 10) (.tmp 23) (.const (.bool false))) 524287,qw 4 24 1048575] true) (.ret))
set_option maxRecDepth 100000 in
theorem c29_ok : FunOK Tryd.prog 29 25 [.tmp 4] c29 := ⟨⟨Tryd.f29, Tryd.func29, rfl, by kernel_rfl, rfl, by kernel_rfl⟩⟩
theorem ref_is (n o : Nat) (hn : n ≤ K) (p : Int) (t : ByteArray) : ACall Tryd.prog 29 [.loc 0 0, .sc (.string t)] [.row true (txt s K names all n o 0 p)] (.sc (.bool (eqS (tokT s n) t))) [.row true (txt s K names all n o 0 p)] := by
  refine acall_intro c29_ok (by simp) (by simp) ?_ (by simp [Under]) (by simp [AObj.under])
  unfold txt
  (apply rd_sound; focus (repeat' constructor))
  ((conv=>whnf);repeat(refine⟨rfl,?_⟩;conv=>whnf))
  refine ⟨by omega, _, tokL_at s (show n < K + 1 by omega), ?_⟩
  ((conv=>whnf);repeat(refine⟨rfl,?_⟩;conv=>whnf))
  exact Nat.le_refl _
theorem ref_isE (n o : Nat) (e p : Int) (he : e ≠ 0) (t : ByteArray) : ACall Tryd.prog 29 [.loc 0 0, .sc (.string t)] [.row true (txt s K names all n o e p)] (.sc (.bool false)) [.row true (txt s K names all n o e p)] := by
  refine acall_intro c29_ok (by simp) (by simp) ?_ (by simp [Under]) (by simp [AObj.under])
  unfold txt
  (apply rd_sound; focus (repeat' constructor))
  ((conv=>whnf);repeat(refine⟨rfl,?_⟩;conv=>whnf))
  rw [show (e == 0) = false by simpa using he]
  ((conv=>whnf);repeat(refine⟨rfl,?_⟩;conv=>whnf))
  exact Nat.le_refl _
def c40 : PC := .seq (.ops [q 4 (.move (.const (.bool false)))] false) (.seq (.seq (.ops [qm 5 0,qm 6 1,q 7 (.call 29 [(.tmp 5), (.tmp 6)]),q 8 (.un .not (.tmp 7))] false) (.cond (.tmp 8) (.seq (.ops [q 4 (.move (.const (.bool false)))] false) (.ret)) (.skip))) (.seq (.ops [qm 9 0,q 10 (.nilchk (.tmp 9)),q 11 (.faddr 1 (.tmp 10)),q 12 (.load1 (.tmp 11)),q 13 (.bin .add (.tmp 12) (.const (.int .i64 1))),q 14 (.nilchk (.tmp 9)),q 15 (.faddr 1 (.tmp 14)),qn (.store 1 (.tmp 15) (.tmp 13))] false) (.seq (.ops [q 4 (.move (.const (.bool true)))] false) (.ret))))
set_option maxRecDepth 100000 in
theorem c40_ok : FunOK Tryd.prog 40 16 [.tmp 4] c40 := ⟨⟨Tryd.f40, Tryd.func40, rfl, by kernel_rfl, rfl, by kernel_rfl⟩⟩
theorem ref_eat (hK3 : K ≤ 300) (n o : Nat) (hn : n ≤ K) (p : Int) (t : ByteArray) : ACall Tryd.prog 40 [.loc 0 0, .sc (.string t)] [.row true (txt s K names all n o 0 p)] (.sc (.bool (eqS (tokT s n) t))) [.row true (txt s K names all (if eqS (tokT s n) t then n + 1 else n) o 0 p)] := by
  refine acall_intro c40_ok (by simp) (by simp) ?_ (by simp [Under]) (by simp [AObj.under])
  have hI := ref_is s K names all n o hn p t
  (apply rd_sound; focus (repeat' constructor))
  ((conv=>whnf);repeat(refine⟨rfl,?_⟩;conv=>whnf))
  (refine .inr (.inr (.inl ⟨rfl, _, _, hI, ?_⟩)); ((conv=>whnf);repeat(refine⟨rfl,?_⟩;conv=>whnf)))
  cases h : eqS (tokT s n) t with
  | true =>
    rw [h] at hI
    ((conv=>whnf);repeat(refine⟨rfl,?_⟩;conv=>whnf))
    (refine .inl ⟨by (unfold InR; rw [IntKind.wrap_i64]; omega), ?_⟩; ((conv=>whnf);repeat(refine⟨rfl,?_⟩;conv=>whnf)))
    exact Nat.le_refl _
  | false =>
    ((conv=>whnf);repeat(refine⟨rfl,?_⟩;conv=>whnf))
    exact Nat.le_refl _
theorem ref_eatE (n o : Nat) (e p : Int) (he : e ≠ 0) (t : ByteArray) : ACall Tryd.prog 40 [.loc 0 0, .sc (.string t)] [.row true (txt s K names all n o e p)] (.sc (.bool false)) [.row true (txt s K names all n o e p)] := by
  refine acall_intro c40_ok (by simp) (by simp) ?_ (by simp [Under]) (by simp [AObj.under])
  have hI := ref_isE s K names all n o e p he t
  (apply rd_sound; focus (repeat' constructor))
  ((conv=>whnf);repeat(refine⟨rfl,?_⟩;conv=>whnf))
  (refine .inr (.inr (.inl ⟨rfl, _, _, hI, ?_⟩)); ((conv=>whnf);repeat(refine⟨rfl,?_⟩;conv=>whnf)))
  exact Nat.le_refl _
def c30 : PC := .seq (.ops [q 4 (.alloc [(.string ⟨#[]⟩), (.int .i64 0), (.slice none 0 0)])] false) (.seq (.seq (.ops [qm 5 0,q 6 (.nilchk (.tmp 5)),q 7 (.faddr 4 (.tmp 6)),q 8 (.load1 (.tmp 7)),q 9 (.bin .eql (.tmp 8) (.const (.int .i64 0)))] false) (.cond (.tmp 9) (.ops [qm 10 0,qm 11 0,qm 12 1,qm 13 0,qd 14 (.nilchk (.tmp 13)) 8,qd 15 (.faddr 0 (.tmp 14)) 24,qd 16 (.load1 (.tmp 15)) 56,qm 17 0,qd 18 (.nilchk (.tmp 17)) 128,qd 19 (.faddr 1 (.tmp 18)) 384,qd 20 (.load1 (.tmp 19)) 896,qd 21 (.iaddr 2 (.tmp 16) (.tmp 20)) 2040,qd 22 (.faddr 1 (.tmp 21)) 4088,qd 23 (.load1 (.tmp 22)) 8184,qd 24 (.nilchk (.tmp 10)) 16381,qd 25 (.faddr 4 (.tmp 24)) 32765,qk (.store 1 (.tmp 25) (.tmp 12)) 65533,qd 26 (.nilchk (.tmp 11)) 131071,qd 27 (.faddr 5 (.tmp 26)) 262143,qk (.store 1 (.tmp 27) (.tmp 23)) 524287] true) (.skip))) (.seq (.ops [q 28 (.build [(.string ⟨#[]⟩), (.int .i64 0), (.slice none 0 0)] []),qn (.store 3 (.tmp 4) (.tmp 28))] false) (.ret)))
set_option maxRecDepth 100000 in
theorem c30_ok : FunOK Tryd.prog 30 29 [.agg 4 3] c30 := ⟨⟨Tryd.f30, Tryd.func30, rfl, by kernel_rfl, rfl, by kernel_rfl⟩⟩
theorem ref_wrong (n o : Nat) (hn : n ≤ K) (c : Int) : ACall Tryd.prog 30 [.loc 0 0, .sc (.int .i64 c)] [.row true (txt s K names all n o 0 0)] (rtree all (mk0 3 0)) [.row true (txt s K names all n o c (atT s n))] := by
  refine acall_introD c30_ok (by simp) (by simp) ?_ (under_pure _ (pure_rtree _ _))
  unfold txt
  (apply rd_sound; focus (repeat' constructor))
  ((conv=>whnf);repeat(refine⟨rfl,?_⟩;conv=>whnf))
  refine ⟨by omega, _, tokL_at s (show n < K + 1 by omega), ?_⟩
  ((conv=>whnf);repeat(refine⟨rfl,?_⟩;conv=>whnf))
  cases all <;> exact ⟨by (repeat' (first | exact trivial | exact DeepM.none _ | refine And.intro ?_ ?_ | exact Or.inl rfl | exact Or.inr ⟨rfl, rfl⟩ | exact fun _ => rfl | exact (fun h => by cases h) | refine DeepM.loc _ _ _ _ _ rfl rfl ?_ | refine DeepM.own _ _ _ _ _ _ _ _ rfl rfl ?_ | refine DeepM.fn _ _ _ _ _ ?_ ?_ | refine DeepM.agg _ _ ?_ | refine DeepM.tup _ _ ?_ | refine DeepM.ifc _ _ _ ?_ | exact DeepM.refl _ | refine DeepML.cons _ _ _ _ ?_ ?_ | exact DeepML.refl _ | refine DeepMLL.cons _ _ _ _ ?_ ?_ | exact DeepMLL.refl _ | exact rfl)), close_oneT (pure_txt s K names _ n o c (atT s n))⟩
theorem ref_wrongE (n o : Nat) (e p c : Int) (he : e ≠ 0) : ACall Tryd.prog 30 [.loc 0 0, .sc (.int .i64 c)] [.row true (txt s K names all n o e p)] (rtree all (mk0 3 0)) [.row true (txt s K names all n o e p)] := by
  refine acall_introD c30_ok (by simp) (by simp) ?_ (under_pure _ (pure_rtree _ _))
  unfold txt
  (apply rd_sound; focus (repeat' constructor))
  ((conv=>whnf);repeat(refine⟨rfl,?_⟩;conv=>whnf))
  refine ifK_f (by simpa using he) ?_
  ((conv=>whnf);repeat(refine⟨rfl,?_⟩;conv=>whnf))
  cases all <;> exact ⟨by (repeat' (first | exact trivial | exact DeepM.none _ | refine And.intro ?_ ?_ | exact Or.inl rfl | exact Or.inr ⟨rfl, rfl⟩ | exact fun _ => rfl | exact (fun h => by cases h) | refine DeepM.loc _ _ _ _ _ rfl rfl ?_ | refine DeepM.own _ _ _ _ _ _ _ _ rfl rfl ?_ | refine DeepM.fn _ _ _ _ _ ?_ ?_ | refine DeepM.agg _ _ ?_ | refine DeepM.tup _ _ ?_ | refine DeepM.ifc _ _ _ ?_ | exact DeepM.refl _ | refine DeepML.cons _ _ _ _ ?_ ?_ | exact DeepML.refl _ | refine DeepMLL.cons _ _ _ _ ?_ ?_ | exact DeepMLL.refl _ | exact rfl)), close_oneT (pure_txt s K names _ n o e p)⟩
def c53 : PC := .seq (.ops [q 2 (.move (.const (.bool false)))] false) (.seq (.seq (.ops [qm 3 0,q 4 (.nilchk (.tmp 3)),q 5 (.faddr 2 (.tmp 4)),q 6 (.load1 (.tmp 5)),q 7 (.bin .eql (.tmp 6) (.const (.int .i64 20)))] false) (.cond (.tmp 7) (.seq (.ops [qm 8 0,q 9 (.call 30 [(.tmp 8), (.const (.int .i64 5))])] false) (.seq (.ops [q 2 (.move (.const (.bool false)))] false) (.ret))) (.skip))) (.seq (.ops [qm 10 0,q 11 (.nilchk (.tmp 10)),q 12 (.faddr 2 (.tmp 11)),q 13 (.load1 (.tmp 12)),q 14 (.bin .add (.tmp 13) (.const (.int .i64 1))),q 15 (.nilchk (.tmp 10)),q 16 (.faddr 2 (.tmp 15)),qn (.store 1 (.tmp 16) (.tmp 14))] false) (.seq (.ops [qm 17 0,q 18 (.nilchk (.tmp 17)),q 19 (.faddr 1 (.tmp 18)),q 20 (.load1 (.tmp 19)),q 21 (.bin .add (.tmp 20) (.const (.int .i64 1))),q 22 (.nilchk (.tmp 17)),q 23 (.faddr 1 (.tmp 22)),qn (.store 1 (.tmp 23) (.tmp 21))] false) (.seq (.ops [q 2 (.move (.const (.bool true)))] false) (.ret)))))
set_option maxRecDepth 100000 in
theorem c53_ok : FunOK Tryd.prog 53 24 [.tmp 2] c53 := ⟨⟨Tryd.f53, Tryd.func53, rfl, by kernel_rfl, rfl, by kernel_rfl⟩⟩
theorem ref_opens (hK3 : K ≤ 300) (n o : Nat) (hn : n ≤ K) (ho : o < 20) : ACall Tryd.prog 53 [.loc 0 0] [.row true (txt s K names all n o 0 0)] (.sc (.bool true)) [.row true (txt s K names all (n + 1) (o + 1) 0 0)] := by
  refine acall_intro c53_ok (by simp) (by simp) ?_ (by simp [Under]) (by simp [AObj.under])
  unfold txt
  (apply rd_sound; focus (repeat' constructor))
  ((conv=>whnf);repeat(refine⟨rfl,?_⟩;conv=>whnf))
  refine ifK_f (by simp; omega) ?_
  ((conv=>whnf);repeat(refine⟨rfl,?_⟩;conv=>whnf))
  (refine .inl ⟨by (unfold InR; rw [IntKind.wrap_i64]; omega), ?_⟩; ((conv=>whnf);repeat(refine⟨rfl,?_⟩;conv=>whnf)))
  (refine .inl ⟨by (unfold InR; rw [IntKind.wrap_i64]; omega), ?_⟩; ((conv=>whnf);repeat(refine⟨rfl,?_⟩;conv=>whnf)))
  exact Nat.le_refl _
theorem ref_opens20 (n : Nat) (hn : n ≤ K) : ACall Tryd.prog 53 [.loc 0 0] [.row true (txt s K names all n 20 0 0)] (.sc (.bool false)) [.row true (txt s K names all n 20 5 (atT s n))] := by
  refine acall_intro c53_ok (by simp) (by simp) ?_ (by simp [Under]) (by simp [AObj.under])
  have hW := ref_wrong s K names all n 20 hn 5
  (apply rd_sound; focus (repeat' constructor))
  ((conv=>whnf);repeat(refine⟨rfl,?_⟩;conv=>whnf))
  (refine .inr (.inr (.inl ⟨rfl, _, _, hW, ?_⟩)); ((conv=>whnf);repeat(refine⟨rfl,?_⟩;conv=>whnf)))
  exact Nat.le_refl _
end
end Go.Proofs.YtjbkbjedlgkibaaDoor
