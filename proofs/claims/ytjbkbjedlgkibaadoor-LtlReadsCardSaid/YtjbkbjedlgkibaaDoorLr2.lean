/-
  The reader of formulas of one way, over deep values: rows, brackets, formulas. No statement is proved here.
-/
import Derived.Test.YtjbkbjedlgkibaaDoorCr1
import Derived.Test.YtjbkbjedlgkibaaDoorLr0
namespace Go.Proofs.YtjbkbjedlgkibaaDoor
open Go.RowKit
set_option linter.unusedSimpArgs false
set_option linter.unusedVariables false
/-- A fault of a number: the sentinel goes with it. -/
def errW (c : Int) (a : Nat) : D := errV c a (if c = 3 then 0 else if c = 5 then 1 else 2)
theorem pure_errW (c : Int) (a : Nat) : Pure (errW c a) := pure_errV _ _ _
theorem rdrP {P : Program} {f : FuncId} {args : List D} {d : D} {s : ByteArray} {names : List ByteArray} {n o m o' : Nat} (h : ACall P f args [.row true (rdr s names n o)] d [.row true (rdr s names m o')]) (ha : UnderL 1 args) (R : List AObj) :
    ACall P f args (.row true (rdr s names n o) :: R) d (.row true (rdr s names m o') :: R) :=
  acall_pre h R rfl ha ⟨underL_pure _ (pure_rdr _ _ _ _), trivial⟩
def Res.tree : Res → Tree
  | .ok a _ => a
  | .bad _ _ x _ => x
def Res.pos : Res → Nat
  | .ok _ m => m
  | .bad _ m _ _ => m
def Res.err (s : ByteArray) : Res → D
  | .ok _ _ => .sc .nilIface
  | .bad c m _ _ => errW c (atT s m)
theorem pure_err (s : ByteArray) (r : Res) : Pure (r.err s) := by cases r <;> simp [Res.err, Pure, pure_errW]
theorem pure_ans (s : ByteArray) (t : Tree) (r : Res) : Pure (.tup [dtree t, r.err s]) := by simp [Pure, PureL, pure_dtree, pure_err]
@[simp] theorem under_err {m : Nat} (s : ByteArray) (r : Res) : Under m (r.err s) ↔ True := ⟨fun _ => trivial, fun _ => under_pure _ (pure_err s r)⟩
@[simp] theorem under_dstrsR {m : Nat} (l : List ByteArray) : Under m (dstrs l) ↔ True := ⟨fun _ => trivial, fun _ => under_pure _ (pure_dstrs l)⟩
@[simp] theorem under_errW {m : Nat} (c : Int) (a : Nat) : Under m (errW c a) ↔ True := ⟨fun _ => trivial, fun _ => under_pure _ (pure_errW c a)⟩
@[simp] theorem underL_rdr {k : Nat} (s : ByteArray) (names : List ByteArray) (n o : Nat) : UnderL k (rdr s names n o) ↔ True := ⟨fun _ => trivial, fun _ => underL_pure _ (pure_rdr s names n o)⟩
/-- What a reading function answers: a tree, and the reader behind it; or a fault. -/
def CAns (s : ByteArray) (names : List ByteArray) (fn : FuncId) (args : List D) (n o : Nat) (r : Res) : Prop :=
  ACall Tryd.prog fn args [.row true (rdr s names n o)] (.tup [dtree r.tree, r.err s]) [.row true (rdr s names r.pos o)]
def c16_1 : PC := .seq (.seq (.ops [qm 18 11,q 19 (.isnil 1 false (.tmp 18)),qm 20 19,⟨some 21,.move (.tmp 0),some (20,true),0⟩,⟨some 22,.move (.tmp 2),some (20,true),0⟩,⟨some 23,.call 18 [(.tmp 21), (.tmp 22)],some (20,true),0⟩,q 24 (.pick (.tmp 20) (.tmp 23) (.const (.bool false)))] false) (.cond (.tmp 24) (.skip) (.exit 0))) (.block 1 (.seq (.ops [q 12 (.alloc [(.int .i64 0), (.int .i64 0), (.slice none 0 0)])] false) (.seq (.ops [qm 26 3,q 27 (.callv (.tmp 26) []),qm 25 27,q 28 (.ext 0 (.tmp 25)),q 29 (.ext 1 (.tmp 25)),qn (.store 3 (.tmp 12) (.tmp 28)),qm 11 29] false) (.ops [qm 30 1,q 31 (.loadA 3 (.tmp 10)),q 32 (.loadA 3 (.tmp 12)),q 33 (.call 19 [(.tmp 30), (.tmp 31), (.tmp 32)]),qn (.store 3 (.tmp 10) (.tmp 33))] false))))
def c16 : PC := .seq (.ops [q 8 (.alloc [(.int .i64 0), (.int .i64 0), (.slice none 0 0)]),q 9 (.move (.const (.nilIface)))] false) (.seq (.ops [qm 14 3,q 15 (.callv (.tmp 14) []),qm 13 15,q 16 (.ext 0 (.tmp 13)),q 17 (.ext 1 (.tmp 13)),q 10 (.alloc [(.int .i64 0), (.int .i64 0), (.slice none 0 0)]),qn (.store 3 (.tmp 10) (.tmp 16)),qm 11 17] false) (.seq (.block 0 (.loop c16_1)) (.seq (.ops [q 34 (.loadA 3 (.tmp 10)),qm 35 11,qn (.store 3 (.tmp 8) (.tmp 34)),qm 9 35] false) (.ret))))
set_option maxRecDepth 100000 in
theorem c16_ok : FunOK Tryd.prog 16 36 [.agg 8 3, .tmp 9] c16 := ⟨⟨Tryd.f16, Tryd.func16, rfl, by kernel_rfl, rfl, by kernel_rfl⟩⟩
theorem ltl_row (s : ByteArray) (hs : s.size ≤ 1000000000) (names : List ByteArray) (hi : Bool) (o : Nat) (pf : FuncId) (f : Nat) (hp : ∀ f' n r, f' < f → runR (tokT s) names false f' (partR hi) o n = some r → CAns s names pf [.loc 0 0] n o r)
    (n : Nat) (r : Res) (hr : runR (tokT s) names false f (.row hi) o n = some r) :
    CAns s names 16 [.loc 0 0, .sc (.int .i64 (kndR hi)), .sc (.string (sgnR hi)), .fn (.func pf) [.loc 0 0] []] n o r := by
  cases f with
  | zero => simp [runR] at hr
  | succ f =>
    simp only [runR] at hr
    have hq : ∃ q, runR (tokT s) names false f (partR hi) o n = some q ∧ ((∃ a m, q = .ok a m ∧ runR (tokT s) names false f (.rowL hi a) o m = some r) ∨ ∃ c m x y, q = .bad c m x y ∧ r = q) := by
      rcases bindR_some hr with ⟨a, m, h1, h2⟩ | ⟨c, m, t, y, h1, rfl⟩
      · exact ⟨_, h1, .inl ⟨a, m, rfl, h2⟩⟩
      · exact ⟨_, h1, .inr ⟨c, m, t, y, rfl, rfl⟩⟩
    obtain ⟨q, h1, h2⟩ := hq
    have hA : ACall Tryd.prog pf [.loc 0 0] _ _ _ := hp f n _ (by omega) h1
    refine acall_introD c16_ok (by simp) (by simp) ?_ (under_pure _ (pure_ans _ _ _))
    (apply rd_sound; focus (repeat' constructor))
    ((conv=>whnf);repeat(refine⟨rfl,?_⟩;conv=>whnf))
    (refine .inr (.inr (.inl ⟨rfl, _, _, (rdrP hA (by simp [UnderL, Under]) _), ?_⟩)); ((conv=>whnf);repeat(refine⟨rfl,?_⟩;conv=>whnf)))
    refine pwp_for [0, 1, 2, 3, 8, 10] (fun ((g, q) : Nat × Res) => [(11, q.err s)]) (fun (g, q) => [(0, .row true (rdr s names q.pos o)), (2, .row true (drow q.tree))])
      (fun (g, q) => g ≤ f ∧ ((∃ a m, q = .ok a m ∧ runR (tokT s) names false g (.rowL hi a) o m = some r) ∨ ∃ c m x y, q = .bad c m x y ∧ r = q)) (fun (g, q) => g) (f, q) ?_
    ((conv=>whnf);repeat(refine⟨rfl,?_⟩;conv=>whnf))
    refine ⟨⟨Nat.le_refl _, h2⟩, by (repeat' (first | exact trivial | refine And.intro rfl ?_)), rfl, ?_⟩
    rintro ⟨g, q⟩ ⟨hg, ⟨a, m, rfl, h2⟩ | ⟨c, m, x, y, rfl, rfl⟩⟩
    · cases g with
      | zero => simp [runR] at h2
      | succ g =>
        simp only [runR] at h2
        have hT := ltl_take s hs names m o (sgnR hi)
        ((conv=>whnf);repeat(refine⟨rfl,?_⟩;conv=>whnf))
        (apply rd_sound; focus (repeat' constructor))
        ((conv=>whnf);repeat(refine⟨rfl,?_⟩;conv=>whnf))
        (refine .inr (.inr (.inl ⟨rfl, _, _, (rdrP hT (by simp [UnderL, Under]) _), ?_⟩)); ((conv=>whnf);repeat(refine⟨rfl,?_⟩;conv=>whnf)))
        by_cases he : eqS (tokT s m) (sgnR hi) = true
        · rw [if_pos he] at h2 ⊢
          rw [he]
          ((conv=>whnf);repeat(refine⟨rfl,?_⟩;conv=>whnf))
          have hn : ∃ q q', runR (tokT s) names false g (partR hi) o (m + 1) = some q ∧ q'.tree = mk2 (kndR hi) a q.tree ∧ q'.pos = q.pos ∧ q'.err s = q.err s ∧ ((∃ a m, q' = .ok a m ∧ runR (tokT s) names false g (.rowL hi a) o m = some r) ∨ ∃ c m x y, q' = .bad c m x y ∧ r = q') := by
            rcases bindR_some h2 with ⟨b, k, h3, h4⟩ | ⟨c, k, t, y, h3, rfl⟩
            · exact ⟨_, .ok (mk2 (kndR hi) a b) k, h3, rfl, rfl, rfl, .inl ⟨_, _, rfl, h4⟩⟩
            · exact ⟨_, .bad c k (mk2 (kndR hi) a t) (mk2 (kndR hi) a y), h3, rfl, rfl, rfl, .inr ⟨c, k, _, _, rfl, rfl⟩⟩
          obtain ⟨q1, q2, h3, e1, e2, e3, h4⟩ := hn
          have hA : ACall Tryd.prog pf [.loc 0 0] _ _ _ := hp g _ _ (by omega) h3
          (refine .inr (.inr (.inl ⟨rfl, _, _, (rdrP hA (by simp [UnderL, Under]) _), ?_⟩)); ((conv=>whnf);repeat(refine⟨rfl,?_⟩;conv=>whnf)))
          (refine .inl ⟨_, (ltl_twoT (kndR hi) a q1.tree), ?_⟩; ((conv=>whnf);repeat(refine⟨rfl,?_⟩;conv=>whnf)))
          refine ⟨(g, q2), ⟨by omega, h4⟩, by dsimp only; omega, ?_⟩
          dsimp only
          rw [e1, e2, e3]
          (refine leB_close 3 (by simp) rfl ?_ ?_ <;> (repeat' (first | exact trivial | exact rfl | exact DeepM.refl _ | exact DeepML.refl _ | exact DeepMLL.refl _ | refine And.intro ?_ ?_ | (simp [Under, UnderL, UnderLL, -List.map_take, -List.map_drop]; done))))
        · rw [if_neg he] at h2 ⊢
          have he' : eqS (tokT s m) (sgnR hi) = false := by simpa using he
          rw [he']
          ((conv=>whnf);repeat(refine⟨rfl,?_⟩;conv=>whnf))
          cases h2
          exact ⟨by (repeat' (first | exact trivial | exact DeepM.none _ | refine And.intro ?_ ?_ | exact Or.inl rfl | exact Or.inr ⟨rfl, rfl⟩ | exact fun _ => rfl | exact (fun h => by cases h) | refine DeepM.loc _ _ _ _ _ rfl rfl ?_ | refine DeepM.own _ _ _ _ _ _ _ _ rfl rfl ?_ | refine DeepM.fn _ _ _ _ _ ?_ ?_ | refine DeepM.agg _ _ ?_ | refine DeepM.tup _ _ ?_ | refine DeepM.ifc _ _ _ ?_ | exact DeepM.refl _ | refine DeepML.cons _ _ _ _ ?_ ?_ | exact DeepML.refl _ | refine DeepMLL.cons _ _ _ _ ?_ ?_ | exact DeepMLL.refl _ | exact rfl)), close_one (pure_rdr s names m o)⟩
    · ((conv=>whnf);repeat(refine⟨rfl,?_⟩;conv=>whnf))
      (apply rd_sound; focus (repeat' constructor))
      ((conv=>whnf);repeat(refine⟨rfl,?_⟩;conv=>whnf))
      exact ⟨by (repeat' (first | exact trivial | exact DeepM.none _ | refine And.intro ?_ ?_ | exact Or.inl rfl | exact Or.inr ⟨rfl, rfl⟩ | exact fun _ => rfl | exact (fun h => by cases h) | refine DeepM.loc _ _ _ _ _ rfl rfl ?_ | refine DeepM.own _ _ _ _ _ _ _ _ rfl rfl ?_ | refine DeepM.fn _ _ _ _ _ ?_ ?_ | refine DeepM.agg _ _ ?_ | refine DeepM.tup _ _ ?_ | refine DeepM.ifc _ _ _ ?_ | exact DeepM.refl _ | refine DeepML.cons _ _ _ _ ?_ ?_ | exact DeepML.refl _ | refine DeepMLL.cons _ _ _ _ ?_ ?_ | exact DeepMLL.refl _ | exact rfl)), close_one (pure_rdr s names m o)⟩
def c17 : PC := .seq (.ops [q 2 (.alloc [(.int .i64 0), (.int .i64 0), (.slice none 0 0)]),q 3 (.move (.const (.nilIface)))] false) (.seq (.ops [qm 4 0,qm 5 0,q 6 (.mkfn (.func 33) [(.tmp 5)] []),q 7 (.call 16 [(.tmp 4), (.const (.int .i64 5)), (.const (.string ⟨#[38]⟩)), (.tmp 6)]),q 8 (.ext 0 (.tmp 7)),q 9 (.ext 1 (.tmp 7)),qn (.store 3 (.tmp 2) (.tmp 8)),qm 3 9] false) (.ret))
set_option maxRecDepth 100000 in
theorem c17_ok : FunOK Tryd.prog 17 10 [.agg 2 3, .tmp 3] c17 := ⟨⟨Tryd.f17, Tryd.func17, rfl, by kernel_rfl, rfl, by kernel_rfl⟩⟩
theorem ltl_and (s : ByteArray) (hs : s.size ≤ 1000000000) (names : List ByteArray) (o : Nat) (f : Nat) (hp : ∀ f' n r, f' < f → runR (tokT s) names false f' .way o n = some r → CAns s names 33 [.loc 0 0] n o r)
    (n : Nat) (r : Res) (hr : runR (tokT s) names false f (.row false) o n = some r) : CAns s names 17 [.loc 0 0] n o r := by
  have hR : ACall Tryd.prog 16 _ _ _ _ := ltl_row s hs names false o 33 f hp n r hr
  refine acall_introD c17_ok (by simp) (by simp) ?_ (under_pure _ (pure_ans _ _ _))
  (apply rd_sound; focus (repeat' constructor))
  ((conv=>whnf);repeat(refine⟨rfl,?_⟩;conv=>whnf))
  (refine .inr (.inr (.inl ⟨rfl, _, _, (rdrP hR (by simp [UnderL, Under]) _), ?_⟩)); ((conv=>whnf);repeat(refine⟨rfl,?_⟩;conv=>whnf)))
  exact ⟨by (repeat' (first | exact trivial | exact DeepM.none _ | refine And.intro ?_ ?_ | exact Or.inl rfl | exact Or.inr ⟨rfl, rfl⟩ | exact fun _ => rfl | exact (fun h => by cases h) | refine DeepM.loc _ _ _ _ _ rfl rfl ?_ | refine DeepM.own _ _ _ _ _ _ _ _ rfl rfl ?_ | refine DeepM.fn _ _ _ _ _ ?_ ?_ | refine DeepM.agg _ _ ?_ | refine DeepM.tup _ _ ?_ | refine DeepM.ifc _ _ _ ?_ | exact DeepM.refl _ | refine DeepML.cons _ _ _ _ ?_ ?_ | exact DeepML.refl _ | refine DeepMLL.cons _ _ _ _ ?_ ?_ | exact DeepMLL.refl _ | exact rfl)), close_one (pure_rdr _ _ _ _)⟩
/-- What stands ahead of a formula is laid upon it. -/
def layL (l : List Tree) (b : Tree) : Tree := l.foldr (fun a b => mk2 6 (mk1 4 a) b) b
def layR (l : List Tree) : Res → Res
  | .ok b m => .ok (layL l b) m
  | .bad c m x y => .bad c m x (layL l y)
theorem layL_drop (l : List Tree) (a : Tree) {j : Nat} (hj : j < l.length) : layL (l.drop j) a = mk2 6 (mk1 4 l[j]) (layL (l.drop (j + 1)) a) := by
  unfold layL
  rw [List.drop_eq_getElem_cons hj]
  rfl
theorem drow_at {l : List Tree} {j : Nat} (hj : j < l.length) : (l.map drow)[j]? = some (drow l[j]) := by rw [List.getElem?_map, List.getElem?_eq_getElem hj]; rfl
def c8_2 : PC := .seq (.seq (.ops [qm 25 7,q 26 (.bin .geq (.tmp 25) (.const (.int .i64 0)))] false) (.cond (.tmp 26) (.skip) (.exit 2))) (.seq (.block 3 (.ops [qm 29 4,qm 30 7,qd 31 (.iaddr 3 (.tmp 29) (.tmp 30)) 3,qd 32 (.loadA 3 (.tmp 31)) 7,qd 33 (.call 20 [(.const (.int .i64 4)), (.tmp 32)]) 15,q 34 (.loadA 3 (.tmp 5)),qd 35 (.call 19 [(.const (.int .i64 6)), (.tmp 33), (.tmp 34)]) 63,qk (.store 3 (.tmp 5) (.tmp 35)) 127] true)) (.ops [qm 27 7,q 28 (.bin .sub (.tmp 27) (.const (.int .i64 1))),qm 7 28] false))
def c8_1 : PC := .block 1 (.seq (.ops [qm 9 0,qm 10 0,q 11 (.mkfn (.func 17) [(.tmp 10)] []),q 12 (.call 16 [(.tmp 9), (.const (.int .i64 6)), (.const (.string ⟨#[47]⟩)), (.tmp 11)]),qm 8 12,q 13 (.ext 0 (.tmp 8)),q 14 (.ext 1 (.tmp 8)),q 5 (.alloc [(.int .i64 0), (.int .i64 0), (.slice none 0 0)]),qn (.store 3 (.tmp 5) (.tmp 13)),qm 6 14] false) (.seq (.seq (.ops [qm 15 6,q 16 (.isnil 1 true (.tmp 15))] false) (.cond (.tmp 16) (.seq (.ops [q 17 (.loadA 3 (.tmp 5)),qm 18 6,qn (.store 3 (.tmp 2) (.tmp 17)),qm 3 18] false) (.ret)) (.skip))) (.seq (.seq (.ops [qm 19 0,q 20 (.call 18 [(.tmp 19), (.const (.string ⟨#[45, 62]⟩))]),q 21 (.un .not (.tmp 20))] false) (.cond (.tmp 21) (.seq (.seq (.ops [qm 22 4,q 23 (.len (.tmp 22)),q 24 (.bin .sub (.tmp 23) (.const (.int .i64 1))),qm 7 24] false) (.block 2 (.loop c8_2))) (.seq (.ops [q 36 (.loadA 3 (.tmp 5)),qn (.store 3 (.tmp 2) (.tmp 36)),q 3 (.move (.const (.nilIface)))] false) (.ret))) (.skip))) (.ops [qm 37 4,q 38 (.loadA 3 (.tmp 5)),q 39 (.bslice 3 1 [(.tmp 38)]),q 40 (.append 3 40 (.tmp 37) (.tmp 39)),qm 4 40] false))))
def c8 : PC := .seq (.ops [q 2 (.alloc [(.int .i64 0), (.int .i64 0), (.slice none 0 0)]),q 3 (.move (.const (.nilIface)))] false) (.seq (.ops [q 4 (.move (.const (.slice none 0 0)))] false) (.block 0 (.loop c8_1)))
set_option maxRecDepth 100000 in
theorem c8_ok : FunOK Tryd.prog 8 41 [.agg 2 3, .tmp 3] c8 := ⟨⟨Tryd.f8, Tryd.func8, rfl, by kernel_rfl, rfl, by kernel_rfl⟩⟩
theorem ltl_formula (s : ByteArray) (hs : s.size ≤ 1000000000) (names : List ByteArray) (o : Nat) (f : Nat) (hp : ∀ f' n r, f' < f → runR (tokT s) names false f' (.row false) o n = some r → CAns s names 17 [.loc 0 0] n o r)
    (hf : f ≤ 1000000000) (n : Nat) (r : Res) (hr : runR (tokT s) names false f .formula o n = some r) : CAns s names 8 [.loc 0 0] n o r := by
  refine acall_introD c8_ok (by simp) (by simp) ?_ (under_pure _ (pure_ans _ _ _))
  (apply rd_sound; focus (repeat' constructor))
  ((conv=>whnf);repeat(refine⟨rfl,?_⟩;conv=>whnf))
  refine pwp_ghostB (leB_nil 4 3 (by simp) rfl) ?_
  refine pwp_for [0, 2] (fun ((g, l, m, c) : Nat × List Tree × Nat × Nat) => [(4, .own 2 c 0 c)]) (fun (g, l, m, c) => [(0, .row true (rdr s names m o)), (2, .vec true c 3 (l.map drow))])
    (fun (g, l, m, c) => c = l.length ∧ g ≤ f ∧ l.length + g ≤ f ∧ ∃ q, runR (tokT s) names false g .formula o m = some q ∧ r = layR l q) (fun (g, l, m, c) => g) (f, [], n, 0) ?_
  ((conv=>whnf);repeat(refine⟨rfl,?_⟩;conv=>whnf))
  refine ⟨⟨rfl, Nat.le_refl _, by simp, r, hr, by cases r <;> rfl⟩, by (repeat' (first | exact trivial | refine And.intro rfl ?_)), rfl, ?_⟩
  rintro ⟨g, l, m, c⟩ ⟨rfl, hg, hlg, q, h1, h2⟩
  cases g with
  | zero => simp [runR] at h1
  | succ g =>
    have hR := fun q1 h => ltl_row s hs names true o 17 g (fun f' n r hf => hp f' n r (by omega)) m q1 h
    simp only [runR] at h1
    rcases bindR_some h1 with ⟨a, k, h3, h4⟩ | ⟨e, k, t, y, h3, rfl⟩
    · have hA : ACall Tryd.prog 16 _ _ _ _ := hR _ h3
      ((conv=>whnf);repeat(refine⟨rfl,?_⟩;conv=>whnf))
      (apply rd_sound; focus (repeat' constructor))
      ((conv=>whnf);repeat(refine⟨rfl,?_⟩;conv=>whnf))
      (refine .inr (.inr (.inl ⟨rfl, _, _, (rdrP hA (by simp [UnderL, Under]) _), ?_⟩)); ((conv=>whnf);repeat(refine⟨rfl,?_⟩;conv=>whnf)))
      have hT := ltl_take s hs names k o sArrow
      (refine .inr (.inr (.inl ⟨rfl, _, _, (rdrP hT (by simp [UnderL, Under]) _), ?_⟩)); ((conv=>whnf);repeat(refine⟨rfl,?_⟩;conv=>whnf)))
      by_cases he : eqS (tokT s k) sArrow = true
      · rw [if_pos he] at h4 ⊢
        rw [he]
        ((conv=>whnf);repeat(refine⟨rfl,?_⟩;conv=>whnf))
        refine ⟨(by unfold sliceAppend; simp only [ll]; omega), ?_⟩
        ((conv=>whnf);repeat(refine⟨rfl,?_⟩;conv=>whnf))
        refine ⟨(g, l ++ [a], k + 1, l.length + 1), ⟨by simp, by omega, by simp; omega, ?_⟩, by dsimp only; omega, ?_⟩
        · rcases bindR_some h4 with ⟨b, k', h5, h6⟩ | ⟨c, k', x, y, h5, rfl⟩
          · cases h6
            exact ⟨_, h5, by rw [h2]; simp [layR, layL]⟩
          · exact ⟨_, h5, by rw [h2]; simp [layR, layL]⟩
        · (refine leB_close 3 (by simp) rfl ?_ ?_ <;> (repeat' (first | exact trivial | exact rfl | exact DeepM.refl _ | exact DeepML.refl _ | exact DeepMLL.refl _ | refine And.intro ?_ ?_ | (simp [Under, UnderL, UnderLL, -List.map_take, -List.map_drop]; done))))
          · exact deepMLL_eq (by rw [List.drop_zero, List.take_of_length_le (by simp), List.map_append]; rfl)
          · exact underLL_pure _ (pureLL_map _ pure_drow _)
      · rw [if_neg he] at h4 ⊢
        have he' : eqS (tokT s k) sArrow = false := by simpa using he
        rw [he']
        ((conv=>whnf);repeat(refine⟨rfl,?_⟩;conv=>whnf))
        cases h4
        subst h2
        refine .inl ⟨by unfold InR; rw [IntKind.wrap_i64]; omega, ?_⟩
        ((conv=>whnf);repeat(refine⟨rfl,?_⟩;conv=>whnf))
        refine pwp_for [2, 4, 5] (fun j : Nat => [(7, .sc (.int .i64 ((j : Int) - 1)))]) (fun j => [(3, .row true (drow (layL (l.drop j) a)))]) (fun j => j ≤ l.length) (fun j => j) l.length ?_
        ((conv=>whnf);repeat(refine⟨rfl,?_⟩;conv=>whnf))
        refine ⟨Nat.le_refl _, by (repeat' (first | exact trivial | refine And.intro rfl ?_)), by rw [List.drop_length]; rfl, ?_⟩
        rintro j hj
        ((conv=>whnf);repeat(refine⟨rfl,?_⟩;conv=>whnf))
        (apply rd_sound; focus (repeat' constructor))
        ((conv=>whnf);repeat(refine⟨rfl,?_⟩;conv=>whnf))
        (refine ifK_split (fun h5 => ?_) (fun h5 => ?_) <;> (rw [h5]; ((conv=>whnf);repeat(refine⟨rfl,?_⟩;conv=>whnf))))
        · obtain ⟨i, rfl⟩ : ∃ i, j = i + 1 := ⟨j - 1, by ((try simp only[oo,reduceCtorEq]at*)<;>omega)⟩
          rw [show (((i + 1 : Nat) : Int) - 1) = (i : Int) by omega]
          (refine ⟨by omega, (by first | omega | (simp; done) | (simp; omega) | (simp only [ll]; omega)), ?_⟩; ((conv=>whnf);repeat(refine⟨rfl,?_⟩;conv=>whnf)))
          refine ⟨_, by rw [show 0 + (i : Int).toNat = i by omega]; exact drow_at (l := l) (j := i) (by omega), ?_⟩
          ((conv=>whnf);repeat(refine⟨rfl,?_⟩;conv=>whnf))
          (refine .inl ⟨_, (ltl_oneT 4 (l[i]'(by omega))), ?_⟩; ((conv=>whnf);repeat(refine⟨rfl,?_⟩;conv=>whnf)))
          (refine .inl ⟨_, (ltl_twoT 6 (mk1 4 (l[i]'(by omega))) (layL (l.drop (i + 1)) a)), ?_⟩; ((conv=>whnf);repeat(refine⟨rfl,?_⟩;conv=>whnf)))
          refine .inl ⟨by unfold InR; rw [IntKind.wrap_i64]; omega, ?_⟩
          ((conv=>whnf);repeat(refine⟨rfl,?_⟩;conv=>whnf))
          exact ⟨i, by omega, by dsimp only; omega, leB_envH (by (repeat' (first | exact trivial | refine And.intro rfl ?_))) (by dsimp only; rw [layL_drop l a (show i < l.length by omega)]; rfl)⟩
        · have : j = 0 := by ((try simp only[oo,reduceCtorEq]at*)<;>omega)
          subst this
          exact ⟨by (repeat' (first | exact trivial | exact DeepM.none _ | refine And.intro ?_ ?_ | exact Or.inl rfl | exact Or.inr ⟨rfl, rfl⟩ | exact fun _ => rfl | exact (fun h => by cases h) | refine DeepM.loc _ _ _ _ _ rfl rfl ?_ | refine DeepM.own _ _ _ _ _ _ _ _ rfl rfl ?_ | refine DeepM.fn _ _ _ _ _ ?_ ?_ | refine DeepM.agg _ _ ?_ | refine DeepM.tup _ _ ?_ | refine DeepM.ifc _ _ _ ?_ | exact DeepM.refl _ | refine DeepML.cons _ _ _ _ ?_ ?_ | exact DeepML.refl _ | refine DeepMLL.cons _ _ _ _ ?_ ?_ | exact DeepMLL.refl _ | exact rfl)), close_one (pure_rdr _ _ _ _)⟩
    · have hA : ACall Tryd.prog 16 _ _ _ _ := hR _ h3
      ((conv=>whnf);repeat(refine⟨rfl,?_⟩;conv=>whnf))
      (apply rd_sound; focus (repeat' constructor))
      ((conv=>whnf);repeat(refine⟨rfl,?_⟩;conv=>whnf))
      (refine .inr (.inr (.inl ⟨rfl, _, _, (rdrP hA (by simp [UnderL, Under]) _), ?_⟩)); ((conv=>whnf);repeat(refine⟨rfl,?_⟩;conv=>whnf)))
      subst h2
      exact ⟨by (repeat' (first | exact trivial | exact DeepM.none _ | refine And.intro ?_ ?_ | exact Or.inl rfl | exact Or.inr ⟨rfl, rfl⟩ | exact fun _ => rfl | exact (fun h => by cases h) | refine DeepM.loc _ _ _ _ _ rfl rfl ?_ | refine DeepM.own _ _ _ _ _ _ _ _ rfl rfl ?_ | refine DeepM.fn _ _ _ _ _ ?_ ?_ | refine DeepM.agg _ _ ?_ | refine DeepM.tup _ _ ?_ | refine DeepM.ifc _ _ _ ?_ | exact DeepM.refl _ | refine DeepML.cons _ _ _ _ ?_ ?_ | exact DeepML.refl _ | refine DeepMLL.cons _ _ _ _ ?_ ?_ | exact DeepMLL.refl _ | exact rfl)), close_one (pure_rdr _ _ _ _)⟩
/-- What stands within something that is opened. -/
def inR (o n : Nat) (q : Res) : Res := if o = 20 then noR 5 n else q
def c46 : PC := .seq (.ops [q 4 (.alloc [(.int .i64 0), (.int .i64 0), (.slice none 0 0)]),q 5 (.move (.const (.nilIface)))] false) (.seq (.seq (.ops [qm 8 0,q 9 (.nilchk (.tmp 8)),q 10 (.faddr 5 (.tmp 9)),q 11 (.load1 (.tmp 10)),q 12 (.bin .eql (.tmp 11) (.const (.int .i64 20)))] false) (.cond (.tmp 12) (.seq (.ops [q 13 (.build [(.int .i64 0), (.int .i64 0), (.slice none 0 0)] []),q 14 (.load1 (.global 1)),qm 15 0,qd 16 (.nilchk (.tmp 15)) 4,qd 17 (.faddr 3 (.tmp 16)) 12,qd 18 (.load1 (.tmp 17)) 28,qd 19 (.call 9 [(.tmp 14), (.tmp 18)]) 62,qk (.store 3 (.tmp 4) (.tmp 13)) 127,qw 5 19 255] true) (.ret)) (.skip))) (.seq (.ops [qm 20 0,q 21 (.nilchk (.tmp 20)),q 22 (.faddr 5 (.tmp 21)),q 23 (.load1 (.tmp 22)),q 24 (.bin .add (.tmp 23) (.const (.int .i64 1))),q 25 (.nilchk (.tmp 20)),q 26 (.faddr 5 (.tmp 25)),qn (.store 1 (.tmp 26) (.tmp 24))] false) (.seq (.ops [qm 27 0,q 28 (.call 7 [(.tmp 27)])] false) (.seq (.ops [qm 30 1,q 31 (.callv (.tmp 30) []),qm 29 31,q 32 (.ext 0 (.tmp 29)),q 33 (.ext 1 (.tmp 29)),q 6 (.alloc [(.int .i64 0), (.int .i64 0), (.slice none 0 0)]),qn (.store 3 (.tmp 6) (.tmp 32)),qm 7 33] false) (.seq (.ops [qm 34 0,q 35 (.nilchk (.tmp 34)),q 36 (.faddr 5 (.tmp 35)),q 37 (.load1 (.tmp 36)),q 38 (.bin .sub (.tmp 37) (.const (.int .i64 1))),q 39 (.nilchk (.tmp 34)),q 40 (.faddr 5 (.tmp 39)),qn (.store 1 (.tmp 40) (.tmp 38))] false) (.seq (.ops [q 41 (.loadA 3 (.tmp 6)),qm 42 7,qn (.store 3 (.tmp 4) (.tmp 41)),qm 5 42] false) (.ret)))))))
set_option maxRecDepth 100000 in
theorem c46_ok : FunOK Tryd.prog 46 43 [.agg 4 3, .tmp 5] c46 := ⟨⟨Tryd.f46, Tryd.func46, rfl, by kernel_rfl, rfl, by kernel_rfl⟩⟩
theorem ltl_within (s : ByteArray) (hs : s.size ≤ 1000000000) (names : List ByteArray) (n o : Nat) (ho : o ≤ 20) (pf : FuncId) (first cap : List D) (hu : UnderL 1 (first ++ [] ++ cap)) (q : Res) (hq : o < 20 → CAns s names pf (first ++ [] ++ cap) (n + 1) (o + 1) q) :
    CAns s names 46 [.loc 0 0, .fn (.func pf) first cap] n o (inR o n q) := by
  refine acall_introD c46_ok (by simp) (by simp) ?_ (under_pure _ (pure_ans _ _ _))
  by_cases h : o = 20
  · have e : inR o n q = noR 5 n := if_pos h
    rw [e]
    subst h
    (apply rd_sound; focus (repeat' constructor))
    ((conv=>whnf);repeat(refine⟨rfl,?_⟩;conv=>whnf))
    (refine .inl ⟨_, (ltl_errOpen (atT s n)), ?_⟩; ((conv=>whnf);repeat(refine⟨rfl,?_⟩;conv=>whnf)))
    exact ⟨by (repeat' (first | exact trivial | exact DeepM.none _ | refine And.intro ?_ ?_ | exact Or.inl rfl | exact Or.inr ⟨rfl, rfl⟩ | exact fun _ => rfl | exact (fun h => by cases h) | refine DeepM.loc _ _ _ _ _ rfl rfl ?_ | refine DeepM.own _ _ _ _ _ _ _ _ rfl rfl ?_ | refine DeepM.fn _ _ _ _ _ ?_ ?_ | refine DeepM.agg _ _ ?_ | refine DeepM.tup _ _ ?_ | refine DeepM.ifc _ _ _ ?_ | exact DeepM.refl _ | refine DeepML.cons _ _ _ _ ?_ ?_ | exact DeepML.refl _ | refine DeepMLL.cons _ _ _ _ ?_ ?_ | exact DeepMLL.refl _ | exact rfl)), close_one (pure_rdr _ _ _ _)⟩
  · have e : inR o n q = q := if_neg h
    rw [e]
    have hN := ltl_nextT s hs names n (o + 1)
    have hA : ACall Tryd.prog pf _ _ _ _ := rdrP (hq (by omega)) hu [.row true [.sc (.int .i64 0), .sc (.int .i64 0), .sc (.slice none 0 0)]]
    (apply rd_sound; focus (repeat' constructor))
    ((conv=>whnf);repeat(refine⟨rfl,?_⟩;conv=>whnf))
    refine ifK_f (by simp; omega) ?_
    ((conv=>whnf);repeat(refine⟨rfl,?_⟩;conv=>whnf))
    (refine .inl ⟨by (unfold InR; rw [IntKind.wrap_i64]; omega), ?_⟩; ((conv=>whnf);repeat(refine⟨rfl,?_⟩;conv=>whnf)))
    (refine .inr (.inr (.inl ⟨rfl, _, _, (rdrP hN (by simp [UnderL, Under]) _), ?_⟩)); ((conv=>whnf);repeat(refine⟨rfl,?_⟩;conv=>whnf)))
    (refine .inr (.inr (.inl ⟨rfl, _, _, hA, ?_⟩)); ((conv=>whnf);repeat(refine⟨rfl,?_⟩;conv=>whnf)))
    refine .inl ⟨by unfold InR; rw [IntKind.wrap_i64]; omega, ?_⟩
    ((conv=>whnf);repeat(refine⟨rfl,?_⟩;conv=>whnf))
    rw [show (((o + 1 : Nat) : Int) - 1) = (o : Int) by omega]
    exact ⟨by (repeat' (first | exact trivial | exact DeepM.none _ | refine And.intro ?_ ?_ | exact Or.inl rfl | exact Or.inr ⟨rfl, rfl⟩ | exact fun _ => rfl | exact (fun h => by cases h) | refine DeepM.loc _ _ _ _ _ rfl rfl ?_ | refine DeepM.own _ _ _ _ _ _ _ _ rfl rfl ?_ | refine DeepM.fn _ _ _ _ _ ?_ ?_ | refine DeepM.agg _ _ ?_ | refine DeepM.tup _ _ ?_ | refine DeepM.ifc _ _ _ ?_ | exact DeepM.refl _ | refine DeepML.cons _ _ _ _ ?_ ?_ | exact DeepML.refl _ | refine DeepMLL.cons _ _ _ _ ?_ ?_ | exact DeepMLL.refl _ | exact rfl)), close_one (pure_rdr s names q.pos o)⟩
end Go.Proofs.YtjbkbjedlgkibaaDoor
