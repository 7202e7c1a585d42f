/-
  The reference's reader of formulas, over deep values: rows, signs, formulas. No statement is proved here.
-/
import Derived.Test.YtjbkbjedlgkibaaDoorRf1
import Derived.Test.YtjbkbjedlgkibaaDoorRd1
namespace Go.Proofs.YtjbkbjedlgkibaaDoor
open Go.RowKit
set_option linter.unusedSimpArgs false
set_option linter.unusedVariables false
def Res.treeR : Res → Tree
  | .ok a _ => a
  | .bad _ _ _ y => y
def Res.posR : Res → Nat
  | .ok _ m => m
  | .bad _ m _ _ => m
def Res.code : Res → Int
  | .ok _ _ => 0
  | .bad c _ _ _ => c
def Res.place (s : ByteArray) : Res → Int
  | .ok _ _ => 0
  | .bad _ m _ _ => atT s m
theorem txtP {P : Program} {f : FuncId} {args : List D} {d : D} {s : ByteArray} {K : Nat} {names : List ByteArray} {all : Bool} {n o m o' : Nat} {e p e' p' : Int} (h : ACall P f args [.row true (txt s K names all n o e p)] d [.row true (txt s K names all m o' e' p')]) (ha : UnderL 1 args) (R : List AObj) :
    ACall P f args (.row true (txt s K names all n o e p) :: R) d (.row true (txt s K names all m o' e' p') :: R) :=
  acall_pre h R rfl ha ⟨underL_pure _ (pure_txt _ _ _ _ _ _ _ _), trivial⟩
/-- The same in a region that draws its order. -/
theorem txtE {P : Program} {f : FuncId} {post : List D} {d : D} {s : ByteArray} {K : Nat} {names : List ByteArray} {all : Bool} {n o m o' : Nat} {e p e' p' : Int} (h : ACall P f (.loc 0 0 :: post) [.row true (txt s K names all n o e p)] d [.row true (txt s K names all m o' e' p')]) (hpost : PureL post) (hd : Pure d)
    {H : List AObj} (e0 : H[0]? = some (.row true (txt s K names all n o e p))) : ACallAt P f (.loc 0 0 :: post) H d (H.set 0 (.row true (txt s K names all m o' e' p'))) [0] :=
  acallAt_row (pre := []) (post := post) h (by simp [PureL]) hpost (pure_txt _ _ _ _ _ _ _ _) (pure_txt _ _ _ _ _ _ _ _) hd (id := 0) e0
section
variable (s : ByteArray) (K : Nat) (names : List ByteArray) (all : Bool)
def RAns (fn : FuncId) (args : List D) (n o : Nat) (r : Res) : Prop :=
  ACall Tryd.prog fn args [.row true (txt s K names all n o 0 0)] (rtree all r.treeR) [.row true (txt s K names all r.posR o r.code (r.place s))]
@[simp] theorem under_rtree {m : Nat} (t : Tree) : Under m (rtree all t) ↔ True := ⟨fun _ => trivial, fun _ => under_pure _ (pure_rtree all t)⟩
@[simp] theorem underL_rrow {m : Nat} (t : Tree) : UnderL m (rrow all t) ↔ True := ⟨fun _ => trivial, fun _ => underL_pure _ (pure_rrow all t)⟩
@[simp] theorem underL_rcells {m : Nat} (t : Tree) : UnderL m (rcells all t) ↔ True := ⟨fun _ => trivial, fun _ => underL_pure _ (pure_rcells all t)⟩
@[simp] theorem underLL_rcells {m : Nat} (l : List Tree) : UnderLL m (l.map (rcells all)) ↔ True := ⟨fun _ => trivial, fun _ => underLL_pure _ (pureLL_map _ (pure_rcells all) _)⟩
theorem rr2 {S : Nat → Bool} {H : List AObj} {x : ByteArray} {k : Int} {id : Nat} {a b : Tree} (hx : x = sgnC all k) (hS : S id = true) (h : H[id]? = some (.vec true 0 3 [rrow all a, rrow all b])) : DeepML S H [.sc (.string x), .sc (.int .i64 0), .own id 0 0 2] (rrow all (mk2 k a b)) := by
  subst hx
  exact .cons _ _ _ _ (.refl _) (.cons _ _ _ _ (.refl _) (.cons _ _ _ _ (.own id 0 0 2 3 true _ _ hS h (deepMLL_eq (by show [rrow all a, rrow all b] = [rcells all a, rcells all b]; rw [rcells_eq, rcells_eq]))) (.refl _)))
theorem rr1 {S : Nat → Bool} {H : List AObj} {x : ByteArray} {k : Int} {id : Nat} {a : Tree} (hx : x = sgnC all k) (hS : S id = true) (h : H[id]? = some (.vec true 0 3 [rrow all a])) : DeepML S H [.sc (.string x), .sc (.int .i64 0), .own id 0 0 1] (rrow all (mk1 k a)) := by
  subst hx
  exact .cons _ _ _ _ (.refl _) (.cons _ _ _ _ (.refl _) (.cons _ _ _ _ (.own id 0 0 1 3 true _ _ hS h (deepMLL_eq (by show [rrow all a] = [rcells all a]; rw [rcells_eq]))) (.refl _)))
def c39_1 : PC := .seq (.seq (.ops [qm 6 0,q 7 (.call 40 [(.tmp 6), (.const (.string ⟨#[47]⟩))])] false) (.cond (.tmp 7) (.skip) (.exit 0))) (.block 1 (.ops [q 8 (.loadA 3 (.tmp 3)),qm 9 0,qd 10 (.call 44 [(.tmp 9)]) 2,qd 11 (.bslice 3 2 [(.tmp 8), (.tmp 10)]) 7,qd 12 (.build [(.string ⟨#[]⟩), (.int .i64 0), (.slice none 0 0)] [(0, 1, (.const (.string ⟨#[47]⟩))), (1, 1, (.const (.int .i64 0))), (2, 1, (.tmp 11))]) 15,qk (.store 3 (.tmp 3) (.tmp 12)) 31] true))
def c39 : PC := .seq (.ops [q 2 (.alloc [(.string ⟨#[]⟩), (.int .i64 0), (.slice none 0 0)])] false) (.seq (.ops [qm 4 0,q 5 (.call 44 [(.tmp 4)]),q 3 (.alloc [(.string ⟨#[]⟩), (.int .i64 0), (.slice none 0 0)]),qn (.store 3 (.tmp 3) (.tmp 5))] false) (.seq (.block 0 (.loop c39_1)) (.seq (.ops [q 13 (.loadA 3 (.tmp 3)),qn (.store 3 (.tmp 2) (.tmp 13))] false) (.ret))))
set_option maxRecDepth 100000 in
theorem c39_ok : FunOK Tryd.prog 39 14 [.agg 2 3] c39 := ⟨⟨Tryd.f39, Tryd.func39, rfl, by kernel_rfl, rfl, by kernel_rfl⟩⟩
theorem ref_or (hK : eqS (tokT s K) ⟨#[]⟩ = true) (hK3 : K ≤ 300) (o : Nat) (f : Nat) (hp : ∀ f' n r, f' < f → n ≤ K → runR (tokT s) names all f' (partR true) o n = some r → RAns s K names all 44 [.loc 0 0] n o r)
    (n : Nat) (hn : n ≤ K) (r : Res) (hr : runR (tokT s) names all f (.row true) o n = some r) : RAns s K names all 39 [.loc 0 0] n o r := by
  cases f with
  | zero => simp [runR] at hr
  | succ f =>
    simp only [runR] at hr
    have hq : ∃ q, runR (tokT s) names all f (partR true) o n = some q ∧ ((∃ a m, q = .ok a m ∧ m ≤ K ∧ runR (tokT s) names all f (.rowL true a) o m = some r) ∨ ∃ c m x y, q = .bad c m x y ∧ c ≠ 0 ∧ r = q) := by
      rcases bindR_some hr with ⟨a, m, h1, h2⟩ | ⟨c, m, t, y, h1, rfl⟩
      · exact ⟨_, h1, .inl ⟨a, m, rfl, runR_in hK _ _ _ _ _ hn h1, h2⟩⟩
      · exact ⟨_, h1, .inr ⟨c, m, t, y, rfl, runR_in hK _ _ _ _ _ hn h1, rfl⟩⟩
    obtain ⟨q, h1, h2⟩ := hq
    have hA : ACall Tryd.prog 44 [.loc 0 0] _ _ _ := hp f n _ (by omega) hn h1
    refine acall_introD c39_ok (by simp) (by simp) ?_ (under_pure _ (pure_rtree _ _))
    (apply rd_sound; focus (repeat' constructor))
    ((conv=>whnf);repeat(refine⟨rfl,?_⟩;conv=>whnf))
    (refine .inr (.inr (.inl ⟨rfl, _, _, (txtP hA (by simp [UnderL, Under]) _), ?_⟩)); ((conv=>whnf);repeat(refine⟨rfl,?_⟩;conv=>whnf)))
    refine pwp_for [0, 2, 3] (fun ((g, q) : Nat × Res) => []) (fun (g, q) => [(0, .row true (txt s K names all q.posR o q.code (q.place s))), (2, .row true (rrow all q.treeR))])
      (fun (g, q) => g ≤ f ∧ ((∃ a m, q = .ok a m ∧ m ≤ K ∧ runR (tokT s) names all g (.rowL true a) o m = some r) ∨ ∃ c m x y, q = .bad c m x y ∧ c ≠ 0 ∧ r = q)) (fun (g, q) => g) (f, q) ?_
    ((conv=>whnf);repeat(refine⟨rfl,?_⟩;conv=>whnf))
    refine ⟨⟨Nat.le_refl _, h2⟩, by (repeat' (first | exact trivial | refine And.intro rfl ?_)), rfl, ?_⟩
    rintro ⟨g, q⟩ ⟨hg, ⟨a, m, rfl, hm, h2⟩ | ⟨c, m, x, y, rfl, hc, rfl⟩⟩
    · cases g with
      | zero => simp [runR] at h2
      | succ g =>
        simp only [runR] at h2
        have hT := ref_eat s K names all hK3 m o hm 0 (sgnR true)
        ((conv=>whnf);repeat(refine⟨rfl,?_⟩;conv=>whnf))
        (apply rd_sound; focus (repeat' constructor))
        ((conv=>whnf);repeat(refine⟨rfl,?_⟩;conv=>whnf))
        (refine .inr (.inr (.inl ⟨rfl, _, _, (txtP hT (by simp [UnderL, Under]) _), ?_⟩)); ((conv=>whnf);repeat(refine⟨rfl,?_⟩;conv=>whnf)))
        by_cases he : eqS (tokT s m) (sgnR true) = true
        · rw [if_pos he] at h2 ⊢
          rw [he]
          ((conv=>whnf);repeat(refine⟨rfl,?_⟩;conv=>whnf))
          have hm1 : m + 1 ≤ K := by
            rcases Nat.lt_or_ge m K with h | h
            · exact h
            · rw [show m = K by omega] at he
              have := eqS_size he
              rw [(eqS_empty _).1 hK] at this
              exact absurd this (by decide)
          have hn : ∃ q q', runR (tokT s) names all g (partR true) o (m + 1) = some q ∧ q'.treeR = mk2 (kndR true) a q.treeR ∧ q'.posR = q.posR ∧ q'.code = q.code ∧ q'.place s = q.place s ∧ ((∃ a m, q' = .ok a m ∧ m ≤ K ∧ runR (tokT s) names all g (.rowL true a) o m = some r) ∨ ∃ c m x y, q' = .bad c m x y ∧ c ≠ 0 ∧ r = q') := by
            rcases bindR_some h2 with ⟨b, k, h3, h4⟩ | ⟨c, k, t, y, h3, rfl⟩
            · exact ⟨_, .ok (mk2 (kndR true) a b) k, h3, rfl, rfl, rfl, rfl, .inl ⟨_, _, rfl, runR_in hK _ _ _ _ _ hm1 h3, h4⟩⟩
            · exact ⟨_, .bad c k (mk2 (kndR true) a t) (mk2 (kndR true) a y), h3, rfl, rfl, rfl, rfl, .inr ⟨c, k, _, _, rfl, runR_in hK _ _ _ _ _ hm1 h3, rfl⟩⟩
          obtain ⟨q1, q2, h3, e1, e2, e3, e4, h4⟩ := hn
          have hA : ACall Tryd.prog 44 [.loc 0 0] _ _ _ := hp g _ _ (by omega) hm1 h3
          (refine .inr (.inr (.inr (.inr (.inl ⟨_, _, _, (txtE hA (by simp [PureL]) (pure_rtree _ _) rfl), ?_⟩)))); ((conv=>whnf);repeat(refine⟨rfl,?_⟩;conv=>whnf)))
          refine ⟨(g, q2), ⟨by omega, h4⟩, by dsimp only; omega, ?_⟩
          dsimp only
          rw [e1, e2, e3, e4]
          (refine leB_close 3 (by simp) rfl ?_ ?_ <;> (repeat' (first | exact trivial | exact rfl | exact DeepM.refl _ | exact DeepML.refl _ | exact DeepMLL.refl _ | refine And.intro ?_ ?_ | (simp [Under, UnderL, UnderLL, -List.map_take, -List.map_drop]; done))))
          (refine rr2 (a := a) (b := q1.treeR) (k := kndR true) (id := 3) all ?_ ?_ ?_ <;> rfl)
        · rw [if_neg he] at h2 ⊢
          have he' : eqS (tokT s m) (sgnR true) = false := by simpa using he
          rw [he']
          ((conv=>whnf);repeat(refine⟨rfl,?_⟩;conv=>whnf))
          cases h2
          exact ⟨by (repeat' (first | exact trivial | exact DeepM.none _ | refine And.intro ?_ ?_ | exact Or.inl rfl | exact Or.inr ⟨rfl, rfl⟩ | exact fun _ => rfl | exact (fun h => by cases h) | refine DeepM.loc _ _ _ _ _ rfl rfl ?_ | refine DeepM.own _ _ _ _ _ _ _ _ rfl rfl ?_ | refine DeepM.fn _ _ _ _ _ ?_ ?_ | refine DeepM.agg _ _ ?_ | refine DeepM.tup _ _ ?_ | refine DeepM.ifc _ _ _ ?_ | exact DeepM.refl _ | refine DeepML.cons _ _ _ _ ?_ ?_ | exact DeepML.refl _ | refine DeepMLL.cons _ _ _ _ ?_ ?_ | exact DeepMLL.refl _ | exact rfl)), close_oneT (pure_txt s K names all m o 0 0)⟩
    · have hT := ref_eatE s K names all m o c (atT s m) hc (sgnR true)
      ((conv=>whnf);repeat(refine⟨rfl,?_⟩;conv=>whnf))
      (apply rd_sound; focus (repeat' constructor))
      ((conv=>whnf);repeat(refine⟨rfl,?_⟩;conv=>whnf))
      (refine .inr (.inr (.inl ⟨rfl, _, _, (txtP hT (by simp [UnderL, Under]) _), ?_⟩)); ((conv=>whnf);repeat(refine⟨rfl,?_⟩;conv=>whnf)))
      exact ⟨by (repeat' (first | exact trivial | exact DeepM.none _ | refine And.intro ?_ ?_ | exact Or.inl rfl | exact Or.inr ⟨rfl, rfl⟩ | exact fun _ => rfl | exact (fun h => by cases h) | refine DeepM.loc _ _ _ _ _ rfl rfl ?_ | refine DeepM.own _ _ _ _ _ _ _ _ rfl rfl ?_ | refine DeepM.fn _ _ _ _ _ ?_ ?_ | refine DeepM.agg _ _ ?_ | refine DeepM.tup _ _ ?_ | refine DeepM.ifc _ _ _ ?_ | exact DeepM.refl _ | refine DeepML.cons _ _ _ _ ?_ ?_ | exact DeepML.refl _ | refine DeepMLL.cons _ _ _ _ ?_ ?_ | exact DeepMLL.refl _ | exact rfl)), close_oneT (pure_txt s K names all m o c (atT s m))⟩
def c44_1 : PC := .seq (.seq (.ops [qm 6 0,q 7 (.call 40 [(.tmp 6), (.const (.string ⟨#[38]⟩))])] false) (.cond (.tmp 7) (.skip) (.exit 0))) (.block 1 (.ops [q 8 (.loadA 3 (.tmp 3)),qm 9 0,qd 10 (.call 48 [(.tmp 9)]) 2,qd 11 (.bslice 3 2 [(.tmp 8), (.tmp 10)]) 7,qd 12 (.build [(.string ⟨#[]⟩), (.int .i64 0), (.slice none 0 0)] [(0, 1, (.const (.string ⟨#[38]⟩))), (1, 1, (.const (.int .i64 0))), (2, 1, (.tmp 11))]) 15,qk (.store 3 (.tmp 3) (.tmp 12)) 31] true))
def c44 : PC := .seq (.ops [q 2 (.alloc [(.string ⟨#[]⟩), (.int .i64 0), (.slice none 0 0)])] false) (.seq (.ops [qm 4 0,q 5 (.call 48 [(.tmp 4)]),q 3 (.alloc [(.string ⟨#[]⟩), (.int .i64 0), (.slice none 0 0)]),qn (.store 3 (.tmp 3) (.tmp 5))] false) (.seq (.block 0 (.loop c44_1)) (.seq (.ops [q 13 (.loadA 3 (.tmp 3)),qn (.store 3 (.tmp 2) (.tmp 13))] false) (.ret))))
set_option maxRecDepth 100000 in
theorem c44_ok : FunOK Tryd.prog 44 14 [.agg 2 3] c44 := ⟨⟨Tryd.f44, Tryd.func44, rfl, by kernel_rfl, rfl, by kernel_rfl⟩⟩
theorem ref_and (hK : eqS (tokT s K) ⟨#[]⟩ = true) (hK3 : K ≤ 300) (o : Nat) (f : Nat) (hp : ∀ f' n r, f' < f → n ≤ K → runR (tokT s) names all f' (partR false) o n = some r → RAns s K names all 48 [.loc 0 0] n o r)
    (n : Nat) (hn : n ≤ K) (r : Res) (hr : runR (tokT s) names all f (.row false) o n = some r) : RAns s K names all 44 [.loc 0 0] n o r := by
  cases f with
  | zero => simp [runR] at hr
  | succ f =>
    simp only [runR] at hr
    have hq : ∃ q, runR (tokT s) names all f (partR false) o n = some q ∧ ((∃ a m, q = .ok a m ∧ m ≤ K ∧ runR (tokT s) names all f (.rowL false a) o m = some r) ∨ ∃ c m x y, q = .bad c m x y ∧ c ≠ 0 ∧ r = q) := by
      rcases bindR_some hr with ⟨a, m, h1, h2⟩ | ⟨c, m, t, y, h1, rfl⟩
      · exact ⟨_, h1, .inl ⟨a, m, rfl, runR_in hK _ _ _ _ _ hn h1, h2⟩⟩
      · exact ⟨_, h1, .inr ⟨c, m, t, y, rfl, runR_in hK _ _ _ _ _ hn h1, rfl⟩⟩
    obtain ⟨q, h1, h2⟩ := hq
    have hA : ACall Tryd.prog 48 [.loc 0 0] _ _ _ := hp f n _ (by omega) hn h1
    refine acall_introD c44_ok (by simp) (by simp) ?_ (under_pure _ (pure_rtree _ _))
    (apply rd_sound; focus (repeat' constructor))
    ((conv=>whnf);repeat(refine⟨rfl,?_⟩;conv=>whnf))
    (refine .inr (.inr (.inl ⟨rfl, _, _, (txtP hA (by simp [UnderL, Under]) _), ?_⟩)); ((conv=>whnf);repeat(refine⟨rfl,?_⟩;conv=>whnf)))
    refine pwp_for [0, 2, 3] (fun ((g, q) : Nat × Res) => []) (fun (g, q) => [(0, .row true (txt s K names all q.posR o q.code (q.place s))), (2, .row true (rrow all q.treeR))])
      (fun (g, q) => g ≤ f ∧ ((∃ a m, q = .ok a m ∧ m ≤ K ∧ runR (tokT s) names all g (.rowL false a) o m = some r) ∨ ∃ c m x y, q = .bad c m x y ∧ c ≠ 0 ∧ r = q)) (fun (g, q) => g) (f, q) ?_
    ((conv=>whnf);repeat(refine⟨rfl,?_⟩;conv=>whnf))
    refine ⟨⟨Nat.le_refl _, h2⟩, by (repeat' (first | exact trivial | refine And.intro rfl ?_)), rfl, ?_⟩
    rintro ⟨g, q⟩ ⟨hg, ⟨a, m, rfl, hm, h2⟩ | ⟨c, m, x, y, rfl, hc, rfl⟩⟩
    · cases g with
      | zero => simp [runR] at h2
      | succ g =>
        simp only [runR] at h2
        have hT := ref_eat s K names all hK3 m o hm 0 (sgnR false)
        ((conv=>whnf);repeat(refine⟨rfl,?_⟩;conv=>whnf))
        (apply rd_sound; focus (repeat' constructor))
        ((conv=>whnf);repeat(refine⟨rfl,?_⟩;conv=>whnf))
        (refine .inr (.inr (.inl ⟨rfl, _, _, (txtP hT (by simp [UnderL, Under]) _), ?_⟩)); ((conv=>whnf);repeat(refine⟨rfl,?_⟩;conv=>whnf)))
        by_cases he : eqS (tokT s m) (sgnR false) = true
        · rw [if_pos he] at h2 ⊢
          rw [he]
          ((conv=>whnf);repeat(refine⟨rfl,?_⟩;conv=>whnf))
          have hm1 : m + 1 ≤ K := by
            rcases Nat.lt_or_ge m K with h | h
            · exact h
            · rw [show m = K by omega] at he
              have := eqS_size he
              rw [(eqS_empty _).1 hK] at this
              exact absurd this (by decide)
          have hn : ∃ q q', runR (tokT s) names all g (partR false) o (m + 1) = some q ∧ q'.treeR = mk2 (kndR false) a q.treeR ∧ q'.posR = q.posR ∧ q'.code = q.code ∧ q'.place s = q.place s ∧ ((∃ a m, q' = .ok a m ∧ m ≤ K ∧ runR (tokT s) names all g (.rowL false a) o m = some r) ∨ ∃ c m x y, q' = .bad c m x y ∧ c ≠ 0 ∧ r = q') := by
            rcases bindR_some h2 with ⟨b, k, h3, h4⟩ | ⟨c, k, t, y, h3, rfl⟩
            · exact ⟨_, .ok (mk2 (kndR false) a b) k, h3, rfl, rfl, rfl, rfl, .inl ⟨_, _, rfl, runR_in hK _ _ _ _ _ hm1 h3, h4⟩⟩
            · exact ⟨_, .bad c k (mk2 (kndR false) a t) (mk2 (kndR false) a y), h3, rfl, rfl, rfl, rfl, .inr ⟨c, k, _, _, rfl, runR_in hK _ _ _ _ _ hm1 h3, rfl⟩⟩
          obtain ⟨q1, q2, h3, e1, e2, e3, e4, h4⟩ := hn
          have hA : ACall Tryd.prog 48 [.loc 0 0] _ _ _ := hp g _ _ (by omega) hm1 h3
          (refine .inr (.inr (.inr (.inr (.inl ⟨_, _, _, (txtE hA (by simp [PureL]) (pure_rtree _ _) rfl), ?_⟩)))); ((conv=>whnf);repeat(refine⟨rfl,?_⟩;conv=>whnf)))
          refine ⟨(g, q2), ⟨by omega, h4⟩, by dsimp only; omega, ?_⟩
          dsimp only
          rw [e1, e2, e3, e4]
          (refine leB_close 3 (by simp) rfl ?_ ?_ <;> (repeat' (first | exact trivial | exact rfl | exact DeepM.refl _ | exact DeepML.refl _ | exact DeepMLL.refl _ | refine And.intro ?_ ?_ | (simp [Under, UnderL, UnderLL, -List.map_take, -List.map_drop]; done))))
          (refine rr2 (a := a) (b := q1.treeR) (k := kndR false) (id := 3) all ?_ ?_ ?_ <;> rfl)
        · rw [if_neg he] at h2 ⊢
          have he' : eqS (tokT s m) (sgnR false) = false := by simpa using he
          rw [he']
          ((conv=>whnf);repeat(refine⟨rfl,?_⟩;conv=>whnf))
          cases h2
          exact ⟨by (repeat' (first | exact trivial | exact DeepM.none _ | refine And.intro ?_ ?_ | exact Or.inl rfl | exact Or.inr ⟨rfl, rfl⟩ | exact fun _ => rfl | exact (fun h => by cases h) | refine DeepM.loc _ _ _ _ _ rfl rfl ?_ | refine DeepM.own _ _ _ _ _ _ _ _ rfl rfl ?_ | refine DeepM.fn _ _ _ _ _ ?_ ?_ | refine DeepM.agg _ _ ?_ | refine DeepM.tup _ _ ?_ | refine DeepM.ifc _ _ _ ?_ | exact DeepM.refl _ | refine DeepML.cons _ _ _ _ ?_ ?_ | exact DeepML.refl _ | refine DeepMLL.cons _ _ _ _ ?_ ?_ | exact DeepMLL.refl _ | exact rfl)), close_oneT (pure_txt s K names all m o 0 0)⟩
    · have hT := ref_eatE s K names all m o c (atT s m) hc (sgnR false)
      ((conv=>whnf);repeat(refine⟨rfl,?_⟩;conv=>whnf))
      (apply rd_sound; focus (repeat' constructor))
      ((conv=>whnf);repeat(refine⟨rfl,?_⟩;conv=>whnf))
      (refine .inr (.inr (.inl ⟨rfl, _, _, (txtP hT (by simp [UnderL, Under]) _), ?_⟩)); ((conv=>whnf);repeat(refine⟨rfl,?_⟩;conv=>whnf)))
      exact ⟨by (repeat' (first | exact trivial | exact DeepM.none _ | refine And.intro ?_ ?_ | exact Or.inl rfl | exact Or.inr ⟨rfl, rfl⟩ | exact fun _ => rfl | exact (fun h => by cases h) | refine DeepM.loc _ _ _ _ _ rfl rfl ?_ | refine DeepM.own _ _ _ _ _ _ _ _ rfl rfl ?_ | refine DeepM.fn _ _ _ _ _ ?_ ?_ | refine DeepM.agg _ _ ?_ | refine DeepM.tup _ _ ?_ | refine DeepM.ifc _ _ _ ?_ | exact DeepM.refl _ | refine DeepML.cons _ _ _ _ ?_ ?_ | exact DeepML.refl _ | refine DeepMLL.cons _ _ _ _ ?_ ?_ | exact DeepMLL.refl _ | exact rfl)), close_oneT (pure_txt s K names all m o c (atT s m))⟩
theorem rr21 {S : Nat → Bool} {H : List AObj} {x y : ByteArray} {k l : Int} {i j : Nat} {a b : Tree} (hx : x = sgnC all k) (hy : y = sgnC all l) (hS : S i = true) (hS' : S j = true) (hX : H[i]? = some (.vec true 0 3 [[.sc (.string y), .sc (.int .i64 0), .own j 0 0 1], rrow all b])) (hY : H[j]? = some (.vec true 0 3 [rrow all a])) :
    DeepML S H [.sc (.string x), .sc (.int .i64 0), .own i 0 0 2] (rrow all (mk2 k (mk1 l a) b)) := by
  subst hx
  refine .cons _ _ _ _ (.refl _) (.cons _ _ _ _ (.refl _) (.cons _ _ _ _ (.own i 0 0 2 3 true _ _ hS hX ?_) (.refl _)))
  show DeepMLL S H [_, _] [rcells all (mk1 l a), rcells all b]
  rw [rcells_eq, rcells_eq]
  exact .cons _ _ _ _ (rr1 all hy hS' hY) (.refl _)
def c28 : PC := .seq (.ops [q 2 (.alloc [(.string ⟨#[]⟩), (.int .i64 0), (.slice none 0 0)])] false) (.seq (.ops [qm 4 0,q 5 (.call 39 [(.tmp 4)]),q 3 (.alloc [(.string ⟨#[]⟩), (.int .i64 0), (.slice none 0 0)]),qn (.store 3 (.tmp 3) (.tmp 5))] false) (.seq (.seq (.ops [qm 6 0,q 7 (.call 40 [(.tmp 6), (.const (.string ⟨#[45, 62]⟩))])] false) (.cond (.tmp 7) (.seq (.ops [q 8 (.loadA 3 (.tmp 3)),qd 9 (.bslice 3 1 [(.tmp 8)]) 1,qd 10 (.build [(.string ⟨#[]⟩), (.int .i64 0), (.slice none 0 0)] [(0, 1, (.const (.string ⟨#[33]⟩))), (1, 1, (.const (.int .i64 0))), (2, 1, (.tmp 9))]) 3,qm 11 0,qd 12 (.call 28 [(.tmp 11)]) 8,qd 13 (.bslice 3 2 [(.tmp 10), (.tmp 12)]) 31,qd 14 (.build [(.string ⟨#[]⟩), (.int .i64 0), (.slice none 0 0)] [(0, 1, (.const (.string ⟨#[47]⟩))), (1, 1, (.const (.int .i64 0))), (2, 1, (.tmp 13))]) 63,qk (.store 3 (.tmp 2) (.tmp 14)) 127] true) (.ret)) (.skip))) (.seq (.ops [q 15 (.loadA 3 (.tmp 3)),qn (.store 3 (.tmp 2) (.tmp 15))] false) (.ret))))
set_option maxRecDepth 100000 in
theorem c28_ok : FunOK Tryd.prog 28 16 [.agg 2 3] c28 := ⟨⟨Tryd.f28, Tryd.func28, rfl, by kernel_rfl, rfl, by kernel_rfl⟩⟩
theorem ref_formula (hK : eqS (tokT s K) ⟨#[]⟩ = true) (hK3 : K ≤ 300) (o : Nat) (f : Nat) (hp : ∀ f' n r, f' < f → n ≤ K → runR (tokT s) names all f' (.row true) o n = some r → RAns s K names all 39 [.loc 0 0] n o r)
    (hq : ∀ f' n r, f' < f → n ≤ K → runR (tokT s) names all f' .formula o n = some r → RAns s K names all 28 [.loc 0 0] n o r)
    (n : Nat) (hn : n ≤ K) (r : Res) (hr : runR (tokT s) names all f .formula o n = some r) : RAns s K names all 28 [.loc 0 0] n o r := by
  cases f with
  | zero => simp [runR] at hr
  | succ f =>
    simp only [runR] at hr
    rcases bindR_some hr with ⟨a, m, h1, h2⟩ | ⟨c, m, t, y, h1, rfl⟩
    · have hm : m ≤ K := runR_in hK _ _ _ _ _ hn h1
      have hA : ACall Tryd.prog 39 [.loc 0 0] _ _ _ := hp f n _ (by omega) hn h1
      have hT := ref_eat s K names all hK3 m o hm 0 sArrow
      by_cases he : eqS (tokT s m) sArrow = true
      · rw [if_pos he] at h2 hT
        rw [he] at hT
        have hm1 : m + 1 ≤ K := by
          rcases Nat.lt_or_ge m K with h | h
          · exact h
          · rw [show m = K by omega] at he
            have := eqS_size he
            rw [(eqS_empty _).1 hK] at this
            exact absurd this (by decide)
        obtain ⟨q, h3, e1, e2, e3, e4⟩ : ∃ q, runR (tokT s) names all f .formula o (m + 1) = some q ∧ r.treeR = mk2 6 (mk1 4 a) q.treeR ∧ r.posR = q.posR ∧ r.code = q.code ∧ r.place s = q.place s := by
          rcases bindR_some h2 with ⟨b, k, h3, h4⟩ | ⟨c, k, t, y, h3, rfl⟩
          · cases h4; exact ⟨_, h3, rfl, rfl, rfl, rfl⟩
          · exact ⟨_, h3, rfl, rfl, rfl, rfl⟩
        have hB : ACall Tryd.prog 28 [.loc 0 0] _ _ _ := hq f _ _ (by omega) hm1 h3
        unfold RAns
        rw [e1, e2, e3, e4]
        refine acall_introD c28_ok (by simp) (by simp) ?_ (under_pure _ (pure_rtree _ _))
        (apply rd_sound; focus (repeat' constructor))
        ((conv=>whnf);repeat(refine⟨rfl,?_⟩;conv=>whnf))
        (refine .inr (.inr (.inl ⟨rfl, _, _, (txtP hA (by simp [UnderL, Under]) _), ?_⟩)); ((conv=>whnf);repeat(refine⟨rfl,?_⟩;conv=>whnf)))
        (refine .inr (.inr (.inl ⟨rfl, _, _, (txtP hT (by simp [UnderL, Under]) _), ?_⟩)); ((conv=>whnf);repeat(refine⟨rfl,?_⟩;conv=>whnf)))
        (refine .inr (.inr (.inr (.inr (.inl ⟨_, _, _, (txtE hB (by simp [PureL]) (pure_rtree _ _) rfl), ?_⟩)))); ((conv=>whnf);repeat(refine⟨rfl,?_⟩;conv=>whnf)))
        refine ⟨.agg _ _ ?_, close_oneT (pure_txt s K names all q.posR o q.code (q.place s))⟩
        (refine rr21 (a := a) (b := q.treeR) (k := 6) (l := 4) (i := 4) (j := 3) (y := ⟨#[33]⟩) all ?_ ?_ ?_ ?_ ?_ ?_) <;> rfl
      · rw [if_neg he] at h2 hT
        rw [show eqS (tokT s m) sArrow = false by simpa using he] at hT
        cases h2
        refine acall_introD c28_ok (by simp) (by simp) ?_ (under_pure _ (pure_rtree _ _))
        (apply rd_sound; focus (repeat' constructor))
        ((conv=>whnf);repeat(refine⟨rfl,?_⟩;conv=>whnf))
        (refine .inr (.inr (.inl ⟨rfl, _, _, (txtP hA (by simp [UnderL, Under]) _), ?_⟩)); ((conv=>whnf);repeat(refine⟨rfl,?_⟩;conv=>whnf)))
        (refine .inr (.inr (.inl ⟨rfl, _, _, (txtP hT (by simp [UnderL, Under]) _), ?_⟩)); ((conv=>whnf);repeat(refine⟨rfl,?_⟩;conv=>whnf)))
        exact ⟨by (repeat' (first | exact trivial | exact DeepM.none _ | refine And.intro ?_ ?_ | exact Or.inl rfl | exact Or.inr ⟨rfl, rfl⟩ | exact fun _ => rfl | exact (fun h => by cases h) | refine DeepM.loc _ _ _ _ _ rfl rfl ?_ | refine DeepM.own _ _ _ _ _ _ _ _ rfl rfl ?_ | refine DeepM.fn _ _ _ _ _ ?_ ?_ | refine DeepM.agg _ _ ?_ | refine DeepM.tup _ _ ?_ | refine DeepM.ifc _ _ _ ?_ | exact DeepM.refl _ | refine DeepML.cons _ _ _ _ ?_ ?_ | exact DeepML.refl _ | refine DeepMLL.cons _ _ _ _ ?_ ?_ | exact DeepMLL.refl _ | exact rfl)), close_oneT (pure_txt s K names all m o 0 0)⟩
    · have hA : ACall Tryd.prog 39 [.loc 0 0] _ _ _ := hp f n _ (by omega) hn h1
      have hc : c ≠ 0 := runR_in hK _ _ _ _ _ hn h1
      have hT := ref_eatE s K names all m o c (atT s m) hc sArrow
      refine acall_introD c28_ok (by simp) (by simp) ?_ (under_pure _ (pure_rtree _ _))
      (apply rd_sound; focus (repeat' constructor))
      ((conv=>whnf);repeat(refine⟨rfl,?_⟩;conv=>whnf))
      (refine .inr (.inr (.inl ⟨rfl, _, _, (txtP hA (by simp [UnderL, Under]) _), ?_⟩)); ((conv=>whnf);repeat(refine⟨rfl,?_⟩;conv=>whnf)))
      (refine .inr (.inr (.inl ⟨rfl, _, _, (txtP hT (by simp [UnderL, Under]) _), ?_⟩)); ((conv=>whnf);repeat(refine⟨rfl,?_⟩;conv=>whnf)))
      exact ⟨by (repeat' (first | exact trivial | exact DeepM.none _ | refine And.intro ?_ ?_ | exact Or.inl rfl | exact Or.inr ⟨rfl, rfl⟩ | exact fun _ => rfl | exact (fun h => by cases h) | refine DeepM.loc _ _ _ _ _ rfl rfl ?_ | refine DeepM.own _ _ _ _ _ _ _ _ rfl rfl ?_ | refine DeepM.fn _ _ _ _ _ ?_ ?_ | refine DeepM.agg _ _ ?_ | refine DeepM.tup _ _ ?_ | refine DeepM.ifc _ _ _ ?_ | exact DeepM.refl _ | refine DeepML.cons _ _ _ _ ?_ ?_ | exact DeepML.refl _ | refine DeepMLL.cons _ _ _ _ ?_ ?_ | exact DeepMLL.refl _ | exact rfl)), close_oneT (pure_txt s K names all m o c (atT s m))⟩
end
end Go.Proofs.YtjbkbjedlgkibaaDoor
