/-
  The document's Nots and Plain over deep values. No statement is proved here.
-/
import Derived.Test.YtihgbinhidppdaaPn1
namespace Go.Proofs.Ytihgbinhidppdaa
open Go.RowKit
set_option linter.unusedSimpArgs false
set_option linter.unusedVariables false
def c6_1 : PC := .seq (.seq (.ops [⟨some 5,.move (.tmp 4),none,0⟩,
 ⟨some 6,.faddr 2 (.tmp 1),none,0⟩,
 ⟨some 7,.load1 (.tmp 6),none,0⟩,
 ⟨some 8,.len (.tmp 7),none,0⟩,
 ⟨some 9,.bin .lss (.tmp 5) (.tmp 8),none,0⟩] false) (.cond (.tmp 9) (.skip) (.exit 0))) (.seq (.block 1 (.ops [⟨some 12,.move (.tmp 3),none,0⟩,
 ⟨some 13,.faddr 2 (.tmp 1),none,0⟩,
 ⟨some 14,.load1 (.tmp 13),none,0⟩,
 ⟨some 15,.move (.tmp 4),none,0⟩,
 ⟨some 16,.iaddr 3 (.tmp 14) (.tmp 15),none,0⟩,
 ⟨some 17,.loadA 3 (.tmp 16),none,0⟩,
 ⟨some 18,.call 6 [(.tmp 17)],none,0⟩,
 ⟨some 19,.bslice 3 1 [(.tmp 18)],none,0⟩,
 ⟨some 20,.append 3 40 (.tmp 12) (.tmp 19),none,0⟩,
 ⟨some 3,.move (.tmp 20),none,0⟩] false)) (.ops [⟨some 10,.move (.tmp 4),none,0⟩,
 ⟨some 11,.bin .add (.tmp 10) (.const (.int .i64 1)),none,0⟩,
 ⟨some 4,.move (.tmp 11),none,0⟩] false))
def c6 : PC := .seq (.ops [⟨some 1,.box (.tmp 0),none,0⟩,
 ⟨some 2,.alloc [(.int .i64 0), (.int .i64 0), (.slice none 0 0)],none,0⟩] false) (.seq (.ops [⟨some 3,.move (.const (.slice none 0 0)),none,0⟩] false) (.seq (.seq (.ops [⟨some 4,.move (.const (.int .i64 0)),none,0⟩] false) (.block 0 (.loop c6_1))) (.seq (.seq (.ops [⟨some 21,.faddr 0 (.tmp 1),none,0⟩,
 ⟨some 22,.load1 (.tmp 21),none,0⟩,
 ⟨some 23,.bin .eql (.tmp 22) (.const (.int .i64 10)),none,0⟩] false) (.cond (.tmp 23) (.seq (.ops [⟨some 24,.call 21 [(.const (.int .i64 1)), (.const (.int .i64 0))],none,0⟩,
 ⟨some 25,.move (.tmp 3),none,0⟩,
 ⟨some 26,.iaddr 3 (.tmp 25) (.const (.int .i64 0)),none,2⟩,
 ⟨some 27,.loadA 3 (.tmp 26),none,6⟩,
 ⟨some 28,.call 20 [(.const (.int .i64 8)), (.tmp 24), (.tmp 27)],none,15⟩,
 ⟨none,.store 3 (.tmp 2) (.tmp 28),none,31⟩] true) (.ret)) (.skip))) (.seq (.seq (.ops [⟨some 29,.faddr 0 (.tmp 1),none,0⟩,
 ⟨some 30,.load1 (.tmp 29),none,0⟩,
 ⟨some 31,.bin .eql (.tmp 30) (.const (.int .i64 11)),none,0⟩] false) (.cond (.tmp 31) (.seq (.ops [⟨some 32,.call 21 [(.const (.int .i64 2)), (.const (.int .i64 0))],none,0⟩,
 ⟨some 33,.move (.tmp 3),none,0⟩,
 ⟨some 34,.iaddr 3 (.tmp 33) (.const (.int .i64 0)),none,2⟩,
 ⟨some 35,.loadA 3 (.tmp 34),none,6⟩,
 ⟨some 36,.call 20 [(.const (.int .i64 9)), (.tmp 32), (.tmp 35)],none,15⟩,
 ⟨none,.store 3 (.tmp 2) (.tmp 36),none,31⟩] true) (.ret)) (.skip))) (.seq (.ops [⟨some 37,.faddr 0 (.tmp 1),none,0⟩,
 ⟨some 38,.load1 (.tmp 37),none,0⟩,
 ⟨some 39,.faddr 1 (.tmp 1),none,0⟩,
 ⟨some 40,.load1 (.tmp 39),none,0⟩,
 ⟨some 41,.move (.tmp 3),none,0⟩,
 ⟨some 42,.build [(.int .i64 0), (.int .i64 0), (.slice none 0 0)] [(0, 1, (.tmp 38)), (1, 1, (.tmp 40)), (2, 1, (.tmp 41))],none,0⟩,
 ⟨none,.store 3 (.tmp 2) (.tmp 42),none,0⟩] false) (.ret))))))
set_option maxRecDepth 100000 in
theorem c6_ok : FunOK Try.prog 6 43 [.agg 2 3] c6 := ⟨⟨Try.f6, Try.func6, rfl, by kernel_rfl, rfl, by kernel_rfl⟩⟩

theorem ref_leafm (k n : Int) : PCall Try.prog 21 [.sc (.int .i64 k), .sc (.int .i64 n)] (.agg [.sc (.int .i64 k), .sc (.int .i64 n), .sc (.slice none 0 0)]) := by
  refine pcall_intro c21_ok (by simp) (by simp [PureL, Pure]) ?_ (by simp [Pure, PureL])
  (apply rd_sound; focus (repeat' constructor))
  ((conv=>whnf);repeat(refine .intro rfl ?_;conv=>whnf))
  (repeat' (first | exact Deep.refl _ | exact Deep.none _ | exact deep_row _ | exact DeepL.nil | exact DeepLL.nil | refine Deep.agg _ _ ?_ | refine Deep.tup _ _ ?_ | refine Deep.own _ _ _ _ _ _ _ _ rfl ?_ | refine Deep.loc _ _ _ _ _ rfl ?_ | refine Deep.ifc _ _ _ ?_ | refine Deep.fn _ _ _ _ _ ?_ ?_ | refine DeepL.cons _ _ _ _ ?_ ?_ | refine DeepLL.cons _ _ _ _ ?_ ?_ | exact deepLL_refl _))
theorem sizes_mem {u : Tree} : ∀ {l : List Tree}, u ∈ l → u.size ≤ Tree.sizes l
  | a :: r, h => by
    rw [Tree.sizes]
    rcases List.mem_cons.1 h with rfl | h
    · omega
    · have := sizes_mem h; omega
theorem size_kid {t : Tree} {j : Nat} (h : j < t.width) : (t.kid j).size + 1 ≤ t.size := by
  have := sizes_mem (show t.kid j ∈ t.kids by rw [Tree.kid_get h]; exact List.getElem_mem h)
  cases t with
  | node k n ks => rw [Tree.size]; simp only [Tree.kids] at this; omega
theorem size_mk1 (k : Int) (a : Tree) : (mk1 k a).size = a.size + 1 := by simp [mk1, Tree.size, Tree.sizes]; omega
theorem deep_made {H : List AObj} {id m : Nat} {k n : Int} {ks : List Tree} {f : Tree → Tree} {t : Tree} (ht : t = .node k n (ks.map f)) (ho : H[id]? = some (.vec true m 3 ((ks.take m).map fun u => drow (f u)))) (hm : m = ks.length) :
    Deep H (.agg [.sc (.int .i64 k), .sc (.int .i64 n), .own id m 0 m]) (dtree t) := by
  subst ht hm
  refine .agg _ _ (.cons _ _ _ _ (.refl _) (.cons _ _ _ _ (.refl _) (.cons _ _ _ _ (.own id _ _ _ _ _ _ _ ho ?_) .nil)))
  rw [List.drop_zero, List.take_of_length_le (by simp), List.take_length, Tree.kids, List.map_map]
  exact (List.map_congr_left (fun u _ => (dcells_eq (f u)).symm : ∀ u ∈ ks, drow (f u) = (dcells ∘ f) u)) ▸ deepLL_refl _
theorem dropK_to {cs : List D} {n : Nat} {K : List D → Prop} {r : List D} (h : cs.drop n = r) (hn : n ≤ cs.length) (hK : K r) : dropK cs n K := (dropK_iff _ _ _).2 ⟨hn, h ▸ hK⟩
def opps : List D := [.sc (.int .i64 0), .sc (.int .i64 2), .sc (.int .i64 1), .sc (.int .i64 0), .sc (.int .i64 0), .sc (.int .i64 6), .sc (.int .i64 5), .sc (.int .i64 7), .sc (.int .i64 9), .sc (.int .i64 8), .sc (.int .i64 11), .sc (.int .i64 10)]
theorem opp_at {k : Int} (h : 1 ≤ k ∧ k ≤ 11) (h3 : k ≠ 3) (h4 : k ≠ 4) : ∃ r, opps.drop (k.toNat * 1) = .sc (.int .i64 (otherK k)) :: r := by
  have : k = 1 ∨ k = 2 ∨ k = 5 ∨ k = 6 ∨ k = 7 ∨ k = 8 ∨ k = 9 ∨ k = 10 ∨ k = 11 := by omega
  rcases this with rfl | rfl | rfl | rfl | rfl | rfl | rfl | rfl | rfl <;> exact ⟨_, rfl⟩
theorem wf_kind {t : Tree} (h : t.wf lKids) : 1 ≤ t.kind ∧ t.kind ≤ 11 := by
  have := node_arity ((wf_iff _ _).1 h).1
  omega

theorem ref_Plain : ∀ t : Tree, t.wf lKids → PCall Try.prog 6 [dtree t] (dtree (plainT t)) := by
  intro t
  induction t using Tree.ind with
  | h t ih =>
    intro hwf
    have hs := wf_small t hwf
    have hsz := hs.width
    have har := node_arity ((wf_iff _ _).1 hwf).1
    have hE := plainT_eq t fun h => wf_wide hwf (by omega)
    refine pcall_intro c6_ok (by simp) (by simp [PureL, pure_dtree]) ?_ (pure_dtree _)
    (apply rd_sound; focus (repeat' constructor))
    ((conv=>whnf);repeat(refine .intro rfl ?_;conv=>whnf))
    refine pwp_loopB (fun k : Nat => [(1, .loc 0 0), (2, .loc 1 0), (3, .own 2 k 0 k), (4, .sc (.int .i64 k))])
      (fun k => [.row true (drow t), .row true [.sc (.int .i64 0), .sc (.int .i64 0), .sc (.slice none 0 0)], .vec true k 3 ((t.kids.take k).map fun u => drow (plainT u))])
      (fun k => k ≤ t.width) (fun k => t.width - k) 0 (by omega) (leB_trans (leB_nil 3 3 (by simp) rfl) (leB_env ⟨rfl, rfl, rfl, rfl, trivial⟩)) ?_
    rintro k hk
    (apply rd_sound; focus (repeat' constructor))
    ((conv=>whnf);repeat(refine .intro rfl ?_;conv=>whnf))
    (refine ifK_split (fun h1 => ?_) (fun h1 => ?_) <;> (rw [h1]; ((conv=>whnf);repeat(refine .intro rfl ?_;conv=>whnf))))
    · have hk' : k < t.width := by simpa [Tree.width] using h1
      refine ⟨by omega, _, kid_at hk', ?_⟩
      ((conv=>whnf);repeat(refine .intro rfl ?_;conv=>whnf))
      (refine .inl ⟨_, (ih k hk' (wf_kid hwf hk')), ?_⟩; ((conv=>whnf);repeat(refine .intro rfl ?_;conv=>whnf)))
      refine ⟨by unfold sliceAppend; simp only [List.drop_zero, List.take_succ_cons, List.take_zero, List.length_cons, List.length_nil]; omega, ?_⟩
      ((conv=>whnf);repeat(refine .intro rfl ?_;conv=>whnf))
      refine .inl ⟨by unfold InR; rw [IntKind.wrap_i64]; unfold Tree.width at *; omega, ?_⟩
      ((conv=>whnf);repeat(refine .intro rfl ?_;conv=>whnf))
      refine ⟨k + 1, by omega, by dsimp only; omega, leB_close 3 (by simp) rfl ⟨.refl _, by simp [Under], .refl _, by simp [Under], .refl _, by simp [Under], .refl _, by simp [Under], trivial⟩
        ⟨⟨rfl, .refl _, underL_pure _ (pure_drow t)⟩, ⟨rfl, .refl _, by simp [UnderL, Under]⟩, ⟨rfl, rfl, rfl, deepMLL_eq (take_snoc _ (kid_get? hk')), underLL_pure _ (pureLL_map _ (fun u => pure_drow _) _)⟩, trivial⟩⟩
    · have hk' : k = t.width := by have : ¬ k < t.width := by simpa [Tree.width] using h1
                                   omega
      subst hk'
      (refine ifK_split (fun h10 => ?_) (fun h10 => ?_) <;> (rw [h10]; ((conv=>whnf);repeat(refine .intro rfl ?_;conv=>whnf))))
      · have h10 : t.kind = 10 := by simpa using h10
        have h0 := wf_wide hwf (show t.kind = 4 ∨ t.kind = 7 ∨ t.kind = 10 ∨ t.kind = 11 by omega)
        rw [if_pos h10] at hE
        (refine .inl ⟨_, (ref_leaf 1 0), ?_⟩; ((conv=>whnf);repeat(refine .intro rfl ?_;conv=>whnf)))
        refine ⟨by omega, by omega, ?_⟩; ((conv=>whnf);repeat(refine .intro rfl ?_;conv=>whnf))
        refine ⟨_, take_at _ h0, ?_⟩; ((conv=>whnf);repeat(refine .intro rfl ?_;conv=>whnf))
        (refine .inl ⟨_, (ref_two 8 (mk0 1 0) (plainT (t.kid 0))), ?_⟩; ((conv=>whnf);repeat(refine .intro rfl ?_;conv=>whnf)))
        exact deep_as hE (.refl _)
      have h10 : ¬ t.kind = 10 := by simpa using h10
      rw [if_neg h10] at hE
      (refine ifK_split (fun h11 => ?_) (fun h11 => ?_) <;> (rw [h11]; ((conv=>whnf);repeat(refine .intro rfl ?_;conv=>whnf))))
      · have h11 : t.kind = 11 := by simpa using h11
        have h0 := wf_wide hwf (show t.kind = 4 ∨ t.kind = 7 ∨ t.kind = 10 ∨ t.kind = 11 by omega)
        rw [if_pos h11] at hE
        (refine .inl ⟨_, (ref_leaf 2 0), ?_⟩; ((conv=>whnf);repeat(refine .intro rfl ?_;conv=>whnf)))
        refine ⟨by omega, by omega, ?_⟩; ((conv=>whnf);repeat(refine .intro rfl ?_;conv=>whnf))
        refine ⟨_, take_at _ h0, ?_⟩; ((conv=>whnf);repeat(refine .intro rfl ?_;conv=>whnf))
        (refine .inl ⟨_, (ref_two 9 (mk0 2 0) (plainT (t.kid 0))), ?_⟩; ((conv=>whnf);repeat(refine .intro rfl ?_;conv=>whnf)))
        exact deep_as hE (.refl _)
      have h11 : ¬ t.kind = 11 := by simpa using h11
      rw [if_neg h11] at hE
      exact deep_made (id := 2) hE rfl rfl
end Go.Proofs.Ytihgbinhidppdaa
