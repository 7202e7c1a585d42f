/-
  watchref.Slim over deep values. No statement is proved here.
-/
import Derived.Test.YtkkfiadefekbbaaRsl
namespace Go.Proofs.Ytkkfiadefekbbaa
open Go.RowKit
set_option linter.unusedSimpArgs false
def c53_1 : PC := .seq (.seq (.ops [⟨(some 10), .move (.tmp 4), none, 0⟩,
    ⟨(some 11), .faddr 2 (.tmp 1), none, 0⟩,
    ⟨(some 12), .load1 (.tmp 11), none, 0⟩,
    ⟨(some 13), .len (.tmp 12), none, 0⟩,
    ⟨(some 14), .bin .lss (.tmp 10) (.tmp 13), none, 0⟩] false) (.cond (.tmp 14) (.skip) (.exit 0))) (.seq (.block 1 (.ops [⟨(some 17), .faddr 2 (.tmp 3), none, 0⟩,
    ⟨(some 18), .load1 (.tmp 17), none, 1⟩,
    ⟨(some 19), .faddr 2 (.tmp 1), none, 0⟩,
    ⟨(some 20), .load1 (.tmp 19), none, 4⟩,
    ⟨(some 21), .move (.tmp 4), none, 0⟩,
    ⟨(some 22), .iaddr 3 (.tmp 20) (.tmp 21), none, 28⟩,
    ⟨(some 23), .loadA 3 (.tmp 22), none, 60⟩,
    ⟨(some 24), .call 53 [(.tmp 23)], none, 124⟩,
    ⟨(some 25), .bslice 3 1 [(.tmp 24)], none, 252⟩,
    ⟨(some 26), .append 3 40 (.tmp 18) (.tmp 25), none, 511⟩,
    ⟨(some 27), .faddr 2 (.tmp 3), none, 1023⟩,
    ⟨none, .store 1 (.tmp 27) (.tmp 26), none, 2047⟩] true)) (.ops [⟨(some 15), .move (.tmp 4), none, 0⟩,
    ⟨(some 16), .bin .add (.tmp 15) (.const (.int .i64 1)), none, 0⟩,
    ⟨(some 4), .move (.tmp 16), none, 0⟩] false))
def c53 : PC := .seq (.ops [⟨(some 1), .box (.tmp 0), none, 0⟩,
    ⟨(some 2), .alloc [(.int .i64 0), (.int .i64 0), (.slice none 0 0)], none, 0⟩] false) (.seq (.ops [⟨(some 5), .faddr 0 (.tmp 1), none, 0⟩,
    ⟨(some 6), .load1 (.tmp 5), none, 0⟩,
    ⟨(some 7), .faddr 1 (.tmp 1), none, 0⟩,
    ⟨(some 8), .load1 (.tmp 7), none, 0⟩,
    ⟨(some 9), .call 90 [(.tmp 6), (.tmp 8)], none, 0⟩,
    ⟨(some 3), .alloc [(.int .i64 0), (.int .i64 0), (.slice none 0 0)], none, 0⟩,
    ⟨none, .store 3 (.tmp 3) (.tmp 9), none, 0⟩] false) (.seq (.seq (.ops [⟨(some 4), .move (.const (.int .i64 0)), none, 0⟩] false) (.block 0 (.loop c53_1))) (.seq (.stop (.ops [⟨(some 28), .loadA 3 (.tmp 3), none, 0⟩,
    ⟨(some 29), .call 91 [(.tmp 28)], none, 0⟩,
    ⟨none, .store 3 (.tmp 2) (.tmp 29), none, 0⟩] false)) (.ret))))
set_option maxRecDepth 100000 in
theorem c53_ok : FunOK Try.prog 53 30 [.agg 2 3] c53 := ⟨⟨Try.f53, Try.func53, rfl, by kernel_rfl, rfl, by kernel_rfl⟩⟩

theorem ref_leafn (k n : Int) : PCall Try.prog 90 [.sc (.int .i64 k), .sc (.int .i64 n)] (.agg [.sc (.int .i64 k), .sc (.int .i64 n), .sc (.slice none 0 0)]) := by
  refine pcall_intro c90_ok (by simp) (by simp [PureL, Pure]) ?_ (by simp [Pure, PureL])
  (apply red_sound; focus (repeat' (first | exact Red.skip | exact Red.ret | exact RedO.nil | exact RedD.nil | exact Red.exit _ | exact Red.loop _ | exact Red.stop _ | apply Red.ops | apply Red.draw | apply Red.seq | apply Red.cond | apply Red.block | apply RedO.cons | apply RedD.cons | exact (0 : Nat))))
  ((conv => whnf); repeat (refine And.intro rfl ?_; (conv => whnf)))
  (repeat' (first | exact Deep.refl _ | exact Deep.none _ | exact deep_row _ | exact DeepL.nil | exact DeepLL.nil | refine Deep.agg _ _ ?_ | refine Deep.tup _ _ ?_ | refine Deep.own _ _ _ _ _ _ _ _ rfl ?_ | refine Deep.loc _ _ _ _ _ rfl ?_ | refine Deep.ifc _ _ _ ?_ | refine DeepL.cons _ _ _ _ ?_ ?_ | refine DeepLL.cons _ _ _ _ ?_ ?_))
theorem ref_Slim : ∀ t : Tree, t.wf lKids → PCall Try.prog 53 [dtree t] (dtree (slimR t)) := by
  intro t
  induction t using Tree.ind with
  | h t ih =>
    intro hwf
    have hs := wf_small t hwf
    have hsz := hs.width
    have har := node_arity ((wf_iff _ _).1 hwf).1
    refine pcall_intro c53_ok (by simp) (by simp [PureL, pure_dtree]) ?_ (pure_dtree _)
    (apply red_sound; focus (repeat' (first | exact Red.skip | exact Red.ret | exact RedO.nil | exact RedD.nil | exact Red.exit _ | exact Red.loop _ | exact Red.stop _ | apply Red.ops | apply Red.draw | apply Red.seq | apply Red.cond | apply Red.block | apply RedO.cons | apply RedD.cons | exact (0 : Nat))))
    ((conv => whnf); repeat (refine And.intro rfl ?_; (conv => whnf)))
    (refine .inl ⟨_, (ref_leafn t.kind t.num), ?_⟩; ((conv => whnf); repeat (refine And.intro rfl ?_; (conv => whnf))))
    refine pwp_loopB (fun k : Nat => [(1, .loc 0 0), (2, .loc 1 0), (3, .loc 2 0), (4, .sc (.int .i64 k))])
      (fun k => [.row true (drow t), .row true [.sc (.int .i64 0), .sc (.int .i64 0), .sc (.slice none 0 0)], .row true [.sc (.int .i64 t.kind), .sc (.int .i64 t.num), .own 3 k 0 k], .vec true k 3 ((t.kids.take k).map fun u => drow (slimR u))])
      (fun k => k ≤ t.width) (fun k => t.width - k) 0 (by omega) (leB_trans (leB_nilc 2 2 3 (by simp) rfl rfl) (leB_env ⟨rfl, rfl, rfl, rfl, trivial⟩)) ?_
    rintro k hk
    (apply red_sound; focus (repeat' (first | exact Red.skip | exact Red.ret | exact RedO.nil | exact RedD.nil | exact Red.exit _ | exact Red.loop _ | exact Red.stop _ | apply Red.ops | apply Red.draw | apply Red.seq | apply Red.cond | apply Red.block | apply RedO.cons | apply RedD.cons | exact (0 : Nat))))
    ((conv => whnf); repeat (refine And.intro rfl ?_; (conv => whnf)))
    (refine ifK_split (fun h1 => ?_) (fun h1 => ?_) <;> (rw [h1]; ((conv => whnf); repeat (refine And.intro rfl ?_; (conv => whnf)))))
    · have hk' : k < t.width := by simpa [Tree.width] using h1
      refine ⟨by omega, _, kid_at hk', ?_⟩
      ((conv => whnf); repeat (refine And.intro rfl ?_; (conv => whnf)))
      (refine .inl ⟨_, (ih k hk' (wf_kid hwf hk')), ?_⟩; ((conv => whnf); repeat (refine And.intro rfl ?_; (conv => whnf))))
      refine ⟨by unfold sliceAppend; simp only [List.drop_zero, List.take_succ_cons, List.take_zero, List.length_cons, List.length_nil]; omega, ?_⟩
      ((conv => whnf); repeat (refine And.intro rfl ?_; (conv => whnf)))
      refine .inl ⟨by unfold InR; rw [IntKind.wrap_i64]; unfold Tree.width at *; omega, ?_⟩
      ((conv => whnf); repeat (refine And.intro rfl ?_; (conv => whnf)))
      refine ⟨k + 1, by omega, by dsimp only; omega, leB_close 4 (by simp) rfl ⟨.refl _, by simp [Under], .refl _, by simp [Under], .refl _, by simp [Under], .refl _, by simp [Under], trivial⟩
        ⟨⟨rfl, .refl _, underL_pure _ (pure_drow t)⟩, ⟨rfl, .refl _, by simp [UnderL, Under]⟩, ⟨rfl, .refl _, by simp [UnderL, Under]⟩, ⟨rfl, rfl, rfl, deepMLL_eq (take_snoc _ (kid_get? hk')), underLL_pure _ (pureLL_map _ (fun u => pure_drow _) _)⟩, trivial⟩⟩
    · have hk' : k = t.width := by have : ¬ k < t.width := by simpa [Tree.width] using h1
                                   omega
      subst hk'
      refine pwp_ghostB (leB_freeze 3 (env' := [(1, .loc 0 0), (2, .loc 1 0), (3, .loc 2 0)]) (H' := [.row true (drow t), .row true [.sc (.int .i64 0), .sc (.int .i64 0), .sc (.slice none 0 0)], .row true [.sc (.int .i64 t.kind), .sc (.int .i64 t.num), .lst 3 ((t.kids.map slimR).map dcells)], .vec false t.width 3 ((t.kids.take t.width).map fun u => drow (slimR u))])
        ⟨.refl _, .refl _, .refl _, trivial⟩ ⟨⟨.inl rfl, fun h => by omega, .refl _⟩, ⟨.inl rfl, fun h => by omega, .refl _⟩, ⟨.inl rfl, fun h => by omega, .cons _ _ _ _ (.refl _) (.cons _ _ _ _ (.refl _) (.cons _ _ _ _ (.own 3 _ _ _ _ _ _ _ (by omega) rfl (deepMLL_eq (by rw [List.drop_zero, List.take_of_length_le (by simp [Tree.width]), Tree.width, List.take_length, List.map_map]; exact List.map_congr_left fun u _ => (dcells_eq _).symm))) (.refl _)))⟩, ⟨.inr ⟨by omega, rfl⟩, fun _ => rfl, rfl, rfl, .refl _⟩, trivial⟩) ?_
      (apply red_sound; focus (repeat' (first | exact Red.skip | exact Red.ret | exact RedO.nil | exact RedD.nil | exact Red.exit _ | exact Red.loop _ | exact Red.stop _ | apply Red.ops | apply Red.draw | apply Red.seq | apply Red.cond | apply Red.block | apply RedO.cons | apply RedD.cons | exact (0 : Nat))))
      ((conv => whnf); repeat (refine And.intro rfl ?_; (conv => whnf)))
      have har' : _ := har
      have kid_eq : ∀ j, j < t.width → (Tree.node t.kind t.num (t.kids.map slimR)).kid j = slimR (t.kid j) := fun j hj => by
        unfold Tree.kid Tree.kids
        rw [List.getD_eq_getElem?_getD, List.getD_eq_getElem?_getD, List.getElem?_map]
        rw [List.getElem?_eq_getElem (show j < (match t with | .node _ _ ks => ks).length from hj)]
        rfl
      have wd : (Tree.node t.kind t.num (t.kids.map slimR)).width = t.width := by simp [Tree.width, Tree.kids]
      have fit : ∀ j, j < t.width → (slimR (t.kid j)).wf lKids := fun j hj => by
        rw [← slim_same _ (wf_kid hwf hj)]
        exact (slim_fits _ (wf_kid hwf hj)).1
      (refine .inl ⟨_, (ref_slimmer (.node t.kind t.num (t.kids.map slimR)) (by rw [wd]; exact har) (.mk _ (by rw [wd]; unfold Tree.width at *; omega) fun j hj => by rw [wd] at hj; rw [kid_eq j hj]; exact wf_small _ (fit j hj)) (fun j hj h4 => by
        rw [wd] at hj
        rw [kid_eq j hj] at h4 ⊢
        have := node_arity ((wf_iff _ _).1 (fit j hj)).1
        omega)), ?_⟩; ((conv => whnf); repeat (refine And.intro rfl ?_; (conv => whnf))))
      exact deep_as (slimR_eq t) (.refl _)
end Go.Proofs.Ytkkfiadefekbbaa
