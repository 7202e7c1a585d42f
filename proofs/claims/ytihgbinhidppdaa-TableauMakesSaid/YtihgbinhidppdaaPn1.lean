/-
  push.Nots and push.Plain over deep values. No statement is proved here.
-/
import Derived.Test.YtihgbinhidppdaaFo
import Derived.Test.YtihgbinhidppdaaCk
import Derived.Test.YtihgbinhidppdaaDk2
import Derived.Test.YtihgbinhidppdaaProg
namespace Go.Proofs.Ytihgbinhidppdaa
open Go.RowKit
set_option linter.unusedSimpArgs false
set_option linter.unusedVariables false
def c34_1 : PC := .seq (.ops [⟨some 15,.bin .lss (.tmp 14) (.tmp 13),none,0⟩] false) (.seq (.cond (.tmp 15) (.skip) (.exit 0)) (.seq (.block 1 (.seq (.ops [⟨some 16,.iaddr 3 (.tmp 12) (.tmp 14),none,0⟩,
 ⟨some 17,.loadA 3 (.tmp 16),none,0⟩,
 ⟨some 5,.alloc [(.int .i64 0), (.int .i64 0), (.slice none 0 0)],none,0⟩,
 ⟨none,.store 3 (.tmp 5) (.tmp 17),none,0⟩] false) (.ops [⟨some 18,.faddr 2 (.tmp 3),none,0⟩,
 ⟨some 19,.load1 (.tmp 18),none,1⟩,
 ⟨some 20,.loadA 3 (.tmp 5),none,0⟩,
 ⟨some 21,.call 34 [(.tmp 20)],none,4⟩,
 ⟨some 22,.bslice 3 1 [(.tmp 21)],none,12⟩,
 ⟨some 23,.append 3 40 (.tmp 19) (.tmp 22),none,31⟩,
 ⟨some 24,.faddr 2 (.tmp 3),none,63⟩,
 ⟨none,.store 1 (.tmp 24) (.tmp 23),none,127⟩] true))) (.ops [⟨some 25,.bin .add (.tmp 14) (.const (.int .i64 1)),none,0⟩,
 ⟨some 14,.move (.tmp 25),none,0⟩] false)))
def c34 : PC := .seq (.ops [⟨some 1,.box (.tmp 0),none,0⟩,
 ⟨some 2,.alloc [(.int .i64 0), (.int .i64 0), (.slice none 0 0)],none,0⟩] false) (.seq (.ops [⟨some 6,.faddr 0 (.tmp 1),none,0⟩,
 ⟨some 7,.load1 (.tmp 6),none,0⟩,
 ⟨some 8,.faddr 1 (.tmp 1),none,0⟩,
 ⟨some 9,.load1 (.tmp 8),none,0⟩,
 ⟨some 10,.build [(.int .i64 0), (.int .i64 0), (.slice none 0 0)] [(0, 1, (.tmp 7)), (1, 1, (.tmp 9))],none,0⟩,
 ⟨some 3,.alloc [(.int .i64 0), (.int .i64 0), (.slice none 0 0)],none,0⟩,
 ⟨none,.store 3 (.tmp 3) (.tmp 10),none,0⟩] false) (.seq (.seq (.ops [⟨some 11,.faddr 2 (.tmp 1),none,0⟩,
 ⟨some 12,.load1 (.tmp 11),none,0⟩,
 ⟨some 13,.len (.tmp 12),none,0⟩,
 ⟨some 14,.move (.const (.int .i64 0)),none,0⟩] false) (.block 0 (.loop c34_1))) (.seq (.seq (.stop (.ops [⟨some 26,.faddr 0 (.tmp 1),none,0⟩,
 ⟨some 27,.load1 (.tmp 26),none,0⟩] false)) (.block 2 (.seq (.ops [⟨some 29,.bin .eql (.tmp 27) (.const (.int .i64 10)),none,0⟩,
 ⟨some 28,.move (.tmp 29),none,0⟩] false) (.cond (.tmp 28) (.seq (.ops [⟨some 30,.call 46 [(.const (.int .i64 1))],none,0⟩,
 ⟨some 31,.faddr 2 (.tmp 3),none,0⟩,
 ⟨some 32,.load1 (.tmp 31),none,2⟩,
 ⟨some 33,.iaddr 3 (.tmp 32) (.const (.int .i64 0)),none,6⟩,
 ⟨some 34,.loadA 3 (.tmp 33),none,14⟩,
 ⟨some 35,.call 45 [(.const (.int .i64 8)), (.tmp 30), (.tmp 34)],none,31⟩,
 ⟨none,.store 3 (.tmp 2) (.tmp 35),none,63⟩] true) (.ret)) (.seq (.ops [⟨some 37,.bin .eql (.tmp 27) (.const (.int .i64 11)),none,0⟩,
 ⟨some 36,.move (.tmp 37),none,0⟩] false) (.cond (.tmp 36) (.seq (.ops [⟨some 38,.call 46 [(.const (.int .i64 2))],none,0⟩,
 ⟨some 39,.faddr 2 (.tmp 3),none,0⟩,
 ⟨some 40,.load1 (.tmp 39),none,2⟩,
 ⟨some 41,.iaddr 3 (.tmp 40) (.const (.int .i64 0)),none,6⟩,
 ⟨some 42,.loadA 3 (.tmp 41),none,14⟩,
 ⟨some 43,.call 45 [(.const (.int .i64 9)), (.tmp 38), (.tmp 42)],none,31⟩,
 ⟨none,.store 3 (.tmp 2) (.tmp 43),none,63⟩] true) (.ret)) (.skip))))))) (.seq (.ops [⟨some 44,.loadA 3 (.tmp 3),none,0⟩,
 ⟨none,.store 3 (.tmp 2) (.tmp 44),none,0⟩] false) (.ret)))))
set_option maxRecDepth 100000 in
theorem c34_ok : FunOK Try.prog 34 45 [.agg 2 3] c34 := ⟨⟨Try.f34, Try.func34, rfl, by kernel_rfl, rfl, by kernel_rfl⟩⟩
def c33 : PC := .seq (.ops [⟨some 1,.box (.tmp 0),none,0⟩,
 ⟨some 2,.alloc [(.int .i64 0), (.int .i64 0), (.slice none 0 0)],none,0⟩,
 ⟨some 3,.move (.const (.int .i64 0)),none,0⟩] false) (.seq (.seq (.ops [⟨some 5,.loadA 3 (.tmp 1),none,0⟩,
 ⟨some 6,.call 32 [(.tmp 5)],none,0⟩,
 ⟨some 4,.move (.tmp 6),none,0⟩] false) (.seq (.ops [⟨some 7,.move (.tmp 4),none,0⟩,
 ⟨some 8,.bin .neq (.tmp 7) (.const (.int .i64 0)),none,0⟩] false) (.cond (.tmp 8) (.seq (.ops [⟨some 9,.build [(.int .i64 0), (.int .i64 0), (.slice none 0 0)] [],none,0⟩,
 ⟨some 10,.move (.tmp 4),none,0⟩,
 ⟨none,.store 3 (.tmp 2) (.tmp 9),none,0⟩,
 ⟨some 3,.move (.tmp 10),none,0⟩] false) (.ret)) (.skip)))) (.seq (.ops [⟨some 11,.loadA 3 (.tmp 1),none,0⟩,
 ⟨none,.store 3 (.tmp 2) (.tmp 11),none,0⟩,
 ⟨some 3,.move (.const (.int .i64 0)),none,0⟩] false) (.ret)))
set_option maxRecDepth 100000 in
theorem c33_ok : FunOK Try.prog 33 12 [.agg 2 3, .tmp 3] c33 := ⟨⟨Try.f33, Try.func33, rfl, by kernel_rfl, rfl, by kernel_rfl⟩⟩
def c9 : PC := .seq (.ops [⟨some 1,.box (.tmp 0),none,0⟩,
 ⟨some 2,.alloc [(.int .i64 0), (.int .i64 0), (.slice none 0 0)],none,0⟩,
 ⟨some 3,.move (.const (.int .i64 0)),none,0⟩] false) (.seq (.seq (.ops [⟨some 5,.loadA 3 (.tmp 1),none,0⟩,
 ⟨some 6,.call 32 [(.tmp 5)],none,0⟩,
 ⟨some 4,.move (.tmp 6),none,0⟩] false) (.seq (.ops [⟨some 7,.move (.tmp 4),none,0⟩,
 ⟨some 8,.bin .neq (.tmp 7) (.const (.int .i64 0)),none,0⟩] false) (.cond (.tmp 8) (.seq (.ops [⟨some 9,.build [(.int .i64 0), (.int .i64 0), (.slice none 0 0)] [],none,0⟩,
 ⟨some 10,.move (.tmp 4),none,0⟩,
 ⟨none,.store 3 (.tmp 2) (.tmp 9),none,0⟩,
 ⟨some 3,.move (.tmp 10),none,0⟩] false) (.ret)) (.skip)))) (.seq (.ops [⟨some 11,.loadA 3 (.tmp 1),none,0⟩,
 ⟨some 12,.call 34 [(.tmp 11)],none,0⟩,
 ⟨some 13,.call 33 [(.tmp 12)],none,0⟩,
 ⟨some 14,.ext 0 (.tmp 13),none,0⟩,
 ⟨some 15,.ext 1 (.tmp 13),none,0⟩,
 ⟨none,.store 3 (.tmp 2) (.tmp 14),none,0⟩,
 ⟨some 3,.move (.tmp 15),none,0⟩] false) (.ret)))
set_option maxRecDepth 100000 in
theorem c9_ok : FunOK Try.prog 9 16 [.agg 2 3, .tmp 3] c9 := ⟨⟨Try.f9, Try.func9, rfl, by kernel_rfl, rfl, by kernel_rfl⟩⟩

/-! ### What they make -/
mutual
def notsT : Tree → Bool → Tree
  | .node k n ks, b => if k = 4 then notsH ks (!b) else if b = false then .node k n (notsL ks b) else if k = 3 then mk1 4 (.node k n (notsL ks b)) else .node (otherK k) n (notsL ks b)
def notsH : List Tree → Bool → Tree
  | [], _ => default
  | t :: _, b => notsT t b
def notsL : List Tree → Bool → List Tree
  | [], _ => []
  | t :: r, b => notsT t b :: notsL r b
end
theorem notsL_map (b : Bool) : ∀ l, notsL l b = l.map fun t => notsT t b
  | [] => by simp only [notsL, List.map_nil]
  | t :: r => by simp only [notsL, List.map_cons, notsL_map b r]
theorem notsT_eq (t : Tree) (b : Bool) (hw : t.kind = 4 → 0 < t.width) : notsT t b = if t.kind = 4 then notsT (t.kid 0) (!b) else if b = false then .node t.kind t.num (t.kids.map fun u => notsT u b) else if t.kind = 3 then mk1 4 (.node t.kind t.num (t.kids.map fun u => notsT u b)) else .node (otherK t.kind) t.num (t.kids.map fun u => notsT u b) := by
  cases t with
  | node k n ks =>
    rw [notsT, notsL_map]
    rw [show (Tree.node k n ks).kind = k from rfl] at hw ⊢
    by_cases h : k = 4
    · rw [if_pos h, if_pos h]
      cases ks with
      | nil => exact absurd (hw h) (by simp [Tree.width, Tree.kids])
      | cons a r => rfl
    · rw [if_neg h, if_neg h]; rfl
mutual
def plainT : Tree → Tree
  | .node k n ks => if k = 10 then mk2 8 (mk0 1 0) (plainH ks) else if k = 11 then mk2 9 (mk0 2 0) (plainH ks) else .node k n (plainL ks)
def plainH : List Tree → Tree
  | [] => default
  | t :: _ => plainT t
def plainL : List Tree → List Tree
  | [] => []
  | t :: r => plainT t :: plainL r
end
theorem plainL_map : ∀ l, plainL l = l.map plainT
  | [] => by simp only [plainL, List.map_nil]
  | t :: r => by simp only [plainL, List.map_cons, plainL_map r]
theorem plainT_eq (t : Tree) (hw : t.kind = 10 ∨ t.kind = 11 → 0 < t.width) : plainT t = if t.kind = 10 then mk2 8 (mk0 1 0) (plainT (t.kid 0)) else if t.kind = 11 then mk2 9 (mk0 2 0) (plainT (t.kid 0)) else .node t.kind t.num (t.kids.map plainT) := by
  cases t with
  | node k n ks =>
    rw [plainT, plainL_map]
    rw [show (Tree.node k n ks).kind = k from rfl] at hw ⊢
    by_cases h : k = 10
    · rw [if_pos h, if_pos h]
      cases ks with
      | nil => exact absurd (hw (.inl h)) (by simp [Tree.width, Tree.kids])
      | cons a r => rfl
    · rw [if_neg h, if_neg h]
      by_cases h' : k = 11
      · rw [if_pos h', if_pos h']
        cases ks with
        | nil => exact absurd (hw (.inr h')) (by simp [Tree.width, Tree.kids])
        | cons a r => rfl
      · rw [if_neg h', if_neg h']; rfl

/-! ### What they make is right, node by node -/
theorem wf_node {k n : Int} {ks : List Tree} (h : ¬ oddNode lKids (.node k n ks)) (hk : ∀ u ∈ ks, u.wf lKids) : (Tree.node k n ks).wf lKids := (wf_iff _ _).2 ⟨h, hk⟩
theorem lKids_other (k : Int) : lKids (otherK k) = lKids k := by
  unfold otherK
  (repeat' split) <;> simp_all [lKids]
theorem otherK_3 {k : Int} (h : k ≠ 3) : otherK k ≠ 3 := by
  unfold otherK
  (repeat' split) <;> omega
theorem wf_map {t : Tree} {k n : Int} {f : Tree → Tree} (hw : t.wf lKids) (hk : lKids k = lKids t.kind) (h3 : k ≠ 3 → n = 0) (hn : 0 ≤ n ∧ n ≤ 63) (hf : ∀ j, j < t.width → (f (t.kid j)).wf lKids) : (Tree.node k n (t.kids.map f)).wf lKids := by
  have h0 := ((wf_iff _ _).1 hw).1
  refine wf_node ?_ fun u hu => ?_
  · unfold oddNode at *
    have e1 : (Tree.node k n (t.kids.map f)).kind = k := rfl
    have e2 : (Tree.node k n (t.kids.map f)).num = n := rfl
    have e3 : (Tree.node k n (t.kids.map f)).width = t.width := by simp [Tree.width, Tree.kids]
    rw [e1, e2, e3, hk]
    omega
  · obtain ⟨v, hv, rfl⟩ := List.mem_map.1 hu
    obtain ⟨i, hi, rfl⟩ := List.mem_iff_getElem.1 hv
    have := hf i hi
    rwa [Tree.kid_get hi] at this
theorem wf_num {t : Tree} (hw : t.wf lKids) : 0 ≤ t.num ∧ t.num ≤ 63 ∧ (t.kind ≠ 3 → t.num = 0) := by
  have h0 := ((wf_iff _ _).1 hw).1
  unfold oddNode at h0
  omega
theorem wf_mk0 {k n : Int} (h : k = 1 ∨ k = 2 ∨ k = 3) (hn : 0 ≤ n ∧ n ≤ 63) (h3 : k ≠ 3 → n = 0) : (mk0 k n).wf lKids := wf_node (by
  unfold oddNode
  have e1 : (Tree.node k n []).kind = k := rfl
  have e2 : (Tree.node k n []).num = n := rfl
  have e3 : (Tree.node k n []).width = 0 := rfl
  rw [e1, e2, e3]
  rcases h with rfl | rfl | rfl <;> simp [lKids] <;> omega) (by simp)
theorem wf_mk1 {k : Int} {a : Tree} (h : k = 4 ∨ k = 7 ∨ k = 10 ∨ k = 11) (ha : a.wf lKids) : (mk1 k a).wf lKids := wf_node (by
  unfold oddNode
  have e1 : (Tree.node k 0 [a]).kind = k := rfl
  have e2 : (Tree.node k 0 [a]).num = 0 := rfl
  have e3 : (Tree.node k 0 [a]).width = 1 := rfl
  rw [e1, e2, e3]
  rcases h with rfl | rfl | rfl | rfl <;> simp [lKids]) (by simpa using ha)
theorem wf_mk2 {k : Int} {a b : Tree} (h : k = 5 ∨ k = 6 ∨ k = 8 ∨ k = 9) (ha : a.wf lKids) (hb : b.wf lKids) : (mk2 k a b).wf lKids := wf_node (by
  unfold oddNode
  have e1 : (Tree.node k 0 [a, b]).kind = k := rfl
  have e2 : (Tree.node k 0 [a, b]).num = 0 := rfl
  have e3 : (Tree.node k 0 [a, b]).width = 2 := rfl
  rw [e1, e2, e3]
  rcases h with rfl | rfl | rfl | rfl <;> simp [lKids]) (by simpa using ⟨ha, hb⟩)
theorem wf_wide {t : Tree} (hw : t.wf lKids) (h : t.kind = 4 ∨ t.kind = 7 ∨ t.kind = 10 ∨ t.kind = 11) : 0 < t.width := by
  have := node_arity ((wf_iff _ _).1 hw).1
  omega
theorem nots_wf : ∀ (t : Tree) (b : Bool), t.wf lKids → (notsT t b).wf lKids := by
  intro t
  induction t using Tree.ind with
  | h t ih =>
    intro b hw
    have hn := wf_num hw
    rw [notsT_eq t b fun h => wf_wide hw (.inl h)]
    by_cases h4 : t.kind = 4
    · rw [if_pos h4]
      have h0 := wf_wide hw (.inl h4)
      exact ih 0 h0 _ (wf_kid hw h0)
    · rw [if_neg h4]
      have base : (Tree.node t.kind t.num (t.kids.map fun u => notsT u b)).wf lKids := wf_map hw rfl (by omega) (by omega) fun j hj => ih j hj b (wf_kid hw hj)
      by_cases hb : b = false
      · rw [if_pos hb]; exact base
      · rw [if_neg hb]
        by_cases h3 : t.kind = 3
        · rw [if_pos h3]; exact wf_mk1 (by omega) base
        · rw [if_neg h3]
          exact wf_map hw (lKids_other _) (by intro _; omega) (by omega) fun j hj => ih j hj b (wf_kid hw hj)
theorem plain_wf : ∀ (t : Tree), t.wf lKids → (plainT t).wf lKids := by
  intro t
  induction t using Tree.ind with
  | h t ih =>
    intro hw
    have hn := wf_num hw
    rw [plainT_eq t fun h => wf_wide hw (by omega)]
    by_cases h10 : t.kind = 10
    · rw [if_pos h10]
      have h0 := wf_wide hw (by omega)
      exact wf_mk2 (by omega) (wf_mk0 (by omega) (by omega) (by omega)) (ih 0 h0 (wf_kid hw h0))
    · rw [if_neg h10]
      by_cases h11 : t.kind = 11
      · rw [if_pos h11]
        have h0 := wf_wide hw (by omega)
        exact wf_mk2 (by omega) (wf_mk0 (by omega) (by omega) (by omega)) (ih 0 h0 (wf_kid hw h0))
      · rw [if_neg h11]
        exact wf_map hw rfl (by omega) (by omega) fun j hj => ih j hj (wf_kid hw hj)

/-! ### The walks -/
theorem push_plain : ∀ t : Tree, t.wf lKids → PCall Try.prog 34 [dtree t] (dtree (plainT t)) := by
  intro t
  induction t using Tree.ind with
  | h t ih =>
    intro hwf
    have hs := wf_small t hwf
    have hsz := hs.width
    have har := node_arity ((wf_iff _ _).1 hwf).1
    refine pcall_intro c34_ok (by simp) (by simp [PureL, pure_dtree]) ?_ (pure_dtree _)
    have hE := plainT_eq t fun h => wf_wide hwf (by omega)
    (apply rd_sound; focus (repeat' constructor))
    ((conv=>whnf);repeat(refine .intro rfl ?_;conv=>whnf))
    refine pwp_loopB (fun k : Nat => [(1, .loc 0 0), (2, .loc 1 0), (3, .loc 2 0), (12, .lst 3 (t.kids.map dcells)), (13, .sc (.int .i64 (t.kids.map dcells).length)), (14, .sc (.int .i64 k))])
      (fun k => [.row true (drow t), .row true [.sc (.int .i64 0), .sc (.int .i64 0), .sc (.slice none 0 0)], .row true [.sc (.int .i64 t.kind), .sc (.int .i64 t.num), .own 3 k 0 k], .vec true k 3 ((t.kids.take k).map fun u => drow (plainT u))])
      (fun k => k ≤ t.width) (fun k => t.width - k) 0 (by omega) (leB_trans (leB_nilc 2 2 3 (by simp) rfl rfl) (leB_env ⟨rfl, rfl, rfl, rfl, rfl, rfl, trivial⟩)) ?_
    rintro k hk
    (apply rd_sound; focus (repeat' constructor))
    ((conv=>whnf);repeat(refine .intro rfl ?_;conv=>whnf))
    (refine ifK_split (fun h1 => ?_) (fun h1 => ?_) <;> (rw [h1]; ((conv=>whnf);repeat(refine .intro rfl ?_;conv=>whnf))))
    · have hk' : k < t.width := by simpa [Tree.width] using h1
      refine ⟨by omega, _, kid_at hk', ?_⟩
      ((conv=>whnf);repeat(refine .intro rfl ?_;conv=>whnf))
      (refine .inl ⟨_, (ih k hk' (wf_kid hwf hk')), ?_⟩; ((conv=>whnf);repeat(refine .intro rfl ?_;conv=>whnf)))
      refine ⟨by unfold sliceAppend; simp only [List.drop_zero, List.take_succ_cons, List.take_zero, List.length_cons, List.length_nil]; omega, ?_⟩
      ((conv=>whnf);repeat(refine .intro rfl ?_;conv=>whnf))
      refine .inl ⟨by unfold InR; rw [IntKind.wrap_i64]; unfold Tree.width at *; omega, ?_⟩
      ((conv=>whnf);repeat(refine .intro rfl ?_;conv=>whnf))
      refine ⟨k + 1, by omega, by dsimp only; omega, leB_close 4 (by simp) rfl ⟨.refl _, by simp [Under], .refl _, by simp [Under], .refl _, by simp [Under], .refl _, by simp only [Under]; exact underLL_pure _ (pure_kids t), .refl _, by simp [Under], .refl _, by simp [Under], trivial⟩
        ⟨⟨rfl, .refl _, underL_pure _ (pure_drow t)⟩, ⟨rfl, .refl _, by simp [UnderL, Under]⟩, ⟨rfl, .refl _, by simp [UnderL, Under]⟩, ⟨rfl, rfl, rfl, deepMLL_eq (take_snoc _ (kid_get? hk')), underLL_pure _ (pureLL_map _ (fun u => pure_drow _) _)⟩, trivial⟩⟩
    · have hk' : k = t.width := by have : ¬ k < t.width := by simpa [Tree.width] using h1
                                   omega
      subst hk'
      refine pwp_ghostB (leB_freeze (fromN 3) (env' := [(1, .loc 0 0), (2, .loc 1 0), (3, .loc 2 0)]) (H' := [.row true (drow t), .row true [.sc (.int .i64 0), .sc (.int .i64 0), .sc (.slice none 0 0)], .row true [.sc (.int .i64 t.kind), .sc (.int .i64 t.num), .lst 3 ((t.kids.map plainT).map dcells)], .vec false t.width 3 ((t.kids.take t.width).map fun u => drow (plainT u))])
        ⟨.refl _, .refl _, .refl _, trivial⟩ ⟨⟨.inl rfl, (fun h => by cases h), .refl _⟩, ⟨.inl rfl, (fun h => by cases h), .refl _⟩, ⟨.inl rfl, (fun h => by cases h), .cons _ _ _ _ (.refl _) (.cons _ _ _ _ (.refl _) (.cons _ _ _ _ (.own 3 _ _ _ _ _ _ _ rfl rfl (deepMLL_eq (by rw [List.drop_zero, List.take_of_length_le (by simp [Tree.width]), Tree.width, List.take_length, List.map_map]; exact List.map_congr_left fun u _ => (dcells_eq _).symm))) (.refl _)))⟩, ⟨.inr ⟨rfl, rfl⟩, fun _ => rfl, rfl, rfl, .refl _⟩, trivial⟩) ?_
      have k0 : 0 < t.width → ((t.kids.map plainT).map dcells)[0]? = some (drow (plainT (t.kid 0))) := fun h => by
        rw [List.getElem?_map, List.getElem?_map, kid_get? h]; simp [dcells_eq]
      (apply rd_sound; focus (repeat' constructor))
      ((conv=>whnf);repeat(refine .intro rfl ?_;conv=>whnf))
      (refine ifK_split (fun h10 => ?_) (fun h10 => ?_) <;> (rw [h10]; ((conv=>whnf);repeat(refine .intro rfl ?_;conv=>whnf))))
      · have h10 : t.kind = 10 := by simpa using h10
        rw [if_pos h10] at hE
        (refine .inl ⟨_, (push_leaf 1), ?_⟩; ((conv=>whnf);repeat(refine .intro rfl ?_;conv=>whnf)))
        refine ⟨by omega, _, k0 (wf_wide hwf (by omega)), ?_⟩
        ((conv=>whnf);repeat(refine .intro rfl ?_;conv=>whnf))
        (refine .inl ⟨_, (push_two 8 (mk0 1 0) (plainT (t.kid 0))), ?_⟩; ((conv=>whnf);repeat(refine .intro rfl ?_;conv=>whnf)))
        exact deep_as hE (.refl _)
      have h10 : ¬ t.kind = 10 := by simpa using h10
      rw [if_neg h10] at hE
      (refine ifK_split (fun h11 => ?_) (fun h11 => ?_) <;> (rw [h11]; ((conv=>whnf);repeat(refine .intro rfl ?_;conv=>whnf))))
      · have h11 : t.kind = 11 := by simpa using h11
        rw [if_pos h11] at hE
        (refine .inl ⟨_, (push_leaf 2), ?_⟩; ((conv=>whnf);repeat(refine .intro rfl ?_;conv=>whnf)))
        refine ⟨by omega, _, k0 (wf_wide hwf (by omega)), ?_⟩
        ((conv=>whnf);repeat(refine .intro rfl ?_;conv=>whnf))
        (refine .inl ⟨_, (push_two 9 (mk0 2 0) (plainT (t.kid 0))), ?_⟩; ((conv=>whnf);repeat(refine .intro rfl ?_;conv=>whnf)))
        exact deep_as hE (.refl _)
      have h11 : ¬ t.kind = 11 := by simpa using h11
      rw [if_neg h11] at hE
      exact deep_as hE (.refl _)
theorem push_told (t : Tree) (hs : Small t) : PCall Try.prog 33 [dtree t] (if chk lKids t = 0 then .tup [dtree t, .sc (.int .i64 0)] else .tup [dtree (mk0 0 0), .sc (.int .i64 (chk lKids t))]) := by
  refine pcall_intro c33_ok (by simp) (by simp [PureL, pure_dtree]) ?_ (by split <;> simp [Pure, PureL, pure_dtree])
  (apply rd_sound; focus (repeat' constructor))
  ((conv=>whnf);repeat(refine .intro rfl ?_;conv=>whnf))
  (refine .inl ⟨_, (ltl_Check t hs), ?_⟩; ((conv=>whnf);repeat(refine .intro rfl ?_;conv=>whnf)))
  (refine ifK_split (fun h => ?_) (fun h => ?_) <;> (rw [h]; ((conv=>whnf);repeat(refine .intro rfl ?_;conv=>whnf))))
  · have h' : chk lKids t ≠ 0 := by simpa using h
    rw [if_neg h']
    (repeat' (first | exact Deep.refl _ | exact Deep.none _ | exact deep_row _ | exact DeepL.nil | exact DeepLL.nil | refine Deep.agg _ _ ?_ | refine Deep.tup _ _ ?_ | refine Deep.own _ _ _ _ _ _ _ _ rfl ?_ | refine Deep.loc _ _ _ _ _ rfl ?_ | refine Deep.ifc _ _ _ ?_ | refine Deep.fn _ _ _ _ _ ?_ ?_ | refine DeepL.cons _ _ _ _ ?_ ?_ | refine DeepLL.cons _ _ _ _ ?_ ?_ | exact deepLL_refl _))
  · have h' : chk lKids t = 0 := by simpa using h
    rw [if_pos h']
    (repeat' (first | exact Deep.refl _ | exact Deep.none _ | exact deep_row _ | exact DeepL.nil | exact DeepLL.nil | refine Deep.agg _ _ ?_ | refine Deep.tup _ _ ?_ | refine Deep.own _ _ _ _ _ _ _ _ rfl ?_ | refine Deep.loc _ _ _ _ _ rfl ?_ | refine Deep.ifc _ _ _ ?_ | refine Deep.fn _ _ _ _ _ ?_ ?_ | refine DeepL.cons _ _ _ _ ?_ ?_ | refine DeepLL.cons _ _ _ _ ?_ ?_ | exact deepLL_refl _))
/-- The answer of Nots and Plain, of a formula and what is made of it. -/
noncomputable def nansD (t u : Tree) : Tree × Int := if chk lKids t = 0 then if chk lKids u = 0 then (u, 0) else (mk0 0 0, chk lKids u) else (mk0 0 0, chk lKids t)
theorem push_Plain (t : Tree) (hs : Small t) : PCall Try.prog 9 [dtree t] (.tup [dtree (nansD t (plainT t)).1, .sc (.int .i64 (nansD t (plainT t)).2)]) := by
  refine pcall_intro c9_ok (by simp) (by simp [PureL, pure_dtree]) ?_ (by simp [Pure, PureL, pure_dtree])
  (apply rd_sound; focus (repeat' constructor))
  ((conv=>whnf);repeat(refine .intro rfl ?_;conv=>whnf))
  (refine .inl ⟨_, (ltl_Check t hs), ?_⟩; ((conv=>whnf);repeat(refine .intro rfl ?_;conv=>whnf)))
  (refine ifK_split (fun h => ?_) (fun h => ?_) <;> (rw [h]; ((conv=>whnf);repeat(refine .intro rfl ?_;conv=>whnf))))
  · have h' : chk lKids t ≠ 0 := by simpa using h
    rw [show nansD t (plainT t) = (mk0 0 0, chk lKids t) by rw [nansD, if_neg h']]
    (repeat' (first | exact Deep.refl _ | exact Deep.none _ | exact deep_row _ | exact DeepL.nil | exact DeepLL.nil | refine Deep.agg _ _ ?_ | refine Deep.tup _ _ ?_ | refine Deep.own _ _ _ _ _ _ _ _ rfl ?_ | refine Deep.loc _ _ _ _ _ rfl ?_ | refine Deep.ifc _ _ _ ?_ | refine Deep.fn _ _ _ _ _ ?_ ?_ | refine DeepL.cons _ _ _ _ ?_ ?_ | refine DeepLL.cons _ _ _ _ ?_ ?_ | exact deepLL_refl _))
  · have h' : chk lKids t = 0 := by simpa using h
    have hwf := ((chk_zero _ _).1 h').2.2
    (refine .inl ⟨_, (push_plain t hwf), ?_⟩; ((conv=>whnf);repeat(refine .intro rfl ?_;conv=>whnf)))
    have hT := push_told (plainT t) (wf_small _ (plain_wf t hwf))
    by_cases h2 : chk lKids (plainT t) = 0
    · rw [if_pos h2] at hT
      rw [show nansD t (plainT t) = (plainT t, 0) by rw [nansD, if_pos h', if_pos h2]]
      (refine .inl ⟨_, hT, ?_⟩; ((conv=>whnf);repeat(refine .intro rfl ?_;conv=>whnf)))
      (repeat' (first | exact Deep.refl _ | exact Deep.none _ | exact deep_row _ | exact DeepL.nil | exact DeepLL.nil | refine Deep.agg _ _ ?_ | refine Deep.tup _ _ ?_ | refine Deep.own _ _ _ _ _ _ _ _ rfl ?_ | refine Deep.loc _ _ _ _ _ rfl ?_ | refine Deep.ifc _ _ _ ?_ | refine Deep.fn _ _ _ _ _ ?_ ?_ | refine DeepL.cons _ _ _ _ ?_ ?_ | refine DeepLL.cons _ _ _ _ ?_ ?_ | exact deepLL_refl _))
    · rw [if_neg h2] at hT
      rw [show nansD t (plainT t) = (mk0 0 0, chk lKids (plainT t)) by rw [nansD, if_pos h', if_neg h2]]
      (refine .inl ⟨_, hT, ?_⟩; ((conv=>whnf);repeat(refine .intro rfl ?_;conv=>whnf)))
      (repeat' (first | exact Deep.refl _ | exact Deep.none _ | exact deep_row _ | exact DeepL.nil | exact DeepLL.nil | refine Deep.agg _ _ ?_ | refine Deep.tup _ _ ?_ | refine Deep.own _ _ _ _ _ _ _ _ rfl ?_ | refine Deep.loc _ _ _ _ _ rfl ?_ | refine Deep.ifc _ _ _ ?_ | refine Deep.fn _ _ _ _ _ ?_ ?_ | refine DeepL.cons _ _ _ _ ?_ ?_ | refine DeepLL.cons _ _ _ _ ?_ ?_ | exact deepLL_refl _))
end Go.Proofs.Ytihgbinhidppdaa
