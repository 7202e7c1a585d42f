/-
  The reference's reader of formulas of one way, over deep values: what stands behind a sign. No statement is proved here.
-/
import Derived.Test.YtjbkbjedlgkibaaDoorRf2
import Derived.Test.YtjbkbjedlgkibaaDoorSlim
namespace Go.Proofs.YtjbkbjedlgkibaaDoor
open Go.RowKit
set_option linter.unusedSimpArgs false
set_option linter.unusedVariables false
theorem notEnd {K : Nat} {s : ByteArray} (hK : eqS (tokT s K) ⟨#[]⟩ = true) {m : Nat} (hm : m ≤ K) {t : ByteArray} (he : eqS (tokT s m) t = true) (h0 : 0 < t.size) : m + 1 ≤ K := by
  rcases Nat.lt_or_ge m K with h | h
  · exact h
  · rw [show m = K by omega] at he
    have := eqS_size he
    rw [(eqS_empty _).1 hK] at this
    omega
theorem eqS_eq {a b : ByteArray} (h : eqS a b = true) : a = b := by
  unfold eqS at h
  rw [beq_iff_eq, ByteArray.toList_eq, ByteArray.toList_eq] at h
  cases a; cases b
  simp only [Array.toList_inj] at h
  rw [h]
theorem kt_orTrue {all : Bool} {b : Tree} (h : KT all b) : KT all (orTrue b) := by
  unfold orTrue
  split
  · exact kt0 (by omega)
  · exact h
theorem runR_ktR {T : Nat → ByteArray} {names : List ByteArray} : ∀ (f : Nat) (j : Job) (o n : Nat) (r : Res), (∀ hi b, j = .rowL hi b → KT false b) → (∀ e, j ≠ .ways e) → runR T names false f j o n = some r → KT false r.treeR := by
  intro f
  induction f with
  | zero => intro j o n r _ _ h; simp [runR] at h
  | succ f ih =>
    intro j o n r hj hw h
    have hb : ∀ {j : Job} {o n : Nat} {gx gy : Tree → Tree} {k : Tree → Nat → Option Res}, bindR (runR T names false f j o n) gx gy k = some r → (∀ hi b, j ≠ .rowL hi b) → (∀ e, j ≠ .ways e) → (∀ t, KT false t → KT false (gy t)) → (∀ a m, KT false a → k a m = some r → KT false r.treeR) → KT false r.treeR := fun h h1 h2 hg hk => by
      rcases bindR_some h with ⟨b, i, e1, e2⟩ | ⟨c, i, t, y, e1, rfl⟩
      · exact hk _ _ (ih _ _ _ _ (fun hi b e => absurd e (h1 hi b)) h2 e1) e2
      · exact hg _ (ih _ _ _ _ (fun hi b e => absurd e (h1 hi b)) h2 e1)
    cases j with
    | formula =>
      simp only [runR] at h
      refine hb h (by simp) (by simp) (fun t h => h) fun a m ha h2 => ?_
      split at h2
      · refine hb h2 (by simp) (by simp) (fun t h => kt2 (kAll (by omega)) (kt1 (kAll (by omega)) ha) h) fun b k kb h3 => ?_
        cases h3; exact kt2 (kAll (by omega)) (kt1 (kAll (by omega)) ha) kb
      · cases h2; exact ha
    | row hi =>
      simp only [runR] at h
      refine hb h (by cases hi <;> simp [partR]) (by cases hi <;> simp [partR]) (fun t h => h) fun a m ha h2 => ?_
      exact ih _ _ _ _ (fun hi' b' e => by cases e; exact ha) (fun e => by simp) h2
    | rowL hi b =>
      simp only [runR] at h
      have k0 := hj hi b rfl
      split at h
      · refine hb h (by cases hi <;> simp [partR]) (by cases hi <;> simp [partR]) (fun t h => kt2 (kAll (by cases hi <;> simp [kndR])) k0 h) fun a m ha h2 => ?_
        exact ih _ _ _ _ (fun hi' b' e => by cases e; exact kt2 (kAll (by cases hi <;> simp [kndR])) k0 ha) (fun e => by simp) h2
      · cases h; exact k0
    | way =>
      simp only [runR] at h
      refine hb h (by simp) (by simp) (fun t h => h) fun a m ha h2 => ?_
      rw [if_neg (by simp)] at h2
      split at h2
      · refine hb h2 (by simp) (by simp) (fun t h => kt2 (kAll (by omega)) ha h) fun b k kb h3 => ?_
        cases h3; exact kt2 (kAll (by omega)) ha kb
      split at h2
      · refine hb h2 (by simp) (by simp) (fun t h => kt2 (kAll (by omega)) ha h) fun b k kb h3 => ?_
        cases h3; exact kt2 (kAll (by omega)) ha kb
      split at h2
      · refine hb h2 (by simp) (by simp) (fun t h => kt2 (kAll (by omega)) h (kt2 (kAll (by omega)) ha (kt_orTrue h))) fun b k kb h3 => ?_
        cases h3; exact kt2 (kAll (by omega)) kb (kt2 (kAll (by omega)) ha (kt_orTrue kb))
      · cases h2; exact ha
    | single =>
      simp only [runR] at h
      split at h
      · split at h
        · cases h; exact kt0 (by omega)
        · refine hb h (by simp) (by simp) (fun t h => kt0 (by omega)) fun a m ha h2 => ?_
          split at h2
          · cases h2; exact ha
          · cases h2; exact kt0 (by omega)
      split at h
      · rename_i hk
        have hp : 1 ≤ preK false (T n) ∧ preK false (T n) ≤ 11 := by
          unfold preK at hk ⊢
          (repeat' split) <;> simp_all
        split at h
        · cases h; exact kt0 (by omega)
        · refine hb h (by simp) (by simp) (fun t h => kt1 (kAll hp) h) fun a m ha h2 => ?_
          cases h2; exact kt1 (kAll hp) ha
      rw [if_neg (by simp)] at h
      unfold wordR noR at h
      (repeat' split at h) <;> (cases h; exact kt0 (by omega))
    | ways e => exact absurd rfl (hw e)
def szH (L : Nat) (t : Tree) (n : Nat) : Nat := min (n + t.size) (L + 1)
theorem sizes_kidH {t : Tree} {j : Nat} (hj : j < t.width) : Tree.sizes (t.kids.drop j) = (t.kid j).size + Tree.sizes (t.kids.drop (j + 1)) := by
  rw [List.drop_eq_getElem_cons hj, Tree.sizes, Tree.kid_get hj]
theorem sizes_noneH (t : Tree) : Tree.sizes (t.kids.drop t.width) = 0 := by unfold Tree.width; rw [List.drop_length, Tree.sizes]
theorem size_kidsH (t : Tree) : t.size = 1 + Tree.sizes t.kids := by cases t; rw [Tree.size]; rfl
def c52_1 : PC := .seq (.seq (.ops [qm 8 5,q 9 (.faddr 2 (.tmp 2)),q 10 (.load1 (.tmp 9)),q 11 (.len (.tmp 10)),q 12 (.bin .lss (.tmp 8) (.tmp 11)),qm 13 12,⟨some 14,.move (.tmp 1),some (13,true),0⟩,⟨some 15,.bin .leq (.tmp 14) (.const (.int .i64 61)),some (13,true),0⟩,q 16 (.pick (.tmp 13) (.tmp 15) (.const (.bool false)))] false) (.cond (.tmp 16) (.skip) (.exit 0))) (.seq (.block 1 (.ops [q 19 (.faddr 2 (.tmp 2)),q 20 (.load1 (.tmp 19)),qm 21 5,q 22 (.iaddr 3 (.tmp 20) (.tmp 21)),q 23 (.loadA 3 (.tmp 22)),qm 24 1,q 25 (.call 52 [(.tmp 23), (.tmp 24)]),qm 1 25] false)) (.ops [qm 17 5,q 18 (.bin .add (.tmp 17) (.const (.int .i64 1))),qm 5 18] false))
def c52 : PC := .seq (.ops [q 2 (.box (.tmp 0)),q 4 (.move (.const (.int .i64 0)))] false) (.seq (.ops [qm 6 1,q 7 (.bin .add (.tmp 6) (.const (.int .i64 1))),qm 1 7] false) (.seq (.seq (.ops [q 5 (.move (.const (.int .i64 0)))] false) (.block 0 (.loop c52_1))) (.seq (.ops [qm 26 1,qm 4 26] false) (.ret))))
set_option maxRecDepth 100000 in
theorem c52_ok : FunOK Tryd.prog 52 27 [.tmp 4] c52 := ⟨⟨Tryd.f52, Tryd.func52, rfl, by kernel_rfl, rfl, by kernel_rfl⟩⟩
theorem ref_heavy : ∀ (t : Tree) (n : Nat), KT false t → n ≤ 61 → PCall Tryd.prog 52 [rtree false t, .sc (.int .i64 n)] (.sc (.int .i64 (szH 61 t n : Nat))) := by
  intro t
  induction t using Tree.ind with
  | h t ih =>
    intro n hkt hn
    have hw2 : t.width ≤ 2 := by cases hkt with | mk _ _ h => exact h
    have hkid : ∀ j, j < t.width → KT false (t.kid j) := by cases hkt with | mk _ _ _ h => exact h
    refine pcall_intro c52_ok (by simp) (by simp [PureL, Pure, pure_rtree]) ?_ (by simp [Pure])
    have e0 := size_kidsH t
    (apply rd_sound; focus (repeat' constructor))
    ((conv=>whnf);repeat(refine⟨rfl,?_⟩;conv=>whnf))
    (refine .inl ⟨by (unfold InR; rw [IntKind.wrap_i64]; omega), ?_⟩; ((conv=>whnf);repeat(refine⟨rfl,?_⟩;conv=>whnf)))
    refine pwp_for [2] (fun ((k, m) : Nat × Nat) => [(1, .sc (.int .i64 m)), (5, .sc (.int .i64 k))]) (fun _ => []) (fun (k, m) => k ≤ t.width ∧ m ≤ 62 ∧ min (m + Tree.sizes (t.kids.drop k)) 62 = szH 61 t n) (fun (k, m) => t.width - k) (0, n + 1) ?_
    ((conv=>whnf);repeat(refine⟨rfl,?_⟩;conv=>whnf))
    refine ⟨⟨by omega, by omega, by unfold szH; rw [List.drop_zero, e0]; omega⟩, by (repeat' (first | exact trivial | refine And.intro rfl ?_)), rfl, ?_⟩
    rintro ⟨k, m⟩ ⟨hk, hm, hF⟩
    ((conv=>whnf);repeat(refine⟨rfl,?_⟩;conv=>whnf))
    (apply rd_sound; focus (repeat' constructor))
    ((conv=>whnf);repeat(refine⟨rfl,?_⟩;conv=>whnf))
    rw [List.length_map]
    (refine ifK_split (fun h4 => ?_) (fun h4 => ?_) <;> (rw [h4]; ((conv=>whnf);repeat(refine⟨rfl,?_⟩;conv=>whnf))))
    · have hk' : k < t.width := by unfold Tree.width; simpa using h4
      rw [sizes_kidH hk'] at hF
      have hp := (t.kid k).size_pos
      (refine ifK_split (fun h5 => ?_) (fun h5 => ?_) <;> (rw [h5]; ((conv=>whnf);repeat(refine⟨rfl,?_⟩;conv=>whnf))))
      · have h5 : (m : Int) ≤ 61 := by simpa using h5
        refine ⟨by omega, _, by rw [Int.toNat_natCast, List.getElem?_map, kid_get? hk', Option.map_some, rcells_eq], ?_⟩
        ((conv=>whnf);repeat(refine⟨rfl,?_⟩;conv=>whnf))
        (refine .inl ⟨_, (ih k hk' m (hkid k hk') (by omega)), ?_⟩; ((conv=>whnf);repeat(refine⟨rfl,?_⟩;conv=>whnf)))
        (refine .inl ⟨by (unfold InR; rw [IntKind.wrap_i64]; omega), ?_⟩; ((conv=>whnf);repeat(refine⟨rfl,?_⟩;conv=>whnf)))
        refine ⟨(k + 1, szH 61 (t.kid k) m), ⟨by omega, by unfold szH; omega, by rw [← hF]; unfold szH; omega⟩, by dsimp only; omega, ?_⟩
        (refine leB_close 1 (by simp) rfl ?_ ?_ <;> (repeat' (first | exact trivial | exact rfl | exact DeepM.refl _ | exact DeepML.refl _ | exact DeepMLL.refl _ | refine And.intro ?_ ?_ | (simp [Under, UnderL, UnderLL, -List.map_take, -List.map_drop]; done))))
      · have h5 : (61 : Int) < m := by simpa using h5
        rw [← hF, show min (m + ((t.kid k).size + Tree.sizes (t.kids.drop (k + 1)))) 62 = m by omega]
        (repeat' (first | exact Deep.refl _ | exact Deep.none _ | exact deep_row _ | exact DeepL.nil | exact DeepLL.nil | refine Deep.agg _ _ ?_ | refine Deep.tup _ _ ?_ | refine Deep.own _ _ _ _ _ _ _ _ rfl ?_ | refine Deep.loc _ _ _ _ _ rfl ?_ | refine Deep.ifc _ _ _ ?_ | refine Deep.fn _ _ _ _ _ ?_ ?_ | refine DeepL.cons _ _ _ _ ?_ ?_ | refine DeepLL.cons _ _ _ _ ?_ ?_ | exact deepLL_refl _))
    · have hk' : k = t.width := by have : ¬ k < t.width := by unfold Tree.width; simpa using h4
                                   omega
      rw [hk', sizes_noneH] at hF
      rw [← hF, show min (m + 0) 62 = m by omega]
      (repeat' (first | exact Deep.refl _ | exact Deep.none _ | exact deep_row _ | exact DeepL.nil | exact DeepLL.nil | refine Deep.agg _ _ ?_ | refine Deep.tup _ _ ?_ | refine Deep.own _ _ _ _ _ _ _ _ rfl ?_ | refine Deep.loc _ _ _ _ _ rfl ?_ | refine Deep.ifc _ _ _ ?_ | refine Deep.fn _ _ _ _ _ ?_ ?_ | refine DeepL.cons _ _ _ _ ?_ ?_ | refine DeepLL.cons _ _ _ _ ?_ ?_ | exact deepLL_refl _))
section
variable (s : ByteArray) (K : Nat) (names : List ByteArray)
theorem rr22 {S : Nat → Bool} {H : List AObj} {x y : ByteArray} {k l : Int} {i j : Nat} {a b c : Tree} (hx : x = sgnC false k) (hy : y = sgnC false l) (hS : S i = true) (hS' : S j = true) (hX : H[i]? = some (.vec true 0 3 [rrow false b, [.sc (.string y), .sc (.int .i64 0), .own j 0 0 2]])) (hY : H[j]? = some (.vec true 0 3 [rrow false a, rrow false c])) :
    DeepML S H [.sc (.string x), .sc (.int .i64 0), .own i 0 0 2] (rrow false (mk2 k b (mk2 l a c))) := by
  subst hx
  refine .cons _ _ _ _ (.refl _) (.cons _ _ _ _ (.refl _) (.cons _ _ _ _ (.own i 0 0 2 3 true _ _ hS hX ?_) (.refl _)))
  show DeepMLL S H [_, _] [rcells false b, rcells false (mk2 l a c)]
  rw [rcells_eq, rcells_eq]
  exact .cons _ _ _ _ (.refl _) (.cons _ _ _ _ (rr2 false hy hS' hY) (.refl _))
def c48 : PC := .seq (.ops [q 2 (.alloc [(.string ⟨#[]⟩), (.int .i64 0), (.slice none 0 0)])] false) (.seq (.ops [qm 6 0,q 7 (.call 51 [(.tmp 6)]),q 3 (.alloc [(.string ⟨#[]⟩), (.int .i64 0), (.slice none 0 0)]),qn (.store 3 (.tmp 3) (.tmp 7))] false) (.seq (.seq (.ops [qm 8 0,q 9 (.nilchk (.tmp 8)),q 10 (.faddr 6 (.tmp 9)),q 11 (.load1 (.tmp 10))] false) (.cond (.tmp 11) (.seq (.ops [q 12 (.loadA 3 (.tmp 3)),qn (.store 3 (.tmp 2) (.tmp 12))] false) (.ret)) (.skip))) (.seq (.seq (.ops [qm 13 0,q 14 (.call 40 [(.tmp 13), (.const (.string ⟨#[85]⟩))])] false) (.cond (.tmp 14) (.seq (.ops [q 15 (.loadA 3 (.tmp 3)),qm 16 0,qd 17 (.call 48 [(.tmp 16)]) 2,qd 18 (.bslice 3 2 [(.tmp 15), (.tmp 17)]) 7,qd 19 (.build [(.string ⟨#[]⟩), (.int .i64 0), (.slice none 0 0)] [(0, 1, (.const (.string ⟨#[85]⟩))), (1, 1, (.const (.int .i64 0))), (2, 1, (.tmp 18))]) 15,qk (.store 3 (.tmp 2) (.tmp 19)) 31] true) (.ret)) (.skip))) (.seq (.seq (.ops [qm 20 0,q 21 (.call 40 [(.tmp 20), (.const (.string ⟨#[82]⟩))])] false) (.cond (.tmp 21) (.seq (.ops [q 22 (.loadA 3 (.tmp 3)),qm 23 0,qd 24 (.call 48 [(.tmp 23)]) 2,qd 25 (.bslice 3 2 [(.tmp 22), (.tmp 24)]) 7,qd 26 (.build [(.string ⟨#[]⟩), (.int .i64 0), (.slice none 0 0)] [(0, 1, (.const (.string ⟨#[82]⟩))), (1, 1, (.const (.int .i64 0))), (2, 1, (.tmp 25))]) 15,qk (.store 3 (.tmp 2) (.tmp 26)) 31] true) (.ret)) (.skip))) (.seq (.seq (.ops [qm 27 0,q 28 (.call 40 [(.tmp 27), (.const (.string ⟨#[87]⟩))])] false) (.cond (.tmp 28) (.seq (.ops [qm 29 0,q 30 (.call 48 [(.tmp 29)]),q 4 (.alloc [(.string ⟨#[]⟩), (.int .i64 0), (.slice none 0 0)]),qn (.store 3 (.tmp 4) (.tmp 30))] false) (.seq (.ops [q 31 (.loadA 3 (.tmp 4)),q 5 (.alloc [(.string ⟨#[]⟩), (.int .i64 0), (.slice none 0 0)]),qn (.store 3 (.tmp 5) (.tmp 31))] false) (.seq (.stop (.seq (.ops [q 32 (.loadA 3 (.tmp 4)),q 33 (.call 52 [(.tmp 32), (.const (.int .i64 0))]),q 34 (.bin .gtr (.tmp 33) (.const (.int .i64 60)))] false) (.cond (.tmp 34) (.ops [q 35 (.build [(.string ⟨#[]⟩), (.int .i64 0), (.slice none 0 0)] [(0, 1, (.const (.string ⟨#[116, 114, 117, 101]⟩))), (1, 1, (.const (.int .i64 0))), (2, 1, (.const (.slice none 0 0)))]),qn (.store 3 (.tmp 5) (.tmp 35))] false) (.skip)))) (.seq (.ops [q 36 (.loadA 3 (.tmp 4)),q 37 (.loadA 3 (.tmp 3)),q 38 (.loadA 3 (.tmp 5)),q 39 (.bslice 3 2 [(.tmp 37), (.tmp 38)]),q 40 (.build [(.string ⟨#[]⟩), (.int .i64 0), (.slice none 0 0)] [(0, 1, (.const (.string ⟨#[47]⟩))), (1, 1, (.const (.int .i64 0))), (2, 1, (.tmp 39))]),q 41 (.bslice 3 2 [(.tmp 36), (.tmp 40)]),q 42 (.build [(.string ⟨#[]⟩), (.int .i64 0), (.slice none 0 0)] [(0, 1, (.const (.string ⟨#[82]⟩))), (1, 1, (.const (.int .i64 0))), (2, 1, (.tmp 41))]),qn (.store 3 (.tmp 2) (.tmp 42))] false) (.ret))))) (.skip))) (.seq (.ops [q 43 (.loadA 3 (.tmp 3)),qn (.store 3 (.tmp 2) (.tmp 43))] false) (.ret)))))))
set_option maxRecDepth 100000 in
theorem c48_ok : FunOK Tryd.prog 48 44 [.agg 2 3] c48 := ⟨⟨Tryd.f48, Tryd.func48, rfl, by kernel_rfl, rfl, by kernel_rfl⟩⟩
theorem refL_way (hK : eqS (tokT s K) ⟨#[]⟩ = true) (hK3 : K ≤ 300) (o : Nat) (f : Nat) (hp : ∀ f' n r, f' < f → n ≤ K → runR (tokT s) names false f' .single o n = some r → RAns s K names false 51 [.loc 0 0] n o r)
    (hq : ∀ f' n r, f' < f → n ≤ K → runR (tokT s) names false f' .way o n = some r → RAns s K names false 48 [.loc 0 0] n o r)
    (n : Nat) (hn : n ≤ K) (r : Res) (hr : runR (tokT s) names false f .way o n = some r) : RAns s K names false 48 [.loc 0 0] n o r := by
  cases f with
  | zero => simp [runR] at hr
  | succ f =>
    simp only [runR] at hr
    rcases bindR_some hr with ⟨a, m, h1, h2⟩ | ⟨c, m, t, y, h1, rfl⟩
    · have hA : ACall Tryd.prog 51 [.loc 0 0] _ _ _ := hp f n _ (by omega) hn h1
      rw [if_neg (by simp)] at h2
      have hm : m ≤ K := runR_in hK _ _ _ _ _ hn h1
      have t1 := ref_eat s K names false hK3 m o hm 0 (one 85)
      have t2 := ref_eat s K names false hK3 m o hm 0 (one 82)
      have t3 := ref_eat s K names false hK3 m o hm 0 (one 87)
      by_cases e1 : eqS (tokT s m) (one 85) = true
      · rw [if_pos e1] at h2 t1
        rw [e1] at t1
        have hm1 := notEnd hK hm e1 (by decide)
        obtain ⟨q, h3, q1, q2, q3, q4⟩ : ∃ q, runR (tokT s) names false f .way o (m + 1) = some q ∧ r.treeR = mk2 8 a q.treeR ∧ r.posR = q.posR ∧ r.code = q.code ∧ r.place s = q.place s := by
          rcases bindR_some h2 with ⟨b, k, h3, h4⟩ | ⟨c, k, t, y, h3, rfl⟩
          · cases h4; exact ⟨_, h3, rfl, rfl, rfl, rfl⟩
          · exact ⟨_, h3, rfl, rfl, rfl, rfl⟩
        have hB : ACall Tryd.prog 48 [.loc 0 0] _ _ _ := hq f _ _ (by omega) hm1 h3
        unfold RAns
        rw [q1, q2, q3, q4]
        refine acall_introD c48_ok (by simp) (by simp) ?_ (under_pure _ (pure_rtree _ _))
        (apply rd_sound; focus (repeat' constructor))
        ((conv=>whnf);repeat(refine⟨rfl,?_⟩;conv=>whnf))
        (refine .inr (.inr (.inl ⟨rfl, _, _, (txtP hA (by simp [UnderL, Under]) _), ?_⟩)); ((conv=>whnf);repeat(refine⟨rfl,?_⟩;conv=>whnf)))
        (refine .inr (.inr (.inl ⟨rfl, _, _, (txtP t1 (by simp [UnderL, Under]) _), ?_⟩)); ((conv=>whnf);repeat(refine⟨rfl,?_⟩;conv=>whnf)))
        (refine .inr (.inr (.inr (.inr (.inl ⟨_, _, _, (txtE hB (by simp [PureL]) (pure_rtree _ _) rfl), ?_⟩)))); ((conv=>whnf);repeat(refine⟨rfl,?_⟩;conv=>whnf)))
        refine ⟨.agg _ _ ?_, close_oneT (pure_txt s K names false _ o _ _)⟩
        (refine rr2 (a := a) (b := q.treeR) (k := 8) (id := 3) false ?_ ?_ ?_) <;> rfl
      rw [if_neg e1] at h2 t1
      have e1 : eqS (tokT s m) (one 85) = false := by simpa using e1
      rw [e1] at t1
      by_cases e2 : eqS (tokT s m) (one 82) = true
      · rw [if_pos e2] at h2 t2
        rw [e2] at t2
        have hm1 := notEnd hK hm e2 (by decide)
        obtain ⟨q, h3, q1, q2, q3, q4⟩ : ∃ q, runR (tokT s) names false f .way o (m + 1) = some q ∧ r.treeR = mk2 9 a q.treeR ∧ r.posR = q.posR ∧ r.code = q.code ∧ r.place s = q.place s := by
          rcases bindR_some h2 with ⟨b, k, h3, h4⟩ | ⟨c, k, t, y, h3, rfl⟩
          · cases h4; exact ⟨_, h3, rfl, rfl, rfl, rfl⟩
          · exact ⟨_, h3, rfl, rfl, rfl, rfl⟩
        have hB : ACall Tryd.prog 48 [.loc 0 0] _ _ _ := hq f _ _ (by omega) hm1 h3
        unfold RAns
        rw [q1, q2, q3, q4]
        refine acall_introD c48_ok (by simp) (by simp) ?_ (under_pure _ (pure_rtree _ _))
        (apply rd_sound; focus (repeat' constructor))
        ((conv=>whnf);repeat(refine⟨rfl,?_⟩;conv=>whnf))
        (refine .inr (.inr (.inl ⟨rfl, _, _, (txtP hA (by simp [UnderL, Under]) _), ?_⟩)); ((conv=>whnf);repeat(refine⟨rfl,?_⟩;conv=>whnf)))
        (refine .inr (.inr (.inl ⟨rfl, _, _, (txtP t1 (by simp [UnderL, Under]) _), ?_⟩)); ((conv=>whnf);repeat(refine⟨rfl,?_⟩;conv=>whnf)))
        (refine .inr (.inr (.inl ⟨rfl, _, _, (txtP t2 (by simp [UnderL, Under]) _), ?_⟩)); ((conv=>whnf);repeat(refine⟨rfl,?_⟩;conv=>whnf)))
        (refine .inr (.inr (.inr (.inr (.inl ⟨_, _, _, (txtE hB (by simp [PureL]) (pure_rtree _ _) rfl), ?_⟩)))); ((conv=>whnf);repeat(refine⟨rfl,?_⟩;conv=>whnf)))
        refine ⟨.agg _ _ ?_, close_oneT (pure_txt s K names false _ o _ _)⟩
        (refine rr2 (a := a) (b := q.treeR) (k := 9) (id := 3) false ?_ ?_ ?_) <;> rfl
      rw [if_neg e2] at h2 t2
      have e2 : eqS (tokT s m) (one 82) = false := by simpa using e2
      rw [e2] at t2
      by_cases e3 : eqS (tokT s m) (one 87) = true
      · rw [if_pos e3] at h2 t3
        rw [e3] at t3
        have hm1 := notEnd hK hm e3 (by decide)
        obtain ⟨q, h3, q1, q2, q3, q4⟩ : ∃ q, runR (tokT s) names false f .way o (m + 1) = some q ∧ r.treeR = mk2 9 q.treeR (mk2 6 a (orTrue q.treeR)) ∧ r.posR = q.posR ∧ r.code = q.code ∧ r.place s = q.place s := by
          rcases bindR_some h2 with ⟨b, k, h3, h4⟩ | ⟨c, k, t, y, h3, rfl⟩
          · cases h4; exact ⟨_, h3, rfl, rfl, rfl, rfl⟩
          · exact ⟨_, h3, rfl, rfl, rfl, rfl⟩
        have hB : ACall Tryd.prog 48 [.loc 0 0] _ _ _ := hq f _ _ (by omega) hm1 h3
        have hkt : KT false q.treeR := runR_ktR f .way o (m + 1) q (fun _ _ h => by cases h) (fun _ h => by cases h) h3
        have key : orTrue q.treeR = if 60 < q.treeR.size then mk0 1 0 else q.treeR := rfl
        have hZ := ref_heavy q.treeR 0 hkt (by omega)
        unfold RAns
        rw [q1, q2, q3, q4]
        refine acall_introD c48_ok (by simp) (by simp) ?_ (under_pure _ (pure_rtree _ _))
        (apply rd_sound; focus (repeat' constructor))
        ((conv=>whnf);repeat(refine⟨rfl,?_⟩;conv=>whnf))
        (refine .inr (.inr (.inl ⟨rfl, _, _, (txtP hA (by simp [UnderL, Under]) _), ?_⟩)); ((conv=>whnf);repeat(refine⟨rfl,?_⟩;conv=>whnf)))
        (refine .inr (.inr (.inl ⟨rfl, _, _, (txtP t1 (by simp [UnderL, Under]) _), ?_⟩)); ((conv=>whnf);repeat(refine⟨rfl,?_⟩;conv=>whnf)))
        (refine .inr (.inr (.inl ⟨rfl, _, _, (txtP t2 (by simp [UnderL, Under]) _), ?_⟩)); ((conv=>whnf);repeat(refine⟨rfl,?_⟩;conv=>whnf)))
        (refine .inr (.inr (.inl ⟨rfl, _, _, (txtP t3 (by simp [UnderL, Under]) _), ?_⟩)); ((conv=>whnf);repeat(refine⟨rfl,?_⟩;conv=>whnf)))
        (refine .inr (.inr (.inl ⟨rfl, _, _, (txtP hB (by simp [UnderL, Under]) _), ?_⟩)); ((conv=>whnf);repeat(refine⟨rfl,?_⟩;conv=>whnf)))
        generalize q.treeR = b at hZ key ⊢
        refine pwp_cut (fun _ : Unit => [(2, .loc 1 0), (3, .loc 2 0), (4, .loc 3 0), (5, .loc 4 0)]) (fun _ => [.row true (txt s K names false q.posR o q.code (q.place s)), .row true [.sc (.string ⟨#[]⟩), .sc (.int .i64 0), .sc (.slice none 0 0)], .row true (rrow false a), .row true (rrow false b), .row true (rrow false (orTrue b))]) (fun _ => True) ?_ ?_
        · (apply rd_sound; focus (repeat' constructor))
          ((conv=>whnf);repeat(refine⟨rfl,?_⟩;conv=>whnf))
          (refine .inl ⟨_, hZ, ?_⟩; ((conv=>whnf);repeat(refine⟨rfl,?_⟩;conv=>whnf)))
          by_cases hz : 60 < b.size
          · rw [show orTrue b = mk0 1 0 from key.trans (if_pos hz)]
            refine ifK_t (by unfold szH; simp; omega) ?_
            ((conv=>whnf);repeat(refine⟨rfl,?_⟩;conv=>whnf))
            refine ⟨(), trivial, ?_⟩
            (refine leB_close 5 (by simp) rfl ?_ ?_ <;> (repeat' (first | exact trivial | exact rfl | exact DeepM.refl _ | exact DeepML.refl _ | exact DeepMLL.refl _ | refine And.intro ?_ ?_ | (simp [Under, UnderL, UnderLL, -List.map_take, -List.map_drop]; done))))
            exact .cons _ _ _ _ (.refl _) (.cons _ _ _ _ (.refl _) (.cons _ _ _ _ (.none _) (.refl _)))
          · rw [show orTrue b = b from key.trans (if_neg hz)]
            refine ifK_f (by unfold szH; simp; omega) ?_
            ((conv=>whnf);repeat(refine⟨rfl,?_⟩;conv=>whnf))
            refine ⟨(), trivial, ?_⟩
            (refine leB_close 5 (by simp) rfl ?_ ?_ <;> (repeat' (first | exact trivial | exact rfl | exact DeepM.refl _ | exact DeepML.refl _ | exact DeepMLL.refl _ | refine And.intro ?_ ?_ | (simp [Under, UnderL, UnderLL, -List.map_take, -List.map_drop]; done))))
        rintro - -
        ((conv=>whnf);repeat(refine⟨rfl,?_⟩;conv=>whnf))
        refine ⟨.agg _ _ ?_, close_oneT (pure_txt s K names false _ o _ _)⟩
        (refine rr22 (a := a) (b := b) (c := orTrue b) (k := 9) (l := 6) (i := 6) (j := 5) (y := ⟨#[47]⟩) ?_ ?_ ?_ ?_ ?_ ?_) <;> rfl
      rw [if_neg e3] at h2 t3
      have e3 : eqS (tokT s m) (one 87) = false := by simpa using e3
      rw [e3] at t3
      cases h2
      refine acall_introD c48_ok (by simp) (by simp) ?_ (under_pure _ (pure_rtree _ _))
      (apply rd_sound; focus (repeat' constructor))
      ((conv=>whnf);repeat(refine⟨rfl,?_⟩;conv=>whnf))
      (refine .inr (.inr (.inl ⟨rfl, _, _, (txtP hA (by simp [UnderL, Under]) _), ?_⟩)); ((conv=>whnf);repeat(refine⟨rfl,?_⟩;conv=>whnf)))
      (refine .inr (.inr (.inl ⟨rfl, _, _, (txtP t1 (by simp [UnderL, Under]) _), ?_⟩)); ((conv=>whnf);repeat(refine⟨rfl,?_⟩;conv=>whnf)))
      (refine .inr (.inr (.inl ⟨rfl, _, _, (txtP t2 (by simp [UnderL, Under]) _), ?_⟩)); ((conv=>whnf);repeat(refine⟨rfl,?_⟩;conv=>whnf)))
      (refine .inr (.inr (.inl ⟨rfl, _, _, (txtP t3 (by simp [UnderL, Under]) _), ?_⟩)); ((conv=>whnf);repeat(refine⟨rfl,?_⟩;conv=>whnf)))
      exact ⟨by (repeat' (first | exact trivial | exact DeepM.none _ | refine And.intro ?_ ?_ | exact Or.inl rfl | exact Or.inr ⟨rfl, rfl⟩ | exact fun _ => rfl | exact (fun h => by cases h) | refine DeepM.loc _ _ _ _ _ rfl rfl ?_ | refine DeepM.own _ _ _ _ _ _ _ _ rfl rfl ?_ | refine DeepM.fn _ _ _ _ _ ?_ ?_ | refine DeepM.agg _ _ ?_ | refine DeepM.tup _ _ ?_ | refine DeepM.ifc _ _ _ ?_ | exact DeepM.refl _ | refine DeepML.cons _ _ _ _ ?_ ?_ | exact DeepML.refl _ | refine DeepMLL.cons _ _ _ _ ?_ ?_ | exact DeepMLL.refl _ | exact rfl)), close_oneT (pure_txt s K names false m o 0 0)⟩
    · have hA : ACall Tryd.prog 51 [.loc 0 0] _ _ _ := hp f n _ (by omega) hn h1
      have hc : c ≠ 0 := runR_in hK _ _ _ _ _ hn h1
      refine acall_introD c48_ok (by simp) (by simp) ?_ (under_pure _ (pure_rtree _ _))
      (apply rd_sound; focus (repeat' constructor))
      ((conv=>whnf);repeat(refine⟨rfl,?_⟩;conv=>whnf))
      (refine .inr (.inr (.inl ⟨rfl, _, _, (txtP hA (by simp [UnderL, Under]) _), ?_⟩)); ((conv=>whnf);repeat(refine⟨rfl,?_⟩;conv=>whnf)))
      (refine .inr (.inr (.inl ⟨rfl, _, _, (txtP (ref_eatE s K names false m o c (atT s m) hc (one 85)) (by simp [UnderL, Under]) _), ?_⟩)); ((conv=>whnf);repeat(refine⟨rfl,?_⟩;conv=>whnf)))
      (refine .inr (.inr (.inl ⟨rfl, _, _, (txtP (ref_eatE s K names false m o c (atT s m) hc (one 82)) (by simp [UnderL, Under]) _), ?_⟩)); ((conv=>whnf);repeat(refine⟨rfl,?_⟩;conv=>whnf)))
      (refine .inr (.inr (.inl ⟨rfl, _, _, (txtP (ref_eatE s K names false m o c (atT s m) hc (one 87)) (by simp [UnderL, Under]) _), ?_⟩)); ((conv=>whnf);repeat(refine⟨rfl,?_⟩;conv=>whnf)))
      exact ⟨by (repeat' (first | exact trivial | exact DeepM.none _ | refine And.intro ?_ ?_ | exact Or.inl rfl | exact Or.inr ⟨rfl, rfl⟩ | exact fun _ => rfl | exact (fun h => by cases h) | refine DeepM.loc _ _ _ _ _ rfl rfl ?_ | refine DeepM.own _ _ _ _ _ _ _ _ rfl rfl ?_ | refine DeepM.fn _ _ _ _ _ ?_ ?_ | refine DeepM.agg _ _ ?_ | refine DeepM.tup _ _ ?_ | refine DeepM.ifc _ _ _ ?_ | exact DeepM.refl _ | refine DeepML.cons _ _ _ _ ?_ ?_ | exact DeepML.refl _ | refine DeepMLL.cons _ _ _ _ ?_ ?_ | exact DeepMLL.refl _ | exact rfl)), close_oneT (pure_txt s K names false m o c (atT s m))⟩
end
end Go.Proofs.YtjbkbjedlgkibaaDoor
