/-
  Wt Wu Wv Wx joined. No statement is proved here.
-/
import Derived.Test.YtfgklgjbnpjpoaaQWyA
import Derived.Test.YtfgklgjbnpjpoaaQSc2
import Derived.Test.YtfgklgjbnpjpoaaQOg
import Derived.Test.YtfgklgjbnpjpoaaQGl
import Derived.Test.YtfgklgjbnpjpoaaQBo
namespace Go.Proofs.Ytfgklgjbnpjpoaa
/-! ### XWt -/
section
open Go.RowKit
set_option linter.unusedSimpArgs false
set_option linter.unusedVariables false
def wcell (n : Int) : List D := [.sc (.int .i64 n)]
@[simp] theorem under_wcell {m : Nat} (n : Int) : UnderL m (wcell n) := by simp [wcell, UnderL, Under]
def c220_2 : PC := .seq (.ops [⟨some 22,.bin .lss (.tmp 21) (.tmp 20),none,0⟩] false) (.seq (.cond (.tmp 22) (.skip) (.exit 2)) (.seq (.block 3 (.seq (.ops [⟨some 23,.iaddr 1 (.tmp 19) (.tmp 21),none,0⟩,
 ⟨some 24,.load1 (.tmp 23),none,0⟩,
 ⟨some 7,.move (.tmp 24),none,0⟩] false) (.seq (.ops [⟨some 25,.move (.tmp 3),none,0⟩,
 ⟨some 26,.move (.tmp 7),none,0⟩,
 ⟨some 27,.iaddr 1 (.tmp 25) (.tmp 26),none,0⟩,
 ⟨some 28,.load1 (.tmp 27),none,0⟩,
 ⟨some 29,.len (.tmp 28),none,0⟩,
 ⟨some 8,.move (.tmp 29),none,0⟩] false) (.seq (.ops [⟨some 30,.move (.tmp 8),none,0⟩,
 ⟨some 31,.bin .eql (.tmp 30) (.const (.int .i64 0)),none,0⟩,
 ⟨some 32,.move (.tmp 31),none,0⟩,
 ⟨some 33,.move (.tmp 3),some (32,false),0⟩,
 ⟨some 34,.move (.tmp 7),some (32,false),0⟩,
 ⟨some 35,.iaddr 1 (.tmp 33) (.tmp 34),some (32,false),0⟩,
 ⟨some 36,.load1 (.tmp 35),some (32,false),0⟩,
 ⟨some 37,.move (.tmp 8),some (32,false),0⟩,
 ⟨some 38,.bin .sub (.tmp 37) (.const (.int .i64 1)),some (32,false),0⟩,
 ⟨some 39,.iaddr 1 (.tmp 36) (.tmp 38),some (32,false),0⟩,
 ⟨some 40,.load1 (.tmp 39),some (32,false),0⟩,
 ⟨some 41,.move (.tmp 4),some (32,false),0⟩,
 ⟨some 42,.bin .neq (.tmp 40) (.tmp 41),some (32,false),0⟩,
 ⟨some 43,.pick (.tmp 32) (.const (.bool true)) (.tmp 42),none,0⟩] false) (.cond (.tmp 43) (.ops [⟨some 44,.move (.tmp 3),none,0⟩,
 ⟨some 45,.move (.tmp 7),none,0⟩,
 ⟨some 46,.move (.tmp 3),none,0⟩,
 ⟨some 47,.move (.tmp 7),none,0⟩,
 ⟨some 48,.iaddr 1 (.tmp 46) (.tmp 47),none,0⟩,
 ⟨some 49,.load1 (.tmp 48),none,0⟩,
 ⟨some 50,.move (.tmp 4),none,0⟩,
 ⟨some 51,.bslice 1 1 [(.tmp 50)],none,0⟩,
 ⟨some 52,.append 1 8 (.tmp 49) (.tmp 51),none,0⟩,
 ⟨some 53,.iaddr 1 (.tmp 44) (.tmp 45),none,0⟩,
 ⟨none,.store 1 (.tmp 53) (.tmp 52),none,0⟩] false) (.skip)))))) (.ops [⟨some 54,.bin .add (.tmp 21) (.const (.int .i64 1)),none,0⟩,
 ⟨some 21,.move (.tmp 54),none,0⟩] false)))
def c220_1 : PC := .seq (.ops [⟨some 15,.bin .lss (.tmp 14) (.tmp 13),none,0⟩] false) (.seq (.cond (.tmp 15) (.skip) (.exit 0)) (.seq (.block 1 (.seq (.ops [⟨some 16,.move (.tmp 14),none,0⟩,
 ⟨some 17,.iaddr 1 (.tmp 12) (.tmp 14),none,0⟩,
 ⟨some 18,.load1 (.tmp 17),none,0⟩,
 ⟨some 4,.move (.tmp 16),none,0⟩,
 ⟨some 5,.move (.tmp 18),none,0⟩] false) (.seq (.ops [⟨some 19,.move (.tmp 5),none,0⟩,
 ⟨some 20,.len (.tmp 19),none,0⟩,
 ⟨some 21,.move (.const (.int .i64 0)),none,0⟩] false) (.block 2 (.loop c220_2))))) (.ops [⟨some 55,.bin .add (.tmp 14) (.const (.int .i64 1)),none,0⟩,
 ⟨some 14,.move (.tmp 55),none,0⟩] false)))
def c220 : PC := .seq (.ops [⟨some 2,.move (.const (.slice none 0 0)),none,0⟩] false) (.seq (.ops [⟨some 9,.move (.tmp 0),none,0⟩,
 ⟨some 10,.len (.tmp 9),none,0⟩,
 ⟨some 11,.mslice 1 24 [(.slice none 0 0)] (.tmp 10) (.tmp 10),none,0⟩,
 ⟨some 3,.move (.tmp 11),none,0⟩] false) (.seq (.seq (.ops [⟨some 12,.move (.tmp 0),none,0⟩,
 ⟨some 13,.len (.tmp 12),none,0⟩,
 ⟨some 14,.move (.const (.int .i64 0)),none,0⟩] false) (.block 0 (.loop c220_1))) (.seq (.ops [⟨some 56,.move (.tmp 3),none,0⟩,
 ⟨some 2,.move (.tmp 56),none,0⟩] false) (.ret))))
set_option maxRecDepth 100000 in
theorem c220_ok : FunOK Try.prog 220 57 [.tmp 2] c220 := ⟨⟨Try.f220, Try.func220, rfl, by kernel_rfl, rfl, by kernel_rfl⟩⟩
set_option maxRecDepth 100000 in
theorem scc_turnD (g : List (List Int)) (hg : chkG g = 0) (hF : FitsG g) : PCall Try.prog 220 [dgrid g] (dgrid (turnG g g.length)) := by
  obtain ⟨hn, hin⟩ := chkG_zero.1 hg
  refine pcall_intro c220_ok (by simp) (by simp [PureL, Pure, pure_dgrid]) ?_ (pure_dgrid _)
  unfold dgrid
  (apply rd_sound; focus (repeat' constructor))
  ((conv=>whnf);repeat(refine .intro rfl ?_;conv=>whnf))
  rw [List.length_map]
  refine ⟨by omega, by omega, by omega, ?_⟩
  rw [Int.toNat_natCast]
  ((conv=>whnf);repeat(refine .intro rfl ?_;conv=>whnf))
  refine pwp_ghostB (leB_nils 0 1 g.length 0 (by simp) rfl) ?_
  refine pwp_forH [3, 12, 13] (fun n : Nat => [(14, .sc (.int .i64 n))]) (fun n => .vec true 0 1 (ogRows 1 (turnG g n)) :: ogObjs 1 wcell (turnG g n)) (fun n => n ≤ g.length) (fun n => g.length - n) 0 ?_
  ((conv=>whnf);repeat(refine .intro rfl ?_;conv=>whnf))
  refine ⟨by omega, by (repeat' (first | exact trivial | refine And.intro rfl ?_)), ?_, ?_⟩
  · show _ :: _ = _ :: _
    rw [ogObjs_nils 1 _ wcell]
    exact congrArg (fun x => AObj.vec true 0 1 x :: _) (ogRows_nils (α := Int) 1 _)
  rintro n hnn
  ((conv=>whnf);repeat(refine .intro rfl ?_;conv=>whnf))
  (apply rd_sound; focus (repeat' constructor))
  ((conv=>whnf);repeat(refine .intro rfl ?_;conv=>whnf))
  rw [List.length_map]
  have lG := turnG_len g n
  (refine ifK_split (fun h1 => ?_) (fun h1 => ?_) <;> (rw [h1]; ((conv=>whnf);repeat(refine .intro rfl ?_;conv=>whnf))))
  · have hn' : n < g.length := by ((try simp only[oo,reduceCtorEq]at*)<;>omega)
    refine ⟨by omega, _, gridD_at (k := n) (by omega) hn', ?_⟩
    ((conv=>whnf);repeat(refine .intro rfl ?_;conv=>whnf))
    rw [List.length_map]
    have lx := hF.at n
    have lR : ∀ k, (turnR g n k (turnG g n)).length = g.length := fun k => by rw [turnR_len, lG]
    refine pwp_forH [3, 4, 12, 13, 14, 19, 20] (fun k : Nat => [(21, .sc (.int .i64 k))]) (fun k => .vec true 0 1 (ogRows 1 (turnR g n k (turnG g n))) :: ogObjs 1 wcell (turnR g n k (turnG g n))) (fun k => k ≤ (g.getD n []).length) (fun k => (g.getD n []).length - k) 0 ?_
    ((conv=>whnf);repeat(refine .intro rfl ?_;conv=>whnf))
    refine ⟨by omega, by (repeat' (first | exact trivial | refine And.intro rfl ?_)), rfl, ?_⟩
    rintro k hk
    have hl := lR k
    ((conv=>whnf);repeat(refine .intro rfl ?_;conv=>whnf))
    (apply rd_sound; focus (repeat' constructor))
    ((conv=>whnf);repeat(refine .intro rfl ?_;conv=>whnf))
    (refine ifK_split (fun h2 => ?_) (fun h2 => ?_) <;> (rw [h2]; ((conv=>whnf);repeat(refine .intro rfl ?_;conv=>whnf))))
    · have hk' : k < (g.getD n []).length := by ((try simp only[oo,reduceCtorEq]at*)<;>omega)
      have hx := inB_getD (inB_row hin n) hk'
      refine ⟨by omega, _, intsD_at (k := k) (by omega) hk', ?_⟩
      ((conv=>whnf);repeat(refine .intro rfl ?_;conv=>whnf))
      have et : turnR g n (k + 1) (turnG g n) = turnE (turnR g n k (turnG g n)) n ((g.getD n []).getD k 0).toNat := rfl
      generalize (g.getD n []).getD k 0 = x at hx et
      (refine ⟨by omega, (by first | omega | (simp; done) | (simp; omega) | (simp only [ll]; omega)), ?_⟩; ((conv=>whnf);repeat(refine .intro rfl ?_;conv=>whnf)))
      refine ⟨_, ogRows_at (i := x.toNat) (by omega) (by omega), ?_⟩
      ((conv=>whnf);repeat(refine .intro rfl ?_;conv=>whnf))
      refine og_get (by omega) ?_
      ((conv=>whnf);repeat(refine .intro rfl ?_;conv=>whnf))
      generalize hR : turnR g n k (turnG g n) = R at hl et ⊢
      rw [Nat.sub_zero]
      have hrow : (R.getD x.toNat []).length ≤ n + 1 := by
        have h5 := turnG_row g n x.toNat
        rcases turnR_row (g := g) (n := n) (m := x.toNat) (L := turnG g n) k with h | h
        · rw [← hR, h]; omega
        · rw [← hR, h, List.length_append, List.length_singleton]; omega
      have eE : turnE R n x.toNat = if (R.getD x.toNat []).length = 0 ∨ (R.getD x.toNat []).getD ((R.getD x.toNat []).length - 1) 0 ≠ (n : Int) then R.set x.toNat (R.getD x.toNat [] ++ [(n : Int)]) else R := rfl
      cases h3 : (((R.getD x.toNat []).length : Int) == 0)
      · ((conv=>whnf);repeat(refine .intro rfl ?_;conv=>whnf))
        have hne : (R.getD x.toNat []).length ≠ 0 := by ((try simp only[oo,reduceCtorEq]at*)<;>omega)
        (refine ⟨by omega, (by first | omega | (simp; done) | (simp; omega) | (simp only [ll]; omega)), ?_⟩; ((conv=>whnf);repeat(refine .intro rfl ?_;conv=>whnf)))
        refine ⟨_, ogRows_at (i := x.toNat) (by omega) (by omega), ?_⟩
        ((conv=>whnf);repeat(refine .intro rfl ?_;conv=>whnf))
        (refine .inl ⟨by (unfold InR; rw [IntKind.wrap_i64]; omega), ?_⟩; ((conv=>whnf);repeat(refine .intro rfl ?_;conv=>whnf)))
        refine og_get (by omega) ?_
        ((conv=>whnf);repeat(refine .intro rfl ?_;conv=>whnf))
        refine ⟨by omega, by omega, ?_⟩
        ((conv=>whnf);repeat(refine .intro rfl ?_;conv=>whnf))
        refine og_get (by omega) ?_
        ((conv=>whnf);repeat(refine .intro rfl ?_;conv=>whnf))
        refine ⟨_, intsD_at (l := R.getD x.toNat []) (k := (R.getD x.toNat []).length - 1) (by omega) (by omega), ?_⟩
        ((conv=>whnf);repeat(refine .intro rfl ?_;conv=>whnf))
        (refine ifK_split (fun h4 => ?_) (fun h4 => ?_) <;> (rw [h4]; ((conv=>whnf);repeat(refine .intro rfl ?_;conv=>whnf))))
        · have hap : (R.getD x.toNat []).length = 0 ∨ (R.getD x.toNat []).getD ((R.getD x.toNat []).length - 1) 0 ≠ (n : Int) := .inr (by ((try simp only[oo,reduceCtorEq]at*)<;>omega))
          (refine ⟨by omega, (by first | omega | (simp; done) | (simp; omega) | (simp only [ll]; omega)), ?_⟩; ((conv=>whnf);repeat(refine .intro rfl ?_;conv=>whnf)))
          refine ⟨_, ogRows_at (i := x.toNat) (by omega) (by omega), ?_⟩
          ((conv=>whnf);repeat(refine .intro rfl ?_;conv=>whnf))
          refine og_push ?_
          ((conv=>whnf);repeat(refine .intro rfl ?_;conv=>whnf))
          (repeat (first | (refine og_getE 0 rfl ?_; ((conv=>whnf);repeat(refine .intro rfl ?_;conv=>whnf))) | (refine og_putE 0 rfl ?_; ((conv=>whnf);repeat(refine .intro rfl ?_;conv=>whnf))) | (refine og_getE 1 rfl ?_; ((conv=>whnf);repeat(refine .intro rfl ?_;conv=>whnf))) | (refine og_putE 1 rfl ?_; ((conv=>whnf);repeat(refine .intro rfl ?_;conv=>whnf)))))
          refine og_getT (by omega) ?_
          ((conv=>whnf);repeat(refine .intro rfl ?_;conv=>whnf))
          refine ⟨by unfold sliceAppend; simp only [List.length_drop, List.length_take, List.length_cons, List.length_nil]; omega, ?_⟩
          ((conv=>whnf);repeat(refine .intro rfl ?_;conv=>whnf))
          refine og_putT (R.getD x.toNat [] ++ [(n : Int)]) (by omega) ?_ ?_
          · exact og_app
          ((conv=>whnf);repeat(refine .intro rfl ?_;conv=>whnf))
          (refine ⟨by omega, (by first | omega | (simp; done) | (simp; omega) | (simp only [ll]; omega)), ?_⟩; ((conv=>whnf);repeat(refine .intro rfl ?_;conv=>whnf)))
          refine ⟨_, ogRows_at (i := x.toNat) (by omega) (by omega), ?_⟩
          ((conv=>whnf);repeat(refine .intro rfl ?_;conv=>whnf))
          (refine .inl ⟨by (unfold InR; rw [IntKind.wrap_i64]; omega), ?_⟩; ((conv=>whnf);repeat(refine .intro rfl ?_;conv=>whnf)))
          refine ⟨k + 1, by omega, by dsimp only; omega, ?_⟩
          dsimp only
          rw [et, eE, if_pos hap]
          refine leB_close (g.length + 1) (by simp [lG]) (by simp [hl]) (by (repeat' (first | exact trivial | exact rfl | exact DeepM.refl _ | exact DeepML.refl _ | exact DeepMLL.refl _ | refine And.intro ?_ ?_ | (simp [Under, UnderL, UnderLL, -List.map_take, -List.map_drop]; done)))) ⟨⟨rfl, rfl, rfl, deepMLL_eq (ogRows_set (by omega) (by omega) _ (by simp)), underLL_ogRows (by simp; omega)⟩, closeH_og under_wcell⟩
        · have hap : ¬ ((R.getD x.toNat []).length = 0 ∨ (R.getD x.toNat []).getD ((R.getD x.toNat []).length - 1) 0 ≠ (n : Int)) := by
            rintro (q | q)
            · exact hne q
            · ((try simp only[oo,reduceCtorEq]at*)<;>omega)
          (refine .inl ⟨by (unfold InR; rw [IntKind.wrap_i64]; omega), ?_⟩; ((conv=>whnf);repeat(refine .intro rfl ?_;conv=>whnf)))
          refine ⟨k + 1, by omega, by dsimp only; omega, ?_⟩
          dsimp only
          rw [et, eE, if_neg hap]
          exact leB_envH (by (repeat' (first | exact trivial | refine And.intro rfl ?_))) rfl
      · ((conv=>whnf);repeat(refine .intro rfl ?_;conv=>whnf))
        have hne : (R.getD x.toNat []).length = 0 := by ((try simp only[oo,reduceCtorEq]at*)<;>omega)
        have hap : (R.getD x.toNat []).length = 0 ∨ (R.getD x.toNat []).getD ((R.getD x.toNat []).length - 1) 0 ≠ (n : Int) := .inl hne
        (refine ⟨by omega, (by first | omega | (simp; done) | (simp; omega) | (simp only [ll]; omega)), ?_⟩; ((conv=>whnf);repeat(refine .intro rfl ?_;conv=>whnf)))
        refine ⟨_, ogRows_at (i := x.toNat) (by omega) (by omega), ?_⟩
        ((conv=>whnf);repeat(refine .intro rfl ?_;conv=>whnf))
        refine og_push ?_
        ((conv=>whnf);repeat(refine .intro rfl ?_;conv=>whnf))
        (repeat (first | (refine og_getE 0 rfl ?_; ((conv=>whnf);repeat(refine .intro rfl ?_;conv=>whnf))) | (refine og_putE 0 rfl ?_; ((conv=>whnf);repeat(refine .intro rfl ?_;conv=>whnf))) | (refine og_getE 1 rfl ?_; ((conv=>whnf);repeat(refine .intro rfl ?_;conv=>whnf))) | (refine og_putE 1 rfl ?_; ((conv=>whnf);repeat(refine .intro rfl ?_;conv=>whnf)))))
        refine og_getT (by omega) ?_
        ((conv=>whnf);repeat(refine .intro rfl ?_;conv=>whnf))
        refine ⟨by unfold sliceAppend; simp only [List.length_drop, List.length_take, List.length_cons, List.length_nil]; omega, ?_⟩
        ((conv=>whnf);repeat(refine .intro rfl ?_;conv=>whnf))
        refine og_putT (R.getD x.toNat [] ++ [(n : Int)]) (by omega) ?_ ?_
        · exact og_app
        ((conv=>whnf);repeat(refine .intro rfl ?_;conv=>whnf))
        (refine ⟨by omega, (by first | omega | (simp; done) | (simp; omega) | (simp only [ll]; omega)), ?_⟩; ((conv=>whnf);repeat(refine .intro rfl ?_;conv=>whnf)))
        refine ⟨_, ogRows_at (i := x.toNat) (by omega) (by omega), ?_⟩
        ((conv=>whnf);repeat(refine .intro rfl ?_;conv=>whnf))
        (refine .inl ⟨by (unfold InR; rw [IntKind.wrap_i64]; omega), ?_⟩; ((conv=>whnf);repeat(refine .intro rfl ?_;conv=>whnf)))
        refine ⟨k + 1, by omega, by dsimp only; omega, ?_⟩
        dsimp only
        rw [et, eE, if_pos hap]
        refine leB_close (g.length + 1) (by simp [lG]) (by simp [hl]) (by (repeat' (first | exact trivial | exact rfl | exact DeepM.refl _ | exact DeepML.refl _ | exact DeepMLL.refl _ | refine And.intro ?_ ?_ | (simp [Under, UnderL, UnderLL, -List.map_take, -List.map_drop]; done)))) ⟨⟨rfl, rfl, rfl, deepMLL_eq (ogRows_set (by omega) (by omega) _ (by simp)), underLL_ogRows (by simp; omega)⟩, closeH_og under_wcell⟩
    · have hk' : k = (g.getD n []).length := by have : ¬ k < (g.getD n []).length := by ((try simp only[oo,reduceCtorEq]at*)<;>omega)
                                                omega
      subst hk'
      (refine .inl ⟨by (unfold InR; rw [IntKind.wrap_i64]; omega), ?_⟩; ((conv=>whnf);repeat(refine .intro rfl ?_;conv=>whnf)))
      refine ⟨n + 1, by omega, by dsimp only; omega, ?_⟩
      exact leB_envH (by (repeat' (first | exact trivial | refine And.intro rfl ?_))) rfl
  · have hn' : n = g.length := by have : ¬ n < g.length := by ((try simp only[oo,reduceCtorEq]at*)<;>omega)
                                  omega
    subst hn'
    have := deep_ogRows (H := AObj.vec true 0 1 (ogRows 1 (turnG g g.length)) :: ogObjs 1 wcell (turnG g g.length)) (b := 1) (esz := 1) (c := wcell) (L := turnG g g.length) (fun i hi => by
      rw [show i + 1 = i + 1 from rfl, List.getElem?_cons_succ]
      exact ogObjs_at hi)
    refine .own _ _ _ _ _ _ _ _ rfl ?_
    rw [drop_take_all (by simp [lG])]
    exact this
end

/-! ### XWu -/
section
open Go.RowKit
set_option linter.unusedSimpArgs false
set_option linter.unusedVariables false
open Classical in
/-- The distance; -1: there is none. -/
noncomputable def dis (g : List (List Int)) (to : Nat → Bool) (n : Nat) : Int := if h : ∃ d, Far g to n d then ((Classical.choose h : Nat) : Int) else -1
theorem dis_far {g : List (List Int)} {to : Nat → Bool} {n d : Nat} : Far g to n d ↔ dis g to n = d := by
  unfold dis
  constructor
  · intro h
    have hx : ∃ d, Far g to n d := ⟨d, h⟩
    rw [dif_pos hx]
    exact congrArg _ (far_one (Classical.choose_spec hx) h)
  · intro h
    split at h
    · rename_i hx
      have e : Classical.choose hx = d := by omega
      rw [← e]
      exact Classical.choose_spec hx
    · omega
theorem dis_none {g : List (List Int)} {to : Nat → Bool} {n : Nat} (h : dis g to n < 0) : dis g to n = -1 := by
  unfold dis at h ⊢
  split at h
  · omega
  · rename_i q; rw [dif_neg q]
theorem bfs_dis {g : List (List Int)} {to : Nat → Bool} {o : Nat → Int} (h : Bfs g to o []) (hm : ∀ n, -1 ≤ o n) (n : Nat) : o n = dis g to n := by
  rcases Int.lt_or_le (o n) 0 with q | q
  · rcases Int.lt_or_le (dis g to n) 0 with w | w
    · rw [dis_none w]; have := hm n; omega
    · have := h.fin.1 (dis_far.2 (show dis g to n = ((dis g to n).toNat : Nat) by omega))
      omega
  · have := dis_far.1 (h.fin.2 (show o n = ((o n).toNat : Nat) by omega))
    omega
def marksTo (to : Nat → Bool) : Nat → List Int
  | 0 => []
  | n + 1 => if to n = true then marksTo to n ++ [(n : Int)] else marksTo to n
theorem marksTo_mem {to : Nat → Bool} {x : Int} : ∀ {n : Nat}, x ∈ marksTo to n ↔ ∃ i, i < n ∧ to i = true ∧ x = (i : Int)
  | 0 => by simp [marksTo]
  | n + 1 => by
    simp only [marksTo]
    split
    · rename_i h
      rw [List.mem_append, marksTo_mem, List.mem_singleton]
      constructor
      · rintro (⟨i, h1, h2, h3⟩ | h1)
        · exact ⟨i, by omega, h2, h3⟩
        · exact ⟨n, by omega, h, h1⟩
      · rintro ⟨i, h1, h2, h3⟩
        by_cases e : i = n
        · subst e; exact .inr h3
        · exact .inl ⟨i, by omega, h2, h3⟩
    · rename_i h
      rw [marksTo_mem]
      constructor
      · rintro ⟨i, h1, h2, h3⟩; exact ⟨i, by omega, h2, h3⟩
      · rintro ⟨i, h1, h2, h3⟩
        refine ⟨i, ?_, h2, h3⟩
        by_cases e : i = n
        · subst e; exact absurd h2 h
        · omega
theorem marksTo_len (to : Nat → Bool) : ∀ n, (marksTo to n).length ≤ n
  | 0 => by simp [marksTo]
  | n + 1 => by simp only [marksTo]; have := marksTo_len to n; split <;> simp <;> omega
theorem headQ {Z : List Int} {lo hi : Nat} (h1 : lo < hi) (h2 : hi ≤ Z.length) : (Z.take hi).drop lo = Z.getD lo 0 :: (Z.take hi).drop (lo + 1) := by
  rw [List.drop_eq_getElem_cons (by rw [List.length_take]; omega), List.getElem_take, List.getD_eq_getElem?_getD, List.getElem?_eq_getElem (by omega)]
  rfl
theorem i64s_queueW {Z : List Int} {lo hi : Nat} {k : Int} : ((i64s Z).take hi).drop lo ++ [[D.sc (.int .i64 k)]] = i64s ((Z.take hi).drop lo ++ [k]) := by
  simp [i64s]
end

/-! ### XWv -/
section
open Go.RowKit
set_option linter.unusedSimpArgs false
set_option linter.unusedVariables false
def nats (l : List Int) : List Nat := l.map Int.toNat
theorem nats_app (l r : List Int) : nats (l ++ r) = nats l ++ nats r := by simp [nats]
theorem nats_mem {l : List Int} {n : Nat} : n ∈ nats l ↔ ∃ x ∈ l, x.toNat = n := by simp [nats]
theorem gl_put {n z k : Nat} {o : Nat → Int} {v : Int} (hz : z = k) : (i64s (gl n o)).set z [.sc (.int .i64 v)] = i64s (gl n (setO o k v)) := gl_set hz
/-- What stands in the first places when the marks are laid. -/
def begO (to : Nat → Bool) (k : Nat) : Nat → Int := fun i => if i < k then (if to i = true then 0 else -1) else 0
theorem begO_next {to : Nat → Bool} {k : Nat} {v : Int} (h : v = if to k = true then 0 else -1) (o : Nat → Int) (ho : ∀ i, i ≠ k → o i = begO to k i) (hk : o k = v) : ∀ i, o i = begO to (k + 1) i := by
  intro i
  by_cases e : i = k
  · subst e; rw [hk, h]; simp [begO]
  · rw [ho i e]
    by_cases q : i < k
    · simp [begO, q, show i < k + 1 by omega]
    · simp [begO, q, show ¬ i < k + 1 by omega]
theorem begin_bfs {g : List (List Int)} {to : Nat → Bool} {N : Nat} (hto : ∀ i, N ≤ i → to i = false) : Bfs g to (fun i => if to i = true then 0 else -1) (nats (marksTo to N)) := by
  have hQ : ∀ n, to n = true ↔ n ∈ nats (marksTo to N) := fun n => by
    rw [nats_mem]
    constructor
    · intro h
      have hn : n < N := by
        rcases Nat.lt_or_ge n N with q | q
        · exact q
        · rw [hto n q] at h; cases h
      exact ⟨(n : Int), marksTo_mem.2 ⟨n, hn, h, rfl⟩, by simp⟩
    · rintro ⟨x, hx, rfl⟩
      obtain ⟨i, _, h2, rfl⟩ := marksTo_mem.1 hx
      simpa using h2
  exact Bfs.begin (fun n => by
    by_cases h : to n = true
    · rw [if_pos h, if_pos ⟨h, (hQ n).1 h⟩]
    · rw [if_neg h, if_neg fun q => h q.1]) hQ
/-- A queue's state. -/
structure QOk (g : List (List Int)) (to : Nat → Bool) (o : Nat → Int) (Z : List Int) : Prop where
  rng : ∀ x ∈ Z, 0 ≤ x ∧ x < (g.length : Int)
  low : ∀ n, -1 ≤ o n
  out : ∀ n, g.length ≤ n → o n = -1
theorem far_bound {g : List (List Int)} (hin : ∀ l ∈ g, inB l g.length = true) {to : Nat → Bool} {n d : Nat} (hn : n < g.length) (h : Far g to n d) : d < g.length :=
  far_lt (fun v x hx => by have := inB_mem (inB_row hin v) hx; omega) hn h
theorem marksTo_unseen (to : Nat → Bool) : ∀ n, (marksTo to n).length + unseen to n = n
  | 0 => rfl
  | n + 1 => by
    have := marksTo_unseen to n
    unfold unseen at this ⊢
    simp only [marksTo, sumTo]
    cases h : to n <;> simp <;> omega
/-- Nodes that are not found yet. -/
def lost (o : Nat → Int) (n : Nat) : Nat := unseen (fun i => decide (0 ≤ o i)) n
theorem lost_begin (to : Nat → Bool) (n : Nat) : (marksTo to n).length + lost (fun i => if to i = true then 0 else -1) n = n := by
  have h := marksTo_unseen to n
  have e : lost (fun i => if to i = true then 0 else -1) n = unseen to n := sumTo_congr n fun j _ => by
    by_cases h : to j = true <;> simp [h]
  rw [e]; exact h
theorem lost_put {o : Nat → Int} {n k : Nat} {v : Int} (hk : k < n) (h : o k < 0) (hv : 0 ≤ v) : lost (setO o k v) n < lost o n :=
  unseen_lt hk (fun j _ hj => by
    have hj := of_decide_eq_true hj
    rw [decide_eq_true_eq, setO_ne fun e => by subst e; omega]
    exact hj) (by simpa using h) (by simpa using hv)
theorem nats_cons (x : Int) (r : List Int) : nats (x :: r) = x.toNat :: nats r := rfl
theorem QOk.put {g : List (List Int)} {to : Nat → Bool} {o : Nat → Int} {Z : List Int} (h : QOk g to o Z) {k : Nat} (hk : k < g.length) {v : Int} (hv : 0 ≤ v) {lo hi : Nat} : QOk g to (setO o k v) ((Z.take hi).drop lo ++ [(k : Int)]) where
  rng x hx := by
    rcases List.mem_append.1 hx with q | q
    · exact h.rng x (List.mem_of_mem_take (List.mem_of_mem_drop q))
    · rw [List.mem_singleton] at q; subst q; omega
  low n := by
    by_cases e : n = k
    · subst e; rw [setO_self]; omega
    · rw [setO_ne e]; exact h.low n
  out n hn := by rw [setO_ne (by omega)]; exact h.out n hn
def c249_1 : PC := .seq (.ops [⟨some 21,.bin .lss (.tmp 20) (.tmp 19),none,0⟩] false) (.seq (.cond (.tmp 21) (.skip) (.exit 0)) (.seq (.block 1 (.seq (.ops [⟨some 22,.move (.tmp 20),none,0⟩,
 ⟨some 23,.iaddr 1 (.tmp 18) (.tmp 20),none,0⟩,
 ⟨some 24,.load1 (.tmp 23),none,0⟩,
 ⟨some 8,.move (.tmp 22),none,0⟩,
 ⟨some 9,.move (.tmp 24),none,0⟩] false) (.seq (.ops [⟨some 25,.move (.tmp 6),none,0⟩,
 ⟨some 26,.move (.tmp 8),none,0⟩,
 ⟨some 27,.iaddr 1 (.tmp 25) (.tmp 26),none,0⟩,
 ⟨none,.store 1 (.tmp 27) (.const (.int .i64 (-1))),none,0⟩] false) (.seq (.ops [⟨some 28,.move (.tmp 9),none,0⟩] false) (.cond (.tmp 28) (.seq (.ops [⟨some 29,.move (.tmp 6),none,0⟩,
 ⟨some 30,.move (.tmp 8),none,0⟩,
 ⟨some 31,.iaddr 1 (.tmp 29) (.tmp 30),none,0⟩,
 ⟨none,.store 1 (.tmp 31) (.const (.int .i64 0)),none,0⟩] false) (.ops [⟨some 32,.move (.tmp 7),none,0⟩,
 ⟨some 33,.move (.tmp 8),none,0⟩,
 ⟨some 34,.bslice 1 1 [(.tmp 33)],none,0⟩,
 ⟨some 35,.append 1 8 (.tmp 32) (.tmp 34),none,0⟩,
 ⟨some 7,.move (.tmp 35),none,0⟩] false)) (.skip)))))) (.ops [⟨some 36,.bin .add (.tmp 20) (.const (.int .i64 1)),none,0⟩,
 ⟨some 20,.move (.tmp 36),none,0⟩] false)))
def c249_3 : PC := .seq (.ops [⟨some 51,.bin .lss (.tmp 50) (.tmp 49),none,0⟩] false) (.seq (.cond (.tmp 51) (.skip) (.exit 4)) (.seq (.block 5 (.seq (.ops [⟨some 52,.iaddr 1 (.tmp 48) (.tmp 50),none,0⟩,
 ⟨some 53,.load1 (.tmp 52),none,0⟩,
 ⟨some 12,.move (.tmp 53),none,0⟩] false) (.seq (.ops [⟨some 54,.move (.tmp 6),none,0⟩,
 ⟨some 55,.move (.tmp 12),none,0⟩,
 ⟨some 56,.iaddr 1 (.tmp 54) (.tmp 55),none,0⟩,
 ⟨some 57,.load1 (.tmp 56),none,0⟩,
 ⟨some 58,.bin .lss (.tmp 57) (.const (.int .i64 0)),none,0⟩] false) (.cond (.tmp 58) (.seq (.ops [⟨some 59,.move (.tmp 6),none,0⟩,
 ⟨some 60,.move (.tmp 12),none,0⟩,
 ⟨some 61,.move (.tmp 6),none,0⟩,
 ⟨some 62,.move (.tmp 10),none,0⟩,
 ⟨some 63,.iaddr 1 (.tmp 61) (.tmp 62),none,0⟩,
 ⟨some 64,.load1 (.tmp 63),none,0⟩,
 ⟨some 65,.bin .add (.tmp 64) (.const (.int .i64 1)),none,0⟩,
 ⟨some 66,.iaddr 1 (.tmp 59) (.tmp 60),none,0⟩,
 ⟨none,.store 1 (.tmp 66) (.tmp 65),none,0⟩] false) (.ops [⟨some 67,.move (.tmp 7),none,0⟩,
 ⟨some 68,.move (.tmp 12),none,0⟩,
 ⟨some 69,.bslice 1 1 [(.tmp 68)],none,0⟩,
 ⟨some 70,.append 1 8 (.tmp 67) (.tmp 69),none,0⟩,
 ⟨some 7,.move (.tmp 70),none,0⟩] false)) (.skip))))) (.ops [⟨some 71,.bin .add (.tmp 50) (.const (.int .i64 1)),none,0⟩,
 ⟨some 50,.move (.tmp 71),none,0⟩] false)))
def c249_2 : PC := .seq (.seq (.ops [⟨some 37,.move (.tmp 7),none,0⟩,
 ⟨some 38,.len (.tmp 37),none,0⟩,
 ⟨some 39,.bin .gtr (.tmp 38) (.const (.int .i64 0)),none,0⟩] false) (.cond (.tmp 39) (.skip) (.exit 2))) (.block 3 (.seq (.ops [⟨some 40,.move (.tmp 7),none,0⟩,
 ⟨some 41,.iaddr 1 (.tmp 40) (.const (.int .i64 0)),none,0⟩,
 ⟨some 42,.load1 (.tmp 41),none,0⟩,
 ⟨some 10,.move (.tmp 42),none,0⟩] false) (.seq (.ops [⟨some 43,.move (.tmp 7),none,0⟩,
 ⟨some 44,.slc 1 (.tmp 43) (some (.const (.int .i64 1))) none none,none,0⟩,
 ⟨some 7,.move (.tmp 44),none,0⟩] false) (.seq (.ops [⟨some 45,.move (.tmp 5),none,0⟩,
 ⟨some 46,.move (.tmp 10),none,0⟩,
 ⟨some 47,.iaddr 1 (.tmp 45) (.tmp 46),none,0⟩,
 ⟨some 48,.load1 (.tmp 47),none,0⟩,
 ⟨some 49,.len (.tmp 48),none,0⟩,
 ⟨some 50,.move (.const (.int .i64 0)),none,0⟩] false) (.block 4 (.loop c249_3))))))
def c249 : PC := .seq (.ops [⟨some 4,.move (.const (.slice none 0 0)),none,0⟩] false) (.seq (.ops [⟨some 13,.move (.tmp 0),none,0⟩,
 ⟨some 14,.call 220 [(.tmp 13)],none,0⟩,
 ⟨some 5,.move (.tmp 14),none,0⟩] false) (.seq (.ops [⟨some 15,.move (.tmp 0),none,0⟩,
 ⟨some 16,.len (.tmp 15),none,0⟩,
 ⟨some 17,.mslice 1 8 [(.int .i64 0)] (.tmp 16) (.tmp 16),none,0⟩,
 ⟨some 6,.move (.tmp 17),none,0⟩] false) (.seq (.ops [⟨some 7,.move (.const (.slice none 0 0)),none,0⟩] false) (.seq (.seq (.ops [⟨some 18,.move (.tmp 1),none,0⟩,
 ⟨some 19,.len (.tmp 18),none,0⟩,
 ⟨some 20,.move (.const (.int .i64 0)),none,0⟩] false) (.block 0 (.loop c249_1))) (.seq (.block 2 (.loop c249_2)) (.seq (.ops [⟨some 72,.move (.tmp 6),none,0⟩,
 ⟨some 4,.move (.tmp 72),none,0⟩] false) (.ret)))))))
set_option maxRecDepth 100000 in
theorem c249_ok : FunOK Try.prog 249 73 [.tmp 4] c249 := ⟨⟨Try.f249, Try.func249, rfl, by kernel_rfl, rfl, by kernel_rfl⟩⟩
set_option maxRecDepth 100000 in
theorem scc_far (g : List (List Int)) (hg : chkG g = 0) (hF : FitsG g) (to : Nat → Bool) (hto : ∀ i, g.length ≤ i → to i = false) :
    PCall Try.prog 249 [dgrid g, dbl g.length to] (dints (gl g.length (dis g to))) := by
  obtain ⟨hn, hin⟩ := chkG_zero.1 hg
  have hin' : ∀ v y, y ∈ g.getD v [] → y.toNat < g.length := fun v x hx => by have := inB_mem (inB_row hin v) hx; omega
  refine pcall_intro c249_ok (by simp) (by simp [PureL, Pure, pure_dgrid, pure_dbl]) ?_ (pure_dints _)
  (apply rd_sound; focus (repeat' constructor))
  ((conv=>whnf);repeat(refine .intro rfl ?_;conv=>whnf))
  (refine .inl ⟨_, (scc_turnD g hg hF), ?_⟩; ((conv=>whnf);repeat(refine .intro rfl ?_;conv=>whnf)))
  generalize hT : turnG g g.length = T
  have lT : T.length = g.length := by rw [← hT, turnG_len]
  have mT : ∀ (m : Nat) (x : Int), x ∈ T.getD m [] ↔ ∃ k, k < g.length ∧ x = (k : Int) ∧ ∃ y, y ∈ g.getD k [] ∧ y.toNat = m := fun m x => by rw [← hT]; exact turnG_mem hin' (Nat.le_refl _)
  have rT : ∀ m, (T.getD m []).length ≤ g.length := fun m => by rw [← hT]; exact turnG_row g g.length m
  clear hT
  unfold dgrid dbl
  rw [List.length_map]
  refine ⟨by omega, by omega, by omega, ?_⟩
  rw [Int.toNat_natCast, show List.map D.sc [Value.int .i64 0] = [D.sc (.int .i64 0)] from rfl, gl_rep]
  ((conv=>whnf);repeat(refine .intro rfl ?_;conv=>whnf))
  rw [rbl_len]
  refine pwp_ghostB (leB_nil 7 1 (by simp) rfl) ?_
  refine pwp_for [5, 6, 18, 19] (fun k : Nat => [(7, .own 1 (marksTo to k).length 0 (marksTo to k).length), (20, .sc (.int .i64 k))]) (fun k => [(0, .vec true 0 1 (i64s (gl g.length (begO to k)))), (1, .vec true (marksTo to k).length 1 (i64s (marksTo to k)))])
    (fun k => k ≤ g.length) (fun k => g.length - k) 0 ?_
  ((conv=>whnf);repeat(refine .intro rfl ?_;conv=>whnf))
  refine ⟨by omega, by (repeat' (first | exact trivial | refine And.intro rfl ?_)), by rw [gl_congr (g' := begO to 0) fun i _ => by simp [begO]]; rfl, ?_⟩
  rintro k hk
  ((conv=>whnf);repeat(refine .intro rfl ?_;conv=>whnf))
  (apply rd_sound; focus (repeat' constructor))
  ((conv=>whnf);repeat(refine .intro rfl ?_;conv=>whnf))
  (refine ifK_split (fun h1 => ?_) (fun h1 => ?_) <;> (rw [h1]; ((conv=>whnf);repeat(refine .intro rfl ?_;conv=>whnf))))
  · have hk' : k < g.length := by ((try simp only[oo,reduceCtorEq]at*)<;>omega)
    refine ⟨by omega, _, rbl_atN k (by omega) hk', ?_⟩
    ((conv=>whnf);repeat(refine .intro rfl ?_;conv=>whnf))
    (refine ⟨by omega, (by first | omega | (simp; done) | (simp; omega) | (simp only [ll]; omega)), ?_⟩; ((conv=>whnf);repeat(refine .intro rfl ?_;conv=>whnf)))
    refine ⟨_, gl_atN k (by omega) hk', ?_⟩
    ((conv=>whnf);repeat(refine .intro rfl ?_;conv=>whnf))
    cases ht : to k
    · ((conv=>whnf);repeat(refine .intro rfl ?_;conv=>whnf))
      (refine .inl ⟨by (unfold InR; rw [IntKind.wrap_i64]; omega), ?_⟩; ((conv=>whnf);repeat(refine .intro rfl ?_;conv=>whnf)))
      refine ⟨k + 1, by omega, by dsimp only; omega, ?_⟩
      have em : marksTo to (k + 1) = marksTo to k := by simp [marksTo, ht]
      dsimp only
      rw [em]
      refine leB_envH (by (repeat' (first | exact trivial | refine And.intro rfl ?_))) ?_
      rw [gl_put (k := k) (by omega), gl_congr (g' := begO to (k + 1)) fun i _ => begO_next (v := -1) (by simp [ht]) _ (fun i hi => setO_ne hi) (setO_self _ _ _) i]
      rfl
    · ((conv=>whnf);repeat(refine .intro rfl ?_;conv=>whnf))
      (refine ⟨by omega, (by first | omega | (simp; done) | (simp; omega) | (simp only [ll]; omega)), ?_⟩; ((conv=>whnf);repeat(refine .intro rfl ?_;conv=>whnf)))
      refine ⟨[.sc (.int .i64 (-1))], by rw [gl_put (k := k) (by omega), gl_atN k (by omega) hk', setO_self], ?_⟩
      ((conv=>whnf);repeat(refine .intro rfl ?_;conv=>whnf))
      have hml := marksTo_len to k
      refine ⟨(by unfold sliceAppend; simp only [ll]; omega), ?_⟩
      ((conv=>whnf);repeat(refine .intro rfl ?_;conv=>whnf))
      (refine .inl ⟨by (unfold InR; rw [IntKind.wrap_i64]; omega), ?_⟩; ((conv=>whnf);repeat(refine .intro rfl ?_;conv=>whnf)))
      refine ⟨k + 1, by omega, by dsimp only; omega, ?_⟩
      have em : marksTo to (k + 1) = marksTo to k ++ [(k : Int)] := by simp [marksTo, ht]
      dsimp only
      rw [em]
      have el : (marksTo to k ++ [(k : Int)]).length = (marksTo to k).length + 1 := by simp
      rw [el]
      (refine leB_close 2 (by simp) rfl ?_ ?_ <;> (repeat' (first | exact trivial | exact rfl | exact DeepM.refl _ | exact DeepML.refl _ | exact DeepMLL.refl _ | refine And.intro ?_ ?_ | (simp [Under, UnderL, UnderLL, -List.map_take, -List.map_drop]; done))))
      · exact deepMLL_eq (by
          rw [gl_put (k := k) (by omega), gl_put (k := k) (by omega), gl_congr (g' := begO to (k + 1)) fun i _ => begO_next (v := 0) (by simp [ht]) _ (fun i hi => by rw [setO_ne hi, setO_ne hi]) (setO_self _ _ _) i])
      · exact deepMLL_eq (by
          rw [List.take_of_length_le (by simp), List.drop_zero]
          simp [i64s])
  · have hk' : k = g.length := by have : ¬ k < g.length := by ((try simp only[oo,reduceCtorEq]at*)<;>omega)
                                  omega
    subst hk'
    refine pwp_for [5, 6] (fun ((o, Z, lo, hi, ver) : (Nat → Int) × List Int × Nat × Nat × Nat) => [(7, .own 1 ver lo hi)]) (fun (o, Z, lo, hi, ver) => [(0, .vec true 0 1 (i64s (gl g.length o))), (1, .vec true ver 1 (i64s Z))])
      (fun (o, Z, lo, hi, ver) => lo ≤ hi ∧ hi ≤ Z.length ∧ QOk g to o Z ∧ hi - lo + lost o g.length ≤ g.length ∧ Bfs g to o (nats ((Z.take hi).drop lo))) (fun (o, Z, lo, hi, ver) => hi - lo + lost o g.length) (fun i => if to i = true then 0 else -1, marksTo to g.length, 0, (marksTo to g.length).length, (marksTo to g.length).length) ?_
    ((conv=>whnf);repeat(refine .intro rfl ?_;conv=>whnf))
    have hl0 := lost_begin to g.length
    refine ⟨⟨by omega, by omega, ⟨fun x hx => ?_, fun n => by split <;> omega, fun n hn => by simp [hto n hn]⟩, by omega, by rw [List.take_length, List.drop_zero]; exact begin_bfs hto⟩, by (repeat' (first | exact trivial | refine And.intro rfl ?_)), by rw [gl_congr (g' := fun i => if to i = true then 0 else -1) fun i hi => by simp [begO, hi]]; rfl, ?_⟩
    · obtain ⟨i, h1, _, rfl⟩ := marksTo_mem.1 hx; omega
    rintro ⟨o, Z, lo, hi, ver⟩ ⟨hlo, hhi, hq, hu, hB⟩
    ((conv=>whnf);repeat(refine .intro rfl ?_;conv=>whnf))
    (apply rd_sound; focus (repeat' constructor))
    ((conv=>whnf);repeat(refine .intro rfl ?_;conv=>whnf))
    (refine ifK_split (fun h1 => ?_) (fun h1 => ?_) <;> (rw [h1]; ((conv=>whnf);repeat(refine .intro rfl ?_;conv=>whnf))))
    · have h1 : lo < hi := by ((try simp only[oo,reduceCtorEq]at*)<;>omega)
      rw [headQ h1 hhi, nats_cons] at hB
      have hx := hq.rng (Z.getD lo 0) (mem_getD (by omega))
      generalize hX : Z.getD lo 0 = x at hB hx
      (refine ⟨by omega, (by first | omega | (simp; done) | (simp; omega) | (simp only [ll]; omega)), ?_⟩; ((conv=>whnf);repeat(refine .intro rfl ?_;conv=>whnf)))
      refine ⟨_, intsD_at (l := Z) (k := lo) (by omega) (by omega), ?_⟩
      ((conv=>whnf);repeat(refine .intro rfl ?_;conv=>whnf))
      rw [hX]
      refine ⟨by omega, by omega, by omega, ?_⟩
      ((conv=>whnf);repeat(refine .intro rfl ?_;conv=>whnf))
      rw [show lo + (hi - lo) = hi by omega]
      refine ⟨by omega, _, gridD_at (g := T) (k := x.toNat) (by omega) (by omega), ?_⟩
      ((conv=>whnf);repeat(refine .intro rfl ?_;conv=>whnf))
      rw [List.length_map]
      have hL := rT x.toNat
      have mL := mT x.toNat
      generalize T.getD x.toNat [] = L at hL mL
      refine pwp_for [5, 6, 10, 48, 49] (fun ((o', Z', lo', hi', ver', k) : (Nat → Int) × List Int × Nat × Nat × Nat × Nat) => [(7, .own 1 ver' lo' hi'), (50, .sc (.int .i64 k))]) (fun (o', Z', lo', hi', ver', k) => [(0, .vec true 0 1 (i64s (gl g.length o'))), (1, .vec true ver' 1 (i64s Z'))])
        (fun (o', Z', lo', hi', ver', k) => k ≤ L.length ∧ lo' ≤ hi' ∧ hi' ≤ Z'.length ∧ QOk g to o' Z' ∧ hi' - lo' + lost o' g.length < hi - lo + lost o g.length ∧ BfsJ g to o' (nats ((Z'.take hi').drop lo')) x.toNat (nats (L.take k))) (fun (o', Z', lo', hi', ver', k) => L.length - k) (o, Z, lo + 1, hi, ver, 0) ?_
      ((conv=>whnf);repeat(refine .intro rfl ?_;conv=>whnf))
      refine ⟨⟨by omega, by omega, hhi, hq, by omega, hB.pop⟩, by (repeat' (first | exact trivial | refine And.intro rfl ?_)), rfl, ?_⟩
      rintro ⟨o', Z', lo', hi', ver', k⟩ ⟨hk, hlo', hhi', hq', hu', hJ⟩
      ((conv=>whnf);repeat(refine .intro rfl ?_;conv=>whnf))
      (apply rd_sound; focus (repeat' constructor))
      ((conv=>whnf);repeat(refine .intro rfl ?_;conv=>whnf))
      (refine ifK_split (fun h3 => ?_) (fun h3 => ?_) <;> (rw [h3]; ((conv=>whnf);repeat(refine .intro rfl ?_;conv=>whnf))))
      · have hk' : k < L.length := by ((try simp only[oo,reduceCtorEq]at*)<;>omega)
        obtain ⟨v, hv1, hv2, y, hy1, hy2⟩ := (mL (L.getD k 0)).1 (mem_getD hk')
        refine ⟨by omega, _, intsD_at (l := L) (k := k) (by omega) hk', ?_⟩
        ((conv=>whnf);repeat(refine .intro rfl ?_;conv=>whnf))
        rw [hv2]
        (refine ⟨by omega, (by first | omega | (simp; done) | (simp; omega) | (simp only [ll]; omega)), ?_⟩; ((conv=>whnf);repeat(refine .intro rfl ?_;conv=>whnf)))
        refine ⟨_, gl_atN v (by omega) hv1, ?_⟩
        ((conv=>whnf);repeat(refine .intro rfl ?_;conv=>whnf))
        have eT : nats (L.take (k + 1)) = nats (L.take k) ++ [v] := by
          rw [List.take_add_one, List.getElem?_eq_getElem hk', nats_app]
          rw [List.getD_eq_getElem?_getD, List.getElem?_eq_getElem hk'] at hv2
          simp at hv2
          simp [nats, hv2]
        (refine ifK_split (fun h4 => ?_) (fun h4 => ?_) <;> (rw [h4]; ((conv=>whnf);repeat(refine .intro rfl ?_;conv=>whnf))))
        · have h4 : o' v < 0 := by ((try simp only[oo,reduceCtorEq]at*)<;>omega)
          have hb := far_bound hin (by omega) (hJ.sound x.toNat hJ.here)
          have h0 := hJ.here
          (refine ⟨by omega, (by first | omega | (simp; done) | (simp; omega) | (simp only [ll]; omega)), ?_⟩; ((conv=>whnf);repeat(refine .intro rfl ?_;conv=>whnf)))
          refine ⟨_, gl_atN x.toNat (by omega) (by omega), ?_⟩
          ((conv=>whnf);repeat(refine .intro rfl ?_;conv=>whnf))
          (refine .inl ⟨by (unfold InR; rw [IntKind.wrap_i64]; omega), ?_⟩; ((conv=>whnf);repeat(refine .intro rfl ?_;conv=>whnf)))
          (refine ⟨by omega, (by first | omega | (simp; done) | (simp; omega) | (simp only [ll]; omega)), ?_⟩; ((conv=>whnf);repeat(refine .intro rfl ?_;conv=>whnf)))
          refine ⟨_, gl_atN v (by omega) hv1, ?_⟩
          ((conv=>whnf);repeat(refine .intro rfl ?_;conv=>whnf))
          refine ⟨(by unfold sliceAppend; simp only [ll]; omega), ?_⟩
          ((conv=>whnf);repeat(refine .intro rfl ?_;conv=>whnf))
          (refine .inl ⟨by (unfold InR; rw [IntKind.wrap_i64]; omega), ?_⟩; ((conv=>whnf);repeat(refine .intro rfl ?_;conv=>whnf)))
          have hl1 := lost_put (n := g.length) hv1 h4 (v := o' x.toNat + 1) (by omega)
          have hp := hJ.push h4 hy1 hy2
          refine ⟨(setO o' v (o' x.toNat + 1), (Z'.take hi').drop lo' ++ [(v : Int)], 0, hi' - lo' + 1, ver' + 1, k + 1), ⟨by omega, by omega, by simp; omega, hq'.put hv1 (by omega), by omega, ?_⟩, by dsimp only; omega, ?_⟩
          · rw [List.drop_zero, List.take_of_length_le (by simp; omega), nats_app, eT]
            exact hp
          · (refine leB_close 2 (by simp) rfl ?_ ?_ <;> (repeat' (first | exact trivial | exact rfl | exact DeepM.refl _ | exact DeepML.refl _ | exact DeepMLL.refl _ | refine And.intro ?_ ?_ | (simp [Under, UnderL, UnderLL, -List.map_take, -List.map_drop]; done))))
            · exact deepMLL_eq (gl_put (by omega))
            · exact deepMLL_eq i64s_queueW
        · have h4 : 0 ≤ o' v := by ((try simp only[oo,reduceCtorEq]at*)<;>omega)
          (refine .inl ⟨by (unfold InR; rw [IntKind.wrap_i64]; omega), ?_⟩; ((conv=>whnf);repeat(refine .intro rfl ?_;conv=>whnf)))
          refine ⟨(o', Z', lo', hi', ver', k + 1), ⟨by omega, hlo', hhi', hq', hu', by rw [eT]; exact hJ.skip h4⟩, by dsimp only; omega, ?_⟩
          exact leB_envH (by (repeat' (first | exact trivial | refine And.intro rfl ?_))) rfl
      · have hk' : k = L.length := by have : ¬ k < L.length := by ((try simp only[oo,reduceCtorEq]at*)<;>omega)
                                      omega
        subst hk'
        refine ⟨(o', Z', lo', hi', ver'), ⟨hlo', hhi', hq', by omega, hJ.fin fun k y h1 h2 => ?_⟩, by dsimp only; omega, ?_⟩
        · have hk : k < g.length := by
            rcases Nat.lt_or_ge k g.length with q | q
            · exact q
            · rw [List.getD_eq_getElem?_getD, List.getElem?_eq_none q] at h1; cases h1
          rw [List.take_length]
          exact nats_mem.2 ⟨(k : Int), (mL k).2 ⟨k, hk, rfl, y, h1, h2⟩, by simp⟩
        · exact leB_envH (by (repeat' (first | exact trivial | refine And.intro rfl ?_))) rfl
    · have h0 : hi = lo := by ((try simp only[oo,reduceCtorEq]at*)<;>omega)
      subst h0
      rw [List.drop_eq_nil_of_le (by rw [List.length_take]; omega)] at hB
      rw [gl_congr (g' := dis g to) fun i _ => bfs_dis hB hq.low i]
      exact deep_gl rfl
end

/-! ### XWx -/
section
open Go.RowKit
set_option linter.unusedSimpArgs false
set_option linter.unusedVariables false
/-- From a node at distance d on: each time the least of the next ones that is one nearer. -/
noncomputable def walkW (g : List (List Int)) (o : Nat → Int) : Nat → Int → List Int
  | 0, a => [a]
  | d + 1, a => a :: walkW g o d (bestTo (fun n => decide (o n = (d : Int))) (g.getD a.toNat []) (g.getD a.toNat []).length)
theorem walkW_len (g : List (List Int)) (o : Nat → Int) : ∀ d a, (walkW g o d a).length = d + 1
  | 0, _ => rfl
  | d + 1, a => by simp only [walkW, List.length_cons, walkW_len g o d]
noncomputable def wayS (g : List (List Int)) (from_ : List Int) (to : Nat → Bool) : Int := startTo (dis g to) from_ from_.length
noncomputable def wayL (g : List (List Int)) (from_ : List Int) (to : Nat → Bool) : List Int := if 0 ≤ wayS g from_ to then walkW g (dis g to) (dis g to (wayS g from_ to).toNat).toNat (wayS g from_ to) else []
theorem dis_low (g : List (List Int)) (to : Nat → Bool) (n : Nat) : -1 ≤ dis g to n := by
  rcases Int.lt_or_le (dis g to n) 0 with h | h
  · rw [dis_none h]; omega
  · omega
/-- The next node is there, and one nearer. -/
theorem next_ok {g : List (List Int)} (hin : ∀ l ∈ g, inB l g.length = true) {to : Nat → Bool} {a d : Nat} (h : dis g to a = (d : Int) + 1) :
    0 ≤ bestTo (fun n => decide (dis g to n = (d : Int))) (g.getD a []) (g.getD a []).length ∧ bestTo (fun n => decide (dis g to n = (d : Int))) (g.getD a []) (g.getD a []).length < (g.length : Int) ∧
      dis g to (bestTo (fun n => decide (dis g to n = (d : Int))) (g.getD a []) (g.getD a []).length).toNat = (d : Int) := by
  have hB := inB_row hin a
  obtain ⟨x, hx, hf⟩ := far_step (dis_far.2 (show dis g to a = ((d + 1 : Nat) : Int) by omega))
  obtain ⟨j, hj, ej⟩ := getD_mem hx
  rcases bestTo_ok (p := fun n => decide (dis g to n = (d : Int))) (fun k hk => (inB_getD hB hk).1) (g.getD a []).length (Nat.le_refl _) with ⟨_, q⟩ | ⟨q1, q2, ⟨i, q3, q4⟩, _⟩
  · have := q j hj
    rw [ej] at this
    have := of_decide_eq_false this
    exact absurd (dis_far.1 hf) this
  · refine ⟨q1, ?_, of_decide_eq_true q2⟩
    rw [← q4]
    exact (inB_getD hB q3).2
theorem start_ok {g : List (List Int)} {from_ : List Int} (hf : inB from_ g.length = true) {to : Nat → Bool} (h : 0 ≤ wayS g from_ to) : wayS g from_ to < (g.length : Int) ∧ 0 ≤ dis g to (wayS g from_ to).toNat := by
  rcases startTo_ok (o := dis g to) (fun k hk => (inB_getD hf hk).1) from_.length (Nat.le_refl _) with ⟨q, _⟩ | ⟨q1, q2, ⟨i, q3, q4⟩, _⟩
  · unfold wayS at h; omega
  · unfold wayS
    refine ⟨?_, q2⟩
    rw [← q4]
    exact (inB_getD hf q3).2
theorem dis_lt {g : List (List Int)} (hin : ∀ l ∈ g, inB l g.length = true) {to : Nat → Bool} {n : Nat} (hn : n < g.length) : dis g to n < (g.length : Int) := by
  rcases Int.lt_or_le (dis g to n) 0 with h | h
  · omega
  · have := far_bound hin hn (dis_far.2 (show dis g to n = ((dis g to n).toNat : Int) by omega))
    omega
theorem startTo_rng {o : Nat → Int} {l : List Int} {N : Nat} (hl : inB l N = true) (k : Nat) (hk : k ≤ l.length) : startTo o l k < (N : Int) ∧ -1 ≤ startTo o l k := by
  rcases startTo_ok (o := o) (fun k hk => (inB_getD hl hk).1) k hk with ⟨q, _⟩ | ⟨q1, q2, ⟨i, q3, q4⟩, _⟩
  · omega
  · rw [← q4]
    have := inB_getD hl (k := i) (by omega)
    omega
theorem walkW_succ {g : List (List Int)} {o : Nat → Int} {d : Nat} {a : Int} : walkW g o (d + 1) a = a :: walkW g o d (bestTo (fun n => decide (o n = (d : Int))) (g.getD a.toNat []) (g.getD a.toNat []).length) := rfl
def c227_1 : PC := .seq (.ops [⟨some 39,.bin .lss (.tmp 38) (.tmp 37),none,0⟩] false) (.seq (.cond (.tmp 39) (.skip) (.exit 0)) (.seq (.block 1 (.seq (.ops [⟨some 40,.iaddr 1 (.tmp 36) (.tmp 38),none,0⟩,
 ⟨some 41,.load1 (.tmp 40),none,0⟩,
 ⟨some 13,.move (.tmp 41),none,0⟩] false) (.seq (.ops [⟨some 42,.move (.tmp 10),none,0⟩,
 ⟨some 43,.move (.tmp 13),none,0⟩,
 ⟨some 44,.iaddr 1 (.tmp 42) (.tmp 43),none,3⟩,
 ⟨some 45,.load1 (.tmp 44),none,7⟩,
 ⟨some 46,.bin .geq (.tmp 45) (.const (.int .i64 0)),none,15⟩,
 ⟨some 47,.move (.tmp 46),none,31⟩,
 ⟨some 48,.move (.tmp 11),some (47,true),63⟩,
 ⟨some 49,.bin .lss (.tmp 48) (.const (.int .i64 0)),some (47,true),127⟩,
 ⟨some 50,.move (.tmp 49),some (47,true),255⟩,
 ⟨some 51,.move (.tmp 10),some (50,false),511⟩,
 ⟨some 52,.move (.tmp 13),some (50,false),511⟩,
 ⟨some 53,.iaddr 1 (.tmp 51) (.tmp 52),some (50,false),2047⟩,
 ⟨some 54,.load1 (.tmp 53),some (50,false),4095⟩,
 ⟨some 55,.move (.tmp 10),some (50,false),511⟩,
 ⟨some 56,.move (.tmp 11),some (50,false),511⟩,
 ⟨some 57,.iaddr 1 (.tmp 55) (.tmp 56),some (50,false),25087⟩,
 ⟨some 58,.load1 (.tmp 57),some (50,false),57855⟩,
 ⟨some 59,.bin .lss (.tmp 54) (.tmp 58),some (50,false),131071⟩,
 ⟨some 60,.pick (.tmp 50) (.const (.bool true)) (.tmp 59),some (47,true),262143⟩,
 ⟨some 61,.move (.tmp 60),some (47,true),524287⟩,
 ⟨some 62,.move (.tmp 10),some (61,false),1048575⟩,
 ⟨some 63,.move (.tmp 13),some (61,false),1048575⟩,
 ⟨some 64,.iaddr 1 (.tmp 62) (.tmp 63),some (61,false),4194303⟩,
 ⟨some 65,.load1 (.tmp 64),some (61,false),8388607⟩,
 ⟨some 66,.move (.tmp 10),some (61,false),1048575⟩,
 ⟨some 67,.move (.tmp 11),some (61,false),1048575⟩,
 ⟨some 68,.iaddr 1 (.tmp 66) (.tmp 67),some (61,false),51380223⟩,
 ⟨some 69,.load1 (.tmp 68),some (61,false),118489087⟩,
 ⟨some 70,.bin .eql (.tmp 65) (.tmp 69),some (61,false),268435455⟩,
 ⟨some 71,.move (.tmp 70),some (61,false),536870911⟩,
 ⟨some 72,.move (.tmp 13),some (71,true),1073741823⟩,
 ⟨some 73,.move (.tmp 11),some (71,true),1073741823⟩,
 ⟨some 74,.bin .lss (.tmp 72) (.tmp 73),some (71,true),4294967295⟩,
 ⟨some 75,.pick (.tmp 71) (.tmp 74) (.const (.bool false)),some (61,false),8589934591⟩,
 ⟨some 76,.pick (.tmp 61) (.const (.bool true)) (.tmp 75),some (47,true),17179869183⟩,
 ⟨some 77,.pick (.tmp 47) (.tmp 76) (.const (.bool false)),none,34359738367⟩] true) (.cond (.tmp 77) (.ops [⟨some 78,.move (.tmp 13),none,0⟩,
 ⟨some 11,.move (.tmp 78),none,0⟩] false) (.skip))))) (.ops [⟨some 79,.bin .add (.tmp 38) (.const (.int .i64 1)),none,0⟩,
 ⟨some 38,.move (.tmp 79),none,0⟩] false)))
def c227_3 : PC := .seq (.ops [⟨some 95,.bin .lss (.tmp 94) (.tmp 93),none,0⟩] false) (.seq (.cond (.tmp 95) (.skip) (.exit 4)) (.seq (.block 5 (.seq (.ops [⟨some 96,.iaddr 1 (.tmp 92) (.tmp 94),none,0⟩,
 ⟨some 97,.load1 (.tmp 96),none,0⟩,
 ⟨some 17,.move (.tmp 97),none,0⟩] false) (.seq (.ops [⟨some 98,.move (.tmp 10),none,0⟩,
 ⟨some 99,.move (.tmp 17),none,0⟩,
 ⟨some 100,.iaddr 1 (.tmp 98) (.tmp 99),none,3⟩,
 ⟨some 101,.load1 (.tmp 100),none,7⟩,
 ⟨some 102,.move (.tmp 10),none,0⟩,
 ⟨some 103,.move (.tmp 11),none,0⟩,
 ⟨some 104,.iaddr 1 (.tmp 102) (.tmp 103),none,48⟩,
 ⟨some 105,.load1 (.tmp 104),none,112⟩,
 ⟨some 106,.bin .sub (.tmp 105) (.const (.int .i64 1)),none,240⟩,
 ⟨some 107,.bin .eql (.tmp 101) (.tmp 106),none,511⟩,
 ⟨some 108,.move (.tmp 107),none,1023⟩,
 ⟨some 109,.move (.tmp 15),some (108,true),2047⟩,
 ⟨some 110,.bin .lss (.tmp 109) (.const (.int .i64 0)),some (108,true),4095⟩,
 ⟨some 111,.move (.tmp 110),some (108,true),8191⟩,
 ⟨some 112,.move (.tmp 17),some (111,false),16383⟩,
 ⟨some 113,.move (.tmp 15),some (111,false),16383⟩,
 ⟨some 114,.bin .lss (.tmp 112) (.tmp 113),some (111,false),65535⟩,
 ⟨some 115,.pick (.tmp 111) (.const (.bool true)) (.tmp 114),some (108,true),131071⟩,
 ⟨some 116,.pick (.tmp 108) (.tmp 115) (.const (.bool false)),none,262143⟩] true) (.cond (.tmp 116) (.ops [⟨some 117,.move (.tmp 17),none,0⟩,
 ⟨some 15,.move (.tmp 117),none,0⟩] false) (.skip))))) (.ops [⟨some 118,.bin .add (.tmp 94) (.const (.int .i64 1)),none,0⟩,
 ⟨some 94,.move (.tmp 118),none,0⟩] false)))
def c227_2 : PC := .seq (.seq (.ops [⟨some 84,.move (.tmp 10),none,0⟩,
 ⟨some 85,.move (.tmp 11),none,0⟩,
 ⟨some 86,.iaddr 1 (.tmp 84) (.tmp 85),none,0⟩,
 ⟨some 87,.load1 (.tmp 86),none,0⟩,
 ⟨some 88,.bin .gtr (.tmp 87) (.const (.int .i64 0)),none,0⟩] false) (.cond (.tmp 88) (.skip) (.exit 2))) (.block 3 (.seq (.ops [⟨some 15,.move (.const (.int .i64 (-1))),none,0⟩] false) (.seq (.seq (.ops [⟨some 89,.move (.tmp 0),none,0⟩,
 ⟨some 90,.move (.tmp 11),none,0⟩,
 ⟨some 91,.iaddr 1 (.tmp 89) (.tmp 90),none,0⟩,
 ⟨some 92,.load1 (.tmp 91),none,0⟩,
 ⟨some 93,.len (.tmp 92),none,0⟩,
 ⟨some 94,.move (.const (.int .i64 0)),none,0⟩] false) (.block 4 (.loop c227_3))) (.seq (.ops [⟨some 119,.move (.tmp 15),none,0⟩,
 ⟨some 11,.move (.tmp 119),none,0⟩] false) (.ops [⟨some 120,.move (.tmp 14),none,0⟩,
 ⟨some 121,.move (.tmp 11),none,0⟩,
 ⟨some 122,.bslice 1 1 [(.tmp 121)],none,0⟩,
 ⟨some 123,.append 1 8 (.tmp 120) (.tmp 122),none,0⟩,
 ⟨some 14,.move (.tmp 123),none,0⟩] false)))))
def c227 : PC := .seq (.ops [⟨some 6,.move (.const (.slice none 0 0)),none,0⟩,
 ⟨some 7,.move (.const (.bool false)),none,0⟩,
 ⟨some 8,.move (.const (.int .i64 0)),none,0⟩] false) (.seq (.seq (.ops [⟨some 18,.move (.tmp 0),none,0⟩,
 ⟨some 19,.call 68 [(.tmp 18)],none,0⟩,
 ⟨some 9,.move (.tmp 19),none,0⟩] false) (.seq (.ops [⟨some 20,.move (.tmp 9),none,0⟩,
 ⟨some 21,.bin .neq (.tmp 20) (.const (.int .i64 0)),none,0⟩] false) (.cond (.tmp 21) (.seq (.ops [⟨some 22,.move (.tmp 9),none,0⟩,
 ⟨some 6,.move (.const (.slice none 0 0)),none,0⟩,
 ⟨some 7,.move (.const (.bool false)),none,0⟩,
 ⟨some 8,.move (.tmp 22),none,0⟩] false) (.ret)) (.skip)))) (.seq (.seq (.ops [⟨some 23,.move (.tmp 0),none,0⟩,
 ⟨some 24,.move (.tmp 1),none,0⟩,
 ⟨some 25,.call 70 [(.tmp 23), (.tmp 24)],none,0⟩,
 ⟨some 26,.move (.tmp 25),none,0⟩,
 ⟨some 27,.move (.tmp 2),some (26,false),0⟩,
 ⟨some 28,.len (.tmp 27),some (26,false),0⟩,
 ⟨some 29,.move (.tmp 0),some (26,false),0⟩,
 ⟨some 30,.len (.tmp 29),some (26,false),0⟩,
 ⟨some 31,.bin .neq (.tmp 28) (.tmp 30),some (26,false),0⟩,
 ⟨some 32,.pick (.tmp 26) (.const (.bool true)) (.tmp 31),none,0⟩] false) (.cond (.tmp 32) (.seq (.ops [⟨some 6,.move (.const (.slice none 0 0)),none,0⟩,
 ⟨some 7,.move (.const (.bool false)),none,0⟩,
 ⟨some 8,.move (.const (.int .i64 1)),none,0⟩] false) (.ret)) (.skip))) (.seq (.ops [⟨some 33,.move (.tmp 0),none,0⟩,
 ⟨some 34,.move (.tmp 2),none,0⟩,
 ⟨some 35,.call 249 [(.tmp 33), (.tmp 34)],none,0⟩,
 ⟨some 10,.move (.tmp 35),none,0⟩] false) (.seq (.ops [⟨some 11,.move (.const (.int .i64 (-1))),none,0⟩] false) (.seq (.seq (.ops [⟨some 36,.move (.tmp 1),none,0⟩,
 ⟨some 37,.len (.tmp 36),none,0⟩,
 ⟨some 38,.move (.const (.int .i64 0)),none,0⟩] false) (.block 0 (.loop c227_1))) (.seq (.seq (.ops [⟨some 80,.move (.tmp 11),none,0⟩,
 ⟨some 81,.bin .lss (.tmp 80) (.const (.int .i64 0)),none,0⟩] false) (.cond (.tmp 81) (.seq (.ops [⟨some 6,.move (.const (.slice none 0 0)),none,0⟩,
 ⟨some 7,.move (.const (.bool false)),none,0⟩,
 ⟨some 8,.move (.const (.int .i64 0)),none,0⟩] false) (.ret)) (.skip))) (.seq (.ops [⟨some 82,.move (.tmp 11),none,0⟩,
 ⟨some 83,.bslice 1 1 [(.tmp 82)],none,0⟩,
 ⟨some 14,.move (.tmp 83),none,0⟩] false) (.seq (.block 2 (.loop c227_2)) (.seq (.ops [⟨some 124,.move (.tmp 14),none,0⟩,
 ⟨some 6,.move (.tmp 124),none,0⟩,
 ⟨some 7,.move (.const (.bool true)),none,0⟩,
 ⟨some 8,.move (.const (.int .i64 0)),none,0⟩] false) (.ret))))))))))
set_option maxRecDepth 100000 in
theorem c227_ok : FunOK Try.prog 227 125 [.tmp 6, .tmp 7, .tmp 8] c227 := ⟨⟨Try.f227, Try.func227, rfl, by kernel_rfl, rfl, by kernel_rfl⟩⟩
set_option maxRecDepth 100000 in
theorem scc_Way (g : List (List Int)) (hg : chkG g = 0) (hF : FitsG g) (from_ : List Int) (hf : inB from_ g.length = true) (hfl : from_.length ≤ 9223372036854775807) (to : Nat → Bool) (hto : ∀ i, g.length ≤ i → to i = false) :
    PCall Try.prog 227 [dgrid g, dints from_, dbl g.length to] (.tup [dints (wayL g from_ to), .sc (.bool (decide (0 ≤ wayS g from_ to))), .sc (.int .i64 0)]) := by
  obtain ⟨hn, hin⟩ := chkG_zero.1 hg
  refine pcall_intro c227_ok (by simp) (by simp [PureL, Pure, pure_dgrid, pure_dints, pure_dbl]) ?_ (by simp [Pure, PureL, pure_dints])
  (apply rd_sound; focus (repeat' constructor))
  ((conv=>whnf);repeat(refine .intro rfl ?_;conv=>whnf))
  (refine .inl ⟨_, (scc_Check g hF), ?_⟩; ((conv=>whnf);repeat(refine .intro rfl ?_;conv=>whnf)))
  (refine ifK_split (fun h1 => ?_) (fun h1 => ?_) <;> (rw [h1]; ((conv=>whnf);repeat(refine .intro rfl ?_;conv=>whnf))))
  · exfalso; ((try simp only[oo,reduceCtorEq]at*)<;>omega)
  (refine .inl ⟨_, (scc_odd g from_ hfl), ?_⟩; ((conv=>whnf);repeat(refine .intro rfl ?_;conv=>whnf)))
  rw [hf]
  ((conv=>whnf);repeat(refine .intro rfl ?_;conv=>whnf))
  rw [rbl_len, List.length_map]
  (refine ifK_split (fun h3 => ?_) (fun h3 => ?_) <;> (rw [h3]; ((conv=>whnf);repeat(refine .intro rfl ?_;conv=>whnf))))
  · exfalso; ((try simp only[oo,reduceCtorEq]at*)<;>omega)
  (refine .inl ⟨_, (scc_far g hg hF to hto), ?_⟩; ((conv=>whnf);repeat(refine .intro rfl ?_;conv=>whnf)))
  rw [List.length_map]
  have hdl := fun i (h : i < g.length) => dis_lt hin (to := to) h
  have hdm := dis_low g to
  have eW : wayS g from_ to = startTo (dis g to) from_ from_.length := rfl
  have eL : wayL g from_ to = if 0 ≤ wayS g from_ to then walkW g (dis g to) (dis g to (wayS g from_ to).toNat).toNat (wayS g from_ to) else [] := rfl
  have hst := @start_ok g from_ hf to
  have hnx := @next_ok g hin to
  generalize dis g to = o at hdl hdm eW eL hst hnx
  refine pwp_for [0, 10, 36, 37] (fun k : Nat => [(11, .sc (.int .i64 (startTo o from_ k))), (38, .sc (.int .i64 k))]) (fun _ => []) (fun k => k ≤ from_.length) (fun k => from_.length - k) 0 ?_
  ((conv=>whnf);repeat(refine .intro rfl ?_;conv=>whnf))
  refine ⟨by omega, by (repeat' (first | exact trivial | refine And.intro rfl ?_)), rfl, ?_⟩
  rintro k hk
  ((conv=>whnf);repeat(refine .intro rfl ?_;conv=>whnf))
  (apply rd_sound; focus (repeat' constructor))
  ((conv=>whnf);repeat(refine .intro rfl ?_;conv=>whnf))
  (refine ifK_split (fun h4 => ?_) (fun h4 => ?_) <;> (rw [h4]; ((conv=>whnf);repeat(refine .intro rfl ?_;conv=>whnf))))
  · have hk' : k < from_.length := by ((try simp only[oo,reduceCtorEq]at*)<;>omega)
    have hx := inB_getD hf hk'
    have hr := startTo_rng (o := o) hf k (by omega)
    refine ⟨by omega, _, intsD_at (l := from_) (k := k) (by omega) hk', ?_⟩
    ((conv=>whnf);repeat(refine .intro rfl ?_;conv=>whnf))
    have eS : startTo o from_ (k + 1) = if 0 ≤ o (from_.getD k 0).toNat ∧ (startTo o from_ k < 0 ∨ o (from_.getD k 0).toNat < o (startTo o from_ k).toNat ∨ (o (from_.getD k 0).toNat = o (startTo o from_ k).toNat ∧ from_.getD k 0 < startTo o from_ k)) then from_.getD k 0 else startTo o from_ k := rfl
    generalize from_.getD k 0 = x at eS hx
    generalize startTo o from_ k = a at eS hr
    refine ⟨by omega, _, gl_atN x.toNat (by omega) (by omega), ?_⟩
    ((conv=>whnf);repeat(refine .intro rfl ?_;conv=>whnf))
    (refine ifK_split (fun c1 => ?_) (fun c1 => ?_) <;> (rw [c1]; ((conv=>whnf);repeat(refine .intro rfl ?_;conv=>whnf))))
    · have c1 : 0 ≤ o x.toNat := by ((try simp only[oo,reduceCtorEq]at*)<;>omega)
      (refine ifK_split (fun c2 => ?_) (fun c2 => ?_) <;> (rw [c2]; ((conv=>whnf);repeat(refine .intro rfl ?_;conv=>whnf))))
      · have hc : 0 ≤ o x.toNat ∧ (a < 0 ∨ o x.toNat < o a.toNat ∨ (o x.toNat = o a.toNat ∧ x < a)) := ⟨c1, .inl (by ((try simp only[oo,reduceCtorEq]at*)<;>omega))⟩
        ((conv=>whnf);repeat(refine .intro rfl ?_;conv=>whnf))
        (refine .inl ⟨by (unfold InR; rw [IntKind.wrap_i64]; omega), ?_⟩; ((conv=>whnf);repeat(refine .intro rfl ?_;conv=>whnf)))
        refine ⟨k + 1, by omega, by dsimp only; omega, ?_⟩
        dsimp only
        rw [eS, if_pos hc]
        exact leB_envH (by (repeat' (first | exact trivial | refine And.intro rfl ?_))) rfl
      · have c2 : ¬ a < 0 := by ((try simp only[oo,reduceCtorEq]at*)<;>omega)
        refine ⟨by omega, _, gl_atN x.toNat (by omega) (by omega), ?_⟩
        ((conv=>whnf);repeat(refine .intro rfl ?_;conv=>whnf))
        refine ⟨by omega, _, gl_atN a.toNat (by omega) (by omega), ?_⟩
        ((conv=>whnf);repeat(refine .intro rfl ?_;conv=>whnf))
        (refine ifK_split (fun c3 => ?_) (fun c3 => ?_) <;> (rw [c3]; ((conv=>whnf);repeat(refine .intro rfl ?_;conv=>whnf))))
        · have hc : 0 ≤ o x.toNat ∧ (a < 0 ∨ o x.toNat < o a.toNat ∨ (o x.toNat = o a.toNat ∧ x < a)) := ⟨c1, .inr (.inl (by ((try simp only[oo,reduceCtorEq]at*)<;>omega)))⟩
          ((conv=>whnf);repeat(refine .intro rfl ?_;conv=>whnf))
          (refine .inl ⟨by (unfold InR; rw [IntKind.wrap_i64]; omega), ?_⟩; ((conv=>whnf);repeat(refine .intro rfl ?_;conv=>whnf)))
          refine ⟨k + 1, by omega, by dsimp only; omega, ?_⟩
          dsimp only
          rw [eS, if_pos hc]
          exact leB_envH (by (repeat' (first | exact trivial | refine And.intro rfl ?_))) rfl
        · have c3 : ¬ o x.toNat < o a.toNat := by ((try simp only[oo,reduceCtorEq]at*)<;>omega)
          refine ⟨by omega, _, gl_atN x.toNat (by omega) (by omega), ?_⟩
          ((conv=>whnf);repeat(refine .intro rfl ?_;conv=>whnf))
          refine ⟨by omega, _, gl_atN a.toNat (by omega) (by omega), ?_⟩
          ((conv=>whnf);repeat(refine .intro rfl ?_;conv=>whnf))
          (refine ifK_split (fun c4 => ?_) (fun c4 => ?_) <;> (rw [c4]; ((conv=>whnf);repeat(refine .intro rfl ?_;conv=>whnf))))
          · have c4 : o x.toNat = o a.toNat := by ((try simp only[oo,reduceCtorEq]at*)<;>omega)
            (refine ifK_split (fun c5 => ?_) (fun c5 => ?_) <;> (rw [c5]; ((conv=>whnf);repeat(refine .intro rfl ?_;conv=>whnf))))
            · have hc : 0 ≤ o x.toNat ∧ (a < 0 ∨ o x.toNat < o a.toNat ∨ (o x.toNat = o a.toNat ∧ x < a)) := ⟨c1, .inr (.inr ⟨c4, by ((try simp only[oo,reduceCtorEq]at*)<;>omega)⟩)⟩
              ((conv=>whnf);repeat(refine .intro rfl ?_;conv=>whnf))
              (refine .inl ⟨by (unfold InR; rw [IntKind.wrap_i64]; omega), ?_⟩; ((conv=>whnf);repeat(refine .intro rfl ?_;conv=>whnf)))
              refine ⟨k + 1, by omega, by dsimp only; omega, ?_⟩
              dsimp only
              rw [eS, if_pos hc]
              exact leB_envH (by (repeat' (first | exact trivial | refine And.intro rfl ?_))) rfl
            · have c5 : ¬ x < a := by ((try simp only[oo,reduceCtorEq]at*)<;>omega)
              have hc : ¬ (0 ≤ o x.toNat ∧ (a < 0 ∨ o x.toNat < o a.toNat ∨ (o x.toNat = o a.toNat ∧ x < a))) := by omega
              ((conv=>whnf);repeat(refine .intro rfl ?_;conv=>whnf))
              (refine .inl ⟨by (unfold InR; rw [IntKind.wrap_i64]; omega), ?_⟩; ((conv=>whnf);repeat(refine .intro rfl ?_;conv=>whnf)))
              refine ⟨k + 1, by omega, by dsimp only; omega, ?_⟩
              dsimp only
              rw [eS, if_neg hc]
              exact leB_envH (by (repeat' (first | exact trivial | refine And.intro rfl ?_))) rfl
          · have c4 : o x.toNat ≠ o a.toNat := by ((try simp only[oo,reduceCtorEq]at*)<;>omega)
            have hc : ¬ (0 ≤ o x.toNat ∧ (a < 0 ∨ o x.toNat < o a.toNat ∨ (o x.toNat = o a.toNat ∧ x < a))) := by omega
            ((conv=>whnf);repeat(refine .intro rfl ?_;conv=>whnf))
            (refine .inl ⟨by (unfold InR; rw [IntKind.wrap_i64]; omega), ?_⟩; ((conv=>whnf);repeat(refine .intro rfl ?_;conv=>whnf)))
            refine ⟨k + 1, by omega, by dsimp only; omega, ?_⟩
            dsimp only
            rw [eS, if_neg hc]
            exact leB_envH (by (repeat' (first | exact trivial | refine And.intro rfl ?_))) rfl
    · have hc : ¬ (0 ≤ o x.toNat ∧ (a < 0 ∨ o x.toNat < o a.toNat ∨ (o x.toNat = o a.toNat ∧ x < a))) := fun h => by ((try simp only[oo,reduceCtorEq]at*)<;>omega)
      ((conv=>whnf);repeat(refine .intro rfl ?_;conv=>whnf))
      (refine .inl ⟨by (unfold InR; rw [IntKind.wrap_i64]; omega), ?_⟩; ((conv=>whnf);repeat(refine .intro rfl ?_;conv=>whnf)))
      refine ⟨k + 1, by omega, by dsimp only; omega, ?_⟩
      dsimp only
      rw [eS, if_neg hc]
      exact leB_envH (by (repeat' (first | exact trivial | refine And.intro rfl ?_))) rfl
  · have hk' : k = from_.length := by have : ¬ k < from_.length := by ((try simp only[oo,reduceCtorEq]at*)<;>omega)
                                      omega
    subst hk'
    rw [← eW]
    generalize wayS g from_ to = a at eL hst
    (refine ifK_split (fun h5 => ?_) (fun h5 => ?_) <;> (rw [h5]; ((conv=>whnf);repeat(refine .intro rfl ?_;conv=>whnf))))
    · have h5 : ¬ 0 ≤ a := by ((try simp only[oo,reduceCtorEq]at*)<;>omega)
      rw [eL, if_neg h5, decide_eq_false h5]
      exact .tup _ _ (.cons _ _ _ _ (.none _) (deepL_refl _))
    · have h5 : 0 ≤ a := by ((try simp only[oo,reduceCtorEq]at*)<;>omega)
      obtain ⟨ha1, ha2⟩ := hst h5
      rw [eL, if_pos h5, decide_eq_true h5]
      generalize hW : walkW g o (o a.toNat).toNat a = W
      have ha3 := hdl a.toNat (by omega)
      refine pwp_for [0, 10] (fun ((b, pre) : Int × List Int) => [(11, .sc (.int .i64 b)), (14, .own 0 pre.length 0 (pre.length + 1))]) (fun (b, pre) => [(0, .vec true pre.length 1 (i64s (pre ++ [b])))])
        (fun (b, pre) => 0 ≤ b ∧ b < (g.length : Int) ∧ 0 ≤ o b.toNat ∧ pre.length + (o b.toNat).toNat ≤ 20000 ∧ pre ++ walkW g o (o b.toNat).toNat b = W) (fun (b, pre) => (o b.toNat).toNat) (a, []) ?_
      ((conv=>whnf);repeat(refine .intro rfl ?_;conv=>whnf))
      refine ⟨⟨h5, ha1, ha2, by simp; omega, hW⟩, by (repeat' (first | exact trivial | refine And.intro rfl ?_)), rfl, ?_⟩
      rintro ⟨b, pre⟩ ⟨hb1, hb2, hb3, hb4, hb5⟩
      ((conv=>whnf);repeat(refine .intro rfl ?_;conv=>whnf))
      (apply rd_sound; focus (repeat' constructor))
      ((conv=>whnf);repeat(refine .intro rfl ?_;conv=>whnf))
      refine ⟨by omega, _, gl_atN b.toNat (by omega) (by omega), ?_⟩
      ((conv=>whnf);repeat(refine .intro rfl ?_;conv=>whnf))
      have hb6 := hdl b.toNat (by omega)
      (refine ifK_split (fun h6 => ?_) (fun h6 => ?_) <;> (rw [h6]; ((conv=>whnf);repeat(refine .intro rfl ?_;conv=>whnf))))
      · obtain ⟨d, ed⟩ : ∃ d : Nat, o b.toNat = (d : Int) + 1 := ⟨(o b.toNat).toNat - 1, by have h6 : 0 < o b.toNat := by ((try simp only[oo,reduceCtorEq]at*)<;>omega)
                                                                                            omega⟩
        obtain ⟨n1, n2, n3⟩ := hnx ed
        rw [show (o b.toNat).toNat = d + 1 by omega, walkW_succ] at hb5
        refine ⟨by omega, _, gridD_at (g := g) (k := b.toNat) (by omega) (by omega), ?_⟩
        ((conv=>whnf);repeat(refine .intro rfl ?_;conv=>whnf))
        rw [List.length_map]
        have hB := inB_row hin b.toNat
        have hBl := hF.at b.toNat
        generalize g.getD b.toNat [] = L at n1 n2 n3 hb5 hB hBl
        refine pwp_for [0, 10, 11, 14, 92, 93] (fun k : Nat => [(15, .sc (.int .i64 (bestTo (fun n => decide (o n = (d : Int))) L k))), (94, .sc (.int .i64 k))]) (fun _ => []) (fun k => k ≤ L.length) (fun k => L.length - k) 0 ?_
        ((conv=>whnf);repeat(refine .intro rfl ?_;conv=>whnf))
        refine ⟨by omega, by (repeat' (first | exact trivial | refine And.intro rfl ?_)), rfl, ?_⟩
        rintro k hk
        ((conv=>whnf);repeat(refine .intro rfl ?_;conv=>whnf))
        (apply rd_sound; focus (repeat' constructor))
        ((conv=>whnf);repeat(refine .intro rfl ?_;conv=>whnf))
        (refine ifK_split (fun h7 => ?_) (fun h7 => ?_) <;> (rw [h7]; ((conv=>whnf);repeat(refine .intro rfl ?_;conv=>whnf))))
        · have hk' : k < L.length := by ((try simp only[oo,reduceCtorEq]at*)<;>omega)
          have hx := inB_getD hB hk'
          refine ⟨by omega, _, intsD_at (l := L) (k := k) (by omega) hk', ?_⟩
          ((conv=>whnf);repeat(refine .intro rfl ?_;conv=>whnf))
          have eS : bestTo (fun n => decide (o n = (d : Int))) L (k + 1) = if decide (o (L.getD k 0).toNat = (d : Int)) = true ∧ (bestTo (fun n => decide (o n = (d : Int))) L k < 0 ∨ L.getD k 0 < bestTo (fun n => decide (o n = (d : Int))) L k) then L.getD k 0 else bestTo (fun n => decide (o n = (d : Int))) L k := rfl
          simp only [decide_eq_true_eq] at eS
          generalize L.getD k 0 = x at eS hx
          generalize bestTo (fun n => decide (o n = (d : Int))) L k = y at eS
          refine ⟨by omega, _, gl_atN x.toNat (by omega) (by omega), ?_⟩
          ((conv=>whnf);repeat(refine .intro rfl ?_;conv=>whnf))
          refine ⟨by omega, _, gl_atN b.toNat (by omega) (by omega), ?_⟩
          ((conv=>whnf);repeat(refine .intro rfl ?_;conv=>whnf))
          (refine .inl ⟨by (unfold InR; rw [IntKind.wrap_i64]; omega), ?_⟩; ((conv=>whnf);repeat(refine .intro rfl ?_;conv=>whnf)))
          (refine ifK_split (fun c1 => ?_) (fun c1 => ?_) <;> (rw [c1]; ((conv=>whnf);repeat(refine .intro rfl ?_;conv=>whnf))))
          · have c1 : o x.toNat = d := by ((try simp only[oo,reduceCtorEq]at*)<;>omega)
            (refine ifK_split (fun c2 => ?_) (fun c2 => ?_) <;> (rw [c2]; ((conv=>whnf);repeat(refine .intro rfl ?_;conv=>whnf))))
            · have hc : o x.toNat = (d : Int) ∧ (y < 0 ∨ x < y) := ⟨c1, .inl (by ((try simp only[oo,reduceCtorEq]at*)<;>omega))⟩
              ((conv=>whnf);repeat(refine .intro rfl ?_;conv=>whnf))
              (refine .inl ⟨by (unfold InR; rw [IntKind.wrap_i64]; omega), ?_⟩; ((conv=>whnf);repeat(refine .intro rfl ?_;conv=>whnf)))
              refine ⟨k + 1, by omega, by dsimp only; omega, ?_⟩
              dsimp only
              rw [eS, if_pos hc]
              exact leB_envH (by (repeat' (first | exact trivial | refine And.intro rfl ?_))) rfl
            · have c2 : ¬ y < 0 := by ((try simp only[oo,reduceCtorEq]at*)<;>omega)
              (refine ifK_split (fun c3 => ?_) (fun c3 => ?_) <;> (rw [c3]; ((conv=>whnf);repeat(refine .intro rfl ?_;conv=>whnf))))
              · have hc : o x.toNat = (d : Int) ∧ (y < 0 ∨ x < y) := ⟨c1, .inr (by ((try simp only[oo,reduceCtorEq]at*)<;>omega))⟩
                ((conv=>whnf);repeat(refine .intro rfl ?_;conv=>whnf))
                (refine .inl ⟨by (unfold InR; rw [IntKind.wrap_i64]; omega), ?_⟩; ((conv=>whnf);repeat(refine .intro rfl ?_;conv=>whnf)))
                refine ⟨k + 1, by omega, by dsimp only; omega, ?_⟩
                dsimp only
                rw [eS, if_pos hc]
                exact leB_envH (by (repeat' (first | exact trivial | refine And.intro rfl ?_))) rfl
              · have hc : ¬ (o x.toNat = (d : Int) ∧ (y < 0 ∨ x < y)) := fun h => by ((try simp only[oo,reduceCtorEq]at*)<;>omega)
                ((conv=>whnf);repeat(refine .intro rfl ?_;conv=>whnf))
                (refine .inl ⟨by (unfold InR; rw [IntKind.wrap_i64]; omega), ?_⟩; ((conv=>whnf);repeat(refine .intro rfl ?_;conv=>whnf)))
                refine ⟨k + 1, by omega, by dsimp only; omega, ?_⟩
                dsimp only
                rw [eS, if_neg hc]
                exact leB_envH (by (repeat' (first | exact trivial | refine And.intro rfl ?_))) rfl
          · have hc : ¬ (o x.toNat = (d : Int) ∧ (y < 0 ∨ x < y)) := fun h => by ((try simp only[oo,reduceCtorEq]at*)<;>omega)
            ((conv=>whnf);repeat(refine .intro rfl ?_;conv=>whnf))
            (refine .inl ⟨by (unfold InR; rw [IntKind.wrap_i64]; omega), ?_⟩; ((conv=>whnf);repeat(refine .intro rfl ?_;conv=>whnf)))
            refine ⟨k + 1, by omega, by dsimp only; omega, ?_⟩
            dsimp only
            rw [eS, if_neg hc]
            exact leB_envH (by (repeat' (first | exact trivial | refine And.intro rfl ?_))) rfl
        · have hk' : k = L.length := by have : ¬ k < L.length := by ((try simp only[oo,reduceCtorEq]at*)<;>omega)
                                        omega
          subst hk'
          generalize bestTo (fun n => decide (o n = (d : Int))) L L.length = y at n1 n2 n3 hb5
          refine ⟨(by unfold sliceAppend; simp only [ll]; omega), ?_⟩
          ((conv=>whnf);repeat(refine .intro rfl ?_;conv=>whnf))
          refine ⟨(y, pre ++ [b]), ⟨n1, n2, by omega, by simp; omega, ?_⟩, by dsimp only; omega, ?_⟩
          · rw [n3, Int.toNat_natCast, ← hb5]; simp
          · dsimp only
            rw [show (pre ++ [b]).length = pre.length + 1 by simp]
            (refine leB_close 1 (by simp) rfl ?_ ?_ <;> (repeat' (first | exact trivial | exact rfl | exact DeepM.refl _ | exact DeepML.refl _ | exact DeepMLL.refl _ | refine And.intro ?_ ?_ | (simp [Under, UnderL, UnderLL, -List.map_take, -List.map_drop]; done))))
            exact deepMLL_eq (by rw [List.take_of_length_le (by simp), List.drop_zero]; simp [i64s])
      · have h6 : o b.toNat = 0 := by ((try simp only[oo,reduceCtorEq]at*)<;>omega)
        rw [h6] at hb5
        refine .tup _ _ (.cons _ _ _ _ ?_ (deepL_refl _))
        rw [← hb5]
        exact .own _ _ _ _ _ _ _ _ rfl (by rw [List.drop_zero, List.take_of_length_le (by simp)]; exact deepLL_refl _)
end

end Go.Proofs.Ytfgklgjbnpjpoaa
