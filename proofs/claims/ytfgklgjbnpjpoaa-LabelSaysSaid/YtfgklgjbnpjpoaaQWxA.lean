/-
  Wt Wu Wv Wx joined. No statement is proved here.
-/
import Derived.Test.YtfgklgjbnpjpoaaQWyA
import Derived.Test.YtfgklgjbnpjpoaaQSc2
import Derived.Test.YtfgklgjbnpjpoaaQOg
import Derived.Test.YtfgklgjbnpjpoaaQGl
import Derived.Test.YtfgklgjbnpjpoaaQBo
namespace Go.Proofs.Ytfgklgjbnpjpoaa
/-! ### XWt -/
section
open Go.RowKit
set_option linter.unusedSimpArgs false
set_option linter.unusedVariables false
def wcell (n : Int) : List D := [.sc (.int .i64 n)]
@[simp] theorem under_wcell {m : Nat} (n : Int) : UnderL m (wcell n) := by simp [wcell, UnderL, Under]
def c220_2 : PC := .seq (.ops [⟨(some 22), .bin .lss (.tmp 21) (.tmp 20), none, 0⟩] false) (.seq (.cond (.tmp 22) (.skip) (.exit 2)) (.seq (.block 3 (.seq (.ops [⟨(some 23), .iaddr 1 (.tmp 19) (.tmp 21), none, 0⟩,
    ⟨(some 24), .load1 (.tmp 23), none, 0⟩,
    ⟨(some 7), .move (.tmp 24), none, 0⟩] false) (.seq (.ops [⟨(some 25), .move (.tmp 3), none, 0⟩,
    ⟨(some 26), .move (.tmp 7), none, 0⟩,
    ⟨(some 27), .iaddr 1 (.tmp 25) (.tmp 26), none, 0⟩,
    ⟨(some 28), .load1 (.tmp 27), none, 0⟩,
    ⟨(some 29), .len (.tmp 28), none, 0⟩,
    ⟨(some 8), .move (.tmp 29), none, 0⟩] false) (.seq (.ops [⟨(some 30), .move (.tmp 8), none, 0⟩,
    ⟨(some 31), .bin .eql (.tmp 30) (.const (.int .i64 0)), none, 0⟩,
    ⟨(some 32), .move (.tmp 31), none, 0⟩,
    ⟨(some 33), .move (.tmp 3), (some (32, false)), 0⟩,
    ⟨(some 34), .move (.tmp 7), (some (32, false)), 0⟩,
    ⟨(some 35), .iaddr 1 (.tmp 33) (.tmp 34), (some (32, false)), 0⟩,
    ⟨(some 36), .load1 (.tmp 35), (some (32, false)), 0⟩,
    ⟨(some 37), .move (.tmp 8), (some (32, false)), 0⟩,
    ⟨(some 38), .bin .sub (.tmp 37) (.const (.int .i64 1)), (some (32, false)), 0⟩,
    ⟨(some 39), .iaddr 1 (.tmp 36) (.tmp 38), (some (32, false)), 0⟩,
    ⟨(some 40), .load1 (.tmp 39), (some (32, false)), 0⟩,
    ⟨(some 41), .move (.tmp 4), (some (32, false)), 0⟩,
    ⟨(some 42), .bin .neq (.tmp 40) (.tmp 41), (some (32, false)), 0⟩,
    ⟨(some 43), .pick (.tmp 32) (.const (.bool true)) (.tmp 42), none, 0⟩] false) (.cond (.tmp 43) (.ops [⟨(some 44), .move (.tmp 3), none, 0⟩,
    ⟨(some 45), .move (.tmp 7), none, 0⟩,
    ⟨(some 46), .move (.tmp 3), none, 0⟩,
    ⟨(some 47), .move (.tmp 7), none, 0⟩,
    ⟨(some 48), .iaddr 1 (.tmp 46) (.tmp 47), none, 0⟩,
    ⟨(some 49), .load1 (.tmp 48), none, 0⟩,
    ⟨(some 50), .move (.tmp 4), none, 0⟩,
    ⟨(some 51), .bslice 1 1 [(.tmp 50)], none, 0⟩,
    ⟨(some 52), .append 1 8 (.tmp 49) (.tmp 51), none, 0⟩,
    ⟨(some 53), .iaddr 1 (.tmp 44) (.tmp 45), none, 0⟩,
    ⟨none, .store 1 (.tmp 53) (.tmp 52), none, 0⟩] false) (.skip)))))) (.ops [⟨(some 54), .bin .add (.tmp 21) (.const (.int .i64 1)), none, 0⟩,
    ⟨(some 21), .move (.tmp 54), none, 0⟩] false)))
def c220_1 : PC := .seq (.ops [⟨(some 15), .bin .lss (.tmp 14) (.tmp 13), none, 0⟩] false) (.seq (.cond (.tmp 15) (.skip) (.exit 0)) (.seq (.block 1 (.seq (.ops [⟨(some 16), .move (.tmp 14), none, 0⟩,
    ⟨(some 17), .iaddr 1 (.tmp 12) (.tmp 14), none, 0⟩,
    ⟨(some 18), .load1 (.tmp 17), none, 0⟩,
    ⟨(some 4), .move (.tmp 16), none, 0⟩,
    ⟨(some 5), .move (.tmp 18), none, 0⟩] false) (.seq (.ops [⟨(some 19), .move (.tmp 5), none, 0⟩,
    ⟨(some 20), .len (.tmp 19), none, 0⟩,
    ⟨(some 21), .move (.const (.int .i64 0)), none, 0⟩] false) (.block 2 (.loop c220_2))))) (.ops [⟨(some 55), .bin .add (.tmp 14) (.const (.int .i64 1)), none, 0⟩,
    ⟨(some 14), .move (.tmp 55), none, 0⟩] false)))
def c220 : PC := .seq (.ops [⟨(some 2), .move (.const (.slice none 0 0)), none, 0⟩] false) (.seq (.ops [⟨(some 9), .move (.tmp 0), none, 0⟩,
    ⟨(some 10), .len (.tmp 9), none, 0⟩,
    ⟨(some 11), .mslice 1 24 [(.slice none 0 0)] (.tmp 10) (.tmp 10), none, 0⟩,
    ⟨(some 3), .move (.tmp 11), none, 0⟩] false) (.seq (.seq (.ops [⟨(some 12), .move (.tmp 0), none, 0⟩,
    ⟨(some 13), .len (.tmp 12), none, 0⟩,
    ⟨(some 14), .move (.const (.int .i64 0)), none, 0⟩] false) (.block 0 (.loop c220_1))) (.seq (.ops [⟨(some 56), .move (.tmp 3), none, 0⟩,
    ⟨(some 2), .move (.tmp 56), none, 0⟩] false) (.ret))))
set_option maxRecDepth 100000 in
theorem c220_ok : FunOK Try.prog 220 57 [.tmp 2] c220 := ⟨⟨Try.f220, Try.func220, rfl, by kernel_rfl, rfl, by kernel_rfl⟩⟩
set_option maxRecDepth 100000 in
theorem scc_turnD (g : List (List Int)) (hg : chkG g = 0) (hF : FitsG g) : PCall Try.prog 220 [dgrid g] (dgrid (turnG g g.length)) := by
  obtain ⟨hn, hin⟩ := chkG_zero.1 hg
  refine pcall_intro c220_ok (by simp) (by simp [PureL, Pure, pure_dgrid]) ?_ (pure_dgrid _)
  unfold dgrid
  (apply rd_sound; focus (repeat' constructor))
  ((conv=>whnf);repeat(refine And.intro rfl ?_;(conv=>whnf)))
  rw [List.length_map]
  refine ⟨by omega, by omega, by omega, ?_⟩
  rw [Int.toNat_natCast]
  ((conv=>whnf);repeat(refine And.intro rfl ?_;(conv=>whnf)))
  refine pwp_ghostB (leB_nils 0 1 g.length 0 (by simp) rfl) ?_
  refine pwp_forH [3, 12, 13] (fun n : Nat => [(14, .sc (.int .i64 n))]) (fun n => .vec true 0 1 (ogRows 1 (turnG g n)) :: ogObjs 1 wcell (turnG g n)) (fun n => n ≤ g.length) (fun n => g.length - n) 0 ?_
  ((conv=>whnf);repeat(refine And.intro rfl ?_;(conv=>whnf)))
  refine ⟨by omega, by (repeat' (first | exact trivial | refine And.intro rfl ?_)), ?_, ?_⟩
  · show _ :: _ = _ :: _
    rw [ogObjs_nils 1 _ wcell]
    exact congrArg (fun x => AObj.vec true 0 1 x :: _) (ogRows_nils (α := Int) 1 _)
  rintro n hnn
  ((conv=>whnf);repeat(refine And.intro rfl ?_;(conv=>whnf)))
  (apply rd_sound; focus (repeat' constructor))
  ((conv=>whnf);repeat(refine And.intro rfl ?_;(conv=>whnf)))
  rw [List.length_map]
  have lG := turnG_len g n
  (refine ifK_split (fun h1 => ?_) (fun h1 => ?_) <;> (rw [h1]; ((conv=>whnf);repeat(refine And.intro rfl ?_;(conv=>whnf)))))
  · have hn' : n < g.length := by ((try simp only [oo, reduceCtorEq] at *) <;> omega)
    refine ⟨by omega, _, gridD_at (k := n) (by omega) hn', ?_⟩
    ((conv=>whnf);repeat(refine And.intro rfl ?_;(conv=>whnf)))
    rw [List.length_map]
    have lx := hF.at n
    have lR : ∀ k, (turnR g n k (turnG g n)).length = g.length := fun k => by rw [turnR_len, lG]
    refine pwp_forH [3, 4, 12, 13, 14, 19, 20] (fun k : Nat => [(21, .sc (.int .i64 k))]) (fun k => .vec true 0 1 (ogRows 1 (turnR g n k (turnG g n))) :: ogObjs 1 wcell (turnR g n k (turnG g n))) (fun k => k ≤ (g.getD n []).length) (fun k => (g.getD n []).length - k) 0 ?_
    ((conv=>whnf);repeat(refine And.intro rfl ?_;(conv=>whnf)))
    refine ⟨by omega, by (repeat' (first | exact trivial | refine And.intro rfl ?_)), rfl, ?_⟩
    rintro k hk
    have hl := lR k
    ((conv=>whnf);repeat(refine And.intro rfl ?_;(conv=>whnf)))
    (apply rd_sound; focus (repeat' constructor))
    ((conv=>whnf);repeat(refine And.intro rfl ?_;(conv=>whnf)))
    (refine ifK_split (fun h2 => ?_) (fun h2 => ?_) <;> (rw [h2]; ((conv=>whnf);repeat(refine And.intro rfl ?_;(conv=>whnf)))))
    · have hk' : k < (g.getD n []).length := by ((try simp only [oo, reduceCtorEq] at *) <;> omega)
      have hx := inB_getD (inB_row hin n) hk'
      refine ⟨by omega, _, intsD_at (k := k) (by omega) hk', ?_⟩
      ((conv=>whnf);repeat(refine And.intro rfl ?_;(conv=>whnf)))
      have et : turnR g n (k + 1) (turnG g n) = turnE (turnR g n k (turnG g n)) n ((g.getD n []).getD k 0).toNat := rfl
      generalize (g.getD n []).getD k 0 = x at hx et
      (refine ⟨by omega, (by first | omega | (simp; done) | (simp; omega) | (simp only [ll]; omega)), ?_⟩; ((conv=>whnf);repeat(refine And.intro rfl ?_;(conv=>whnf))))
      refine ⟨_, ogRows_at (i := x.toNat) (by omega) (by omega), ?_⟩
      ((conv=>whnf);repeat(refine And.intro rfl ?_;(conv=>whnf)))
      refine og_get (by omega) ?_
      ((conv=>whnf);repeat(refine And.intro rfl ?_;(conv=>whnf)))
      generalize hR : turnR g n k (turnG g n) = R at hl et ⊢
      rw [Nat.sub_zero]
      have hrow : (R.getD x.toNat []).length ≤ n + 1 := by
        have h5 := turnG_row g n x.toNat
        rcases turnR_row (g := g) (n := n) (m := x.toNat) (L := turnG g n) k with h | h
        · rw [← hR, h]; omega
        · rw [← hR, h, List.length_append, List.length_singleton]; omega
      have eE : turnE R n x.toNat = if (R.getD x.toNat []).length = 0 ∨ (R.getD x.toNat []).getD ((R.getD x.toNat []).length - 1) 0 ≠ (n : Int) then R.set x.toNat (R.getD x.toNat [] ++ [(n : Int)]) else R := rfl
      cases h3 : (((R.getD x.toNat []).length : Int) == 0)
      · ((conv=>whnf);repeat(refine And.intro rfl ?_;(conv=>whnf)))
        have hne : (R.getD x.toNat []).length ≠ 0 := by ((try simp only [oo, reduceCtorEq] at *) <;> omega)
        (refine ⟨by omega, (by first | omega | (simp; done) | (simp; omega) | (simp only [ll]; omega)), ?_⟩; ((conv=>whnf);repeat(refine And.intro rfl ?_;(conv=>whnf))))
        refine ⟨_, ogRows_at (i := x.toNat) (by omega) (by omega), ?_⟩
        ((conv=>whnf);repeat(refine And.intro rfl ?_;(conv=>whnf)))
        (refine .inl ⟨by (unfold InR; rw [IntKind.wrap_i64]; omega), ?_⟩; ((conv=>whnf);repeat(refine And.intro rfl ?_;(conv=>whnf))))
        refine og_get (by omega) ?_
        ((conv=>whnf);repeat(refine And.intro rfl ?_;(conv=>whnf)))
        refine ⟨by omega, by omega, ?_⟩
        ((conv=>whnf);repeat(refine And.intro rfl ?_;(conv=>whnf)))
        refine og_get (by omega) ?_
        ((conv=>whnf);repeat(refine And.intro rfl ?_;(conv=>whnf)))
        refine ⟨_, intsD_at (l := R.getD x.toNat []) (k := (R.getD x.toNat []).length - 1) (by omega) (by omega), ?_⟩
        ((conv=>whnf);repeat(refine And.intro rfl ?_;(conv=>whnf)))
        (refine ifK_split (fun h4 => ?_) (fun h4 => ?_) <;> (rw [h4]; ((conv=>whnf);repeat(refine And.intro rfl ?_;(conv=>whnf)))))
        · have hap : (R.getD x.toNat []).length = 0 ∨ (R.getD x.toNat []).getD ((R.getD x.toNat []).length - 1) 0 ≠ (n : Int) := .inr (by ((try simp only [oo, reduceCtorEq] at *) <;> omega))
          (refine ⟨by omega, (by first | omega | (simp; done) | (simp; omega) | (simp only [ll]; omega)), ?_⟩; ((conv=>whnf);repeat(refine And.intro rfl ?_;(conv=>whnf))))
          refine ⟨_, ogRows_at (i := x.toNat) (by omega) (by omega), ?_⟩
          ((conv=>whnf);repeat(refine And.intro rfl ?_;(conv=>whnf)))
          refine og_push ?_
          ((conv=>whnf);repeat(refine And.intro rfl ?_;(conv=>whnf)))
          (repeat (first | (refine og_getE 0 rfl ?_; ((conv=>whnf);repeat(refine And.intro rfl ?_;(conv=>whnf)))) | (refine og_putE 0 rfl ?_; ((conv=>whnf);repeat(refine And.intro rfl ?_;(conv=>whnf)))) | (refine og_getE 1 rfl ?_; ((conv=>whnf);repeat(refine And.intro rfl ?_;(conv=>whnf)))) | (refine og_putE 1 rfl ?_; ((conv=>whnf);repeat(refine And.intro rfl ?_;(conv=>whnf))))))
          refine og_getT (by omega) ?_
          ((conv=>whnf);repeat(refine And.intro rfl ?_;(conv=>whnf)))
          refine ⟨by unfold sliceAppend; simp only [List.length_drop, List.length_take, List.length_cons, List.length_nil]; omega, ?_⟩
          ((conv=>whnf);repeat(refine And.intro rfl ?_;(conv=>whnf)))
          refine og_putT (R.getD x.toNat [] ++ [(n : Int)]) (by omega) ?_ ?_
          · exact og_app
          ((conv=>whnf);repeat(refine And.intro rfl ?_;(conv=>whnf)))
          (refine ⟨by omega, (by first | omega | (simp; done) | (simp; omega) | (simp only [ll]; omega)), ?_⟩; ((conv=>whnf);repeat(refine And.intro rfl ?_;(conv=>whnf))))
          refine ⟨_, ogRows_at (i := x.toNat) (by omega) (by omega), ?_⟩
          ((conv=>whnf);repeat(refine And.intro rfl ?_;(conv=>whnf)))
          (refine .inl ⟨by (unfold InR; rw [IntKind.wrap_i64]; omega), ?_⟩; ((conv=>whnf);repeat(refine And.intro rfl ?_;(conv=>whnf))))
          refine ⟨k + 1, by omega, by dsimp only; omega, ?_⟩
          dsimp only
          rw [et, eE, if_pos hap]
          refine leB_close (g.length + 1) (by simp [lG]) (by simp [hl]) (by (repeat' (first | exact trivial | exact rfl | exact DeepM.refl _ | exact DeepML.refl _ | exact DeepMLL.refl _ | refine And.intro ?_ ?_ | (simp [Under, UnderL, UnderLL, -List.map_take, -List.map_drop]; done)))) ⟨⟨rfl, rfl, rfl, deepMLL_eq (ogRows_set (by omega) (by omega) _ (by simp)), underLL_ogRows (by simp; omega)⟩, closeH_og under_wcell⟩
        · have hap : ¬ ((R.getD x.toNat []).length = 0 ∨ (R.getD x.toNat []).getD ((R.getD x.toNat []).length - 1) 0 ≠ (n : Int)) := by
            rintro (q | q)
            · exact hne q
            · ((try simp only [oo, reduceCtorEq] at *) <;> omega)
          (refine .inl ⟨by (unfold InR; rw [IntKind.wrap_i64]; omega), ?_⟩; ((conv=>whnf);repeat(refine And.intro rfl ?_;(conv=>whnf))))
          refine ⟨k + 1, by omega, by dsimp only; omega, ?_⟩
          dsimp only
          rw [et, eE, if_neg hap]
          exact leB_envH (by (repeat' (first | exact trivial | refine And.intro rfl ?_))) rfl
      · ((conv=>whnf);repeat(refine And.intro rfl ?_;(conv=>whnf)))
        have hne : (R.getD x.toNat []).length = 0 := by ((try simp only [oo, reduceCtorEq] at *) <;> omega)
        have hap : (R.getD x.toNat []).length = 0 ∨ (R.getD x.toNat []).getD ((R.getD x.toNat []).length - 1) 0 ≠ (n : Int) := .inl hne
        (refine ⟨by omega, (by first | omega | (simp; done) | (simp; omega) | (simp only [ll]; omega)), ?_⟩; ((conv=>whnf);repeat(refine And.intro rfl ?_;(conv=>whnf))))
        refine ⟨_, ogRows_at (i := x.toNat) (by omega) (by omega), ?_⟩
        ((conv=>whnf);repeat(refine And.intro rfl ?_;(conv=>whnf)))
        refine og_push ?_
        ((conv=>whnf);repeat(refine And.intro rfl ?_;(conv=>whnf)))
        (repeat (first | (refine og_getE 0 rfl ?_; ((conv=>whnf);repeat(refine And.intro rfl ?_;(conv=>whnf)))) | (refine og_putE 0 rfl ?_; ((conv=>whnf);repeat(refine And.intro rfl ?_;(conv=>whnf)))) | (refine og_getE 1 rfl ?_; ((conv=>whnf);repeat(refine And.intro rfl ?_;(conv=>whnf)))) | (refine og_putE 1 rfl ?_; ((conv=>whnf);repeat(refine And.intro rfl ?_;(conv=>whnf))))))
        refine og_getT (by omega) ?_
        ((conv=>whnf);repeat(refine And.intro rfl ?_;(conv=>whnf)))
        refine ⟨by unfold sliceAppend; simp only [List.length_drop, List.length_take, List.length_cons, List.length_nil]; omega, ?_⟩
        ((conv=>whnf);repeat(refine And.intro rfl ?_;(conv=>whnf)))
        refine og_putT (R.getD x.toNat [] ++ [(n : Int)]) (by omega) ?_ ?_
        · exact og_app
        ((conv=>whnf);repeat(refine And.intro rfl ?_;(conv=>whnf)))
        (refine ⟨by omega, (by first | omega | (simp; done) | (simp; omega) | (simp only [ll]; omega)), ?_⟩; ((conv=>whnf);repeat(refine And.intro rfl ?_;(conv=>whnf))))
        refine ⟨_, ogRows_at (i := x.toNat) (by omega) (by omega), ?_⟩
        ((conv=>whnf);repeat(refine And.intro rfl ?_;(conv=>whnf)))
        (refine .inl ⟨by (unfold InR; rw [IntKind.wrap_i64]; omega), ?_⟩; ((conv=>whnf);repeat(refine And.intro rfl ?_;(conv=>whnf))))
        refine ⟨k + 1, by omega, by dsimp only; omega, ?_⟩
        dsimp only
        rw [et, eE, if_pos hap]
        refine leB_close (g.length + 1) (by simp [lG]) (by simp [hl]) (by (repeat' (first | exact trivial | exact rfl | exact DeepM.refl _ | exact DeepML.refl _ | exact DeepMLL.refl _ | refine And.intro ?_ ?_ | (simp [Under, UnderL, UnderLL, -List.map_take, -List.map_drop]; done)))) ⟨⟨rfl, rfl, rfl, deepMLL_eq (ogRows_set (by omega) (by omega) _ (by simp)), underLL_ogRows (by simp; omega)⟩, closeH_og under_wcell⟩
    · have hk' : k = (g.getD n []).length := by have : ¬ k < (g.getD n []).length := by ((try simp only [oo, reduceCtorEq] at *) <;> omega)
                                                omega
      subst hk'
      (refine .inl ⟨by (unfold InR; rw [IntKind.wrap_i64]; omega), ?_⟩; ((conv=>whnf);repeat(refine And.intro rfl ?_;(conv=>whnf))))
      refine ⟨n + 1, by omega, by dsimp only; omega, ?_⟩
      exact leB_envH (by (repeat' (first | exact trivial | refine And.intro rfl ?_))) rfl
  · have hn' : n = g.length := by have : ¬ n < g.length := by ((try simp only [oo, reduceCtorEq] at *) <;> omega)
                                  omega
    subst hn'
    have := deep_ogRows (H := AObj.vec true 0 1 (ogRows 1 (turnG g g.length)) :: ogObjs 1 wcell (turnG g g.length)) (b := 1) (esz := 1) (c := wcell) (L := turnG g g.length) (fun i hi => by
      rw [show i + 1 = i + 1 from rfl, List.getElem?_cons_succ]
      exact ogObjs_at hi)
    refine .own _ _ _ _ _ _ _ _ rfl ?_
    rw [drop_take_all (by simp [lG])]
    exact this
end

/-! ### XWu -/
section
open Go.RowKit
set_option linter.unusedSimpArgs false
set_option linter.unusedVariables false
open Classical in
theorem headQ {Z : List Int} {lo hi : Nat} (h1 : lo < hi) (h2 : hi ≤ Z.length) : (Z.take hi).drop lo = Z.getD lo 0 :: (Z.take hi).drop (lo + 1) := by
  rw [List.drop_eq_getElem_cons (by rw [List.length_take]; omega), List.getElem_take, List.getD_eq_getElem?_getD, List.getElem?_eq_getElem (by omega)]
  rfl
theorem i64s_queueW {Z : List Int} {lo hi : Nat} {k : Int} : ((i64s Z).take hi).drop lo ++ [[D.sc (.int .i64 k)]] = i64s ((Z.take hi).drop lo ++ [k]) := by
  simp [i64s]
end

/-! ### XWv -/
section
open Go.RowKit
set_option linter.unusedSimpArgs false
set_option linter.unusedVariables false
def nats (l : List Int) : List Nat := l.map Int.toNat
theorem nats_app (l r : List Int) : nats (l ++ r) = nats l ++ nats r := by simp [nats]
theorem nats_mem {l : List Int} {n : Nat} : n ∈ nats l ↔ ∃ x ∈ l, x.toNat = n := by simp [nats]
/-- A queue's state. -/
structure QOk (g : List (List Int)) (to : Nat → Bool) (o : Nat → Int) (Z : List Int) : Prop where
  rng : ∀ x ∈ Z, 0 ≤ x ∧ x < (g.length : Int)
  low : ∀ n, -1 ≤ o n
  out : ∀ n, g.length ≤ n → o n = -1
theorem nats_cons (x : Int) (r : List Int) : nats (x :: r) = x.toNat :: nats r := rfl
theorem QOk.put {g : List (List Int)} {to : Nat → Bool} {o : Nat → Int} {Z : List Int} (h : QOk g to o Z) {k : Nat} (hk : k < g.length) {v : Int} (hv : 0 ≤ v) {lo hi : Nat} : QOk g to (setO o k v) ((Z.take hi).drop lo ++ [(k : Int)]) where
  rng x hx := by
    rcases List.mem_append.1 hx with q | q
    · exact h.rng x (List.mem_of_mem_take (List.mem_of_mem_drop q))
    · rw [List.mem_singleton] at q; subst q; omega
  low n := by
    by_cases e : n = k
    · subst e; rw [setO_self]; omega
    · rw [setO_ne e]; exact h.low n
  out n hn := by rw [setO_ne (by omega)]; exact h.out n hn
end

/-! ### XWx -/
section
open Go.RowKit
set_option linter.unusedSimpArgs false
set_option linter.unusedVariables false
end

end Go.Proofs.Ytfgklgjbnpjpoaa
