/-
  Contracts of slices.EqualFunc at two slices of slices with slices.Equal, and of watchlaw.lists. No statement is proved here.
-/
import Derived.Test.YtkkfiadefekbbaaEq
namespace Go.Proofs.Ytkkfiadefekbbaa
open Go.RowKit

theorem eqG_miss {xs ys : List (List Int)} {k : Nat} {x y : List Int} (hx : rowAt xs k = x) (hy : rowAt ys k = y) (hne : eqL x y = false) : false = eqL xs ys := by
  unfold eqL at hne ⊢; symm; rw [decide_eq_false_iff_not] at hne ⊢; intro e; exact hne (by rw [← hx, ← hy, e])
theorem eqG_hit {xs ys : List (List Int)} (hl : xs.length = ys.length) (h : ∀ j, j < xs.length → eqL (rowAt xs j) (rowAt ys j) = true) : true = eqL xs ys := by
  unfold eqL at h ⊢; symm; rw [decide_eq_true_iff]
  refine List.ext_getElem hl fun i h1 h2 => ?_
  have := of_decide_eq_true (h i h1)
  rwa [rowAt_get h1, rowAt_get h2] at this

theorem enters_equal : ∀ args w, (callFunc 28 args).run Try.prog w = .ok (.enter 28 args) w := enters_of Try.func28 (by kernel_rfl) rfl
set_option maxHeartbeats 400000 in
theorem equalFunc_rows (A B : Option Addr) (n m c d : Nat) (G H : List (List Int)) (a a' : Nat → Option Addr) (L C L' C' : Nat → Nat) (w : World) (hg : Grid w A n G a L C) (hh : Grid w B m H a' L' C') (hn : n ≤ 9223372036854775807) :
    Calls Try.prog 64 #[.slice A n c, .slice B m d, .func (.func 28) #[] #[]] w fun e w' => e = .returned (.bool (eqL G H)) ∧ ∃ q, w' = w.drewN q := by
  have e1 := enters_equal
  have HX := Lib.hid hg.len
  have HY := Lib.hid hh.len
  by_cases hnm : n = m
  · subst hnm
    go_enter Try.func64, Try.ntmps64
    go_wp2
    go_loopg [7, 8, 9, 17] n (fun gg _ _ _ s17 wr => ∃ kk q : Nat, kk ≤ n ∧ n - kk ≤ gg ∧ s17 = .int .i64 kk ∧ wr = w.drewN q ∧ Aside (∀ j, j < kk → eqL (rowAt G j) (rowAt H j) = true))
    case atStart => exact ⟨0, 0, Nat.zero_le _, by omega, rfl, rfl, fun j hj => absurd hj (Nat.not_lt_zero _)⟩
    case round =>
      obtain ⟨kk, q, hkk, hgk, rfl, rfl, K⟩ := hrel
      by_cases hlt : kk < n
      · have hltz : (kk : Int) < (n : Int) := by omega
        obtain ⟨ad, rfl, _, hc⟩ := hg.at_ hlt
        obtain ⟨bd, rfl, _, hc'⟩ := hh.at_ hlt
        have hcall := fun q => equal_ints (a kk) (a' kk) (L kk) (L' kk) (C kk) (C' kk) (rowAt G kk) (rowAt H kk) (w.drewN q) (hg.row kk hlt) (hh.row kk hlt) (hg.small kk hlt)
        obtain ⟨u, HU⟩ : ∃ u, Hid (rowAt G kk = u) := ⟨_, rfl⟩
        obtain ⟨v, HV⟩ : ∃ v, Hid (rowAt H kk = v) := ⟨_, rfl⟩
        rw [HU.out, HV.out] at hcall
        clear hg hh
        cases hq : eqL u v with
        | true =>
          rw [hq] at hcall
          have HQ := Lib.hid hq
          have HC := Lib.hid hcall
          clear hq hcall
          go_wp2_with (go_at_call 28; refine (HC.out _).mono ?_; rintro e w' ⟨rfl, q', rfl⟩)
          go_roundg (n - (kk + 1))
          case measure => omega
          case rel =>
            refine ⟨kk + 1, _, by omega, by omega, by go_num, rfl, (show Aside _ from fun j hj => ?_)⟩
            by_cases e : j = kk
            · subst e; rw [HU.out, HV.out]; exact HQ.out
            · exact K.out j (by omega)
        | false =>
          rw [hq] at hcall
          have HQ := Lib.hid hq
          have HC := Lib.hid hcall
          clear hq hcall
          go_wp2_with (go_at_call 28; refine (HC.out _).mono ?_; rintro e w' ⟨rfl, q', rfl⟩)
          go_ret
          exact ⟨ret_bool (eqG_miss HU.out HV.out HQ.out), _, rfl⟩
      · have hltz : ¬ (kk : Int) < (n : Int) := by omega
        obtain rfl : kk = n := by omega
        go_wp2
        go_ret
        exact ⟨ret_bool (eqG_hit (HX.out.trans HY.out.symm) (by rw [HX.out]; exact K.out)), q, rfl⟩
  · have hb : ((n : Int) != (m : Int)) = true := by rw [bne_iff_ne]; omega
    have HE := Lib.hid hnm
    clear hnm
    go_enter Try.func64, Try.ntmps64
    go_wp2
    go_ret
    exact ⟨ret_bool (eqL_short (by rw [HX.out, HY.out]; exact HE.out)), 0, rfl⟩
theorem law_lists (A B : Option Addr) (n m c d : Nat) (G H : List (List Int)) (a a' : Nat → Option Addr) (L C L' C' : Nat → Nat) (w : World) (hg : Grid w A n G a L C) (hh : Grid w B m H a' L' C') (hn : n ≤ 9223372036854775807) :
    Calls Try.prog 23 #[.slice A n c, .slice B m d] w fun e w' => e = .returned (.bool (eqL G H)) ∧ ∃ q, w' = w.drewN q := by
  have hc := equalFunc_rows A B n m c d G H a a' L C L' C' w hg hh hn
  clear hg hh
  generalize eqL G H = r at hc ⊢
  go_enter Try.func23, Try.ntmps23
  go_wp2_with (go_at_call 64; refine hc.mono ?_; rintro e w' ⟨rfl, q, rfl⟩)
  go_ret
  exact ⟨rfl, q, rfl⟩
end Go.Proofs.Ytkkfiadefekbbaa
