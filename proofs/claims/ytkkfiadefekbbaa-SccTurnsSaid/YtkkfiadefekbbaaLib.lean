/-
  Contracts of Go's slices package at the element types that the program uses: Index, Contains, IndexFunc, ContainsFunc, Equal, EqualFunc. No statement is proved here.
-/
import Derived.Test.YtkkfiadefekbbaaBase
import Derived.Test.YtkkfiadefekbbaaProg
import Derived.Deep.LoopGhost
import Derived.Deep.QuietTactic
import Derived.BigQuiet
import Derived.Shelf.GgClosure.Gives
import Derived.Outline
namespace Go.Proofs.Ytkkfiadefekbbaa
open Go.RowKit

theorem ret_int {k : IntKind} {a b : Int} (h : a = b) : Ending.returned (.int k a) = .returned (.int k b) := by rw [h]
theorem ret_bool {a b : Bool} (h : a = b) : Ending.returned (.bool a) = .returned (.bool b) := by rw [h]

/-- Where x first stands; -1: nowhere. -/
def idxInt (n : Nat) (xs : List Int) (x : Int) : Int := firstIdx n (fun k => x == intAt xs k)
/-- Is x among the integers? -/
def hasInt (xs : List Int) (x : Int) : Bool := xs.contains x
theorem idxInt_hit {n k : Nat} {xs : List Int} {x y : Int} (hk : k < n) (h : ∀ j, j < k → (x == intAt xs j) = false) (hy : intAt xs k = y) (hp : x = y) : (k : Int) = idxInt n xs x :=
  (firstIdx_hit hk h (by simp only [hy, hp]; simp)).symm
theorem idxInt_miss {n : Nat} {xs : List Int} {x : Int} (h : ∀ j, j < n → (x == intAt xs j) = false) : (-1 : Int) = idxInt n xs x := (firstIdx_miss h).symm
theorem hasInt_iff {xs : List Int} {x : Int} : hasInt xs x = true ↔ ∃ k, k < xs.length ∧ intAt xs k = x := by
  unfold hasInt
  rw [List.contains_iff_mem, List.mem_iff_getElem]
  constructor
  · rintro ⟨i, hi, rfl⟩; exact ⟨i, hi, intAt_get hi⟩
  · rintro ⟨i, hi, rfl⟩; exact ⟨i, hi, (intAt_get hi).symm⟩
theorem idxInt_has (xs : List Int) (x : Int) : decide (0 ≤ idxInt xs.length xs x) = hasInt xs x := by
  rw [Bool.eq_iff_iff, hasInt_iff, decide_eq_true_iff]
  unfold idxInt
  rcases firstIdx_range (n := xs.length) (p := fun k => x == intAt xs k) with h | ⟨k, hk, he, hp, _⟩
  · rw [h]
    constructor
    · intro h'; omega
    · rintro ⟨k, hk, he⟩
      exfalso
      unfold firstIdx at h
      split at h
      · omega
      · rename_i hf
        rw [List.find?_range_eq_none] at hf
        have := hf k (by simpa using hk)
        simp [← he] at this
  · rw [he]
    constructor
    · intro _; exact ⟨k, hk, by simpa using (beq_iff_eq.1 hp).symm⟩
    · intro _; omega

/-- slices.Index at []int. -/
theorem index_ints (A : Option Addr) (n c : Nat) (xs : List Int) (x : Int) (w : World) (hr : Ints w A n xs) (hn : n ≤ 9223372036854775807) :
    Calls Try.prog 132 #[.slice A n c, .int .i64 x] w fun e w' => e = .returned (.int .i64 (idxInt n xs x)) ∧ w = w' := by
  go_enter Try.func132, Try.ntmps132
  go_wp2
  go_loopg [5, 8] n (fun gg _ s8 wr => ∃ kk : Nat, kk ≤ n ∧ n - kk ≤ gg ∧ s8 = .int .i64 kk ∧ w = wr ∧ Aside (∀ j, j < kk → (x == intAt xs j) = false))
  case atStart => exact ⟨0, Nat.zero_le _, by omega, rfl, rfl, fun j hj => absurd hj (Nat.not_lt_zero _)⟩
  case round =>
    obtain ⟨kk, hkk, hg, rfl, rfl, H⟩ := hrel
    by_cases hlt : kk < n
    · have hltz : (kk : Int) < (n : Int) := by omega
      obtain ⟨ad, rfl, _, hc⟩ := hr.at_ hlt
      clear hr
      generalize hy : intAt xs kk = y at hc
      have B : Aside (intAt xs kk = y) := hy
      clear hy
      by_cases hxy : x = y
      · have hb : (x == y) = true := by simpa using hxy
        have HX : Aside (x = y) := hxy
        clear hxy
        go_wp2
        go_ret
        exact ⟨ret_int (idxInt_hit hlt H.out B.out HX.out), rfl⟩
      · have hb : (x == y) = false := by simpa using hxy
        clear hxy
        go_wp2
        go_roundg (n - (kk + 1))
        case measure => omega
        case rel =>
          refine ⟨kk + 1, by omega, by omega, by go_num, rfl, (show Aside _ from fun j hj => ?_)⟩
          by_cases e : j = kk
          · subst e; rw [B.out]; exact hb
          · exact H.out j (by omega)
    · have hltz : ¬ (kk : Int) < (n : Int) := by omega
      obtain rfl : kk = n := by omega
      go_wp2
      go_ret
      exact ⟨ret_int (idxInt_miss H.out), rfl⟩

/-- slices.Contains at []int. -/
theorem contains_ints (A : Option Addr) (n c : Nat) (xs : List Int) (x : Int) (w : World) (hr : Ints w A n xs) (hn : n ≤ 9223372036854775807) :
    Calls Try.prog 83 #[.slice A n c, .int .i64 x] w fun e w' => e = .returned (.bool (hasInt xs x)) ∧ w = w' := by
  have HE := Lib.hid (show decide (0 ≤ idxInt n xs x) = hasInt xs x by have := hr.len; subst this; exact idxInt_has xs x)
  have hc := index_ints A n c xs x
  go_enter Try.func83, Try.ntmps83
  go_wp2_with (go_at_call 132; refine (hc _ hr hn).mono ?_; rintro e w' ⟨rfl, rfl⟩)
  go_ret
  exact ⟨ret_bool HE.out, rfl⟩

/-! A test handed to the library: function value '.func (.func g) #[] lb'; p k: what it says of the element at index k. -/
theorem enters_ints : ∀ args w, (callFunc 133 args).run Try.prog w = .ok (.enter 133 args) w := enters_of Try.func133 (by kernel_rfl) rfl
set_option maxHeartbeats 400000 in
theorem indexFunc_ints (A : Option Addr) (n c : Nat) (vs : List Value) (p : Nat → Bool) (g : Nat) (lb : Array Value)
    (eg : ∀ args w, (callFunc g args).run Try.prog w = .ok (.enter g args) w) (w : World) (hr : Reads w w.heap.size 1 A n vs) (hn : n ≤ 9223372036854775807)
    (hp : ∀ (k q : Nat) (v : Value), k < n → vs[k]? = some v → Calls Try.prog g (#[v] ++ lb) (w.drewN q) fun e w' => e = .returned (.bool (p k)) ∧ ∃ q', w' = (w.drewN q).drewN q') :
    Calls Try.prog 133 #[.slice A n c, .func (.func g) #[] lb] w fun e w' => e = .returned (.int .i64 (firstIdx n p)) ∧ ∃ q, w' = w.drewN q := by
  have HP := Lib.hid hp
  clear hp
  go_enter Try.func133, Try.ntmps133
  go_wp2
  go_loopg [5, 8] n (fun gg _ s8 wr => ∃ kk q : Nat, kk ≤ n ∧ n - kk ≤ gg ∧ s8 = .int .i64 kk ∧ wr = w.drewN q ∧ Aside (∀ j, j < kk → p j = false))
  case atStart => exact ⟨0, 0, Nat.zero_le _, by omega, rfl, rfl, fun j hj => absurd hj (Nat.not_lt_zero _)⟩
  case round =>
    obtain ⟨kk, q, hkk, hg, rfl, rfl, H⟩ := hrel
    by_cases hlt : kk < n
    · have hltz : (kk : Int) < (n : Int) := by omega
      obtain ⟨ad, v, rfl, _, hv, hc⟩ := hr.at_ hlt
      have hcall := HP.out kk q v hlt hv
      clear hr hv
      cases hq : p kk with
      | true =>
        rw [hq] at hcall
        have HQ := Lib.hid hq
        clear hq
        go_wp2_with (go_at_fn g; refine hcall.mono ?_; rintro e w' ⟨rfl, q', rfl⟩)
        go_ret
        exact ⟨ret_int (firstIdx_hit hlt H.out HQ.out).symm, _, rfl⟩
      | false =>
        rw [hq] at hcall
        have HQ := Lib.hid hq
        clear hq
        go_wp2_with (go_at_fn g; refine hcall.mono ?_; rintro e w' ⟨rfl, q', rfl⟩)
        go_roundg (n - (kk + 1))
        case measure => omega
        case rel =>
          refine ⟨kk + 1, _, by omega, by omega, by go_num, rfl, (show Aside _ from fun j hj => ?_)⟩
          by_cases e : j = kk
          · subst e; exact HQ.out
          · exact H.out j (by omega)
    · have hltz : ¬ (kk : Int) < (n : Int) := by omega
      obtain rfl : kk = n := by omega
      go_wp2
      go_ret
      exact ⟨ret_int (firstIdx_miss H.out).symm, q, rfl⟩

theorem containsFunc_ints (A : Option Addr) (n c : Nat) (vs : List Value) (p : Nat → Bool) (r : Bool) (g : Nat) (lb : Array Value)
    (eg : ∀ args w, (callFunc g args).run Try.prog w = .ok (.enter g args) w) (w : World) (hr : Reads w w.heap.size 1 A n vs) (hn : n ≤ 9223372036854775807)
    (hp : ∀ (k q : Nat) (v : Value), k < n → vs[k]? = some v → Calls Try.prog g (#[v] ++ lb) (w.drewN q) fun e w' => e = .returned (.bool (p k)) ∧ ∃ q', w' = (w.drewN q).drewN q')
    (hres : decide (0 ≤ firstIdx n p) = r) :
    Calls Try.prog 84 #[.slice A n c, .func (.func g) #[] lb] w fun e w' => e = .returned (.bool r) ∧ ∃ q, w' = w.drewN q := by
  have HE := Lib.hid hres
  have hc := indexFunc_ints A n c vs p g lb eg w hr hn hp
  clear hres hp hr
  have e1 := enters_ints
  go_enter Try.func84, Try.ntmps84
  go_wp2_with (go_at_call 133; refine hc.mono ?_; rintro e w' ⟨rfl, q, rfl⟩)
  go_ret
  exact ⟨ret_bool HE.out, q, rfl⟩
theorem enters_rows : ∀ args w, (callFunc 156 args).run Try.prog w = .ok (.enter 156 args) w := enters_of Try.func156 (by kernel_rfl) rfl
set_option maxHeartbeats 400000 in
theorem indexFunc_rows (A : Option Addr) (n c : Nat) (vs : List Value) (p : Nat → Bool) (g : Nat) (lb : Array Value)
    (eg : ∀ args w, (callFunc g args).run Try.prog w = .ok (.enter g args) w) (w : World) (hr : Reads w w.heap.size 1 A n vs) (hn : n ≤ 9223372036854775807)
    (hp : ∀ (k q : Nat) (v : Value), k < n → vs[k]? = some v → Calls Try.prog g (#[v] ++ lb) (w.drewN q) fun e w' => e = .returned (.bool (p k)) ∧ ∃ q', w' = (w.drewN q).drewN q') :
    Calls Try.prog 156 #[.slice A n c, .func (.func g) #[] lb] w fun e w' => e = .returned (.int .i64 (firstIdx n p)) ∧ ∃ q, w' = w.drewN q := by
  have HP := Lib.hid hp
  clear hp
  go_enter Try.func156, Try.ntmps156
  go_wp2
  go_loopg [5, 8] n (fun gg _ s8 wr => ∃ kk q : Nat, kk ≤ n ∧ n - kk ≤ gg ∧ s8 = .int .i64 kk ∧ wr = w.drewN q ∧ Aside (∀ j, j < kk → p j = false))
  case atStart => exact ⟨0, 0, Nat.zero_le _, by omega, rfl, rfl, fun j hj => absurd hj (Nat.not_lt_zero _)⟩
  case round =>
    obtain ⟨kk, q, hkk, hg, rfl, rfl, H⟩ := hrel
    by_cases hlt : kk < n
    · have hltz : (kk : Int) < (n : Int) := by omega
      obtain ⟨ad, v, rfl, _, hv, hc⟩ := hr.at_ hlt
      have hcall := HP.out kk q v hlt hv
      clear hr hv
      cases hq : p kk with
      | true =>
        rw [hq] at hcall
        have HQ := Lib.hid hq
        clear hq
        go_wp2_with (go_at_fn g; refine hcall.mono ?_; rintro e w' ⟨rfl, q', rfl⟩)
        go_ret
        exact ⟨ret_int (firstIdx_hit hlt H.out HQ.out).symm, _, rfl⟩
      | false =>
        rw [hq] at hcall
        have HQ := Lib.hid hq
        clear hq
        go_wp2_with (go_at_fn g; refine hcall.mono ?_; rintro e w' ⟨rfl, q', rfl⟩)
        go_roundg (n - (kk + 1))
        case measure => omega
        case rel =>
          refine ⟨kk + 1, _, by omega, by omega, by go_num, rfl, (show Aside _ from fun j hj => ?_)⟩
          by_cases e : j = kk
          · subst e; exact HQ.out
          · exact H.out j (by omega)
    · have hltz : ¬ (kk : Int) < (n : Int) := by omega
      obtain rfl : kk = n := by omega
      go_wp2
      go_ret
      exact ⟨ret_int (firstIdx_miss H.out).symm, q, rfl⟩

theorem containsFunc_rows (A : Option Addr) (n c : Nat) (vs : List Value) (p : Nat → Bool) (r : Bool) (g : Nat) (lb : Array Value)
    (eg : ∀ args w, (callFunc g args).run Try.prog w = .ok (.enter g args) w) (w : World) (hr : Reads w w.heap.size 1 A n vs) (hn : n ≤ 9223372036854775807)
    (hp : ∀ (k q : Nat) (v : Value), k < n → vs[k]? = some v → Calls Try.prog g (#[v] ++ lb) (w.drewN q) fun e w' => e = .returned (.bool (p k)) ∧ ∃ q', w' = (w.drewN q).drewN q')
    (hres : decide (0 ≤ firstIdx n p) = r) :
    Calls Try.prog 129 #[.slice A n c, .func (.func g) #[] lb] w fun e w' => e = .returned (.bool r) ∧ ∃ q, w' = w.drewN q := by
  have HE := Lib.hid hres
  have hc := indexFunc_rows A n c vs p g lb eg w hr hn hp
  clear hres hp hr
  have e1 := enters_rows
  go_enter Try.func129, Try.ntmps129
  go_wp2_with (go_at_call 156; refine hc.mono ?_; rintro e w' ⟨rfl, q, rfl⟩)
  go_ret
  exact ⟨ret_bool HE.out, q, rfl⟩

end Go.Proofs.Ytkkfiadefekbbaa
