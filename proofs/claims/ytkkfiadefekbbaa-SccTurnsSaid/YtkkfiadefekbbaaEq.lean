/-
  Contracts of slices.Equal and slices.EqualFunc at the element types that the program uses. No statement is proved here.
-/
import Derived.Test.YtkkfiadefekbbaaLib
namespace Go.Proofs.Ytkkfiadefekbbaa
open Go.RowKit

/-- Are two lists one? -/
def eqL {α : Type} [DecidableEq α] (xs ys : List α) : Bool := decide (xs = ys)
theorem eqL_short {α : Type} [DecidableEq α] {xs ys : List α} (h : xs.length ≠ ys.length) : false = eqL xs ys := by
  unfold eqL; symm; rw [decide_eq_false_iff_not]; intro e; exact h (by rw [e])
theorem eqL_miss {α : Type} [DecidableEq α] [Inhabited α] {xs ys : List α} {k : Nat} {x y : α} (hx : xs.getD k default = x) (hy : ys.getD k default = y) (hne : x ≠ y) : false = eqL xs ys := by
  unfold eqL; symm; rw [decide_eq_false_iff_not]; intro e; exact hne (by rw [← hx, ← hy, e])
theorem eqL_hit {α : Type} [DecidableEq α] [Inhabited α] {xs ys : List α} (hl : xs.length = ys.length) (h : ∀ j, j < xs.length → xs.getD j default = ys.getD j default) : true = eqL xs ys := by
  unfold eqL; symm; rw [decide_eq_true_iff]
  refine List.ext_getElem hl fun i h1 h2 => ?_
  have := h i h1
  simpa [List.getD, List.getElem?_eq_getElem h1, List.getElem?_eq_getElem h2] using this

theorem cells_at {α : Type} [Inhabited α] {w : World} {A : Option Addr} {n : Nat} {xs : List α} {enc : α → Value} (h : Reads w w.heap.size 1 A n (xs.map enc)) {k : Nat} (hk : k < n) :
    ∃ ad, A = some ad ∧ ad.block < w.heap.size ∧ w.cell? (ad.add k) = some (enc (xs.getD k default)) := by
  obtain ⟨ad, u, hA, hb, hx, hc⟩ := Reads.at_ h hk
  refine ⟨ad, hA, hb, ?_⟩
  rw [hc]
  rw [List.getElem?_map] at hx
  cases hq : xs[k]? with
  | none => rw [hq] at hx; cases hx
  | some q => rw [hq] at hx; simp at hx; rw [← hx]; simp [List.getD, hq]
theorem cells_len {α : Type} {w : World} {A : Option Addr} {n B : Nat} {xs : List α} {enc : α → Value} (h : Reads w B 1 A n (xs.map enc)) : xs.length = n := by have := Reads.len h; simpa using this

set_option maxHeartbeats 400000 in
theorem equal_ints (A B : Option Addr) (n m c d : Nat) (xs ys : List Int) (w : World) (hx : Reads w w.heap.size 1 A n (xs.map (Value.int .i64))) (hy : Reads w w.heap.size 1 B m (ys.map (Value.int .i64))) (hn : n ≤ 9223372036854775807) :
    Calls Try.prog 28 #[.slice A n c, .slice B m d] w fun e w' => e = .returned (.bool (eqL xs ys)) ∧ ∃ q, w' = w.drewN q := by
  have HX := Lib.hid (cells_len hx)
  have HY := Lib.hid (cells_len hy)
  by_cases hnm : n = m
  · subst hnm
    go_enter Try.func28, Try.ntmps28
    go_wp2
    go_loopg [5, 13] n (fun gg _ s8 wr => ∃ kk q : Nat, kk ≤ n ∧ n - kk ≤ gg ∧ s8 = .int .i64 kk ∧ wr = w.drewN q ∧ Aside (∀ j, j < kk → xs.getD j default = ys.getD j default))
    case atStart => exact ⟨0, 0, Nat.zero_le _, by omega, rfl, rfl, fun j hj => absurd hj (Nat.not_lt_zero _)⟩
    case round =>
      obtain ⟨kk, q, hkk, hg, rfl, rfl, H⟩ := hrel
      by_cases hlt : kk < n
      · have hltz : (kk : Int) < (n : Int) := by omega
        obtain ⟨ad, rfl, _, hc⟩ := cells_at hx hlt
        obtain ⟨bd, rfl, _, hc'⟩ := cells_at hy hlt
        clear hx hy
        generalize hu : xs.getD kk default = x at hc
        generalize hv : ys.getD kk default = y at hc'
        have HU := Lib.hid hu
        have HV := Lib.hid hv
        clear hu hv
        by_cases hxy : x = y
        · have hb : (x != y) = false := by simpa using hxy
          have hb2 : (x == y) = true := by simpa using hxy
          have HE := Lib.hid hxy
          clear hxy
          go_wp2
          go_quiet (fail)
          go_wp2
          go_roundg (n - (kk + 1))
          case measure => omega
          case rel =>
            refine ⟨kk + 1, _, by omega, by omega, by go_num, rfl, (show Aside _ from fun j hj => ?_)⟩
            by_cases e : j = kk
            · subst e; rw [HU.out, HV.out]; exact HE.out
            · exact H.out j (by omega)
        · have hb : (x != y) = true := by simpa using hxy
          have hb2 : (x == y) = false := by simpa using hxy
          have HE := Lib.hid hxy
          clear hxy
          go_wp2
          go_quiet (fail)
          go_wp2
          go_ret
          exact ⟨ret_bool (eqL_miss HU.out HV.out HE.out), _, World.drewN_drewN _ _ _⟩
      · have hltz : ¬ (kk : Int) < (n : Int) := by omega
        obtain rfl : kk = n := by omega
        go_wp2
        go_ret
        exact ⟨ret_bool (eqL_hit (HX.out.trans HY.out.symm) (by rw [HX.out]; exact H.out)), q, rfl⟩
  · have hb : ((n : Int) != (m : Int)) = true := by rw [bne_iff_ne]; omega
    have HE := Lib.hid hnm
    clear hnm
    go_enter Try.func28, Try.ntmps28
    go_wp2
    go_ret
    exact ⟨ret_bool (eqL_short (by rw [HX.out, HY.out]; exact HE.out)), 0, rfl⟩
set_option maxHeartbeats 400000 in
theorem equal_words (A B : Option Addr) (n m c d : Nat) (xs ys : List Int) (w : World) (hx : Reads w w.heap.size 1 A n (xs.map (Value.int .u64))) (hy : Reads w w.heap.size 1 B m (ys.map (Value.int .u64))) (hn : n ≤ 9223372036854775807) :
    Calls Try.prog 61 #[.slice A n c, .slice B m d] w fun e w' => e = .returned (.bool (eqL xs ys)) ∧ ∃ q, w' = w.drewN q := by
  have HX := Lib.hid (cells_len hx)
  have HY := Lib.hid (cells_len hy)
  by_cases hnm : n = m
  · subst hnm
    go_enter Try.func61, Try.ntmps61
    go_wp2
    go_loopg [5, 13] n (fun gg _ s8 wr => ∃ kk q : Nat, kk ≤ n ∧ n - kk ≤ gg ∧ s8 = .int .i64 kk ∧ wr = w.drewN q ∧ Aside (∀ j, j < kk → xs.getD j default = ys.getD j default))
    case atStart => exact ⟨0, 0, Nat.zero_le _, by omega, rfl, rfl, fun j hj => absurd hj (Nat.not_lt_zero _)⟩
    case round =>
      obtain ⟨kk, q, hkk, hg, rfl, rfl, H⟩ := hrel
      by_cases hlt : kk < n
      · have hltz : (kk : Int) < (n : Int) := by omega
        obtain ⟨ad, rfl, _, hc⟩ := cells_at hx hlt
        obtain ⟨bd, rfl, _, hc'⟩ := cells_at hy hlt
        clear hx hy
        generalize hu : xs.getD kk default = x at hc
        generalize hv : ys.getD kk default = y at hc'
        have HU := Lib.hid hu
        have HV := Lib.hid hv
        clear hu hv
        by_cases hxy : x = y
        · have hb : (x != y) = false := by simpa using hxy
          have hb2 : (x == y) = true := by simpa using hxy
          have HE := Lib.hid hxy
          clear hxy
          go_wp2
          go_quiet (fail)
          go_wp2
          go_roundg (n - (kk + 1))
          case measure => omega
          case rel =>
            refine ⟨kk + 1, _, by omega, by omega, by go_num, rfl, (show Aside _ from fun j hj => ?_)⟩
            by_cases e : j = kk
            · subst e; rw [HU.out, HV.out]; exact HE.out
            · exact H.out j (by omega)
        · have hb : (x != y) = true := by simpa using hxy
          have hb2 : (x == y) = false := by simpa using hxy
          have HE := Lib.hid hxy
          clear hxy
          go_wp2
          go_quiet (fail)
          go_wp2
          go_ret
          exact ⟨ret_bool (eqL_miss HU.out HV.out HE.out), _, World.drewN_drewN _ _ _⟩
      · have hltz : ¬ (kk : Int) < (n : Int) := by omega
        obtain rfl : kk = n := by omega
        go_wp2
        go_ret
        exact ⟨ret_bool (eqL_hit (HX.out.trans HY.out.symm) (by rw [HX.out]; exact H.out)), q, rfl⟩
  · have hb : ((n : Int) != (m : Int)) = true := by rw [bne_iff_ne]; omega
    have HE := Lib.hid hnm
    clear hnm
    go_enter Try.func61, Try.ntmps61
    go_wp2
    go_ret
    exact ⟨ret_bool (eqL_short (by rw [HX.out, HY.out]; exact HE.out)), 0, rfl⟩
set_option maxHeartbeats 400000 in
theorem equal_bools (A B : Option Addr) (n m c d : Nat) (xs ys : List Bool) (w : World) (hx : Reads w w.heap.size 1 A n (xs.map (Value.bool))) (hy : Reads w w.heap.size 1 B m (ys.map (Value.bool))) (hn : n ≤ 9223372036854775807) :
    Calls Try.prog 58 #[.slice A n c, .slice B m d] w fun e w' => e = .returned (.bool (eqL xs ys)) ∧ ∃ q, w' = w.drewN q := by
  have HX := Lib.hid (cells_len hx)
  have HY := Lib.hid (cells_len hy)
  by_cases hnm : n = m
  · subst hnm
    go_enter Try.func58, Try.ntmps58
    go_wp2
    go_loopg [5, 13] n (fun gg _ s8 wr => ∃ kk q : Nat, kk ≤ n ∧ n - kk ≤ gg ∧ s8 = .int .i64 kk ∧ wr = w.drewN q ∧ Aside (∀ j, j < kk → xs.getD j default = ys.getD j default))
    case atStart => exact ⟨0, 0, Nat.zero_le _, by omega, rfl, rfl, fun j hj => absurd hj (Nat.not_lt_zero _)⟩
    case round =>
      obtain ⟨kk, q, hkk, hg, rfl, rfl, H⟩ := hrel
      by_cases hlt : kk < n
      · have hltz : (kk : Int) < (n : Int) := by omega
        obtain ⟨ad, rfl, _, hc⟩ := cells_at hx hlt
        obtain ⟨bd, rfl, _, hc'⟩ := cells_at hy hlt
        clear hx hy
        generalize hu : xs.getD kk default = x at hc
        generalize hv : ys.getD kk default = y at hc'
        have HU := Lib.hid hu
        have HV := Lib.hid hv
        clear hu hv
        by_cases hxy : x = y
        · have hb : (x != y) = false := by simpa using hxy
          have hb2 : (x == y) = true := by simpa using hxy
          have HE := Lib.hid hxy
          clear hxy
          go_wp2
          go_quiet (fail)
          go_wp2
          go_roundg (n - (kk + 1))
          case measure => omega
          case rel =>
            refine ⟨kk + 1, _, by omega, by omega, by go_num, rfl, (show Aside _ from fun j hj => ?_)⟩
            by_cases e : j = kk
            · subst e; rw [HU.out, HV.out]; exact HE.out
            · exact H.out j (by omega)
        · have hb : (x != y) = true := by simpa using hxy
          have hb2 : (x == y) = false := by simpa using hxy
          have HE := Lib.hid hxy
          clear hxy
          go_wp2
          go_quiet (fail)
          go_wp2
          go_ret
          exact ⟨ret_bool (eqL_miss HU.out HV.out HE.out), _, World.drewN_drewN _ _ _⟩
      · have hltz : ¬ (kk : Int) < (n : Int) := by omega
        obtain rfl : kk = n := by omega
        go_wp2
        go_ret
        exact ⟨ret_bool (eqL_hit (HX.out.trans HY.out.symm) (by rw [HX.out]; exact H.out)), q, rfl⟩
  · have hb : ((n : Int) != (m : Int)) = true := by rw [bne_iff_ne]; omega
    have HE := Lib.hid hnm
    clear hnm
    go_enter Try.func58, Try.ntmps58
    go_wp2
    go_ret
    exact ⟨ret_bool (eqL_short (by rw [HX.out, HY.out]; exact HE.out)), 0, rfl⟩

/-- The slice of slices reads as the rows g. -/
structure Grid (w : World) (A : Option Addr) (n : Nat) (g : List (List Int)) (a : Nat → Option Addr) (L C : Nat → Nat) : Prop where
  len : g.length = n
  top : Reads w w.heap.size 1 A n ((List.range n).map fun i => .slice (a i) (L i) (C i))
  row : ∀ i, i < n → Ints w (a i) (L i) (rowAt g i)
  small : ∀ i, i < n → L i ≤ 9223372036854775807

theorem Grid.at_ {w : World} {A : Option Addr} {n : Nat} {g : List (List Int)} {a : Nat → Option Addr} {L C : Nat → Nat} (h : Grid w A n g a L C) {k : Nat} (hk : k < n) :
    ∃ ad, A = some ad ∧ ad.block < w.heap.size ∧ w.cell? (ad.add k) = some (.slice (a k) (L k) (C k)) := by
  obtain ⟨ad, u, hA, hb, hx, hc⟩ := Reads.at_ h.top hk
  refine ⟨ad, hA, hb, ?_⟩
  rw [List.getElem?_map, List.getElem?_range hk] at hx
  rw [hc, ← hx]; rfl
theorem Grid.later {w w' : World} {A : Option Addr} {n : Nat} {g : List (List Int)} {a : Nat → Option Addr} {L C : Nat → Nat} (h : Grid w A n g a L C) (hb : Below w.heap.size w w') : Grid w' A n g a L C :=
  ⟨h.len, h.top.later hb, fun i hi => (h.row i hi).later hb, h.small⟩
theorem Grid.drewN {w : World} {A : Option Addr} {n : Nat} {g : List (List Int)} {a : Nat → Option Addr} {L C : Nat → Nat} (h : Grid w A n g a L C) (q : Nat) : Grid (w.drewN q) A n g a L C := ⟨h.len, h.top, h.row, h.small⟩

end Go.Proofs.Ytkkfiadefekbbaa
