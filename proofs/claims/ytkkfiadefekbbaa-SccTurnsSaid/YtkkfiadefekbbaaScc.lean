/-
  Contracts of scc.odd, scc.Check, watchref.In, watchref.Graph, watchref.Goes: what is wrong with a graph. No statement is proved here.
-/
import Derived.Test.YtkkfiadefekbbaaEq
namespace Go.Proofs.Ytkkfiadefekbbaa
open Go.RowKit

/-- Is x no number from 0 to below n? -/
def badI (n : Nat) (x : Int) : Bool := decide (x < 0) || decide ((n : Int) ≤ x)
theorem badI_neg {n : Nat} {x : Int} (h : x < 0) : true = badI n x := by simp [badI, h]
theorem badI_big {n : Nat} {x : Int} (h : (n : Int) ≤ x) : true = badI n x := by simp [badI, h]
theorem badI_ok {n : Nat} {x : Int} (h : 0 ≤ x) (h' : x < (n : Int)) : false = badI n x := by simp [badI]; omega
theorem badI_false {n : Nat} {x : Int} (h : badI n x = false) : 0 ≤ x ∧ x < (n : Int) := by simp [badI] at h; omega
theorem badI_true {n : Nat} {x : Int} (h : badI n x = true) : x < 0 ∨ (n : Int) ≤ x := by simpa [badI] using h

/-- Is one of a list no number from 0 to below n? -/
def oddL (n : Nat) (l : List Int) : Bool := l.any (badI n)
theorem oddL_hit {n k : Nat} {l : List Int} (hk : k < l.length) (h : badI n (intAt l k) = true) : oddL n l = true := by
  unfold oddL; rw [List.any_eq_true]; exact ⟨_, by first | (rw [rowAt_get hk]; exact List.getElem_mem hk) | (rw [intAt_get hk]; exact List.getElem_mem hk), h⟩
theorem oddL_miss {n : Nat} {l : List Int} (h : ∀ j, j < l.length → badI n (intAt l j) = false) : oddL n l = false := by
  unfold oddL; rw [List.any_eq_false]; intro x hx
  obtain ⟨i, hi, rfl⟩ := List.mem_iff_getElem.1 hx
  have := h i hi
  rw [intAt_get hi] at this
  simpa using this
theorem oddL_at {n k : Nat} {l : List Int} (h : oddL n l = false) (hk : k < l.length) : badI n (intAt l k) = false := by
  unfold oddL at h; rw [List.any_eq_false] at h
  have := h (intAt l k) (by first | (rw [rowAt_get hk]; exact List.getElem_mem hk) | (rw [intAt_get hk]; exact List.getElem_mem hk))
  simpa using this
theorem firstIdx_any {n : Nat} {l : List Int} : decide (0 ≤ firstIdx l.length (fun k => badI n (intAt l k))) = oddL n l := by
  rcases firstIdx_range (n := l.length) (p := fun k => badI n (intAt l k)) with h | ⟨k, hk, he, hp, _⟩
  · rw [h]; symm
    refine oddL_miss fun j hj => ?_
    unfold firstIdx at h
    split at h
    · omega
    · rename_i hf
      rw [List.find?_range_eq_none] at hf
      simpa using hf j hj
  · rw [he, oddL_hit hk hp]; simp

/-- scc.Check, watchref.Graph: what is wrong with a graph: 0 nothing, 1 a node that is none, 2 too large. -/
def chkG (g : List (List Int)) : Int := if 20000 < g.length then 2 else if g.any (oddL g.length) then 1 else 0
theorem chkG_large {g : List (List Int)} (h : 20000 < g.length) : 2 = chkG g := by simp [chkG, h]
theorem chkG_hit {g : List (List Int)} {k : Nat} (h : g.length ≤ 20000) (hk : k < g.length) (ho : oddL g.length (rowAt g k) = true) : 1 = chkG g := by
  have : g.any (oddL g.length) = true := by
    rw [List.any_eq_true]; exact ⟨_, by first | (rw [rowAt_get hk]; exact List.getElem_mem hk) | (rw [intAt_get hk]; exact List.getElem_mem hk), ho⟩
  rw [chkG, if_neg (by omega), if_pos this]
theorem chkG_miss {g : List (List Int)} (h : g.length ≤ 20000) (ho : ∀ j, j < g.length → oddL g.length (rowAt g j) = false) : 0 = chkG g := by
  have : g.any (oddL g.length) = false := by
    rw [List.any_eq_false]; intro x hx
    obtain ⟨i, hi, rfl⟩ := List.mem_iff_getElem.1 hx
    have := ho i hi
    rw [rowAt_get hi] at this
    simpa using this
  rw [chkG, if_neg (by omega), this]; rfl
theorem chkG_cases (g : List (List Int)) : chkG g = 0 ∨ chkG g = 1 ∨ chkG g = 2 := by unfold chkG; by_cases h1 : 20000 < g.length <;> by_cases h2 : g.any (oddL g.length) = true <;> simp [h1, h2]
theorem chkG_ok {g : List (List Int)} (h : chkG g = 0) : g.length ≤ 20000 ∧ ∀ j, j < g.length → oddL g.length (rowAt g j) = false := by
  unfold chkG at h
  split at h
  · cases h
  · split at h
    · cases h
    · rename_i h1 h2
      refine ⟨by omega, fun j hj => ?_⟩
      have h2' : g.any (oddL g.length) = false := by simpa using h2
      rw [List.any_eq_false] at h2'
      rw [rowAt_get hj]
      simpa using h2' _ (List.getElem_mem hj)

theorem scc_odd1 (A : Option Addr) (n c b : Nat) (x : Int) (w : World) (hc : w.cell? ⟨b, 0, none⟩ = some (.slice A n c)) :
    Calls Try.prog 98 #[.int .i64 x, .pointer (some ⟨b, 0, none⟩)] w fun e w' => e = .returned (.bool (badI n x)) ∧ ∃ q', w' = w.drewN q' := by
  by_cases h1 : x < 0
  · go_enter Try.func98, Try.ntmps98
    go_wp2
    go_ret
    exact ⟨ret_bool (badI_neg h1), 0, rfl⟩
  · by_cases h2 : (n : Int) ≤ x
    · go_enter Try.func98, Try.ntmps98
      go_wp2
      go_ret
      exact ⟨ret_bool (badI_big h2), 0, rfl⟩
    · go_enter Try.func98, Try.ntmps98
      go_wp2
      go_ret
      exact ⟨ret_bool (badI_ok (by omega) (by omega)), 0, rfl⟩

theorem enters_odd1 : ∀ args w, (callFunc 98 args).run Try.prog w = .ok (.enter 98 args) w := enters_of Try.func98 (by kernel_rfl) rfl

theorem scc_odd (A B : Option Addr) (n c m d : Nat) (l : List Int) (w : World) (hr : Ints w B m l) (hm : m ≤ 9223372036854775807) :
    Calls Try.prog 63 #[.slice A n c, .slice B m d] w fun e w' => e = .returned (.bool (oddL n l)) ∧ Below w.heap.size w w' := by
  obtain rfl := hr.len
  have hr' : Reads (w.alloc (.cells #[.slice A n c] 25)) (w.alloc (.cells #[.slice A n c] 25)).heap.size 1 B l.length (ints l) := hr.later ((Below.refl _ w).alloc (Nat.le_refl _) _)
  have hcon := containsFunc_ints B l.length d (ints l) (fun k => badI n (intAt l k)) (oddL n l) 98 #[.pointer (some ⟨w.heap.size, 0, none⟩)] enters_odd1 (w.alloc (.cells #[.slice A n c] 25))
    hr' hm (fun k q v hk hv => by
      have hv' : v = .int .i64 (intAt l k) := by
        rw [ints, List.getElem?_map, List.getElem?_eq_getElem hk] at hv
        simp at hv; rw [← hv, intAt_get hk]
      subst hv'
      exact scc_odd1 A n c w.heap.size _ _ (by simp)) firstIdx_any
  clear hr hr'
  go_enter Try.func63, Try.ntmps63
  go_wp2_with (go_at_call 84; refine hcon.mono ?_; rintro e w' ⟨rfl, q, rfl⟩)
  go_ret
  exact ⟨rfl, below_drewN ((Below.refl _ w).alloc (Nat.le_refl _) _) q⟩

set_option maxHeartbeats 400000 in
theorem scc_Check (A : Option Addr) (n c : Nat) (g : List (List Int)) (a : Nat → Option Addr) (L C : Nat → Nat) (w : World) (hg : Grid w A n g a L C) (hn : n ≤ 9223372036854775807) :
    Calls Try.prog 22 #[.slice A n c] w fun e w' => e = .returned (.int .i64 (chkG g)) ∧ Below w.heap.size w w' := by
  have HL := Lib.hid hg.len
  by_cases hbig : 20000 < n
  · go_enter Try.func22, Try.ntmps22
    go_wp2
    go_ret
    exact ⟨ret_int (chkG_large (by rw [HL.out]; exact hbig)), Below.refl _ _⟩
  · go_enter Try.func22, Try.ntmps22
    go_wp2
    go_loopg [4, 10] n (fun gg _ s10 wr => ∃ kk : Nat, kk ≤ n ∧ n - kk ≤ gg ∧ s10 = .int .i64 kk ∧ Below w.heap.size w wr ∧ Aside (∀ j, j < kk → oddL n (rowAt g j) = false))
    case atStart => exact ⟨0, Nat.zero_le _, by omega, rfl, Below.refl _ _, fun j hj => absurd hj (Nat.not_lt_zero _)⟩
    case round =>
      obtain ⟨kk, hkk, hgk, rfl, hb, H⟩ := hrel
      by_cases hlt : kk < n
      · have hltz : (kk : Int) < (n : Int) := by omega
        have hg' := hg.later hb
        obtain ⟨ad, rfl, _, hc⟩ := hg'.at_ hlt
        have hrow := hg'.row kk hlt
        have hsm := hg.small kk hlt
        clear hg hg'
        obtain ⟨row, HR⟩ : ∃ r, Hid (rowAt g kk = r) := ⟨_, rfl⟩
        rw [HR.out] at hrow
        have hcall := scc_odd (some ad) (a kk) n c (L kk) (C kk) row wr hrow hsm
        clear hrow
        cases hq : oddL n row with
        | true =>
          rw [hq] at hcall
          have HQ := Lib.hid hq
          clear hq
          go_wp2_with (go_at_call 63; refine hcall.mono ?_; rintro e w' ⟨rfl, hb'⟩)
          go_ret
          exact ⟨ret_int (chkG_hit (by rw [HL.out]; omega) (by rw [HL.out]; exact hlt) (by rw [HL.out, HR.out]; exact HQ.out)), hb.trans (hb'.mono hb.size)⟩
        | false =>
          rw [hq] at hcall
          have HQ := Lib.hid hq
          clear hq
          go_wp2_with (go_at_call 63; refine hcall.mono ?_; rintro e w' ⟨rfl, hb'⟩)
          go_roundg (n - (kk + 1))
          case measure => omega
          case rel =>
            refine ⟨kk + 1, by omega, by omega, by go_num, hb.trans (hb'.mono hb.size), (show Aside _ from fun j hj => ?_)⟩
            by_cases e : j = kk
            · subst e; rw [HR.out]; exact HQ.out
            · exact H.out j (by omega)
      · have hltz : ¬ (kk : Int) < (n : Int) := by omega
        obtain rfl : kk = n := by omega
        go_wp2
        go_ret
        exact ⟨ret_int (chkG_miss (by rw [HL.out]; omega) (by rw [HL.out]; exact H.out)), hb⟩

set_option maxHeartbeats 400000 in
theorem ref_In (A : Option Addr) (m c n : Nat) (l : List Int) (w : World) (hr : Ints w A m l) (hm : m ≤ 9223372036854775807) (r : Bool) (hres : (!oddL n l) = r) :
    Calls Try.prog 25 #[.slice A m c, .int .i64 n] w fun e w' => e = .returned (.bool r) ∧ w = w' := by
  have HRES := Lib.hid hres
  clear hres
  have HL := Lib.hid hr.len
  go_enter Try.func25, Try.ntmps25
  go_wp2
  go_loopg [5] m (fun gg s5 wr => ∃ kk : Nat, kk ≤ m ∧ m - kk ≤ gg ∧ s5 = .int .i64 kk ∧ w = wr ∧ Aside (∀ j, j < kk → badI n (intAt l j) = false))
  case atStart => exact ⟨0, Nat.zero_le _, by omega, rfl, rfl, fun j hj => absurd hj (Nat.not_lt_zero _)⟩
  case round =>
    obtain ⟨kk, hkk, hgk, rfl, rfl, H⟩ := hrel
    by_cases hlt : kk < m
    · have hltz : (kk : Int) < (m : Int) := by omega
      obtain ⟨ad, rfl, _, hc⟩ := hr.at_ hlt
      clear hr
      obtain ⟨x, HX⟩ : ∃ x, Hid (intAt l kk = x) := ⟨_, rfl⟩
      rw [HX.out] at hc
      have hend : badI n x = true → false = r := fun h => by rw [← HRES.out, oddL_hit (by rw [HL.out]; exact hlt) (by rw [HX.out]; exact h)]; rfl
      have HEND := Lib.hid hend
      clear hend
      by_cases h1 : x < 0
      · go_wp2
        go_ret
        exact ⟨ret_bool (HEND.out (badI_neg h1).symm), rfl⟩
      · by_cases h2 : (n : Int) ≤ x
        · go_wp2
          go_ret
          exact ⟨ret_bool (HEND.out (badI_big h2).symm), rfl⟩
        · go_wp2
          go_roundg (m - (kk + 1))
          case measure => omega
          case rel =>
            refine ⟨kk + 1, by omega, by omega, by go_num, rfl, (show Aside _ from fun j hj => ?_)⟩
            by_cases e : j = kk
            · subst e; rw [HX.out]; exact (badI_ok (by omega) (by omega)).symm
            · exact H.out j (by omega)
    · have hltz : ¬ (kk : Int) < (m : Int) := by omega
      obtain rfl : kk = m := by omega
      go_wp2
      go_ret
      exact ⟨ret_bool (by rw [← HRES.out, oddL_miss (by rw [HL.out]; exact H.out)]; rfl), rfl⟩

set_option maxHeartbeats 400000 in
theorem ref_Graph (A : Option Addr) (n c : Nat) (g : List (List Int)) (a : Nat → Option Addr) (L C : Nat → Nat) (w : World) (hg : Grid w A n g a L C) (hn : n ≤ 9223372036854775807) :
    Calls Try.prog 20 #[.slice A n c] w fun e w' => e = .returned (.int .i64 (chkG g)) ∧ w = w' := by
  have HL := Lib.hid hg.len
  by_cases hbig : 20000 < n
  · go_enter Try.func20, Try.ntmps20
    go_wp2
    go_ret
    exact ⟨ret_int (chkG_large (by rw [HL.out]; exact hbig)), rfl⟩
  · go_enter Try.func20, Try.ntmps20
    go_wp2
    go_loopg [3] n (fun gg s3 wr => ∃ kk : Nat, kk ≤ n ∧ n - kk ≤ gg ∧ s3 = .int .i64 kk ∧ w = wr ∧ Aside (∀ j, j < kk → oddL n (rowAt g j) = false))
    case atStart => exact ⟨0, Nat.zero_le _, by omega, rfl, rfl, fun j hj => absurd hj (Nat.not_lt_zero _)⟩
    case round =>
      obtain ⟨kk, hkk, hgk, rfl, rfl, H⟩ := hrel
      by_cases hlt : kk < n
      · have hltz : (kk : Int) < (n : Int) := by omega
        obtain ⟨ad, rfl, _, hc⟩ := hg.at_ hlt
        have hrow := hg.row kk hlt
        have hsm := hg.small kk hlt
        clear hg
        obtain ⟨row, HR⟩ : ∃ r, Hid (rowAt g kk = r) := ⟨_, rfl⟩
        rw [HR.out] at hrow
        have hcall := ref_In (a kk) (L kk) (C kk) n row w hrow hsm
        clear hrow
        cases hq : oddL n row with
        | true =>
          have hcall := hcall false (by rw [hq]; rfl)
          have HQ := Lib.hid hq
          clear hq
          go_wp2_with (go_at_call 25; refine hcall.mono ?_; rintro e w' ⟨rfl, rfl⟩)
          go_ret
          exact ⟨ret_int (chkG_hit (by rw [HL.out]; omega) (by rw [HL.out]; exact hlt) (by rw [HL.out, HR.out]; exact HQ.out)), rfl⟩
        | false =>
          have hcall := hcall true (by rw [hq]; rfl)
          have HQ := Lib.hid hq
          clear hq
          go_wp2_with (go_at_call 25; refine hcall.mono ?_; rintro e w' ⟨rfl, rfl⟩)
          go_roundg (n - (kk + 1))
          case measure => omega
          case rel =>
            refine ⟨kk + 1, by omega, by omega, by go_num, rfl, (show Aside _ from fun j hj => ?_)⟩
            by_cases e : j = kk
            · subst e; rw [HR.out]; exact HQ.out
            · exact H.out j (by omega)
      · have hltz : ¬ (kk : Int) < (n : Int) := by omega
        obtain rfl : kk = n := by omega
        go_wp2
        go_ret
        exact ⟨ret_int (chkG_miss (by rw [HL.out]; omega) (by rw [HL.out]; exact H.out)), rfl⟩

theorem ref_Goes (A : Option Addr) (n c : Nat) (g : List (List Int)) (a : Nat → Option Addr) (L C : Nat → Nat) (x y : Int) (w : World) (hg : Grid w A n g a L C) (hx : 0 ≤ x) (hx' : x < n) :
    Calls Try.prog 65 #[.slice A n c, .int .i64 x, .int .i64 y] w fun e w' => e = .returned (.bool (hasInt (rowAt g x.toNat) y)) ∧ w = w' := by
  obtain ⟨k, rfl⟩ := Int.eq_ofNat_of_zero_le hx
  have hk : k < n := by omega
  obtain ⟨ad, rfl, _, hc⟩ := hg.at_ hk
  have hcall := contains_ints (a k) (L k) (C k) (rowAt g k) y w (hg.row k hk) (hg.small k hk)
  clear hg
  rw [Int.toNat_natCast]
  obtain ⟨r, HR⟩ : ∃ r, Hid (hasInt (rowAt g k) y = r) := ⟨_, rfl⟩
  rw [HR.out] at hcall ⊢
  go_enter Try.func65, Try.ntmps65
  go_wp2_with (go_at_call 83; refine hcall.mono ?_; rintro e w' ⟨rfl, rfl⟩)
  go_ret
  exact ⟨rfl, rfl⟩
end Go.Proofs.Ytkkfiadefekbbaa
