/-
  Contracts of scc.turn, scc.Turn and watchref.Turned: the turned graph. No statement is proved here.
-/
import Derived.Test.YtkkfiadefekbbaaGrid
import Derived.Test.YtkkfiadefekbbaaScc
namespace Go.Proofs.Ytkkfiadefekbbaa
open Go.RowKit

theorem Try.infoInt : (Try.prog.info? 3).map (fun i => (i.zero, i.size, i.bytes)) = some (some (.int .i64 0), 1, 8) := by kernel_rfl
theorem Try.infoInts : (Try.prog.info? 24).map (fun i => (i.zero, i.size, i.bytes)) = some (some (.slice none 0 0), 1, 24) := by kernel_rfl

/-- The nodes below K from which one goes to b, rising. -/
def preds (g : List (List Int)) (K b : Nat) : List Int := ((List.range K).filter (fun a => hasInt (rowAt g a) b)).map Int.ofNat
theorem preds_zero (g : List (List Int)) (b : Nat) : preds g 0 b = [] := rfl
theorem preds_succ (g : List (List Int)) (K b : Nat) : preds g (K + 1) b = preds g K b ++ (if hasInt (rowAt g K) b then [(K : Int)] else []) := by
  unfold preds
  rw [List.range_succ, List.filter_append, List.map_append]
  congr 1
  by_cases h : hasInt (rowAt g K) b = true
  · simp [h]
  · simp [h]
theorem preds_len (g : List (List Int)) (K b : Nat) : (preds g K b).length ≤ K := by
  unfold preds; rw [List.length_map]; exact Nat.le_trans (List.length_filter_le _ _) (by simp)
theorem preds_lt {g : List (List Int)} {K b : Nat} {x : Int} (h : x ∈ preds g K b) : x < K := by
  unfold preds at h
  obtain ⟨a, ha, rfl⟩ := List.mem_map.1 h
  have := (List.mem_filter.1 ha).1
  simp at this
  show (a : Int) < K
  omega
/-- The turned graph. -/
def turned (g : List (List Int)) : List (List Int) := (List.range g.length).map (preds g g.length)

/-- Within row K: j elements are done. -/
def predsIn (g : List (List Int)) (K j b : Nat) : List Int := preds g K b ++ (if hasInt ((rowAt g K).take j) b then [(K : Int)] else [])
theorem predsIn_zero (g : List (List Int)) (K b : Nat) : predsIn g K 0 b = preds g K b := by simp [predsIn, hasInt]
theorem predsIn_full {g : List (List Int)} {K j b : Nat} (h : j = (rowAt g K).length) : predsIn g K j b = preds g (K + 1) b := by
  rw [predsIn, preds_succ, h, List.take_length]
theorem predsIn_len (g : List (List Int)) (K j b : Nat) : (predsIn g K j b).length ≤ K + 1 := by
  unfold predsIn
  have := preds_len g K b
  rw [List.length_append]
  split <;> simp <;> omega
theorem hasInt_take_succ {l : List Int} {j : Nat} {x y : Int} (hj : j < l.length) (hx : intAt l j = x) : hasInt (l.take (j + 1)) y = (hasInt (l.take j) y || y == x) := by
  unfold hasInt
  rw [List.take_succ_eq_append_getElem hj]
  rw [intAt_get hj] at hx
  rw [hx, List.contains_eq_any_beq, List.contains_eq_any_beq, List.any_append]
  simp
theorem predsIn_other {g : List (List Int)} {K j b : Nat} {x : Int} (hj : j < (rowAt g K).length) (hx : intAt (rowAt g K) j = x) (hb : (b : Int) ≠ x) : predsIn g K (j + 1) b = predsIn g K j b := by
  unfold predsIn
  rw [hasInt_take_succ hj hx]
  have : ((b : Int) == x) = false := by simpa using hb
  rw [this, Bool.or_false]
theorem predsIn_same {g : List (List Int)} {K j b : Nat} (hj : j < (rowAt g K).length) (hx : intAt (rowAt g K) j = (b : Int)) (h : hasInt ((rowAt g K).take j) b = true) : predsIn g K (j + 1) b = predsIn g K j b := by
  unfold predsIn
  rw [hasInt_take_succ hj hx, h]; rfl
theorem predsIn_new {g : List (List Int)} {K j b : Nat} (hj : j < (rowAt g K).length) (hx : intAt (rowAt g K) j = (b : Int)) (h : hasInt ((rowAt g K).take j) b = false) : predsIn g K (j + 1) b = predsIn g K j b ++ [(K : Int)] := by
  unfold predsIn
  rw [hasInt_take_succ hj hx, h]; simp
/-- The last one of the row that is being made is K just if K is there already. -/
theorem predsIn_last_new {g : List (List Int)} {K j b : Nat} (h : hasInt ((rowAt g K).take j) b = false) (hp : 0 < (predsIn g K j b).length) : intAt (predsIn g K j b) ((predsIn g K j b).length - 1) ≠ K := by
  have e : predsIn g K j b = preds g K b := by unfold predsIn; rw [h]; simp
  rw [e] at hp ⊢
  rw [intAt_get (by omega)]
  have := preds_lt (List.getElem_mem (l := preds g K b) (n := (preds g K b).length - 1) (by omega))
  omega
theorem predsIn_last_same {g : List (List Int)} {K j b : Nat} (h : hasInt ((rowAt g K).take j) b = true) : 0 < (predsIn g K j b).length ∧ intAt (predsIn g K j b) ((predsIn g K j b).length - 1) = K := by
  have e : predsIn g K j b = preds g K b ++ [(K : Int)] := by unfold predsIn; rw [h]; simp
  rw [e]
  simp [intAt, List.getD_eq_getElem?_getD]

set_option maxHeartbeats 1000000 in
theorem scc_turn (A : Option Addr) (n c : Nat) (g : List (List Int)) (a : Nat → Option Addr) (L C : Nat → Nat) (w : World) (hg : Grid w A n g a L C) (hn : n ≤ 1000000000) (hok : ∀ j, j < n → oddL n (rowAt g j) = false) :
    Calls Try.prog 62 #[.slice A n c] w (RetGrid w n (turned g)) := by
  have HL := Lib.hid hg.len
  have HOK := Lib.hid hok
  clear hok
  obtain ⟨i0, hi, hz0, hz1, hz2⟩ := info_parts Try.infoInt
  have hmk := run_make_row' (P := Try.prog) 25 24 (.slice none 0 0) 24 Try.underlying25 Try.infoInts rfl .i64 .i64 n (by omega) (by omega)
  go_enter Try.func62, Try.ntmps62
  go_wp2
  clear hmk
  go_loopg [4, 5, 7, 8, 14] n (fun gg _ _ _ _ s14 wr => ∃ (kk : Nat) (V : Nat → Value), kk ≤ n ∧ n - kk ≤ gg ∧ s14 = .int .i64 kk ∧ Below w.heap.size w wr ∧ w.heap.size ≤ wr.heap.size ∧
      OwnGrid wr w.heap.size w.heap.size 24 3 n V (fun b => ints (preds g kk b)))
  case atStart => exact ⟨0, _, Nat.zero_le _, by omega, rfl, (Below.refl _ _).alloc (Nat.le_refl _) _, by simp, (OwnGrid.made w _ _ n _ (Nat.le_refl _)).congr (fun i _ => by simp [preds_zero])⟩
  case round =>
    obtain ⟨kk, V, hkk, hgk, rfl, hb, hsz, HO⟩ := hrel
    by_cases hlt : kk < n
    · have hltz : (kk : Int) < (n : Int) := by omega
      have hg' := hg.later hb
      obtain ⟨ad, rfl, hadb, hc⟩ := hg'.at_ hlt
      have hsm := hg.small kk hlt
      have hrow := hg'.row kk hlt
      obtain ⟨row, HR⟩ : ∃ r, Hid (rowAt g kk = r) := ⟨_, rfl⟩
      obtain ⟨ak, HAK⟩ : ∃ x, Hid (a kk = x) := ⟨_, rfl⟩
      rw [HR.out, HAK.out] at hrow
      rw [HAK.out] at hc
      have HRL := Lib.hid hrow.len
      have hrok : ∀ j, j < L kk → 0 ≤ intAt row j ∧ intAt row j < (n : Int) := fun j hj => badI_false (oddL_at (by rw [← HR.out]; exact HOK.out kk hlt) (by rw [HRL.out]; exact hj))
      have HRO := Lib.hid hrok
      have HO1 := HO.congr (R' := fun b => ints (predsIn g kk 0 b)) (fun b _ => by rw [predsIn_zero])
      clear hrok hg' HO
      go_wp2
      go_loopg [7, 8, 21] (L kk) (fun gg _ _ s21 wi => ∃ (jj : Nat) (V : Nat → Value), jj ≤ L kk ∧ L kk - jj ≤ gg ∧ s21 = .int .i64 jj ∧ Below w.heap.size w wi ∧ w.heap.size ≤ wi.heap.size ∧
          OwnGrid wi w.heap.size w.heap.size 24 3 n V (fun b => ints (predsIn g kk jj b)))
      case atStart => exact ⟨0, V, Nat.zero_le _, by omega, rfl, hb, hsz, HO1⟩
      case round =>
        clear HO1 V hrow hc
        obtain ⟨jj, V, hjj, hgj, rfl, hbi, hszi, HO⟩ := hrel
        by_cases hjl : jj < L kk
        · have hjz : (jj : Int) < (L kk : Int) := by omega
          have hrow := hg.row kk hlt
          rw [HR.out, HAK.out] at hrow
          obtain ⟨rd, rfl, hrb, hrc⟩ := Ints.at_ (hrow.later hbi) hjl
          obtain ⟨hx0, hxn⟩ := HRO.out jj hjl
          obtain ⟨b, hb0⟩ := Int.eq_ofNat_of_zero_le hx0
          have HX := Lib.hid hb0
          rw [hb0] at hrc hxn
          clear hb0 hx0 hrow
          have hbn : b < n := by omega
          have hcell := HO.top.cell hbn
          have hown := HO.own b hbn
          obtain ⟨Ab, cb, hV, hcap, hcm, hAb⟩ := own_slice hown
          rw [hV] at hcell hown
          have hlen := predsIn_len g kk jj b
          rw [show (ints (predsIn g kk jj b)).length = (predsIn g kk jj b).length by simp [ints]] at hcell hown hcap hAb hV
          by_cases hin : hasInt ((rowAt g kk).take jj) b = true
          · obtain ⟨hpos, hlast⟩ := predsIn_last_same hin
            obtain ⟨gb, rfl, hgb1, hgb2⟩ := hAb hpos
            have hlc := hown.cellAt ((predsIn g kk jj b).length - 1) (by omega)
            rw [ints, List.getElem?_map, List.getElem?_eq_getElem (by omega), ← intAt_get (by omega), hlast] at hlc
            simp only [Option.map_some] at hlc
            have HIN := Lib.hid hin
            have HLA := Lib.hid hlast
            have HVV := Lib.hid hV
            have HREL := Lib.hid HO
            clear hin hlast hV HO hown
            generalize (predsIn g kk jj b).length = len at *
            have ht : ((len : Int) == 0) = false := by rw [beq_eq_false_iff_ne]; omega
            go_wp2
            go_roundg (L kk - (jj + 1))
            case measure => omega
            case rel => exact ⟨jj + 1, V, by omega, by omega, by go_num, hbi, hszi, HREL.out.congr (fun b' hb' => by
              by_cases e : b' = b
              · subst e; rw [predsIn_same (by rw [HR.out, HRL.out]; exact hjl) (by rw [HR.out]; exact HX.out) HIN.out]
              · rw [predsIn_other (x := (b : Int)) (by rw [HR.out, HRL.out]; exact hjl) (by rw [HR.out]; exact HX.out) (by omega)])⟩
          · have hin' : hasInt ((rowAt g kk).take jj) b = false := by simpa using hin
            have hlast := fun (h : 0 < (predsIn g kk jj b).length) => predsIn_last_new (g := g) (K := kk) (j := jj) (b := b) hin' h
            have hnew := predsIn_new (g := g) (K := kk) (j := jj) (b := b) (by rw [HR.out, HRL.out]; exact hjl) (by rw [HR.out]; exact HX.out) hin'
            have HNEW := Lib.hid hnew
            have HVV := Lib.hid hV
            have HREL := Lib.hid HO
            have HOWN := Lib.hid hown
            have hlc : 0 < (predsIn g kk jj b).length → ∃ gb y, Ab = some ⟨gb, 0, none⟩ ∧ wr.cell? ⟨gb, (predsIn g kk jj b).length - 1, none⟩ = some (.int .i64 y) ∧ (y != (kk : Int)) = true := fun hpos => by
              obtain ⟨gb, rfl, _, _⟩ := hAb hpos
              have hlc := hown.cellAt ((predsIn g kk jj b).length - 1) (by omega)
              rw [ints, List.getElem?_map, List.getElem?_eq_getElem (show (predsIn g kk jj b).length - 1 < (predsIn g kk jj b).length by omega), ← intAt_get] at hlc
              simp only [Option.map_some] at hlc
              exact ⟨gb, _, rfl, hlc, by rw [bne_iff_ne]; exact hlast hpos⟩
            have hfz : wr.frozen? ⟨w.heap.size, b, none⟩ = false := HO.top.frozen b
            clear hin hin' hlast hV HO hown hnew
            obtain ⟨len, HLEN⟩ : ∃ len, Hid ((predsIn g kk jj b).length = len) := ⟨_, rfl⟩
            rw [HLEN.out] at hlc hcell hlen
            have HOWN' : Hid (wr.ownsRow w.heap.size 3 1 (.slice Ab len cb) len (ints (predsIn g kk jj b))) := by have := HOWN.out; rw [HLEN.out] at this; exact this
            have HVV' : Hid (V b = .slice Ab len cb) := by have := HVV.out; rw [HLEN.out] at this; exact this
            clear HOWN HVV hAb hcap
            have HGO : ∀ (v' : Value) (w1 : World), w1.ownsRow w.heap.size 3 1 v' (len + 1) (ints (predsIn g kk jj b) ++ [.int .i64 kk]) → (wr.alloc (.cells #[.int .i64 kk] 3)).grownBy w1 (Value.slice Ab len cb).ownBlock →
                (v'.ownBlock = (Value.slice Ab len cb).ownBlock ∨ v'.ownBlock = some (wr.alloc (.cells #[.int .i64 kk] 3)).heap.size) →
                w1.cell? ⟨w.heap.size, b, none⟩ = some (.slice Ab len cb) ∧ w1.frozen? ⟨w.heap.size, b, none⟩ = false ∧ (∃ A' c', v' = .slice A' (len + 1) c') ∧ Below w.heap.size w (w1.setCell ⟨w.heap.size, b, none⟩ v') ∧
                OwnGrid (w1.setCell ⟨w.heap.size, b, none⟩ v') w.heap.size w.heap.size 24 3 n (fun j => if j = b then v' else V j) (fun b => ints (predsIn g kk (jj + 1) b)) := fun v' w1 h1 h2 h3 => by
              rw [← HVV'.out] at h2 h3 ⊢
              have htop := HREL.out.top_after hbn h2
              obtain ⟨A', c', hv', _⟩ := own_slice h1
              refine ⟨htop.cell hbn, htop.frozen b, ⟨A', c', hv'⟩, HREL.out.push_below hbn v' hbi hszi h2, (HREL.out.push hbn (by simp [HLEN.out]) h1 h2 h3).congr fun b' hb' => ?_⟩
              by_cases e : b' = b
              · subst e; simp only [if_true]; rw [HNEW.out]; simp [ints]
              · simp only [if_neg e]; rw [predsIn_other (x := (b : Int)) (by rw [HR.out, HRL.out]; exact hjl) (by rw [HR.out]; exact HX.out) (by omega)]
            have HGO' := Lib.hid HGO
            clear HGO HVV' HREL HNEW
            have hbig : len + 1 ≤ maxLen := by unfold maxLen; omega
            rcases Nat.eq_zero_or_pos len with h0 | hpos
            · have ht : ((len : Int) == 0) = true := by rw [beq_iff_eq]; omega
              have HB : Hid (len = 0) := h0
              clear h0 hlc
              go_wp2_with (at_builtin; refine wpList_append_own_at _ rfl (.tmp 49) (.tmp 51) 24 rfl w.heap.size 3 i0 (.int .i64 0) 1 8 Try.underlying24 hi hz0 hz1 hz2 rfl (by decide) _ _ _ rfl (HOWN'.out.alloc _) ⟨wr.heap.size, 0, none⟩ 1 1 [.int .i64 kk] rfl (by simp) (one_new _ _ _) (one_cell _ _) hbig (by omega) (by simp; omega) ?_; intro v' w1 hown' hgrow _ hat; obtain ⟨hk1, hk2, ⟨A', c', rfl⟩, hk4, hk5⟩ := HGO'.out v' w1 hown' hgrow hat)
              go_roundg (L kk - (jj + 1))
              case measure => omega
              case rel => exact ⟨jj + 1, _, by omega, by omega, by go_num, hk4, hk4.size, hk5⟩
            · obtain ⟨gb, y, rfl, hlc, hy⟩ := hlc hpos
              have ht : ((len : Int) == 0) = false := by rw [beq_eq_false_iff_ne]; omega
              go_wp2_with (at_builtin; refine wpList_append_own_at _ rfl (.tmp 49) (.tmp 51) 24 rfl w.heap.size 3 i0 (.int .i64 0) 1 8 Try.underlying24 hi hz0 hz1 hz2 rfl (by decide) _ _ _ rfl (HOWN'.out.alloc _) ⟨wr.heap.size, 0, none⟩ 1 1 [.int .i64 kk] rfl (by simp) (one_new _ _ _) (one_cell _ _) hbig (by omega) (by simp; omega) ?_; intro v' w1 hown' hgrow _ hat; obtain ⟨hk1, hk2, ⟨A', c', rfl⟩, hk4, hk5⟩ := HGO'.out v' w1 hown' hgrow hat)
              go_roundg (L kk - (jj + 1))
              case measure => omega
              case rel => exact ⟨jj + 1, _, by omega, by omega, by go_num, hk4, hk4.size, hk5⟩
        · have hjz : ¬ (jj : Int) < (L kk : Int) := by omega
          obtain rfl : jj = L kk := by omega
          go_wp2
          go_roundg (n - (kk + 1))
          case measure => omega
          case rel => exact ⟨kk + 1, V, by omega, by omega, by go_num, hbi, hszi, HO.congr (fun b _ => by rw [predsIn_full (by rw [HR.out, HRL.out])])⟩
    · have hltz : ¬ (kk : Int) < (n : Int) := by omega
      obtain rfl : kk = n := by omega
      go_wp2
      go_ret
      obtain ⟨a', L', C', hG⟩ := HO.grid
      exact ⟨_, _, a', L', C', rfl, by rw [turned, HL.out]; exact hG, hb⟩

/-- scc.Turn: with an error: nil. -/
def RetTurn (w : World) (g : List (List Int)) (e : Ending) (w' : World) : Prop := ∃ A n c a L C G, e = .returned (.tuple #[.slice A n c, .int .i64 (chkG g)]) ∧ Grid w' A n G a L C ∧ (chkG g = 0 → G = turned g) ∧ (chkG g ≠ 0 → n = 0) ∧ n ≤ 1000000000 ∧ Below w.heap.size w w'

theorem grid_nil (w : World) : Grid w none 0 [] (fun _ => none) (fun _ => 0) (fun _ => 0) := ⟨rfl, Reads.none_, fun _ h => absurd h (by omega), fun _ h => absurd h (by omega)⟩

set_option maxHeartbeats 400000 in
theorem scc_Turn (A : Option Addr) (n c : Nat) (g : List (List Int)) (a : Nat → Option Addr) (L C : Nat → Nat) (w : World) (hg : Grid w A n g a L C) (hn : n ≤ 9223372036854775807) :
    Calls Try.prog 21 #[.slice A n c] w (RetTurn w g) := by
  have HL := Lib.hid hg.len
  have hc1 := scc_Check A n c g a L C w hg hn
  obtain ⟨r, HR⟩ : ∃ r, Hid (chkG g = r) := ⟨_, rfl⟩
  have hfin : ∀ e w', RetTurn w g e w' = (∃ A n c a L C G, e = .returned (.tuple #[.slice A n c, .int .i64 r]) ∧ Grid w' A n G a L C ∧ (r = 0 → G = turned g) ∧ (r ≠ 0 → n = 0) ∧ n ≤ 1000000000 ∧ Below w.heap.size w w') := fun e w' => by unfold RetTurn; rw [HR.out]
  have HF := Lib.hid hfin
  clear hfin
  rw [HR.out] at hc1
  by_cases hr : r = 0
  · have hne : (r != 0) = false := by simpa using hr
    have HRR := Lib.hid hr
    have hsmall : n ≤ 20000 := by have := (chkG_ok (HR.out.trans hr)).1; rw [HL.out] at this; exact this
    have hok : ∀ j, j < n → oddL n (rowAt g j) = false := by have := (chkG_ok (HR.out.trans hr)).2; rw [HL.out] at this; exact this
    have hc2 := fun w' (hb : Below w.heap.size w w') => scc_turn A n c g a L C w' (hg.later hb) (by omega) hok
    have HC := Lib.hid hc2
    clear hr hok hc2 hg
    go_enter Try.func21, Try.ntmps21
    go_wp2_with (first | (go_at_call 22; refine hc1.mono ?_; rintro e w1 ⟨rfl, hb1⟩) | (go_at_call 62; refine (HC.out _ hb1).mono ?_; rintro e w2 ⟨A2, c2, a2, L2, C2, rfl, hG, hb2⟩))
    go_ret2
    rw [HF.out]
    exact ⟨A2, n, c2, a2, L2, C2, _, (by rw [HRR.out]; rfl), hG, fun _ => rfl, fun h => absurd HRR.out h, by omega, below_more hb1 hb2 hb1.size⟩
  · have hne : (r != 0) = true := by simpa using hr
    have HRR := Lib.hid hr
    clear hr hg
    go_enter Try.func21, Try.ntmps21
    go_wp2_with (go_at_call 22; refine hc1.mono ?_; rintro e w1 ⟨rfl, hb1⟩)
    go_ret2
    rw [HF.out]
    exact ⟨none, 0, 0, _, _, _, [], rfl, grid_nil _, fun h => absurd h HRR.out, fun _ => rfl, by omega, hb1⟩

set_option maxHeartbeats 1000000 in
theorem ref_Turned (A : Option Addr) (n c : Nat) (g : List (List Int)) (a : Nat → Option Addr) (L C : Nat → Nat) (w : World) (hg : Grid w A n g a L C) (hn : n ≤ 1000000000) :
    Calls Try.prog 24 #[.slice A n c] w (RetGrid w n (turned g)) := by
  have HL := Lib.hid hg.len
  obtain ⟨i0, hi, hz0, hz1, hz2⟩ := info_parts Try.infoInt
  have hmk := run_make_row' (P := Try.prog) 25 24 (.slice none 0 0) 24 Try.underlying25 Try.infoInts rfl .i64 .i64 n (by omega) (by omega)
  go_enter Try.func24, Try.ntmps24
  go_wp2
  clear hmk
  go_loopg [4, 5] n (fun gg s4 _ wr => ∃ (bb : Nat) (V : Nat → Value), bb ≤ n ∧ n - bb ≤ gg ∧ s4 = .int .i64 bb ∧ Below w.heap.size w wr ∧
      OwnGrid wr w.heap.size w.heap.size 24 3 n V (fun b => ints (preds g (if b < bb then n else 0) b)))
  case atStart => exact ⟨0, _, Nat.zero_le _, by omega, rfl, (Below.refl _ _).alloc (Nat.le_refl _) _, (OwnGrid.made w _ _ n _ (Nat.le_refl _)).congr (fun i _ => by simp [preds_zero])⟩
  case round =>
    obtain ⟨bb, V, hbb, hgb, rfl, hb, HO⟩ := hrel
    by_cases hlt : bb < n
    · have hltz : (bb : Int) < (n : Int) := by omega
      have HO1 := HO.congr (R' := fun b => ints (preds g (if b < bb then n else if b = bb then 0 else 0) b)) (fun b _ => by simp)
      clear HO
      go_wp2
      go_loopg [5] n (fun gg s5 wi => ∃ (aa : Nat) (V : Nat → Value), aa ≤ n ∧ n - aa ≤ gg ∧ s5 = .int .i64 aa ∧ Below w.heap.size w wi ∧
          OwnGrid wi w.heap.size w.heap.size 24 3 n V (fun b => ints (preds g (if b < bb then n else if b = bb then aa else 0) b)))
      case atStart => exact ⟨0, V, Nat.zero_le _, by omega, rfl, hb, HO1⟩
      case round =>
        clear HO1 V
        obtain ⟨aa, V, haa, hga, rfl, hbi, HO⟩ := hrel
        by_cases hal : aa < n
        · have halz : (aa : Int) < (n : Int) := by omega
          have hcall := ref_Goes A n c g a L C aa bb wr (hg.later hbi) (by omega) (by omega)
          rw [Int.toNat_natCast] at hcall
          have hps := preds_succ g aa bb
          cases hq : hasInt (rowAt g aa) bb with
          | false =>
            rw [hq] at hcall hps
            have HPS := Lib.hid hps
            have HREL := Lib.hid HO
            clear hps hq HO
            go_wp2_with (go_at_call 65; refine hcall.mono ?_; rintro e w1 ⟨rfl, rfl⟩)
            go_roundg (n - (aa + 1))
            case measure => omega
            case rel => exact ⟨aa + 1, V, by omega, by omega, by go_num, hbi, HREL.out.congr fun b hb' => by
              by_cases e : b = bb
              · subst e; simp only [Nat.lt_irrefl, if_false, if_true]; rw [HPS.out]; simp
              · simp only [if_neg e]⟩
          | true =>
            rw [hq] at hcall hps
            have hcell := HO.top.cell hlt
            have hown := HO.own bb hlt
            simp only [Nat.lt_irrefl, if_false, if_true] at hown
            obtain ⟨Ab, cb, hV, hcap, hcm, hAb⟩ := own_slice hown
            rw [hV] at hcell hown
            have hlen := preds_len g aa bb
            rw [show (ints (preds g aa bb)).length = (preds g aa bb).length by simp [ints]] at hcell hown hV
            have hfz : wr.frozen? ⟨w.heap.size, bb, none⟩ = false := HO.top.frozen bb
            have HGO : ∀ (v' : Value) (w1 : World), w1.ownsRow w.heap.size 3 1 v' ((preds g aa bb).length + 1) (ints (preds g aa bb) ++ [.int .i64 aa]) → (wr.alloc (.cells #[.int .i64 aa] 3)).grownBy w1 (Value.slice Ab (preds g aa bb).length cb).ownBlock →
                (v'.ownBlock = (Value.slice Ab (preds g aa bb).length cb).ownBlock ∨ v'.ownBlock = some (wr.alloc (.cells #[.int .i64 aa] 3)).heap.size) →
                w1.cell? ⟨w.heap.size, bb, none⟩ = some (.slice Ab (preds g aa bb).length cb) ∧ w1.frozen? ⟨w.heap.size, bb, none⟩ = false ∧ (∃ A' c', v' = .slice A' ((preds g aa bb).length + 1) c') ∧ Below w.heap.size w (w1.setCell ⟨w.heap.size, bb, none⟩ v') ∧
                OwnGrid (w1.setCell ⟨w.heap.size, bb, none⟩ v') w.heap.size w.heap.size 24 3 n (fun j => if j = bb then v' else V j) (fun b => ints (preds g (if b < bb then n else if b = bb then aa + 1 else 0) b)) := fun v' w1 h1 h2 h3 => by
              rw [← hV] at h2 h3 ⊢
              have htop := HO.top_after hlt h2
              obtain ⟨A', c', hv', _⟩ := own_slice h1
              refine ⟨htop.cell hlt, htop.frozen bb, ⟨A', c', hv'⟩, HO.push_below hlt v' hbi hbi.size h2, (HO.push (m := (preds g aa bb).length + 1) (xs := [.int .i64 aa]) hlt (by simp [ints]) (by simpa only [Nat.lt_irrefl, if_false, if_true] using h1) h2 h3).congr fun b hb' => ?_⟩
              by_cases e : b = bb
              · subst e; simp only [Nat.lt_irrefl, if_false, if_true]; rw [hps]; simp [ints]
              · simp only [if_neg e]
            have HGO' := Lib.hid HGO
            have HOWN := Lib.hid hown
            clear HGO hV HO hps hq hown hAb hcap
            generalize (preds g aa bb).length = len at *
            have hbig : len + 1 ≤ maxLen := by unfold maxLen; omega
            go_wp2_with (first | (go_at_call 65; refine hcall.mono ?_; rintro e w1 ⟨rfl, rfl⟩) | (at_builtin; refine wpList_append_own_at _ rfl (.tmp 30) (.tmp 32) 24 rfl w.heap.size 3 i0 (.int .i64 0) 1 8 Try.underlying24 hi hz0 hz1 hz2 rfl (by decide) _ _ _ rfl (HOWN.out.alloc _) ⟨wr.heap.size, 0, none⟩ 1 1 [.int .i64 aa] rfl (by simp) (one_new _ _ _) (one_cell _ _) hbig (by omega) (by have := hbi.size; simp; omega) ?_; intro v' w1 hown' hgrow _ hat; obtain ⟨hk1, hk2, ⟨A', c', rfl⟩, hk4, hk5⟩ := HGO'.out v' w1 hown' hgrow hat))
            go_roundg (n - (aa + 1))
            case measure => omega
            case rel => exact ⟨aa + 1, _, by omega, by omega, by go_num, hk4, hk5⟩
        · have halz : ¬ (aa : Int) < (n : Int) := by omega
          obtain rfl : aa = n := by omega
          go_wp2
          go_roundg (aa - (bb + 1))
          case measure => omega
          case rel => exact ⟨bb + 1, V, by omega, by omega, by go_num, hbi, HO.congr (fun b _ => by
            by_cases e : b = bb
            · subst e; simp
            · by_cases e' : b < bb
              · rw [if_pos e', if_pos (by omega)]
              · rw [if_neg e', if_neg e, if_neg (by omega)])⟩
    · have hltz : ¬ (bb : Int) < (n : Int) := by omega
      obtain rfl : bb = n := by omega
      go_wp2
      go_ret
      obtain ⟨a', L', C', hG⟩ := (HO.congr (R' := fun b => ints (preds g bb b)) (fun b hb' => by rw [if_pos hb'])).grid
      exact ⟨_, _, a', L', C', rfl, by rw [turned, HL.out]; exact hG, hb⟩
end Go.Proofs.Ytkkfiadefekbbaa
