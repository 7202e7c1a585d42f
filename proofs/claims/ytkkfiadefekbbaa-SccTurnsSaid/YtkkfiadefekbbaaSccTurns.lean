/-
  watchlaw.SccTurns returns true for every graph, and it leaves memory as it was but for new blocks. No conditions.
-/
import Derived.Test.YtkkfiadefekbbaaTurn
import Derived.Test.YtkkfiadefekbbaaEqF
import Derived.Test.YtkkfiadefekbbaaFrame
namespace Go.Proofs.Ytkkfiadefekbbaa
open Go.RowKit


set_option maxHeartbeats 1000000 in
theorem sccTurns_walk (A : Option Addr) (n c : Nat) (g : List (List Int)) (a : Nat → Option Addr) (L C : Nat → Nat) (w : World) (hg : Grid w A n g a L C) (hn : n ≤ 9223372036854775807) :
    Calls Try.prog 5 #[.slice A n c] w (RetTrue w) := by
  have h1 := fun w' (hb : Below w.heap.size w w') => ref_Graph A n c g a L C w' (hg.later hb) hn
  have h2 := fun w' (hb : Below w.heap.size w w') => scc_Turn A n c g a L C w' (hg.later hb) hn
  have h3 := fun w' (hb : Below w.heap.size w w') => scc_Check A n c g a L C w' (hg.later hb) hn
  have HL := Lib.hid hg.len
  have HF : Hid (∀ w' , Calls Try.prog 21 #[.slice A n c] w' (RetTurn w' g) → Calls Try.prog 21 #[.slice A n c] w' fun e w'' => ∃ A n c a L C G, e = .returned (.tuple #[.slice A n c, .int .i64 (chkG g)]) ∧ Grid w'' A n G a L C ∧ (chkG g = 0 → G = turned g) ∧ (chkG g ≠ 0 → n = 0) ∧ n ≤ 1000000000 ∧ Below w'.heap.size w' w'') := fun w' h => h
  have H2 : Hid (∀ w', Below w.heap.size w w' → _) := fun w' hb => HF.out w' (h2 w' hb)
  clear h2 HF
  have hcr := chkG_cases g
  have HOK := Lib.hid (fun h => chkG_ok (g := g) h)
  have HGRID : Hid (∀ w', Below w.heap.size w w' → Grid w' A n g a L C) := fun w' hb => hg.later hb
  clear hg
  obtain ⟨r, HR⟩ : ∃ r, Hid (chkG g = r) := ⟨_, rfl⟩
  have H1 := Lib.hid h1
  have H3 := Lib.hid h3
  clear h1 h3
  rw [HR.out] at H1 H2 H3 HOK hcr
  by_cases hr : r = 0
  · have HRR := Lib.hid hr
    have hb0 : (r != r) = false := by simp
    have hne : (r != 0) = false := by simpa using hr
    clear hr hcr
    by_cases hbig : 300 < n
    · go_enter Try.func5, Try.ntmps5
      go_wp2_with (first | (go_at_call 20; refine (H1.out _ (Below.refl _ _)).mono ?_; rintro e w1 ⟨rfl, rfl⟩) | (go_at_call 21; refine (H2.out _ (Below.refl _ _)).mono ?_; rintro e w2 ⟨A2, n2, c2, a2, L2, C2, G2, rfl, hG2, HG2, HN2, hn2, hb2⟩; have HHG := Lib.hid HG2; have HHN := Lib.hid HN2; clear HG2 HN2) | (go_at_call 22; refine (H3.out _ hb2).mono ?_; rintro e w3 ⟨rfl, hb3⟩))
      go_ret
      exact ⟨rfl, hb2.trans (hb3.mono hb2.size)⟩
    · have h4 := fun w' (hb : Below w.heap.size w w') => ref_Turned A n c g a L C w' (HGRID.out w' hb) (by omega)
      have H4 : Hid (∀ w', Below w.heap.size w w' → Calls Try.prog 24 #[.slice A n c] w' fun e w'' => ∃ A c a L C, e = .returned (.slice A n c) ∧ Grid w'' A n (turned g) a L C ∧ Below w'.heap.size w' w'') := h4
      have h5 := fun (A2 A4 : Option Addr) (n2 c2 c4 : Nat) (a2 a4 : Nat → Option Addr) (L2 C2 L4 C4 : Nat → Nat) (G2 : List (List Int)) w' (hg2 : Grid w' A2 n2 G2 a2 L2 C2) (hg4 : Grid w' A4 n (turned g) a4 L4 C4) (hn2 : n2 ≤ 1000000000) (he : eqL G2 (turned g) = true) =>
        (law_lists A2 A4 n2 n c2 c4 G2 (turned g) a2 a4 L2 C2 L4 C4 w' hg2 hg4 (by omega)).mono (R' := fun e w'' => e = .returned (.bool true) ∧ ∃ q, w'' = w'.drewN q) fun e w'' ⟨h, k⟩ => ⟨by rw [h, he], k⟩
      have H5 := Lib.hid h5
      clear h4 h5
      go_enter Try.func5, Try.ntmps5
      go_wp2_with (first | (go_at_call 20; refine (H1.out _ (Below.refl _ _)).mono ?_; rintro e w1 ⟨rfl, rfl⟩) | (go_at_call 21; refine (H2.out _ (Below.refl _ _)).mono ?_; rintro e w2 ⟨A2, n2, c2, a2, L2, C2, G2, rfl, hG2, HG2, HN2, hn2, hb2⟩; have HHG := Lib.hid HG2; have HHN := Lib.hid HN2; clear HG2 HN2) | (go_at_call 22; refine (H3.out _ hb2).mono ?_; rintro e w3 ⟨rfl, hb3⟩) | (go_at_call 24; refine (H4.out _ (below_more hb2 hb3 hb2.size)).mono ?_; rintro e w4 ⟨A4, c4, a4, L4, C4, rfl, hG4, hb4⟩) | (go_at_call 23; refine (H5.out A2 A4 n2 c2 c4 a2 a4 L2 C2 L4 C4 G2 _ ((hG2.later hb3).later hb4) hG4 hn2 (by rw [HHG.out HRR.out]; simp [eqL])).mono ?_; rintro e w5 ⟨rfl, q, rfl⟩))
      go_ret
      exact ⟨rfl, below_drewN (below_more (below_more hb2 hb3 hb2.size) hb4 (Nat.le_trans hb2.size hb3.size)) q⟩
  · have HRR := Lib.hid hr
    have hb0 : (r != r) = false := by simp
    have hne : (r != 0) = true := by simpa using hr
    clear hr hcr
    go_enter Try.func5, Try.ntmps5
    go_wp2_with (first | (go_at_call 20; refine (H1.out _ (Below.refl _ _)).mono ?_; rintro e w1 ⟨rfl, rfl⟩) | (go_at_call 21; refine (H2.out _ (Below.refl _ _)).mono ?_; rintro e w2 ⟨A2, n2, c2, a2, L2, C2, G2, rfl, hG2, HG2, HN2, hn2, hb2⟩; obtain rfl := HN2 HRR.out; clear HG2 HN2) | (go_at_call 22; refine (H3.out _ hb2).mono ?_; rintro e w3 ⟨rfl, hb3⟩))
    go_ret
    exact ⟨rfl, hb2.trans (hb3.mono hb2.size)⟩

end Go.Proofs.Ytkkfiadefekbbaa
