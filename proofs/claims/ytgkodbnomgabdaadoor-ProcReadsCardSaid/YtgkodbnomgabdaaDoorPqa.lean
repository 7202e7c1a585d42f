/-
  proc.Print's walk, by the Builder's contracts. No statement is proved here.
-/
import Derived.Test.YtgkodbnomgabdaaDoorPq9
namespace Go.Proofs.YtgkodbnomgabdaaDoor
open Go.RowKit Go.Shelf
set_option linter.unusedSimpArgs false
set_option linter.unusedVariables false
set_option maxRecDepth 100000 in
set_option maxHeartbeats 1000000 in
theorem proc_Print_run (P : ProcD) (h0 : P.chk = 0) (hc : PCall Tryd.prog 16 [dproc P] (.sc (.int .i64 0))) (w : World) (A A2 : Option Addr) (c c2 : Nat)
    (hr : rep noInj (fun b => b < w.heap.size) w (dproc P) (.agg #[.slice A P.nodes.length c, .slice A2 P.flows.length c2]))
    (hN : RowsAt w w.heap.size A (P.nodes.map nrow)) (hF : RowsAt w w.heap.size A2 (P.flows.map frow)) :
    Calls Tryd.prog 6 #[.agg #[.slice A P.nodes.length c, .slice A2 P.flows.length c2]] w fun e w' => e = .returned (.tuple #[.string (textP P P.flows), .int .i64 0]) ∧ Below w.heap.size w w' := by
  obtain ⟨B, hB⟩ : ∃ B, B = w.heap.size := ⟨_, rfl⟩
  have hck : ∀ w', Below w.heap.size w w' → Calls Tryd.prog 16 #[.agg #[.slice A P.nodes.length c, .slice A2 P.flows.length c2]] w' fun e w'' => e = .returned (.int .i64 0) ∧ Below w'.heap.size w' w'' := fun w' hb => by
    refine pcall_calls hc w' [_] ?_
    simp only [repL]
    exact ⟨_, [], rfl, rep_mono (Inj.le_refl _) (fun b hb' => Nat.lt_of_lt_of_le hb' hb.size) (fun b hb' => hb.block b hb') _ _ hr, rfl⟩
  obtain ⟨c1, c2', c3, c4⟩ := chk_right h0
  go_enter Tryd.func6, Tryd.ntmps6
  go_wp2_with (go_at_call 16; refine (hck _ ((Below.refl _ w).alloc (Nat.le_refl _) _)).mono ?_; rintro e w1 ⟨rfl, hb1⟩; obtain ⟨k0, k1, hI⟩ := start_print hb1)
  go_loopg [18] P.nodes.length (fun gg s18 wr => ∃ kk : Nat, kk ≤ P.nodes.length ∧ P.nodes.length - kk ≤ gg ∧ s18 = .int .i64 kk ∧ PrI w w1.heap.size A A2 P.nodes.length c P.flows.length c2 (textN (P.nodes.take kk)) wr)
  case atStart => exact ⟨0, Nat.zero_le _, by omega, rfl, hI⟩
  case round =>
    obtain ⟨kk, hkk, hgk, rfl, hI⟩ := hrel
    by_cases hlt : kk < P.nodes.length
    · have hltz : (kk : Int) < (P.nodes.length : Int) := by omega
      obtain ⟨bA, o, rfl, hbA, hc0, hc1⟩ := node_cells hN hI.below kk hlt
      have hsm : P.nodes.length ≤ 20 := c1
      go_wp2
      clear k0 k1
      obtain ⟨q1, q2, q3⟩ := c3 kk hlt
      obtain ⟨ea, eb⟩ := name_at hlt
      rw [ea, eb] at *
      obtain ⟨hm, m0, m1, mb, hX⟩ := hI.node (P.name kk) (P.kind kk)
      have hts := textN_size h0 kk hkk
      have hns := nodeT_size h0 hlt
      have hst := textN_step hlt
      unfold nodeT at hns hst
      rw [(name_at hlt).1, (name_at hlt).2] at hns hst
      generalize hwx : wr.alloc (Obj.cells #[Value.string (P.name kk), Value.int IntKind.i64 (P.kind kk)] 37) = wx at *
      generalize wr.heap.size = m at *
      clear ea eb hwx
      have hst := Lib.hid hst
      have ws := wordK_size (P.kind kk).toNat (by omega)
      have hsum : (textN (P.nodes.take kk)).size + (wordK (P.kind kk).toNat ++ ⟨#[32]⟩ ++ P.name kk ++ ⟨#[10]⟩).size ≤ 1000000 := by
        have : (wordK (P.kind kk).toNat ++ ⟨#[32]⟩ ++ P.name kk ++ ⟨#[10]⟩).size ≤ 100 := hns
        omega
      generalize hln : wordK (P.kind kk).toNat ++ ⟨#[32]⟩ ++ P.name kk ++ ⟨#[10]⟩ = ln at hsum
      generalize htx : textN (P.nodes.take kk) = tx at hsum hX
      have hWR := fun s hs => PrI.writes w w1.heap.size (some ⟨bA, o, none⟩) A2 P.nodes.length c P.flows.length c2 tx s ln hs hsum
      have hln := Lib.hid hln
      have htx := Lib.hid htx
      clear hsum
      have hCW := fun w => call_wordI (P.kind kk) q2 q3 w
      go_region_with (first
        | (go_at_call 18; refine (hCW _).mono ?_; rintro e w2 ⟨rfl, hb2⟩; obtain ⟨m02, m12, mb2, hX2⟩ := later_node hm m0 m1 mb hX hb2)
        | (go_at_call 17; refine (hWR _ rfl _ hX2).mono ?_; rintro e w3 ⟨rfl, hI3⟩))
      all_goals
        have hnew : PrI w w1.heap.size (some ⟨bA, o, none⟩) A2 P.nodes.length c P.flows.length c2 (textN (P.nodes.take (kk + 1))) w3 := by
          rw [hst.out, htx.out]
          exact hln.out ▸ hI3
        clear hst htx hln hI3 hX2 hX mb2 mb m02 m12 hb2
        go_wp2
        go_roundg (P.nodes.length - (kk + 1))
        case measure => omega
        case rel => exact ⟨kk + 1, by omega, by omega, by go_num, hnew⟩
    · have hltz : ¬ (kk : Int) < (P.nodes.length : Int) := by omega
      have he : kk = P.nodes.length := by omega
      rw [he, List.take_of_length_le (Nat.le_refl _)] at hI
      have hbx : wr.cell? ⟨w.heap.size, 1, none⟩ = some (.slice A2 P.flows.length c2) := by rw [Lib.cell_of_heap hI.box]; rfl
      clear k0 k1
      go_wp2
      go_loopg [35] P.flows.length (fun gg s35 wr => ∃ k2 : Nat, k2 ≤ P.flows.length ∧ P.flows.length - k2 ≤ gg ∧ s35 = .int .i64 k2 ∧ PrI w w1.heap.size A A2 P.nodes.length c P.flows.length c2 (textP P (P.flows.take k2)) wr)
      case atStart => exact ⟨0, Nat.zero_le _, by omega, rfl, hI⟩
      case round =>
        clear hI hbx
        obtain ⟨k2, hk2, hgk2, rfl, hI⟩ := hrel
        by_cases hlt2 : k2 < P.flows.length
        · have hltz2 : (k2 : Int) < (P.flows.length : Int) := by omega
          obtain ⟨r1, r2, r3, r4⟩ := c4 k2 hlt2
          obtain ⟨bF, oF, rfl, hbF, hd0, hd1⟩ := flow_cells hF hI.below k2 hlt2
          rw [flow_eq hlt2] at hd0 hd1
          obtain ⟨bA, oA, rfl, hbA, hs0, _⟩ := node_cells hN hI.below (P.src k2).toNat (by omega)
          obtain ⟨_, _, e9, _, ht0, _⟩ := node_cells hN hI.below (P.dst k2).toNat (by omega)
          cases e9
          rw [(name_at (i := (P.src k2).toNat) (by omega)).1] at hs0
          rw [(name_at (i := (P.dst k2).toNat) (by omega)).1] at ht0
          dsimp only at hd0 hd1
          have hbx : wr.cell? ⟨w.heap.size, 0, none⟩ = some (.slice (some ⟨bA, oA, none⟩) P.nodes.length c) := by rw [Lib.cell_of_heap hI.box]; rfl
          go_wp2
          obtain ⟨m0, m1, hX, hk⟩ := hI.flow (P.src k2) (P.dst k2)
          have hbx := hk _ _ _ (Nat.le_refl _) hbx
          have hs0 := hk _ _ _ (Nat.le_of_lt hbA) hs0
          have ht0 := hk _ _ _ (Nat.le_of_lt hbA) ht0
          clear hk
          have n1 := (c3 (P.src k2).toNat (by omega)).1
          have n2 := (c3 (P.dst k2).toNat (by omega)).1
          generalize wr.alloc (Obj.cells #[Value.int IntKind.i64 (P.src k2), Value.int IntKind.i64 (P.dst k2)] 40) = wx at *
          generalize wr.heap.size = m at *
          have g1 : ({ heap := wx.heap, tape := wx.tape, drawn := wx.drawn + 1, os := wx.os, output := wx.output } : World).cell? ⟨w.heap.size, 0, none⟩ = some (.slice (some ⟨bA, oA, none⟩) P.nodes.length c) := hbx
          have g2 : ({ heap := wx.heap, tape := wx.tape, drawn := wx.drawn + 1, os := wx.os, output := wx.output } : World).cell? ⟨bA, oA + (P.src k2).toNat * 2, none⟩ = some (.string (P.name (P.src k2).toNat)) := hs0
          have g3 : ({ heap := wx.heap, tape := wx.tape, drawn := wx.drawn + 1, os := wx.os, output := wx.output } : World).cell? ⟨bA, oA + (P.dst k2).toNat * 2, none⟩ = some (.string (P.name (P.dst k2).toNat)) := ht0
          have g4 : ({ heap := wx.heap, tape := wx.tape, drawn := wx.drawn + 1, os := wx.os, output := wx.output } : World).cell? ⟨m, 0, none⟩ = some (.int .i64 (P.src k2)) := m0
          have g5 : ({ heap := wx.heap, tape := wx.tape, drawn := wx.drawn + 1, os := wx.os, output := wx.output } : World).cell? ⟨m, 1, none⟩ = some (.int .i64 (P.dst k2)) := m1
          clear hbx hs0 ht0 m0 m1
          have hX2 : PrI w w1.heap.size (some ⟨bA, oA, none⟩) (some ⟨bF, oF, none⟩) P.nodes.length c P.flows.length c2 (textP P (P.flows.take k2)) ({ heap := wx.heap, tape := wx.tape, drawn := wx.drawn + 1, os := wx.os, output := wx.output } : World) := hX
          clear hX
          refine wp_region_still_tail 18 (by kernel_rfl) (by kernel_rfl) ?_
          simp only [List.take_succ_cons, List.take_zero, List.drop_succ_cons, List.drop_zero]
          generalize ({ heap := wx.heap, tape := wx.tape, drawn := wx.drawn + 1, os := wx.os, output := wx.output } : World) = w2 at *
          have f1 : ¬ 9223372036854775807 < 5 + (P.name (P.src k2).toNat).size := by omega
          have f2 : ¬ 9223372036854775807 < 5 + (P.name (P.src k2).toNat).size + 1 := by omega
          have f3 : ¬ 9223372036854775807 < 5 + (P.name (P.src k2).toNat).size + 1 + (P.name (P.dst k2).toNat).size := by omega
          have f4 : ¬ 9223372036854775807 < 5 + (P.name (P.src k2).toNat).size + 1 + (P.name (P.dst k2).toNat).size + 1 := by omega
          repeat still_step
          try refine wpStill_nil ?_
          have hts := textP_size h0 k2 hk2
          have hns := flowT_size h0 hlt2
          have hst := Lib.hid (textP_step hlt2)
          have hsum : (textP P (P.flows.take k2)).size + (⟨#[102, 108, 111, 119, 32]⟩ ++ P.name (P.src k2).toNat ++ ⟨#[32]⟩ ++ P.name (P.dst k2).toNat ++ ⟨#[10]⟩ : ByteArray).size ≤ 1000000 := by
            have : (⟨#[102, 108, 111, 119, 32]⟩ ++ P.name (P.src k2).toNat ++ ⟨#[32]⟩ ++ P.name (P.dst k2).toNat ++ ⟨#[10]⟩ : ByteArray).size ≤ 100 := hns
            omega
          have hfl : flowT P (P.src k2, P.dst k2) = (⟨#[102, 108, 111, 119, 32]⟩ ++ P.name (P.src k2).toNat ++ ⟨#[32]⟩ ++ P.name (P.dst k2).toNat ++ ⟨#[10]⟩ : ByteArray) := rfl
          generalize hln : (⟨#[102, 108, 111, 119, 32]⟩ ++ P.name (P.src k2).toNat ++ ⟨#[32]⟩ ++ P.name (P.dst k2).toNat ++ ⟨#[10]⟩ : ByteArray) = ln at hsum hfl
          have hfl := Lib.hid hfl
          generalize htx : textP P (P.flows.take k2) = tx at hsum hX2
          have htx := Lib.hid htx
          have hWR := fun s hs => PrI.writes w w1.heap.size (some ⟨bA, oA, none⟩) (some ⟨bF, oF, none⟩) P.nodes.length c P.flows.length c2 tx s ln hs hsum
          clear hsum hns hts
          go_wp2_with (go_at_call 17; refine (hWR _ (by first | rfl | exact hln) _ hX2).mono ?_; rintro e w3 ⟨rfl, hI3⟩)
          have hnew : PrI w w1.heap.size (some ⟨bA, oA, none⟩) (some ⟨bF, oF, none⟩) P.nodes.length c P.flows.length c2 (textP P (P.flows.take (k2 + 1))) w3 := by
            rw [hst.out, htx.out, hfl.out]
            exact hI3
          go_roundg (P.flows.length - (k2 + 1))
          case measure => omega
          case rel => exact ⟨k2 + 1, by omega, by omega, by go_num, hnew⟩
        · have hltz2 : ¬ (k2 : Int) < (P.flows.length : Int) := by omega
          have he2 : k2 = P.flows.length := by omega
          rw [he2, List.take_of_length_le (Nat.le_refl _)] at hI
          have hS := bld_string w.heap.size w1.heap.size _ wr hI.bld hI.below.size
          go_wp2_with (go_at_call 19; refine hS.mono ?_; rintro e w4 ⟨rfl, hb4⟩)
          go_ret2
          exact ⟨rfl, hI.below.trans hb4⟩
end Go.Proofs.YtgkodbnomgabdaaDoor
