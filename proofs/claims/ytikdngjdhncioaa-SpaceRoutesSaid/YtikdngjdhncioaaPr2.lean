/-
  The program's check of a process, over deep values. No statement is proved here.
-/
import Derived.Test.YtikdngjdhncioaaPr1
namespace Go.Proofs.Ytikdngjdhncioaa
open Go.RowKit
set_option linter.unusedSimpArgs false
set_option linter.unusedVariables false
def icell (n : Int) : List D := [.sc (.int .i64 n)]
theorem under_icell {m : Nat} (n : Int) : UnderL m (icell n) := by simp [icell, UnderL, Under]
theorem sumTo_const {f : Nat → Nat} {c : Nat} : ∀ n, (∀ j, j < n → f j ≤ c) → sumTo f n ≤ n * c
  | 0, _ => by simp [sumTo]
  | n + 1, h => by
    simp only [sumTo]
    have h1 := sumTo_const n fun j hj => h j (by omega)
    have h2 := h n (by omega)
    rw [Nat.add_mul]
    omega
theorem graph_fine (P : ProcD) (h1 : P.nodes.length ≤ 20) (h2 : P.flows.length ≤ 30) (hf : ∀ i, i < P.flows.length → P.flowOK i = true) :
    chkG (P.graph P.flows.length) = 0 ∧ FitsG (P.graph P.flows.length) ∧ potG (P.graph P.flows.length) (fun _ => false) ≤ 600 := by
  have hl := P.graph_len P.flows.length
  have row : ∀ l ∈ P.graph P.flows.length, ∃ u, l = (P.graph P.flows.length).getD u [] := fun l hl => by
    obtain ⟨u, hu, rfl⟩ := List.mem_iff_getElem.1 hl
    exact ⟨u, by rw [List.getD_eq_getElem?_getD, List.getElem?_eq_getElem hu]; rfl⟩
  refine ⟨chkG_zero.2 ⟨by omega, fun l h => ?_⟩, ⟨by omega, fun l h => ?_⟩, ?_⟩
  · obtain ⟨u, rfl⟩ := row l h
    refine inB_of fun x hx => ?_
    obtain ⟨i, q1, _, q3⟩ := (ProcD.graph_mem hf).1 hx
    have := ProcD.flowOK_iff.1 (hf i q1)
    rw [hl]
    omega
  · obtain ⟨u, rfl⟩ := row l h
    have := (P.graph_row P.flows.length u).2
    omega
  · have := sumTo_const (f := fun v => if false = true then 0 else ((P.graph P.flows.length).getD v []).length) (c := 30) (P.graph P.flows.length).length fun j _ => by
      have := (P.graph_row P.flows.length j).2
      simp only [Bool.false_eq_true, if_false]
      omega
    unfold potG
    refine Nat.le_trans this ?_
    rw [hl]
    omega
theorem deep_gridV {H : List AObj} {id v n : Nat} {q : Bool} {L : List (List Int)} (h : H[id]? = some (.vec q v 1 (L.map fun l => [dints l]))) (hn : n = L.length) : Deep H (.own id v 0 n) (dgrid L) := by
  subst hn
  exact .own _ _ _ _ _ _ _ _ h (by rw [drop_take_all (by simp)]; exact deepLL_refl _)
def c62_1 : PC := .seq (.ops [⟨(some 38), .bin .lss (.tmp 37) (.tmp 36), none, 0⟩] false) (.seq (.cond (.tmp 38) (.skip) (.exit 0)) (.seq (.block 1 (.seq (.ops [⟨(some 39), .iaddr 2 (.tmp 35) (.tmp 37), none, 0⟩,
    ⟨(some 40), .loadA 2 (.tmp 39), none, 0⟩,
    ⟨(some 6), .alloc [(.int .i64 0), (.int .i64 0)], none, 0⟩,
    ⟨none, .store 2 (.tmp 6) (.tmp 40), none, 0⟩] false) (.seq (.seq (.ops [⟨(some 41), .faddr 0 (.tmp 6), none, 0⟩,
    ⟨(some 42), .load1 (.tmp 41), none, 0⟩,
    ⟨(some 43), .bin .lss (.tmp 42) (.const (.int .i64 0)), none, 0⟩,
    ⟨(some 44), .move (.tmp 43), none, 0⟩,
    ⟨(some 45), .faddr 0 (.tmp 6), (some (44, false)), 0⟩,
    ⟨(some 46), .load1 (.tmp 45), (some (44, false)), 0⟩,
    ⟨(some 47), .move (.tmp 4), (some (44, false)), 0⟩,
    ⟨(some 48), .len (.tmp 47), (some (44, false)), 0⟩,
    ⟨(some 49), .bin .geq (.tmp 46) (.tmp 48), (some (44, false)), 0⟩,
    ⟨(some 50), .pick (.tmp 44) (.const (.bool true)) (.tmp 49), none, 0⟩,
    ⟨(some 51), .move (.tmp 50), none, 0⟩,
    ⟨(some 52), .faddr 1 (.tmp 6), (some (51, false)), 0⟩,
    ⟨(some 53), .load1 (.tmp 52), (some (51, false)), 0⟩,
    ⟨(some 54), .bin .lss (.tmp 53) (.const (.int .i64 0)), (some (51, false)), 0⟩,
    ⟨(some 55), .pick (.tmp 51) (.const (.bool true)) (.tmp 54), none, 0⟩,
    ⟨(some 56), .move (.tmp 55), none, 0⟩,
    ⟨(some 57), .faddr 1 (.tmp 6), (some (56, false)), 0⟩,
    ⟨(some 58), .load1 (.tmp 57), (some (56, false)), 0⟩,
    ⟨(some 59), .move (.tmp 4), (some (56, false)), 0⟩,
    ⟨(some 60), .len (.tmp 59), (some (56, false)), 0⟩,
    ⟨(some 61), .bin .geq (.tmp 58) (.tmp 60), (some (56, false)), 0⟩,
    ⟨(some 62), .pick (.tmp 56) (.const (.bool true)) (.tmp 61), none, 0⟩] false) (.cond (.tmp 62) (.seq (.ops [⟨(some 2), .move (.const (.int .i64 1)), none, 0⟩] false) (.ret)) (.skip))) (.ops [⟨(some 63), .move (.tmp 4), none, 0⟩,
    ⟨(some 64), .faddr 0 (.tmp 6), none, 0⟩,
    ⟨(some 65), .load1 (.tmp 64), none, 2⟩,
    ⟨(some 66), .move (.tmp 4), none, 0⟩,
    ⟨(some 67), .faddr 0 (.tmp 6), none, 0⟩,
    ⟨(some 68), .load1 (.tmp 67), none, 16⟩,
    ⟨(some 69), .iaddr 1 (.tmp 66) (.tmp 68), none, 56⟩,
    ⟨(some 70), .load1 (.tmp 69), none, 120⟩,
    ⟨(some 71), .faddr 1 (.tmp 6), none, 0⟩,
    ⟨(some 72), .load1 (.tmp 71), none, 256⟩,
    ⟨(some 73), .bslice 1 1 [(.tmp 72)], none, 768⟩,
    ⟨(some 74), .append 1 8 (.tmp 70) (.tmp 73), none, 2040⟩,
    ⟨(some 75), .iaddr 1 (.tmp 63) (.tmp 65), none, 4095⟩,
    ⟨none, .store 1 (.tmp 75) (.tmp 74), none, 8191⟩] true)))) (.ops [⟨(some 76), .bin .add (.tmp 37) (.const (.int .i64 1)), none, 0⟩,
    ⟨(some 37), .move (.tmp 76), none, 0⟩] false)))
def c62_2 : PC := .seq (.ops [⟨(some 81), .bin .lss (.tmp 80) (.tmp 79), none, 0⟩] false) (.seq (.cond (.tmp 81) (.skip) (.exit 2)) (.seq (.block 3 (.seq (.ops [⟨(some 82), .move (.tmp 80), none, 0⟩,
    ⟨(some 83), .iaddr 2 (.tmp 78) (.tmp 80), none, 0⟩,
    ⟨(some 84), .loadA 2 (.tmp 83), none, 0⟩,
    ⟨(some 10), .alloc [(.string ⟨#[]⟩), (.int .i64 0)], none, 0⟩,
    ⟨(some 9), .move (.tmp 82), none, 0⟩,
    ⟨none, .store 2 (.tmp 10) (.tmp 84), none, 0⟩] false) (.seq (.ops [⟨(some 85), .faddr 1 (.tmp 10), none, 0⟩,
    ⟨(some 86), .load1 (.tmp 85), none, 0⟩,
    ⟨(some 87), .bin .eql (.tmp 86) (.const (.int .i64 1)), none, 0⟩] false) (.cond (.tmp 87) (.seq (.ops [⟨(some 88), .move (.tmp 9), none, 0⟩,
    ⟨(some 7), .move (.tmp 88), none, 0⟩] false) (.ops [⟨(some 89), .move (.tmp 8), none, 0⟩,
    ⟨(some 90), .bin .add (.tmp 89) (.const (.int .i64 1)), none, 0⟩,
    ⟨(some 8), .move (.tmp 90), none, 0⟩] false)) (.skip))))) (.ops [⟨(some 91), .bin .add (.tmp 80) (.const (.int .i64 1)), none, 0⟩,
    ⟨(some 80), .move (.tmp 91), none, 0⟩] false)))
def c62_3 : PC := .seq (.ops [⟨(some 98), .bin .lss (.tmp 97) (.tmp 96), none, 0⟩] false) (.seq (.cond (.tmp 98) (.skip) (.exit 4)) (.seq (.block 5 (.seq (.ops [⟨(some 99), .move (.tmp 97), none, 0⟩,
    ⟨(some 100), .iaddr 2 (.tmp 95) (.tmp 97), none, 0⟩,
    ⟨(some 101), .loadA 2 (.tmp 100), none, 0⟩,
    ⟨(some 12), .alloc [(.string ⟨#[]⟩), (.int .i64 0)], none, 0⟩,
    ⟨(some 11), .move (.tmp 99), none, 0⟩,
    ⟨none, .store 2 (.tmp 12) (.tmp 101), none, 0⟩] false) (.seq (.ops [⟨(some 102), .faddr 1 (.tmp 12), none, 0⟩,
    ⟨(some 103), .load1 (.tmp 102), none, 1⟩,
    ⟨(some 104), .loadA 2 (.tmp 1), none, 0⟩,
    ⟨(some 105), .move (.tmp 11), none, 0⟩,
    ⟨(some 106), .call 76 [(.tmp 104), (.tmp 105)], none, 12⟩,
    ⟨(some 107), .len (.tmp 106), none, 28⟩,
    ⟨(some 108), .loadA 2 (.tmp 1), none, 0⟩,
    ⟨(some 109), .move (.tmp 11), none, 0⟩,
    ⟨(some 110), .call 77 [(.tmp 108), (.tmp 109)], none, 220⟩,
    ⟨(some 111), .len (.tmp 110), none, 476⟩,
    ⟨(some 112), .call 75 [(.tmp 103), (.tmp 107), (.tmp 111)], none, 1023⟩,
    ⟨(some 113), .un .not (.tmp 112), none, 2047⟩] true) (.cond (.tmp 113) (.seq (.ops [⟨(some 2), .move (.const (.int .i64 1)), none, 0⟩] false) (.ret)) (.skip))))) (.ops [⟨(some 114), .bin .add (.tmp 97) (.const (.int .i64 1)), none, 0⟩,
    ⟨(some 97), .move (.tmp 114), none, 0⟩] false)))
def c62 : PC := .seq (.ops [⟨(some 1), .box (.tmp 0), none, 0⟩,
    ⟨(some 2), .move (.const (.int .i64 0)), none, 0⟩] false) (.seq (.seq (.ops [⟨(some 15), .faddr 0 (.tmp 1), none, 0⟩,
    ⟨(some 16), .load1 (.tmp 15), none, 0⟩,
    ⟨(some 17), .len (.tmp 16), none, 0⟩,
    ⟨(some 18), .bin .gtr (.tmp 17) (.const (.int .i64 20)), none, 0⟩,
    ⟨(some 19), .move (.tmp 18), none, 0⟩,
    ⟨(some 20), .faddr 1 (.tmp 1), (some (19, false)), 0⟩,
    ⟨(some 21), .load1 (.tmp 20), (some (19, false)), 0⟩,
    ⟨(some 22), .len (.tmp 21), (some (19, false)), 0⟩,
    ⟨(some 23), .bin .gtr (.tmp 22) (.const (.int .i64 30)), (some (19, false)), 0⟩,
    ⟨(some 24), .pick (.tmp 19) (.const (.bool true)) (.tmp 23), none, 0⟩] false) (.cond (.tmp 24) (.seq (.ops [⟨(some 2), .move (.const (.int .i64 2)), none, 0⟩] false) (.ret)) (.skip))) (.seq (.seq (.ops [⟨(some 25), .loadA 2 (.tmp 1), none, 0⟩,
    ⟨(some 26), .call 74 [(.tmp 25)], none, 0⟩,
    ⟨(some 3), .move (.tmp 26), none, 0⟩] false) (.seq (.ops [⟨(some 27), .move (.tmp 3), none, 0⟩,
    ⟨(some 28), .bin .neq (.tmp 27) (.const (.int .i64 0)), none, 0⟩] false) (.cond (.tmp 28) (.seq (.ops [⟨(some 29), .move (.tmp 3), none, 0⟩,
    ⟨(some 2), .move (.tmp 29), none, 0⟩] false) (.ret)) (.skip)))) (.seq (.ops [⟨(some 30), .faddr 0 (.tmp 1), none, 0⟩,
    ⟨(some 31), .load1 (.tmp 30), none, 0⟩,
    ⟨(some 32), .len (.tmp 31), none, 0⟩,
    ⟨(some 33), .mslice 1 24 [(.slice none 0 0)] (.tmp 32) (.tmp 32), none, 0⟩,
    ⟨(some 4), .move (.tmp 33), none, 0⟩] false) (.seq (.seq (.ops [⟨(some 34), .faddr 1 (.tmp 1), none, 0⟩,
    ⟨(some 35), .load1 (.tmp 34), none, 0⟩,
    ⟨(some 36), .len (.tmp 35), none, 0⟩,
    ⟨(some 37), .move (.const (.int .i64 0)), none, 0⟩] false) (.stop (.block 0 (.loop c62_1)))) (.seq (.ops [⟨(some 7), .move (.const (.int .i64 (-1))), none, 0⟩,
    ⟨(some 8), .move (.const (.int .i64 0)), none, 0⟩] false) (.seq (.seq (.ops [⟨(some 77), .faddr 0 (.tmp 1), none, 0⟩,
    ⟨(some 78), .load1 (.tmp 77), none, 0⟩,
    ⟨(some 79), .len (.tmp 78), none, 0⟩,
    ⟨(some 80), .move (.const (.int .i64 0)), none, 0⟩] false) (.block 2 (.loop c62_2))) (.seq (.seq (.ops [⟨(some 92), .move (.tmp 8), none, 0⟩,
    ⟨(some 93), .bin .neq (.tmp 92) (.const (.int .i64 1)), none, 0⟩] false) (.cond (.tmp 93) (.seq (.ops [⟨(some 2), .move (.const (.int .i64 1)), none, 0⟩] false) (.ret)) (.skip))) (.seq (.seq (.ops [⟨(some 94), .faddr 0 (.tmp 1), none, 0⟩,
    ⟨(some 95), .load1 (.tmp 94), none, 0⟩,
    ⟨(some 96), .len (.tmp 95), none, 0⟩,
    ⟨(some 97), .move (.const (.int .i64 0)), none, 0⟩] false) (.block 4 (.loop c62_3))) (.seq (.seq (.ops [⟨(some 116), .move (.tmp 4), none, 0⟩,
    ⟨(some 117), .move (.tmp 7), none, 0⟩,
    ⟨(some 118), .bslice 1 1 [(.tmp 117)], none, 0⟩,
    ⟨(some 119), .call 78 [(.tmp 116), (.tmp 118)], none, 0⟩,
    ⟨(some 115), .move (.tmp 119), none, 0⟩,
    ⟨(some 120), .ext 0 (.tmp 115), none, 0⟩,
    ⟨(some 121), .ext 1 (.tmp 115), none, 0⟩,
    ⟨(some 13), .move (.tmp 120), none, 0⟩,
    ⟨(some 14), .move (.tmp 121), none, 0⟩] false) (.seq (.ops [⟨(some 122), .move (.tmp 13), none, 0⟩,
    ⟨(some 123), .call 70 [(.tmp 122), (.const (.bool false))], none, 0⟩] false) (.cond (.tmp 123) (.seq (.ops [⟨(some 2), .move (.const (.int .i64 6)), none, 0⟩] false) (.ret)) (.skip)))) (.seq (.ops [⟨(some 2), .move (.const (.int .i64 0)), none, 0⟩] false) (.ret)))))))))))
set_option maxRecDepth 100000 in
theorem c62_ok : FunOK Try.prog 62 124 [.tmp 2] c62 := ⟨⟨Try.f62, Try.func62, rfl, by kernel_rfl, rfl, by kernel_rfl⟩⟩
set_option maxRecDepth 100000 in
theorem proc_Check (P : ProcD) (hP : P.Fits) : PCall Try.prog 62 [dproc P] (.sc (.int .i64 P.chk)) := by
  have b1 := hP.nodes
  have b2 := hP.flows
  refine pcall_intro c62_ok (by simp) (by simp [PureL, Pure, pure_dproc]) ?_ (by simp [Pure])
  (apply red_sound; focus (repeat' (first | exact Red.skip | exact Red.ret | exact RedO.nil | exact RedD.nil | exact Red.exit _ | exact Red.loop _ | exact Red.stop _ | apply Red.ops | apply Red.draw | apply Red.seq | apply Red.cond | apply Red.block | apply RedO.cons | apply RedD.cons | exact (0 : Nat))))
  ((conv => whnf); repeat (refine And.intro rfl ?_; (conv => whnf)))
  rw [List.length_map]
  have fin : ∀ {H : List AObj} {z : Int}, z = P.chk → Deep H (.sc (.int .i64 z)) (.sc (.int .i64 P.chk)) := fun h => h ▸ .refl _
  (refine ifK_split (fun h1 => ?_) (fun h1 => ?_) <;> (rw [h1]; ((conv => whnf); repeat (refine And.intro rfl ?_; (conv => whnf)))))
  · exact fin (by unfold ProcD.chk; rw [if_pos (.inl (by ((try simp only [oo, reduceCtorEq] at *) <;> omega)))])
  rw [List.length_map]
  (refine ifK_split (fun h2 => ?_) (fun h2 => ?_) <;> (rw [h2]; ((conv => whnf); repeat (refine And.intro rfl ?_; (conv => whnf)))))
  · exact fin (by unfold ProcD.chk; rw [if_pos (.inr (by ((try simp only [oo, reduceCtorEq] at *) <;> omega)))])
  have c1 : ¬ (20 < P.nodes.length ∨ 30 < P.flows.length) := by ((try simp only [oo, reduceCtorEq] at *) <;> omega)
  (refine .inl ⟨_, (proc_nodes P hP), ?_⟩; ((conv => whnf); repeat (refine And.intro rfl ?_; (conv => whnf))))
  (refine ifK_split (fun h3 => ?_) (fun h3 => ?_) <;> (rw [h3]; ((conv => whnf); repeat (refine And.intro rfl ?_; (conv => whnf)))))
  · have h3 : P.nodesE ≠ 0 := by ((try simp only [oo, reduceCtorEq] at *) <;> omega)
    exact fin (by unfold ProcD.chk; rw [if_neg c1, if_pos h3])
  have c2 : ¬ P.nodesE ≠ 0 := by ((try simp only [oo, reduceCtorEq] at *) <;> omega)
  rw [List.length_map]
  refine ⟨by omega, by omega, by omega, ?_⟩
  rw [Int.toNat_natCast]
  ((conv => whnf); repeat (refine And.intro rfl ?_; (conv => whnf)))
  rw [List.length_map]
  refine pwp_cut (fun _ : Unit => [(1, .loc 0 0), (4, .own 1 0 0 P.nodes.length)]) (fun _ => [.row true P.cells, .vec true 0 1 ((P.graph P.flows.length).map fun l => [dints l])]) (fun _ => ∀ i, i < P.flows.length → P.flowOK i = true) ?_ ?_
  · (apply red_sound; focus (repeat' (first | exact Red.skip | exact Red.ret | exact RedO.nil | exact RedD.nil | exact Red.exit _ | exact Red.loop _ | exact Red.stop _ | apply Red.ops | apply Red.draw | apply Red.seq | apply Red.cond | apply Red.block | apply RedO.cons | apply RedD.cons | exact (0 : Nat))))
    ((conv => whnf); repeat (refine And.intro rfl ?_; (conv => whnf)))
    refine pwp_ghostB (leB_nils 1 1 P.nodes.length 0 (by simp) rfl) ?_
    refine pwp_forH [1, 4, 35, 36] (fun k : Nat => [(37, .sc (.int .i64 k))]) (fun k => .row true P.cells :: .vec true 0 1 (ogRows 2 (P.graph k)) :: ogObjs 1 icell (P.graph k)) (fun k => k ≤ P.flows.length ∧ ∀ i, i < k → P.flowOK i = true) (fun k => P.flows.length - k) 0 ?_
    ((conv => whnf); repeat (refine And.intro rfl ?_; (conv => whnf)))
    refine ⟨⟨by omega, fun i hi => by omega⟩, by (repeat' (first | exact trivial | refine And.intro rfl ?_)), ?_, ?_⟩
    · show _ :: _ :: _ = _ :: _ :: _
      rw [ogObjs_nils 1 _ icell]
      exact congrArg (fun x => AObj.row true P.cells :: AObj.vec true 0 1 x :: _) (ogRows_nils (α := Int) 2 _)
    rintro k ⟨hk, hall⟩
    have hgl := P.graph_len k
    ((conv => whnf); repeat (refine And.intro rfl ?_; (conv => whnf)))
    (apply red_sound; focus (repeat' (first | exact Red.skip | exact Red.ret | exact RedO.nil | exact RedD.nil | exact Red.exit _ | exact Red.loop _ | exact Red.stop _ | apply Red.ops | apply Red.draw | apply Red.seq | apply Red.cond | apply Red.block | apply RedO.cons | apply RedD.cons | exact (0 : Nat))))
    ((conv => whnf); repeat (refine And.intro rfl ?_; (conv => whnf)))
    (refine ifK_split (fun h => ?_) (fun h => ?_) <;> (rw [h]; ((conv => whnf); repeat (refine And.intro rfl ?_; (conv => whnf)))))
    · have hk' : k < P.flows.length := by ((try simp only [oo, reduceCtorEq] at *) <;> omega)
      refine ⟨by omega, _, flow_at P (k := k) (by omega) hk', ?_⟩
      ((conv => whnf); repeat (refine And.intro rfl ?_; (conv => whnf)))
      refine og_push ?_
      ((conv => whnf); repeat (refine And.intro rfl ?_; (conv => whnf)))
      (repeat (first | (refine og_getE 0 rfl ?_; ((conv => whnf); repeat (refine And.intro rfl ?_; (conv => whnf)))) | (refine og_putE 0 rfl ?_; ((conv => whnf); repeat (refine And.intro rfl ?_; (conv => whnf)))) | (refine og_getE 1 rfl ?_; ((conv => whnf); repeat (refine And.intro rfl ?_; (conv => whnf)))) | (refine og_putE 1 rfl ?_; ((conv => whnf); repeat (refine And.intro rfl ?_; (conv => whnf))))))
      have bad : ∀ {H : List AObj}, P.flowOK k = false → Deep H (.sc (.int .i64 1)) (.sc (.int .i64 P.chk)) := fun h => fin (by
        unfold ProcD.chk
        rw [if_neg c1, if_neg c2, if_pos]
        intro q
        rw [q k hk'] at h; cases h)
      have nok : ¬ (0 ≤ P.src k ∧ P.src k < P.nodes.length ∧ 0 ≤ P.dst k ∧ P.dst k < P.nodes.length) → P.flowOK k = false := fun h => by rw [← Bool.not_eq_true, ProcD.flowOK_iff]; exact h
      (refine ifK_split (fun h4 => ?_) (fun h4 => ?_) <;> (rw [h4]; ((conv => whnf); repeat (refine And.intro rfl ?_; (conv => whnf)))))
      · exact bad (nok (by ((try simp only [oo, reduceCtorEq] at *) <;> omega)))
      (repeat (first | (refine og_getE 0 rfl ?_; ((conv => whnf); repeat (refine And.intro rfl ?_; (conv => whnf)))) | (refine og_putE 0 rfl ?_; ((conv => whnf); repeat (refine And.intro rfl ?_; (conv => whnf)))) | (refine og_getE 1 rfl ?_; ((conv => whnf); repeat (refine And.intro rfl ?_; (conv => whnf)))) | (refine og_putE 1 rfl ?_; ((conv => whnf); repeat (refine And.intro rfl ?_; (conv => whnf))))))
      (refine ifK_split (fun h5 => ?_) (fun h5 => ?_) <;> (rw [h5]; ((conv => whnf); repeat (refine And.intro rfl ?_; (conv => whnf)))))
      · exact bad (nok (by ((try simp only [oo, reduceCtorEq] at *) <;> omega)))
      (repeat (first | (refine og_getE 0 rfl ?_; ((conv => whnf); repeat (refine And.intro rfl ?_; (conv => whnf)))) | (refine og_putE 0 rfl ?_; ((conv => whnf); repeat (refine And.intro rfl ?_; (conv => whnf)))) | (refine og_getE 1 rfl ?_; ((conv => whnf); repeat (refine And.intro rfl ?_; (conv => whnf)))) | (refine og_putE 1 rfl ?_; ((conv => whnf); repeat (refine And.intro rfl ?_; (conv => whnf))))))
      (refine ifK_split (fun h6 => ?_) (fun h6 => ?_) <;> (rw [h6]; ((conv => whnf); repeat (refine And.intro rfl ?_; (conv => whnf)))))
      · exact bad (nok (by ((try simp only [oo, reduceCtorEq] at *) <;> omega)))
      (repeat (first | (refine og_getE 0 rfl ?_; ((conv => whnf); repeat (refine And.intro rfl ?_; (conv => whnf)))) | (refine og_putE 0 rfl ?_; ((conv => whnf); repeat (refine And.intro rfl ?_; (conv => whnf)))) | (refine og_getE 1 rfl ?_; ((conv => whnf); repeat (refine And.intro rfl ?_; (conv => whnf)))) | (refine og_putE 1 rfl ?_; ((conv => whnf); repeat (refine And.intro rfl ?_; (conv => whnf))))))
      (refine ifK_split (fun h7 => ?_) (fun h7 => ?_) <;> (rw [h7]; ((conv => whnf); repeat (refine And.intro rfl ?_; (conv => whnf)))))
      · exact bad (nok (by ((try simp only [oo, reduceCtorEq] at *) <;> omega)))
      have hok : P.flowOK k = true := ProcD.flowOK_iff.2 (by ((try simp only [oo, reduceCtorEq] at *) <;> omega))
      have ho := ProcD.flowOK_iff.1 hok
      have hrow := (P.graph_row k (P.src k).toNat).2
      (repeat (first | (refine og_getE 0 rfl ?_; ((conv => whnf); repeat (refine And.intro rfl ?_; (conv => whnf)))) | (refine og_putE 0 rfl ?_; ((conv => whnf); repeat (refine And.intro rfl ?_; (conv => whnf)))) | (refine og_getE 1 rfl ?_; ((conv => whnf); repeat (refine And.intro rfl ?_; (conv => whnf)))) | (refine og_putE 1 rfl ?_; ((conv => whnf); repeat (refine And.intro rfl ?_; (conv => whnf))))))
      (refine ⟨by omega, (by first | omega | (simp; done) | (simp; omega) | (simp only [ll]; omega)), ?_⟩; ((conv => whnf); repeat (refine And.intro rfl ?_; (conv => whnf))))
      refine ⟨_, ogRows_at (i := (P.src k).toNat) (by omega) (by omega), ?_⟩
      ((conv => whnf); repeat (refine And.intro rfl ?_; (conv => whnf)))
      (repeat (first | (refine og_getE 0 rfl ?_; ((conv => whnf); repeat (refine And.intro rfl ?_; (conv => whnf)))) | (refine og_putE 0 rfl ?_; ((conv => whnf); repeat (refine And.intro rfl ?_; (conv => whnf)))) | (refine og_getE 1 rfl ?_; ((conv => whnf); repeat (refine And.intro rfl ?_; (conv => whnf)))) | (refine og_putE 1 rfl ?_; ((conv => whnf); repeat (refine And.intro rfl ?_; (conv => whnf))))))
      refine og_pushT ?_
      ((conv => whnf); repeat (refine And.intro rfl ?_; (conv => whnf)))
      (repeat (first | (refine og_getE 0 rfl ?_; ((conv => whnf); repeat (refine And.intro rfl ?_; (conv => whnf)))) | (refine og_putE 0 rfl ?_; ((conv => whnf); repeat (refine And.intro rfl ?_; (conv => whnf)))) | (refine og_getE 1 rfl ?_; ((conv => whnf); repeat (refine And.intro rfl ?_; (conv => whnf)))) | (refine og_putE 1 rfl ?_; ((conv => whnf); repeat (refine And.intro rfl ?_; (conv => whnf))))))
      refine og_getT (by omega) ?_
      ((conv => whnf); repeat (refine And.intro rfl ?_; (conv => whnf)))
      refine ⟨by unfold sliceAppend; simp only [List.length_drop, List.length_take, List.length_cons, List.length_nil]; omega, ?_⟩
      ((conv => whnf); repeat (refine And.intro rfl ?_; (conv => whnf)))
      refine og_putT (((P.graph k).getD (P.src k).toNat []) ++ [P.dst k]) (by omega) ?_ ?_
      · exact og_app
      ((conv => whnf); repeat (refine And.intro rfl ?_; (conv => whnf)))
      (refine ⟨by omega, (by first | omega | (simp; done) | (simp; omega) | (simp only [ll]; omega)), ?_⟩; ((conv => whnf); repeat (refine And.intro rfl ?_; (conv => whnf))))
      refine ⟨_, ogRows_at (i := (P.src k).toNat) (by omega) (by omega), ?_⟩
      ((conv => whnf); repeat (refine And.intro rfl ?_; (conv => whnf)))
      have hne : (P.src k).toNat ≠ (P.graph k).length := by omega
      (refine mem_ok (by simp [memOK, traceOK, clash, meets_cons, meets_nil, memb_cons, memb_nil, bitOf, matchB, hne]) ?_; ((conv => whnf); repeat (refine And.intro rfl ?_; (conv => whnf))))
      (refine .inl ⟨by (unfold InR; rw [IntKind.wrap_i64]; omega), ?_⟩; ((conv => whnf); repeat (refine And.intro rfl ?_; (conv => whnf))))
      refine ⟨k + 1, ⟨by omega, fun i hi => ?_⟩, by dsimp only; omega, ?_⟩
      · by_cases e : i = k
        · subst e; exact hok
        · exact hall i (by omega)
      refine leB_close (P.nodes.length + 2) (by simp) (by simp [hgl, ProcD.graph_len]) (by (repeat' (first | exact trivial | exact rfl | exact DeepM.refl _ | exact DeepML.refl _ | exact DeepMLL.refl _ | refine And.intro ?_ ?_ | (simp [Under, UnderL, UnderLL, -List.map_take, -List.map_drop]; done)))) ⟨⟨rfl, .refl _, by simp⟩, ⟨rfl, rfl, rfl, deepMLL_eq ?_, underLL_ogRows (by rw [ProcD.graph_len]; omega)⟩, closeH_og under_icell⟩
      exact ogRows_set (by omega) (by omega) _ (by simp)
    have hkn : k = P.flows.length := by have : ¬ k < P.flows.length := by ((try simp only [oo, reduceCtorEq] at *) <;> omega)
                                        omega
    subst hkn
    refine ⟨(), hall, leB_close 2 (by simp) rfl (by (repeat' (first | exact trivial | exact rfl | exact DeepM.refl _ | exact DeepML.refl _ | exact DeepMLL.refl _ | refine And.intro ?_ ?_ | (simp [Under, UnderL, UnderLL, -List.map_take, -List.map_drop]; done)))) ⟨⟨rfl, .refl _, by simp⟩, ⟨rfl, rfl, rfl, deepM_ogRows (c := icell) (fun i hi => by simp [fromN]) (fun i hi => ?_), by simp [UnderL]⟩, closeH_nil _⟩⟩
    show (ogObjs 1 icell (P.graph P.flows.length))[i]? = _
    exact ogObjs_at hi
  rintro _ hall
  ((conv => whnf); repeat (refine And.intro rfl ?_; (conv => whnf)))
  rw [List.length_map]
  have c3 : ¬ ¬ ∀ i, i < P.flows.length → P.flowOK i = true := fun q => q hall
  refine pwp_for [1, 4, 78, 79] (fun ((k, s, m) : Nat × Int × Int) => [(7, .sc (.int .i64 s)), (8, .sc (.int .i64 m)), (80, .sc (.int .i64 k))]) (fun _ => []) (fun (k, s, m) => k ≤ P.nodes.length ∧ s = P.startI k ∧ m = P.starts k) (fun (k, s, m) => P.nodes.length - k) (0, -1, 0) ?_
  ((conv => whnf); repeat (refine And.intro rfl ?_; (conv => whnf)))
  refine ⟨⟨by omega, rfl, rfl⟩, by (repeat' (first | exact trivial | refine And.intro rfl ?_)), rfl, ?_⟩
  rintro ⟨k, s, m⟩ ⟨hk, hs, hm⟩
  ((conv => whnf); repeat (refine And.intro rfl ?_; (conv => whnf)))
  (apply red_sound; focus (repeat' (first | exact Red.skip | exact Red.ret | exact RedO.nil | exact RedD.nil | exact Red.exit _ | exact Red.loop _ | exact Red.stop _ | apply Red.ops | apply Red.draw | apply Red.seq | apply Red.cond | apply Red.block | apply RedO.cons | apply RedD.cons | exact (0 : Nat))))
  ((conv => whnf); repeat (refine And.intro rfl ?_; (conv => whnf)))
  (refine ifK_split (fun h => ?_) (fun h => ?_) <;> (rw [h]; ((conv => whnf); repeat (refine And.intro rfl ?_; (conv => whnf)))))
  · have hk' : k < P.nodes.length := by ((try simp only [oo, reduceCtorEq] at *) <;> omega)
    have hle := P.starts_le k
    refine ⟨by omega, _, node_at P (k := k) (by omega) hk', ?_⟩
    ((conv => whnf); repeat (refine And.intro rfl ?_; (conv => whnf)))
    (refine ifK_split (fun h4 => ?_) (fun h4 => ?_) <;> (rw [h4]; ((conv => whnf); repeat (refine And.intro rfl ?_; (conv => whnf)))))
    · have h4 : P.kind k = 1 := by ((try simp only [oo, reduceCtorEq] at *) <;> omega)
      (refine .inl ⟨by (unfold InR; rw [IntKind.wrap_i64]; omega), ?_⟩; ((conv => whnf); repeat (refine And.intro rfl ?_; (conv => whnf))))
      (refine .inl ⟨by (unfold InR; rw [IntKind.wrap_i64]; omega), ?_⟩; ((conv => whnf); repeat (refine And.intro rfl ?_; (conv => whnf))))
      refine ⟨(k + 1, k, m + 1), ⟨by omega, by simp [ProcD.startI, h4], by simp [ProcD.starts, h4, hm]⟩, by dsimp only; omega, ?_⟩
      (refine leB_close 2 (by simp) rfl ?_ ?_ <;> (repeat' (first | exact trivial | exact rfl | exact DeepM.refl _ | exact DeepML.refl _ | exact DeepMLL.refl _ | refine And.intro ?_ ?_ | (simp [Under, UnderL, UnderLL, -List.map_take, -List.map_drop]; done))))
    · have h4 : P.kind k ≠ 1 := by ((try simp only [oo, reduceCtorEq] at *) <;> omega)
      (refine .inl ⟨by (unfold InR; rw [IntKind.wrap_i64]; omega), ?_⟩; ((conv => whnf); repeat (refine And.intro rfl ?_; (conv => whnf))))
      refine ⟨(k + 1, s, m), ⟨by omega, by simp [ProcD.startI, h4, hs], by simp [ProcD.starts, h4, hm]⟩, by dsimp only; omega, ?_⟩
      (refine leB_close 2 (by simp) rfl ?_ ?_ <;> (repeat' (first | exact trivial | exact rfl | exact DeepM.refl _ | exact DeepML.refl _ | exact DeepMLL.refl _ | refine And.intro ?_ ?_ | (simp [Under, UnderL, UnderLL, -List.map_take, -List.map_drop]; done))))
  have hkn : k = P.nodes.length := by have : ¬ k < P.nodes.length := by ((try simp only [oo, reduceCtorEq] at *) <;> omega)
                                      omega
  subst hs hm
  subst hkn
  clear h hk
  (refine ifK_split (fun h4 => ?_) (fun h4 => ?_) <;> (rw [h4]; ((conv => whnf); repeat (refine And.intro rfl ?_; (conv => whnf)))))
  · have h4 : P.starts P.nodes.length ≠ 1 := by ((try simp only [oo, reduceCtorEq] at *) <;> omega)
    exact fin (by unfold ProcD.chk; rw [if_neg c1, if_neg c2, if_neg c3, if_pos h4])
  have h4 : P.starts P.nodes.length = 1 := by ((try simp only [oo, reduceCtorEq] at *) <;> omega)
  have hst := P.startI_pos P.nodes.length (by omega)
  have c4 : ¬ P.starts P.nodes.length ≠ 1 := fun q => q h4
  rw [List.length_map]
  refine pwp_for [1, 4, 7, 95, 96] (fun k : Nat => [(97, .sc (.int .i64 k))]) (fun _ => []) (fun k => k ≤ P.nodes.length ∧ ∀ i, i < k → P.nodeOK i = true) (fun k => P.nodes.length - k) 0 ?_
  ((conv => whnf); repeat (refine And.intro rfl ?_; (conv => whnf)))
  refine ⟨⟨by omega, fun i hi => by omega⟩, by (repeat' (first | exact trivial | refine And.intro rfl ?_)), rfl, ?_⟩
  rintro k ⟨hk, hok⟩
  ((conv => whnf); repeat (refine And.intro rfl ?_; (conv => whnf)))
  (apply red_sound; focus (repeat' (first | exact Red.skip | exact Red.ret | exact RedO.nil | exact RedD.nil | exact Red.exit _ | exact Red.loop _ | exact Red.stop _ | apply Red.ops | apply Red.draw | apply Red.seq | apply Red.cond | apply Red.block | apply RedO.cons | apply RedD.cons | exact (0 : Nat))))
  ((conv => whnf); repeat (refine And.intro rfl ?_; (conv => whnf)))
  (refine ifK_split (fun h => ?_) (fun h => ?_) <;> (rw [h]; ((conv => whnf); repeat (refine And.intro rfl ?_; (conv => whnf)))))
  · have hk' : k < P.nodes.length := by ((try simp only [oo, reduceCtorEq] at *) <;> omega)
    refine ⟨by omega, _, node_at P (k := k) (by omega) hk', ?_⟩
    ((conv => whnf); repeat (refine And.intro rfl ?_; (conv => whnf)))
    (refine .inl ⟨_, (proc_ins P hP (by omega) k), ?_⟩; ((conv => whnf); repeat (refine And.intro rfl ?_; (conv => whnf))))
    (refine .inl ⟨_, (proc_outs P hP (by omega) k), ?_⟩; ((conv => whnf); repeat (refine And.intro rfl ?_; (conv => whnf))))
    rw [List.length_map, List.length_map]
    (refine .inl ⟨_, (proc_counts (P.kind k) (P.inL k).length (P.outL k).length), ?_⟩; ((conv => whnf); repeat (refine And.intro rfl ?_; (conv => whnf))))
    (refine ifK_split (fun h5 => ?_) (fun h5 => ?_) <;> (rw [h5]; ((conv => whnf); repeat (refine And.intro rfl ?_; (conv => whnf)))))
    · exact fin (by
        unfold ProcD.chk
        rw [if_neg c1, if_neg c2, if_neg c3, if_neg c4, if_pos]
        intro q
        have := q k hk'
        unfold ProcD.nodeOK at this
        rw [this] at h5; cases h5)
    · (refine .inl ⟨by (unfold InR; rw [IntKind.wrap_i64]; omega), ?_⟩; ((conv => whnf); repeat (refine And.intro rfl ?_; (conv => whnf))))
      refine ⟨k + 1, ⟨by omega, fun i hi => ?_⟩, by dsimp only; omega, ?_⟩
      · by_cases e : i = k
        · subst e; unfold ProcD.nodeOK; simpa using h5
        · exact hok i (by omega)
      (refine leB_close 2 (by simp) rfl ?_ ?_ <;> (repeat' (first | exact trivial | exact rfl | exact DeepM.refl _ | exact DeepML.refl _ | exact DeepMLL.refl _ | refine And.intro ?_ ?_ | (simp [Under, UnderL, UnderLL, -List.map_take, -List.map_drop]; done))))
  have hkn : k = P.nodes.length := by have : ¬ k < P.nodes.length := by ((try simp only [oo, reduceCtorEq] at *) <;> omega)
                                      omega
  subst hkn
  have c5 : ¬ ¬ ∀ i, i < P.nodes.length → P.nodeOK i = true := fun q => q hok
  obtain ⟨g1, g2, g3⟩ := graph_fine P (by omega) (by omega) hall
  have hlen := P.graph_len P.flows.length
  refine .inr (.inr (.inr (.inr (.inr ⟨rfl, _, _, .cons _ _ _ _ (deep_gridV rfl hlen.symm) (.cons _ _ _ _ (deep_ints (l := [P.startI P.nodes.length]) rfl rfl) .nil),
    scc_Reach (P.graph P.flows.length) g1 g2 [P.startI P.nodes.length] (inB_of fun x hx => by rw [List.mem_singleton] at hx; subst hx; omega) (by simp; omega), ?_⟩))))
  ((conv => whnf); repeat (refine And.intro rfl ?_; (conv => whnf)))
  (refine .inl ⟨_, (contains_truth _ (rchB (P.graph P.flows.length) [P.startI P.nodes.length]) (by omega) false), ?_⟩; ((conv => whnf); repeat (refine And.intro rfl ?_; (conv => whnf))))
  rw [hlen]
  (refine ifK_split (fun h6 => ?_) (fun h6 => ?_) <;> (rw [h6]; ((conv => whnf); repeat (refine And.intro rfl ?_; (conv => whnf)))))
  · obtain ⟨v, q1, q2⟩ := contains_truth_iff.1 h6
    exact fin (by
      unfold ProcD.chk
      rw [if_neg c1, if_neg c2, if_neg c3, if_neg c4, if_neg c5, if_pos]
      intro q
      rw [rchB_iff.2 (q v q1)] at q2; cases q2)
  · exact fin (by
      unfold ProcD.chk
      rw [if_neg c1, if_neg c2, if_neg c3, if_neg c4, if_neg c5, if_neg]
      intro q
      refine q fun v hv => ?_
      unfold ProcD.Come
      rw [← rchB_iff, ← Bool.not_eq_false]
      intro q2
      rw [contains_truth_iff.2 ⟨v, hv, q2⟩] at h6; cases h6)
end Go.Proofs.Ytikdngjdhncioaa
