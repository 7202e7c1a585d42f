/-
  Where formulas of all ways hold: the labeler's eu and au, over deep values. No statement is proved here.
-/
import Derived.Test.YtfgklgjbnpjpoaaQLa1
import Derived.Test.YtfgklgjbnpjpoaaQWxA
namespace Go.Proofs.Ytfgklgjbnpjpoaa
open Go.RowKit
set_option linter.unusedSimpArgs false
set_option linter.unusedVariables false
def c197_1 : PC := .seq (.ops [⟨(some 24), .bin .lss (.tmp 23) (.tmp 22), none, 0⟩] false) (.seq (.cond (.tmp 24) (.skip) (.exit 0)) (.seq (.block 1 (.seq (.ops [⟨(some 25), .move (.tmp 23), none, 0⟩,
    ⟨(some 26), .iaddr 1 (.tmp 21) (.tmp 23), none, 0⟩,
    ⟨(some 27), .load1 (.tmp 26), none, 0⟩,
    ⟨(some 9), .move (.tmp 25), none, 0⟩,
    ⟨(some 10), .move (.tmp 27), none, 0⟩] false) (.seq (.ops [⟨(some 28), .move (.tmp 10), none, 0⟩] false) (.cond (.tmp 28) (.ops [⟨(some 29), .move (.tmp 8), none, 0⟩,
    ⟨(some 30), .move (.tmp 9), none, 0⟩,
    ⟨(some 31), .bslice 1 1 [(.tmp 30)], none, 0⟩,
    ⟨(some 32), .append 1 8 (.tmp 29) (.tmp 31), none, 0⟩,
    ⟨(some 8), .move (.tmp 32), none, 0⟩] false) (.skip))))) (.ops [⟨(some 33), .bin .add (.tmp 23) (.const (.int .i64 1)), none, 0⟩,
    ⟨(some 23), .move (.tmp 33), none, 0⟩] false)))
def c197_3 : PC := .seq (.ops [⟨(some 51), .bin .lss (.tmp 50) (.tmp 49), none, 0⟩] false) (.seq (.cond (.tmp 51) (.skip) (.exit 4)) (.seq (.block 5 (.seq (.ops [⟨(some 52), .iaddr 1 (.tmp 48) (.tmp 50), none, 0⟩,
    ⟨(some 53), .load1 (.tmp 52), none, 0⟩,
    ⟨(some 13), .move (.tmp 53), none, 0⟩] false) (.seq (.ops [⟨(some 54), .move (.tmp 1), none, 0⟩,
    ⟨(some 55), .move (.tmp 13), none, 0⟩,
    ⟨(some 56), .iaddr 1 (.tmp 54) (.tmp 55), none, 0⟩,
    ⟨(some 57), .load1 (.tmp 56), none, 0⟩,
    ⟨(some 58), .move (.tmp 57), none, 0⟩,
    ⟨(some 59), .move (.tmp 7), (some (58, true)), 0⟩,
    ⟨(some 60), .move (.tmp 13), (some (58, true)), 0⟩,
    ⟨(some 61), .iaddr 1 (.tmp 59) (.tmp 60), (some (58, true)), 0⟩,
    ⟨(some 62), .load1 (.tmp 61), (some (58, true)), 0⟩,
    ⟨(some 63), .un .not (.tmp 62), (some (58, true)), 0⟩,
    ⟨(some 64), .pick (.tmp 58) (.tmp 63) (.const (.bool false)), none, 0⟩] false) (.cond (.tmp 64) (.seq (.ops [⟨(some 65), .move (.tmp 7), none, 0⟩,
    ⟨(some 66), .move (.tmp 13), none, 0⟩,
    ⟨(some 67), .iaddr 1 (.tmp 65) (.tmp 66), none, 0⟩,
    ⟨none, .store 1 (.tmp 67) (.const (.bool true)), none, 0⟩] false) (.ops [⟨(some 68), .move (.tmp 8), none, 0⟩,
    ⟨(some 69), .move (.tmp 13), none, 0⟩,
    ⟨(some 70), .bslice 1 1 [(.tmp 69)], none, 0⟩,
    ⟨(some 71), .append 1 8 (.tmp 68) (.tmp 70), none, 0⟩,
    ⟨(some 8), .move (.tmp 71), none, 0⟩] false)) (.skip))))) (.ops [⟨(some 72), .bin .add (.tmp 50) (.const (.int .i64 1)), none, 0⟩,
    ⟨(some 50), .move (.tmp 72), none, 0⟩] false)))
def c197_2 : PC := .seq (.seq (.ops [⟨(some 34), .move (.tmp 8), none, 0⟩,
    ⟨(some 35), .len (.tmp 34), none, 0⟩,
    ⟨(some 36), .bin .gtr (.tmp 35) (.const (.int .i64 0)), none, 0⟩] false) (.cond (.tmp 36) (.skip) (.exit 2))) (.block 3 (.seq (.ops [⟨(some 37), .move (.tmp 8), none, 0⟩,
    ⟨(some 38), .iaddr 1 (.tmp 37) (.const (.int .i64 0)), none, 0⟩,
    ⟨(some 39), .load1 (.tmp 38), none, 0⟩,
    ⟨(some 11), .move (.tmp 39), none, 0⟩] false) (.seq (.ops [⟨(some 40), .move (.tmp 8), none, 0⟩,
    ⟨(some 41), .slc 1 (.tmp 40) (some (.const (.int .i64 1))) none none, none, 0⟩,
    ⟨(some 8), .move (.tmp 41), none, 0⟩] false) (.seq (.ops [⟨(some 42), .move (.tmp 0), none, 0⟩,
    ⟨(some 43), .nilchk (.tmp 42), none, 0⟩,
    ⟨(some 44), .faddr 5 (.tmp 43), none, 0⟩,
    ⟨(some 45), .load1 (.tmp 44), none, 0⟩,
    ⟨(some 46), .move (.tmp 11), none, 0⟩,
    ⟨(some 47), .iaddr 1 (.tmp 45) (.tmp 46), none, 0⟩,
    ⟨(some 48), .load1 (.tmp 47), none, 0⟩,
    ⟨(some 49), .len (.tmp 48), none, 0⟩,
    ⟨(some 50), .move (.const (.int .i64 0)), none, 0⟩] false) (.block 4 (.loop c197_3))))))
def c197 : PC := .seq (.ops [⟨(some 6), .move (.const (.slice none 0 0)), none, 0⟩] false) (.seq (.ops [⟨(some 14), .move (.tmp 0), none, 0⟩,
    ⟨(some 15), .move (.tmp 2), none, 0⟩,
    ⟨(some 16), .move (.tmp 0), none, 0⟩,
    ⟨(some 17), .nilchk (.tmp 16), none, 0⟩,
    ⟨(some 18), .faddr 4 (.tmp 17), none, 0⟩,
    ⟨(some 19), .load1 (.tmp 18), none, 0⟩,
    ⟨(some 20), .call 194 [(.tmp 14), (.tmp 15), (.tmp 19)], none, 0⟩,
    ⟨(some 7), .move (.tmp 20), none, 0⟩] false) (.seq (.ops [⟨(some 8), .move (.const (.slice none 0 0)), none, 0⟩] false) (.seq (.seq (.ops [⟨(some 21), .move (.tmp 7), none, 0⟩,
    ⟨(some 22), .len (.tmp 21), none, 0⟩,
    ⟨(some 23), .move (.const (.int .i64 0)), none, 0⟩] false) (.block 0 (.loop c197_1))) (.seq (.block 2 (.loop c197_2)) (.seq (.ops [⟨(some 73), .move (.tmp 7), none, 0⟩,
    ⟨(some 6), .move (.tmp 73), none, 0⟩] false) (.ret))))))
set_option maxRecDepth 100000 in
theorem c197_ok : FunOK Try.prog 197 74 [.tmp 6] c197 := ⟨⟨Try.f197, Try.func197, rfl, by kernel_rfl, rfl, by kernel_rfl⟩⟩
theorem ends_unseen (c : Nat → Bool) : ∀ n, (endsT c n).length + unseen c n = n
  | 0 => rfl
  | n + 1 => by
    have := ends_unseen c n
    unfold unseen at this ⊢
    rw [endsT_succ]
    simp only [sumTo]
    cases h : c n <;> simp <;> omega
set_option maxRecDepth 100000 in
theorem la_eu (W : WorldD) (hc : W.chk = 0) (a b : Nat → Bool) : PCall Try.prog 197 [dlab W, dbl W.next.length a, dbl W.next.length b] (dbl W.next.length (euF W a b)) := by
  obtain ⟨_, h600, h80, _, hnx, hfr⟩ := chk_label W hc
  have hin0 : ∀ l ∈ W.next, inB l W.next.length = true := fun l hl => (hnx l hl).2
  have hrow := fun k => inB_row hin0 k
  have hin' : ∀ v y, y ∈ W.next.getD v [] → y.toNat < W.next.length := fun v x hx => by have := inB_mem (hrow v) hx; omega
  have hB := la_bothO W (by omega) b (fairF W)
  have e0 : euF W a b = euB W.next a (andF b (fairF W)) := rfl
  rw [e0]
  clear e0
  generalize andF b (fairF W) = c at *
  refine pcall_intro c197_ok (by simp) (by simp [PureL, pure_dlab, pure_dbl]) ?_ (pure_dbl _ _)
  unfold dlab lcel at *
  generalize hT : turnG W.next W.next.length = T at *
  have lT : T.length = W.next.length := by rw [← hT, turnG_len]
  have mT : ∀ (m : Nat) (x : Int), x ∈ T.getD m [] ↔ ∃ k, k < W.next.length ∧ x = (k : Int) ∧ ∃ y, y ∈ W.next.getD k [] ∧ y.toNat = m := fun m x => by rw [← hT]; exact turnG_mem hin' (Nat.le_refl _)
  have rT : ∀ m, (T.getD m []).length ≤ W.next.length := fun m => by rw [← hT]; exact turnG_row W.next W.next.length m
  (apply rd_sound; focus (repeat' constructor))
  ((conv=>whnf);repeat(refine And.intro rfl ?_;(conv=>whnf)))
  (refine .inr (.inr (.inl ⟨rfl, _, _, hB, ?_⟩)); ((conv=>whnf);repeat(refine And.intro rfl ?_;(conv=>whnf))))
  refine pwp_ghostB (leB_nil 8 1 (by simp) rfl) ?_
  refine pwp_for [0, 1, 7, 21, 22] (fun k : Nat => [(8, .own 3 (endsT c k).length 0 (endsT c k).length), (23, .sc (.int .i64 k))]) (fun k => [(3, .vec true (endsT c k).length 1 (i64s (endsT c k)))]) (fun k => k ≤ W.next.length) (fun k => W.next.length - k) 0 ?_
  ((conv=>whnf);repeat(refine And.intro rfl ?_;(conv=>whnf)))
  refine ⟨by omega, by (repeat' (first | exact trivial | refine And.intro rfl ?_)), rfl, ?_⟩
  rintro k hk
  have hcl := endsT_len c k
  have eS := endsT_succ c k
  ((conv=>whnf);repeat(refine And.intro rfl ?_;(conv=>whnf)))
  (apply rd_sound; focus (repeat' constructor))
  ((conv=>whnf);repeat(refine And.intro rfl ?_;(conv=>whnf)))
  (refine ifK_split (fun q0 => ?_) (fun q0 => ?_) <;> (rw [q0]; ((conv=>whnf);repeat(refine And.intro rfl ?_;(conv=>whnf)))))
  · have q0 : k < W.next.length := by ((try simp only [oo, reduceCtorEq] at *) <;> omega)
    (refine ⟨by omega, (by first | omega | (simp; done) | (simp; omega) | (simp only [ll]; omega)), ?_⟩; ((conv=>whnf);repeat(refine And.intro rfl ?_;(conv=>whnf))))
    refine ⟨_, rbl_atN k (by omega) q0, ?_⟩
    ((conv=>whnf);repeat(refine And.intro rfl ?_;(conv=>whnf)))
    cases r : c k
    · rw [r, if_neg (by decide)] at eS
      ((conv=>whnf);repeat(refine And.intro rfl ?_;(conv=>whnf)))
      (refine .inl ⟨by (unfold InR; rw [IntKind.wrap_i64]; omega), ?_⟩; ((conv=>whnf);repeat(refine And.intro rfl ?_;(conv=>whnf))))
      refine ⟨k + 1, by omega, by dsimp only; omega, ?_⟩
      dsimp only
      rw [eS]
      exact leB_envH (by (repeat' (first | exact trivial | refine And.intro rfl ?_))) rfl
    · rw [r, if_pos rfl] at eS
      ((conv=>whnf);repeat(refine And.intro rfl ?_;(conv=>whnf)))
      refine ⟨(by unfold sliceAppend; simp only [ll]; omega), ?_⟩
      ((conv=>whnf);repeat(refine And.intro rfl ?_;(conv=>whnf)))
      (refine .inl ⟨by (unfold InR; rw [IntKind.wrap_i64]; omega), ?_⟩; ((conv=>whnf);repeat(refine And.intro rfl ?_;(conv=>whnf))))
      refine ⟨k + 1, by omega, by dsimp only; omega, ?_⟩
      dsimp only
      rw [eS, show (endsT c k ++ [(k : Int)]).length = (endsT c k).length + 1 by simp]
      (refine leB_close 4 (by simp) rfl ?_ ?_ <;> (repeat' (first | exact trivial | exact rfl | exact DeepM.refl _ | exact DeepML.refl _ | exact DeepMLL.refl _ | refine And.intro ?_ ?_ | (simp [Under, UnderL, UnderLL, -List.map_take, -List.map_drop]; done))))
      exact deepMLL_eq (by rw [i64s_app, List.take_length])
  have q0 : k = W.next.length := by have : ¬ k < W.next.length := by ((try simp only [oo, reduceCtorEq] at *) <;> omega)
                                    omega
  subst q0
  clear eS
  refine pwp_for [0, 1, 7] (fun ((s, Z, lo, hi, ver) : (Nat → Bool) × List Int × Nat × Nat × Nat) => [(8, .own 3 ver lo hi)]) (fun (s, Z, lo, hi, ver) => [(2, .vec true 0 1 (rbl W.next.length s)), (3, .vec true ver 1 (i64s Z))])
    (fun (s, Z, lo, hi, ver) => lo ≤ hi ∧ hi ≤ Z.length ∧ (∀ x ∈ Z, 0 ≤ x ∧ x < (W.next.length : Int)) ∧ hi - lo + unseen s W.next.length ≤ W.next.length ∧ EuI W.next a c s (nats ((Z.take hi).drop lo))) (fun (s, Z, lo, hi, ver) => hi - lo + unseen s W.next.length) (c, endsT c W.next.length, 0, (endsT c W.next.length).length, (endsT c W.next.length).length) ?_
  ((conv=>whnf);repeat(refine And.intro rfl ?_;(conv=>whnf)))
  refine ⟨⟨by omega, by omega, fun x hx => ⟨(endsT_mem.1 hx).1, (endsT_mem.1 hx).2.1⟩, by rw [Nat.sub_zero]; exact Nat.le_of_eq (ends_unseen c _), ?_⟩, by (repeat' (first | exact trivial | refine And.intro rfl ?_)), rfl, ?_⟩
  · rw [List.take_length, List.drop_zero]
    refine ⟨fun v hv => .base hv, fun v hv => hv, fun v hv => ?_, fun v hv => ?_⟩
    · obtain ⟨x, hx, rfl⟩ := nats_mem.1 hv
      exact (endsT_mem.1 hx).2.2
    · by_cases q : v < W.next.length
      · exact .inl (nats_mem.2 ⟨(v : Int), endsT_mem.2 ⟨by omega, by omega, by rw [Int.toNat_natCast]; exact hv⟩, by simp⟩)
      · exact .inr fun k x hx e => absurd (e ▸ hin' k x hx) q
  rintro ⟨s, Z, lo, hi, ver⟩ ⟨hlo, hhi, hrg, hu, hI⟩
  ((conv=>whnf);repeat(refine And.intro rfl ?_;(conv=>whnf)))
  (apply rd_sound; focus (repeat' constructor))
  ((conv=>whnf);repeat(refine And.intro rfl ?_;(conv=>whnf)))
  (refine ifK_split (fun h1 => ?_) (fun h1 => ?_) <;> (rw [h1]; ((conv=>whnf);repeat(refine And.intro rfl ?_;(conv=>whnf)))))
  · have h1 : lo < hi := by ((try simp only [oo, reduceCtorEq] at *) <;> omega)
    rw [headQ h1 hhi, nats_cons] at hI
    have hx := hrg (Z.getD lo 0) (mem_getD (by omega))
    generalize hX : Z.getD lo 0 = x at hI hx
    (refine ⟨by omega, (by first | omega | (simp; done) | (simp; omega) | (simp only [ll]; omega)), ?_⟩; ((conv=>whnf);repeat(refine And.intro rfl ?_;(conv=>whnf))))
    refine ⟨_, intsD_at (l := Z) (k := lo) (by omega) (by omega), ?_⟩
    ((conv=>whnf);repeat(refine And.intro rfl ?_;(conv=>whnf)))
    rw [hX]
    refine ⟨by omega, by omega, by omega, ?_⟩
    ((conv=>whnf);repeat(refine And.intro rfl ?_;(conv=>whnf)))
    rw [show lo + (hi - lo) = hi by omega]
    refine ⟨by omega, _, gridD_at (g := T) (k := x.toNat) (by omega) (by omega), ?_⟩
    ((conv=>whnf);repeat(refine And.intro rfl ?_;(conv=>whnf)))
    rw [List.length_map]
    have hL := rT x.toNat
    have mL := mT x.toNat
    generalize T.getD x.toNat [] = L at hL mL
    refine pwp_for [0, 1, 7, 48, 49] (fun ((s', Z', lo', hi', ver', k) : (Nat → Bool) × List Int × Nat × Nat × Nat × Nat) => [(8, .own 3 ver' lo' hi'), (50, .sc (.int .i64 k))]) (fun (s', Z', lo', hi', ver', k) => [(2, .vec true 0 1 (rbl W.next.length s')), (3, .vec true ver' 1 (i64s Z'))])
      (fun (s', Z', lo', hi', ver', k) => k ≤ L.length ∧ lo' ≤ hi' ∧ hi' ≤ Z'.length ∧ (∀ x ∈ Z', 0 ≤ x ∧ x < (W.next.length : Int)) ∧ hi' - lo' + unseen s' W.next.length < hi - lo + unseen s W.next.length ∧ EuJ W.next a c s' (nats ((Z'.take hi').drop lo')) x.toNat (nats (L.take k))) (fun (s', Z', lo', hi', ver', k) => L.length - k) (s, Z, lo + 1, hi, ver, 0) ?_
    ((conv=>whnf);repeat(refine And.intro rfl ?_;(conv=>whnf)))
    refine ⟨⟨by omega, by omega, hhi, hrg, by omega, hI.pop⟩, by (repeat' (first | exact trivial | refine And.intro rfl ?_)), rfl, ?_⟩
    rintro ⟨s', Z', lo', hi', ver', k⟩ ⟨hk, hlo', hhi', hrg', hu', hJ⟩
    ((conv=>whnf);repeat(refine And.intro rfl ?_;(conv=>whnf)))
    (apply rd_sound; focus (repeat' constructor))
    ((conv=>whnf);repeat(refine And.intro rfl ?_;(conv=>whnf)))
    (refine ifK_split (fun h3 => ?_) (fun h3 => ?_) <;> (rw [h3]; ((conv=>whnf);repeat(refine And.intro rfl ?_;(conv=>whnf)))))
    · have hk' : k < L.length := by ((try simp only [oo, reduceCtorEq] at *) <;> omega)
      obtain ⟨v, hv1, hv2, y, hy1, hy2⟩ := (mL (L.getD k 0)).1 (mem_getD hk')
      have eT : nats (L.take (k + 1)) = nats (L.take k) ++ [v] := by
        rw [List.take_add_one, List.getElem?_eq_getElem hk', nats_app]
        rw [List.getD_eq_getElem?_getD, List.getElem?_eq_getElem hk'] at hv2
        simp at hv2
        simp [nats, hv2]
      refine ⟨by omega, _, intsD_at (l := L) (k := k) (by omega) hk', ?_⟩
      ((conv=>whnf);repeat(refine And.intro rfl ?_;(conv=>whnf)))
      rw [hv2]
      refine ⟨by omega, _, rbl_atN v (by omega) hv1, ?_⟩
      ((conv=>whnf);repeat(refine And.intro rfl ?_;(conv=>whnf)))
      cases av : a v
      · ((conv=>whnf);repeat(refine And.intro rfl ?_;(conv=>whnf)))
        (refine .inl ⟨by (unfold InR; rw [IntKind.wrap_i64]; omega), ?_⟩; ((conv=>whnf);repeat(refine And.intro rfl ?_;(conv=>whnf))))
        refine ⟨(s', Z', lo', hi', ver', k + 1), ⟨by omega, hlo', hhi', hrg', hu', by rw [eT]; exact hJ.skip fun q => by rw [av] at q; cases q⟩, by dsimp only; omega, leB_envH (by (repeat' (first | exact trivial | refine And.intro rfl ?_))) rfl⟩
      · ((conv=>whnf);repeat(refine And.intro rfl ?_;(conv=>whnf)))
        (refine ⟨by omega, (by first | omega | (simp; done) | (simp; omega) | (simp only [ll]; omega)), ?_⟩; ((conv=>whnf);repeat(refine And.intro rfl ?_;(conv=>whnf))))
        refine ⟨_, rbl_atN v (by omega) hv1, ?_⟩
        ((conv=>whnf);repeat(refine And.intro rfl ?_;(conv=>whnf)))
        cases sv : s' v
        · ((conv=>whnf);repeat(refine And.intro rfl ?_;(conv=>whnf)))
          (refine ⟨by omega, (by first | omega | (simp; done) | (simp; omega) | (simp only [ll]; omega)), ?_⟩; ((conv=>whnf);repeat(refine And.intro rfl ?_;(conv=>whnf))))
          refine ⟨_, rbl_atN v (by omega) hv1, ?_⟩
          ((conv=>whnf);repeat(refine And.intro rfl ?_;(conv=>whnf)))
          refine ⟨(by unfold sliceAppend; simp only [ll]; omega), ?_⟩
          ((conv=>whnf);repeat(refine And.intro rfl ?_;(conv=>whnf)))
          (refine .inl ⟨by (unfold InR; rw [IntKind.wrap_i64]; omega), ?_⟩; ((conv=>whnf);repeat(refine And.intro rfl ?_;(conv=>whnf))))
          have hl1 := unseen_lt (s := s') (s' := mark s' v) hv1 (fun j _ q => mark_of q) sv (mark_self _ _)
          refine ⟨(mark s' v, (Z'.take hi').drop lo' ++ [(v : Int)], 0, hi' - lo' + 1, ver' + 1, k + 1), ⟨by omega, by omega, by simp; omega, fun z hz => ?_, by omega, ?_⟩, by dsimp only; omega, ?_⟩
          · rcases List.mem_append.1 hz with q | q
            · exact hrg' z (List.mem_of_mem_take (List.mem_of_mem_drop q))
            · rw [List.mem_singleton] at q; omega
          · rw [List.drop_zero, List.take_of_length_le (by simp; omega), nats_app, eT]
            exact hJ.push hy1 hy2 av
          · (refine leB_close 4 (by simp) rfl ?_ ?_ <;> (repeat' (first | exact trivial | exact rfl | exact DeepM.refl _ | exact DeepML.refl _ | exact DeepMLL.refl _ | refine And.intro ?_ ?_ | (simp [Under, UnderL, UnderLL, -List.map_take, -List.map_drop]; done))))
            · exact deepMLL_eq (rbl_mark (by omega))
            · exact deepMLL_eq i64s_queueW
        · ((conv=>whnf);repeat(refine And.intro rfl ?_;(conv=>whnf)))
          (refine .inl ⟨by (unfold InR; rw [IntKind.wrap_i64]; omega), ?_⟩; ((conv=>whnf);repeat(refine And.intro rfl ?_;(conv=>whnf))))
          refine ⟨(s', Z', lo', hi', ver', k + 1), ⟨by omega, hlo', hhi', hrg', hu', by rw [eT]; exact hJ.skip fun _ => sv⟩, by dsimp only; omega, leB_envH (by (repeat' (first | exact trivial | refine And.intro rfl ?_))) rfl⟩
    · have hk' : k = L.length := by have : ¬ k < L.length := by ((try simp only [oo, reduceCtorEq] at *) <;> omega)
                                    omega
      subst hk'
      refine ⟨(s', Z', lo', hi', ver'), ⟨hlo', hhi', hrg', by omega, hJ.fin fun k y h1 h2 => ?_⟩, by dsimp only; omega, leB_envH (by (repeat' (first | exact trivial | refine And.intro rfl ?_))) rfl⟩
      have hk : k < W.next.length := by
        rcases Nat.lt_or_ge k W.next.length with q | q
        · exact q
        · rw [List.getD_eq_getElem?_getD, List.getElem?_eq_none q] at h1; cases h1
      rw [List.take_length]
      exact nats_mem.2 ⟨(k : Int), (mL k).2 ⟨k, hk, rfl, y, h1, h2⟩, by simp⟩
  have h0 : hi = lo := by ((try simp only [oo, reduceCtorEq] at *) <;> omega)
  subst h0
  rw [List.drop_eq_nil_of_le (by rw [List.length_take]; omega)] at hI
  rw [rbl_congr (g' := euB W.next a c) fun i _ => hI.end_ i]
  exact deep_vec rfl
set_option maxRecDepth 100000 in
theorem la_euO (W : WorldD) (hc : W.chk = 0) (a b : Nat → Bool) : ACall Try.prog 197 [dlab W, dbl W.next.length a, dbl W.next.length b] [] (.own 2 0 0 W.next.length) [.row true [dbl W.next.length b], .row true [dbl W.next.length (fairF W)], .vec true 0 1 (rbl W.next.length (euF W a b))] := by
  obtain ⟨_, h600, h80, _, hnx, hfr⟩ := chk_label W hc
  have hin0 : ∀ l ∈ W.next, inB l W.next.length = true := fun l hl => (hnx l hl).2
  have hrow := fun k => inB_row hin0 k
  have hin' : ∀ v y, y ∈ W.next.getD v [] → y.toNat < W.next.length := fun v x hx => by have := inB_mem (hrow v) hx; omega
  have hB := la_bothO W (by omega) b (fairF W)
  have e0 : euF W a b = euB W.next a (andF b (fairF W)) := rfl
  rw [e0]
  clear e0
  generalize andF b (fairF W) = c at *
  refine acall_intro c197_ok (by simp) (by simp) ?_ (by simp [Under]) (by simp [AObj.under, UnderL, underLL_pure _ (pure_rbl _ _)])
  unfold dlab lcel at *
  generalize hT : turnG W.next W.next.length = T at *
  have lT : T.length = W.next.length := by rw [← hT, turnG_len]
  have mT : ∀ (m : Nat) (x : Int), x ∈ T.getD m [] ↔ ∃ k, k < W.next.length ∧ x = (k : Int) ∧ ∃ y, y ∈ W.next.getD k [] ∧ y.toNat = m := fun m x => by rw [← hT]; exact turnG_mem hin' (Nat.le_refl _)
  have rT : ∀ m, (T.getD m []).length ≤ W.next.length := fun m => by rw [← hT]; exact turnG_row W.next W.next.length m
  (apply rd_sound; focus (repeat' constructor))
  ((conv=>whnf);repeat(refine And.intro rfl ?_;(conv=>whnf)))
  (refine .inr (.inr (.inl ⟨rfl, _, _, hB, ?_⟩)); ((conv=>whnf);repeat(refine And.intro rfl ?_;(conv=>whnf))))
  refine pwp_ghostB (leB_nil 8 1 (by simp) rfl) ?_
  refine pwp_for [0, 1, 7, 21, 22] (fun k : Nat => [(8, .own 3 (endsT c k).length 0 (endsT c k).length), (23, .sc (.int .i64 k))]) (fun k => [(3, .vec true (endsT c k).length 1 (i64s (endsT c k)))]) (fun k => k ≤ W.next.length) (fun k => W.next.length - k) 0 ?_
  ((conv=>whnf);repeat(refine And.intro rfl ?_;(conv=>whnf)))
  refine ⟨by omega, by (repeat' (first | exact trivial | refine And.intro rfl ?_)), rfl, ?_⟩
  rintro k hk
  have hcl := endsT_len c k
  have eS := endsT_succ c k
  ((conv=>whnf);repeat(refine And.intro rfl ?_;(conv=>whnf)))
  (apply rd_sound; focus (repeat' constructor))
  ((conv=>whnf);repeat(refine And.intro rfl ?_;(conv=>whnf)))
  (refine ifK_split (fun q0 => ?_) (fun q0 => ?_) <;> (rw [q0]; ((conv=>whnf);repeat(refine And.intro rfl ?_;(conv=>whnf)))))
  · have q0 : k < W.next.length := by ((try simp only [oo, reduceCtorEq] at *) <;> omega)
    (refine ⟨by omega, (by first | omega | (simp; done) | (simp; omega) | (simp only [ll]; omega)), ?_⟩; ((conv=>whnf);repeat(refine And.intro rfl ?_;(conv=>whnf))))
    refine ⟨_, rbl_atN k (by omega) q0, ?_⟩
    ((conv=>whnf);repeat(refine And.intro rfl ?_;(conv=>whnf)))
    cases r : c k
    · rw [r, if_neg (by decide)] at eS
      ((conv=>whnf);repeat(refine And.intro rfl ?_;(conv=>whnf)))
      (refine .inl ⟨by (unfold InR; rw [IntKind.wrap_i64]; omega), ?_⟩; ((conv=>whnf);repeat(refine And.intro rfl ?_;(conv=>whnf))))
      refine ⟨k + 1, by omega, by dsimp only; omega, ?_⟩
      dsimp only
      rw [eS]
      exact leB_envH (by (repeat' (first | exact trivial | refine And.intro rfl ?_))) rfl
    · rw [r, if_pos rfl] at eS
      ((conv=>whnf);repeat(refine And.intro rfl ?_;(conv=>whnf)))
      refine ⟨(by unfold sliceAppend; simp only [ll]; omega), ?_⟩
      ((conv=>whnf);repeat(refine And.intro rfl ?_;(conv=>whnf)))
      (refine .inl ⟨by (unfold InR; rw [IntKind.wrap_i64]; omega), ?_⟩; ((conv=>whnf);repeat(refine And.intro rfl ?_;(conv=>whnf))))
      refine ⟨k + 1, by omega, by dsimp only; omega, ?_⟩
      dsimp only
      rw [eS, show (endsT c k ++ [(k : Int)]).length = (endsT c k).length + 1 by simp]
      (refine leB_close 4 (by simp) rfl ?_ ?_ <;> (repeat' (first | exact trivial | exact rfl | exact DeepM.refl _ | exact DeepML.refl _ | exact DeepMLL.refl _ | refine And.intro ?_ ?_ | (simp [Under, UnderL, UnderLL, -List.map_take, -List.map_drop]; done))))
      exact deepMLL_eq (by rw [i64s_app, List.take_length])
  have q0 : k = W.next.length := by have : ¬ k < W.next.length := by ((try simp only [oo, reduceCtorEq] at *) <;> omega)
                                    omega
  subst q0
  clear eS
  refine pwp_for [0, 1, 7] (fun ((s, Z, lo, hi, ver) : (Nat → Bool) × List Int × Nat × Nat × Nat) => [(8, .own 3 ver lo hi)]) (fun (s, Z, lo, hi, ver) => [(2, .vec true 0 1 (rbl W.next.length s)), (3, .vec true ver 1 (i64s Z))])
    (fun (s, Z, lo, hi, ver) => lo ≤ hi ∧ hi ≤ Z.length ∧ (∀ x ∈ Z, 0 ≤ x ∧ x < (W.next.length : Int)) ∧ hi - lo + unseen s W.next.length ≤ W.next.length ∧ EuI W.next a c s (nats ((Z.take hi).drop lo))) (fun (s, Z, lo, hi, ver) => hi - lo + unseen s W.next.length) (c, endsT c W.next.length, 0, (endsT c W.next.length).length, (endsT c W.next.length).length) ?_
  ((conv=>whnf);repeat(refine And.intro rfl ?_;(conv=>whnf)))
  refine ⟨⟨by omega, by omega, fun x hx => ⟨(endsT_mem.1 hx).1, (endsT_mem.1 hx).2.1⟩, by rw [Nat.sub_zero]; exact Nat.le_of_eq (ends_unseen c _), ?_⟩, by (repeat' (first | exact trivial | refine And.intro rfl ?_)), rfl, ?_⟩
  · rw [List.take_length, List.drop_zero]
    refine ⟨fun v hv => .base hv, fun v hv => hv, fun v hv => ?_, fun v hv => ?_⟩
    · obtain ⟨x, hx, rfl⟩ := nats_mem.1 hv
      exact (endsT_mem.1 hx).2.2
    · by_cases q : v < W.next.length
      · exact .inl (nats_mem.2 ⟨(v : Int), endsT_mem.2 ⟨by omega, by omega, by rw [Int.toNat_natCast]; exact hv⟩, by simp⟩)
      · exact .inr fun k x hx e => absurd (e ▸ hin' k x hx) q
  rintro ⟨s, Z, lo, hi, ver⟩ ⟨hlo, hhi, hrg, hu, hI⟩
  ((conv=>whnf);repeat(refine And.intro rfl ?_;(conv=>whnf)))
  (apply rd_sound; focus (repeat' constructor))
  ((conv=>whnf);repeat(refine And.intro rfl ?_;(conv=>whnf)))
  (refine ifK_split (fun h1 => ?_) (fun h1 => ?_) <;> (rw [h1]; ((conv=>whnf);repeat(refine And.intro rfl ?_;(conv=>whnf)))))
  · have h1 : lo < hi := by ((try simp only [oo, reduceCtorEq] at *) <;> omega)
    rw [headQ h1 hhi, nats_cons] at hI
    have hx := hrg (Z.getD lo 0) (mem_getD (by omega))
    generalize hX : Z.getD lo 0 = x at hI hx
    (refine ⟨by omega, (by first | omega | (simp; done) | (simp; omega) | (simp only [ll]; omega)), ?_⟩; ((conv=>whnf);repeat(refine And.intro rfl ?_;(conv=>whnf))))
    refine ⟨_, intsD_at (l := Z) (k := lo) (by omega) (by omega), ?_⟩
    ((conv=>whnf);repeat(refine And.intro rfl ?_;(conv=>whnf)))
    rw [hX]
    refine ⟨by omega, by omega, by omega, ?_⟩
    ((conv=>whnf);repeat(refine And.intro rfl ?_;(conv=>whnf)))
    rw [show lo + (hi - lo) = hi by omega]
    refine ⟨by omega, _, gridD_at (g := T) (k := x.toNat) (by omega) (by omega), ?_⟩
    ((conv=>whnf);repeat(refine And.intro rfl ?_;(conv=>whnf)))
    rw [List.length_map]
    have hL := rT x.toNat
    have mL := mT x.toNat
    generalize T.getD x.toNat [] = L at hL mL
    refine pwp_for [0, 1, 7, 48, 49] (fun ((s', Z', lo', hi', ver', k) : (Nat → Bool) × List Int × Nat × Nat × Nat × Nat) => [(8, .own 3 ver' lo' hi'), (50, .sc (.int .i64 k))]) (fun (s', Z', lo', hi', ver', k) => [(2, .vec true 0 1 (rbl W.next.length s')), (3, .vec true ver' 1 (i64s Z'))])
      (fun (s', Z', lo', hi', ver', k) => k ≤ L.length ∧ lo' ≤ hi' ∧ hi' ≤ Z'.length ∧ (∀ x ∈ Z', 0 ≤ x ∧ x < (W.next.length : Int)) ∧ hi' - lo' + unseen s' W.next.length < hi - lo + unseen s W.next.length ∧ EuJ W.next a c s' (nats ((Z'.take hi').drop lo')) x.toNat (nats (L.take k))) (fun (s', Z', lo', hi', ver', k) => L.length - k) (s, Z, lo + 1, hi, ver, 0) ?_
    ((conv=>whnf);repeat(refine And.intro rfl ?_;(conv=>whnf)))
    refine ⟨⟨by omega, by omega, hhi, hrg, by omega, hI.pop⟩, by (repeat' (first | exact trivial | refine And.intro rfl ?_)), rfl, ?_⟩
    rintro ⟨s', Z', lo', hi', ver', k⟩ ⟨hk, hlo', hhi', hrg', hu', hJ⟩
    ((conv=>whnf);repeat(refine And.intro rfl ?_;(conv=>whnf)))
    (apply rd_sound; focus (repeat' constructor))
    ((conv=>whnf);repeat(refine And.intro rfl ?_;(conv=>whnf)))
    (refine ifK_split (fun h3 => ?_) (fun h3 => ?_) <;> (rw [h3]; ((conv=>whnf);repeat(refine And.intro rfl ?_;(conv=>whnf)))))
    · have hk' : k < L.length := by ((try simp only [oo, reduceCtorEq] at *) <;> omega)
      obtain ⟨v, hv1, hv2, y, hy1, hy2⟩ := (mL (L.getD k 0)).1 (mem_getD hk')
      have eT : nats (L.take (k + 1)) = nats (L.take k) ++ [v] := by
        rw [List.take_add_one, List.getElem?_eq_getElem hk', nats_app]
        rw [List.getD_eq_getElem?_getD, List.getElem?_eq_getElem hk'] at hv2
        simp at hv2
        simp [nats, hv2]
      refine ⟨by omega, _, intsD_at (l := L) (k := k) (by omega) hk', ?_⟩
      ((conv=>whnf);repeat(refine And.intro rfl ?_;(conv=>whnf)))
      rw [hv2]
      refine ⟨by omega, _, rbl_atN v (by omega) hv1, ?_⟩
      ((conv=>whnf);repeat(refine And.intro rfl ?_;(conv=>whnf)))
      cases av : a v
      · ((conv=>whnf);repeat(refine And.intro rfl ?_;(conv=>whnf)))
        (refine .inl ⟨by (unfold InR; rw [IntKind.wrap_i64]; omega), ?_⟩; ((conv=>whnf);repeat(refine And.intro rfl ?_;(conv=>whnf))))
        refine ⟨(s', Z', lo', hi', ver', k + 1), ⟨by omega, hlo', hhi', hrg', hu', by rw [eT]; exact hJ.skip fun q => by rw [av] at q; cases q⟩, by dsimp only; omega, leB_envH (by (repeat' (first | exact trivial | refine And.intro rfl ?_))) rfl⟩
      · ((conv=>whnf);repeat(refine And.intro rfl ?_;(conv=>whnf)))
        (refine ⟨by omega, (by first | omega | (simp; done) | (simp; omega) | (simp only [ll]; omega)), ?_⟩; ((conv=>whnf);repeat(refine And.intro rfl ?_;(conv=>whnf))))
        refine ⟨_, rbl_atN v (by omega) hv1, ?_⟩
        ((conv=>whnf);repeat(refine And.intro rfl ?_;(conv=>whnf)))
        cases sv : s' v
        · ((conv=>whnf);repeat(refine And.intro rfl ?_;(conv=>whnf)))
          (refine ⟨by omega, (by first | omega | (simp; done) | (simp; omega) | (simp only [ll]; omega)), ?_⟩; ((conv=>whnf);repeat(refine And.intro rfl ?_;(conv=>whnf))))
          refine ⟨_, rbl_atN v (by omega) hv1, ?_⟩
          ((conv=>whnf);repeat(refine And.intro rfl ?_;(conv=>whnf)))
          refine ⟨(by unfold sliceAppend; simp only [ll]; omega), ?_⟩
          ((conv=>whnf);repeat(refine And.intro rfl ?_;(conv=>whnf)))
          (refine .inl ⟨by (unfold InR; rw [IntKind.wrap_i64]; omega), ?_⟩; ((conv=>whnf);repeat(refine And.intro rfl ?_;(conv=>whnf))))
          have hl1 := unseen_lt (s := s') (s' := mark s' v) hv1 (fun j _ q => mark_of q) sv (mark_self _ _)
          refine ⟨(mark s' v, (Z'.take hi').drop lo' ++ [(v : Int)], 0, hi' - lo' + 1, ver' + 1, k + 1), ⟨by omega, by omega, by simp; omega, fun z hz => ?_, by omega, ?_⟩, by dsimp only; omega, ?_⟩
          · rcases List.mem_append.1 hz with q | q
            · exact hrg' z (List.mem_of_mem_take (List.mem_of_mem_drop q))
            · rw [List.mem_singleton] at q; omega
          · rw [List.drop_zero, List.take_of_length_le (by simp; omega), nats_app, eT]
            exact hJ.push hy1 hy2 av
          · (refine leB_close 4 (by simp) rfl ?_ ?_ <;> (repeat' (first | exact trivial | exact rfl | exact DeepM.refl _ | exact DeepML.refl _ | exact DeepMLL.refl _ | refine And.intro ?_ ?_ | (simp [Under, UnderL, UnderLL, -List.map_take, -List.map_drop]; done))))
            · exact deepMLL_eq (rbl_mark (by omega))
            · exact deepMLL_eq i64s_queueW
        · ((conv=>whnf);repeat(refine And.intro rfl ?_;(conv=>whnf)))
          (refine .inl ⟨by (unfold InR; rw [IntKind.wrap_i64]; omega), ?_⟩; ((conv=>whnf);repeat(refine And.intro rfl ?_;(conv=>whnf))))
          refine ⟨(s', Z', lo', hi', ver', k + 1), ⟨by omega, hlo', hhi', hrg', hu', by rw [eT]; exact hJ.skip fun _ => sv⟩, by dsimp only; omega, leB_envH (by (repeat' (first | exact trivial | refine And.intro rfl ?_))) rfl⟩
    · have hk' : k = L.length := by have : ¬ k < L.length := by ((try simp only [oo, reduceCtorEq] at *) <;> omega)
                                    omega
      subst hk'
      refine ⟨(s', Z', lo', hi', ver'), ⟨hlo', hhi', hrg', by omega, hJ.fin fun k y h1 h2 => ?_⟩, by dsimp only; omega, leB_envH (by (repeat' (first | exact trivial | refine And.intro rfl ?_))) rfl⟩
      have hk : k < W.next.length := by
        rcases Nat.lt_or_ge k W.next.length with q | q
        · exact q
        · rw [List.getD_eq_getElem?_getD, List.getElem?_eq_none q] at h1; cases h1
      rw [List.take_length]
      exact nats_mem.2 ⟨(k : Int), (mL k).2 ⟨k, hk, rfl, y, h1, h2⟩, by simp⟩
  have h0 : hi = lo := by ((try simp only [oo, reduceCtorEq] at *) <;> omega)
  subst h0
  rw [List.drop_eq_nil_of_le (by rw [List.length_take]; omega)] at hI
  rw [rbl_congr (g' := euB W.next a c) fun i _ => hI.end_ i]
  exact ⟨rfl, by simp⟩
end Go.Proofs.Ytfgklgjbnpjpoaa
