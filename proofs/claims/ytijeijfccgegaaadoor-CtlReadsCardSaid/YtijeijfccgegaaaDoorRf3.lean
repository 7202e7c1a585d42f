/-
  The reference's reader of formulas of all ways, over deep values: what stands behind a sign. No statement is proved here.
-/
import Derived.Test.YtijeijfccgegaaaDoorRf2
namespace Go.Proofs.YtijeijfccgegaaaDoor
open Go.RowKit
set_option linter.unusedSimpArgs false
set_option linter.unusedVariables false
section
variable (s : ByteArray) (K : Nat) (names : List ByteArray)
theorem notEnd {K : Nat} {s : ByteArray} (hK : eqS (tokT s K) ⟨#[]⟩ = true) {m : Nat} (hm : m ≤ K) {t : ByteArray} (he : eqS (tokT s m) t = true) (h0 : 0 < t.size) : m + 1 ≤ K := by
  rcases Nat.lt_or_ge m K with h | h
  · exact h
  · rw [show m = K by omega] at he
    have := eqS_size he
    rw [(eqS_empty _).1 hK] at this
    omega
def c127 : PC := .seq (.ops [q 2 (.alloc [(.string ⟨#[]⟩), (.int .i64 0), (.slice none 0 0)])] false) (.seq (.ops [qm 6 0,q 7 (.call 137 [(.tmp 6)]),q 3 (.alloc [(.string ⟨#[]⟩), (.int .i64 0), (.slice none 0 0)]),qn (.store 3 (.tmp 3) (.tmp 7))] false) (.seq (.seq (.ops [qm 8 0,q 9 (.nilchk (.tmp 8)),q 10 (.faddr 6 (.tmp 9)),q 11 (.load1 (.tmp 10))] false) (.cond (.tmp 11) (.seq (.ops [q 12 (.loadA 3 (.tmp 3)),qn (.store 3 (.tmp 2) (.tmp 12))] false) (.ret)) (.skip))) (.seq (.seq (.ops [qm 13 0,q 14 (.call 94 [(.tmp 13), (.const (.string ⟨#[85]⟩))])] false) (.cond (.tmp 14) (.seq (.ops [q 15 (.loadA 3 (.tmp 3)),qm 16 0,qd 17 (.call 127 [(.tmp 16)]) 2,qd 18 (.bslice 3 2 [(.tmp 15), (.tmp 17)]) 7,qd 19 (.build [(.string ⟨#[]⟩), (.int .i64 0), (.slice none 0 0)] [(0, 1, (.const (.string ⟨#[85]⟩))), (1, 1, (.const (.int .i64 0))), (2, 1, (.tmp 18))]) 15,qk (.store 3 (.tmp 2) (.tmp 19)) 31] true) (.ret)) (.skip))) (.seq (.seq (.ops [qm 20 0,q 21 (.call 94 [(.tmp 20), (.const (.string ⟨#[82]⟩))])] false) (.cond (.tmp 21) (.seq (.ops [q 22 (.loadA 3 (.tmp 3)),qm 23 0,qd 24 (.call 127 [(.tmp 23)]) 2,qd 25 (.bslice 3 2 [(.tmp 22), (.tmp 24)]) 7,qd 26 (.build [(.string ⟨#[]⟩), (.int .i64 0), (.slice none 0 0)] [(0, 1, (.const (.string ⟨#[82]⟩))), (1, 1, (.const (.int .i64 0))), (2, 1, (.tmp 25))]) 15,qk (.store 3 (.tmp 2) (.tmp 26)) 31] true) (.ret)) (.skip))) (.seq (.seq (.ops [qm 27 0,q 28 (.call 94 [(.tmp 27), (.const (.string ⟨#[87]⟩))])] false) (.cond (.tmp 28) (.seq (.ops [qm 29 0,q 30 (.call 127 [(.tmp 29)]),q 4 (.alloc [(.string ⟨#[]⟩), (.int .i64 0), (.slice none 0 0)]),qn (.store 3 (.tmp 4) (.tmp 30))] false) (.seq (.ops [q 31 (.loadA 3 (.tmp 4)),q 5 (.alloc [(.string ⟨#[]⟩), (.int .i64 0), (.slice none 0 0)]),qn (.store 3 (.tmp 5) (.tmp 31))] false) (.seq (.seq (.ops [q 32 (.loadA 3 (.tmp 4)),q 33 (.call 138 [(.tmp 32), (.const (.int .i64 0))]),q 34 (.bin .gtr (.tmp 33) (.const (.int .i64 60)))] false) (.cond (.tmp 34) (.ops [q 35 (.build [(.string ⟨#[]⟩), (.int .i64 0), (.slice none 0 0)] [(0, 1, (.const (.string ⟨#[116, 114, 117, 101]⟩))), (1, 1, (.const (.int .i64 0))), (2, 1, (.const (.slice none 0 0)))]),qn (.store 3 (.tmp 5) (.tmp 35))] false) (.skip))) (.seq (.ops [q 36 (.loadA 3 (.tmp 4)),q 37 (.loadA 3 (.tmp 3)),q 38 (.loadA 3 (.tmp 5)),q 39 (.bslice 3 2 [(.tmp 37), (.tmp 38)]),q 40 (.build [(.string ⟨#[]⟩), (.int .i64 0), (.slice none 0 0)] [(0, 1, (.const (.string ⟨#[47]⟩))), (1, 1, (.const (.int .i64 0))), (2, 1, (.tmp 39))]),q 41 (.bslice 3 2 [(.tmp 36), (.tmp 40)]),q 42 (.build [(.string ⟨#[]⟩), (.int .i64 0), (.slice none 0 0)] [(0, 1, (.const (.string ⟨#[82]⟩))), (1, 1, (.const (.int .i64 0))), (2, 1, (.tmp 41))]),qn (.store 3 (.tmp 2) (.tmp 42))] false) (.ret))))) (.skip))) (.seq (.ops [q 43 (.loadA 3 (.tmp 3)),qn (.store 3 (.tmp 2) (.tmp 43))] false) (.ret)))))))
set_option maxRecDepth 100000 in
theorem c127_ok : FunOK Tryd.prog 127 44 [.agg 2 3] c127 := ⟨⟨Tryd.f127, Tryd.func127, rfl, by kernel_rfl, rfl, by kernel_rfl⟩⟩
theorem refC_way (o : Nat) (f : Nat) (hp : ∀ f' n r, f' < f → n ≤ K → runR (tokT s) names true f' .single o n = some r → RAns s K names true 137 [.loc 0 0] n o r)
    (n : Nat) (hn : n ≤ K) (r : Res) (hr : runR (tokT s) names true f .way o n = some r) : RAns s K names true 127 [.loc 0 0] n o r := by
  cases f with
  | zero => simp [runR] at hr
  | succ f =>
    simp only [runR] at hr
    have h1 : runR (tokT s) names true f .single o n = some r := by
      rcases bindR_some hr with ⟨a, m, h1, h2⟩ | ⟨c, m, t, y, h1, rfl⟩
      · have h2 : some (Res.ok a m) = some r := h2
        rw [h1, h2]
      · exact h1
    have hA : ACall Tryd.prog 137 [.loc 0 0] _ _ _ := hp f n _ (by omega) hn h1
    refine acall_introD c127_ok (by simp) (by simp) ?_ (under_pure _ (pure_rtree _ _))
    (apply rd_sound; focus (repeat' constructor))
    ((conv=>whnf);repeat(refine⟨rfl,?_⟩;conv=>whnf))
    (refine .inr (.inr (.inl ⟨rfl, _, _, (txtP hA (by simp [UnderL, Under]) _), ?_⟩)); ((conv=>whnf);repeat(refine⟨rfl,?_⟩;conv=>whnf)))
    exact ⟨by (repeat' (first | exact trivial | exact DeepM.none _ | refine And.intro ?_ ?_ | exact Or.inl rfl | exact Or.inr ⟨rfl, rfl⟩ | exact fun _ => rfl | exact (fun h => by cases h) | refine DeepM.loc _ _ _ _ _ rfl rfl ?_ | refine DeepM.own _ _ _ _ _ _ _ _ rfl rfl ?_ | refine DeepM.fn _ _ _ _ _ ?_ ?_ | refine DeepM.agg _ _ ?_ | refine DeepM.tup _ _ ?_ | refine DeepM.ifc _ _ _ ?_ | exact DeepM.refl _ | refine DeepML.cons _ _ _ _ ?_ ?_ | exact DeepML.refl _ | refine DeepMLL.cons _ _ _ _ ?_ ?_ | exact DeepMLL.refl _ | exact rfl)), close_oneT (pure_txt s K names true _ o _ _)⟩
theorem eqS_eq {a b : ByteArray} (h : eqS a b = true) : a = b := by
  unfold eqS at h
  rw [beq_iff_eq, ByteArray.toList_eq, ByteArray.toList_eq] at h
  cases a; cases b
  simp only [Array.toList_inj] at h
  rw [h]
def sE (e : Bool) : ByteArray := match e with | true => one 69 | false => one 65
def c141 : PC := .seq (.ops [q 4 (.alloc [(.string ⟨#[]⟩), (.int .i64 0), (.slice none 0 0)])] false) (.seq (.seq (.ops [qm 8 0,q 9 (.call 94 [(.tmp 8), (.const (.string ⟨#[91]⟩))])] false) (.cond (.tmp 9) (.seq (.ops [qm 10 0,q 11 (.call 61 [(.tmp 10)]),q 5 (.alloc [(.string ⟨#[]⟩), (.int .i64 0), (.slice none 0 0)]),qn (.store 3 (.tmp 5) (.tmp 11))] false) (.seq (.seq (.ops [qm 12 0,q 13 (.call 94 [(.tmp 12), (.const (.string ⟨#[85]⟩))]),q 14 (.un .not (.tmp 13))] false) (.cond (.tmp 14) (.seq (.ops [qm 15 0,q 16 (.call 63 [(.tmp 15), (.const (.int .i64 3))]),qn (.store 3 (.tmp 4) (.tmp 16))] false) (.ret)) (.skip))) (.seq (.ops [qm 17 0,q 18 (.call 61 [(.tmp 17)]),q 6 (.alloc [(.string ⟨#[]⟩), (.int .i64 0), (.slice none 0 0)]),qn (.store 3 (.tmp 6) (.tmp 18))] false) (.seq (.seq (.ops [qm 19 0,q 20 (.call 94 [(.tmp 19), (.const (.string ⟨#[93]⟩))]),q 21 (.un .not (.tmp 20))] false) (.cond (.tmp 21) (.seq (.ops [qm 22 0,q 23 (.call 63 [(.tmp 22), (.const (.int .i64 3))]),qn (.store 3 (.tmp 4) (.tmp 23))] false) (.ret)) (.skip))) (.seq (.ops [qm 24 1,q 25 (.bin .add (.tmp 24) (.const (.string ⟨#[85]⟩))),q 26 (.loadA 3 (.tmp 5)),q 27 (.loadA 3 (.tmp 6)),q 28 (.bslice 3 2 [(.tmp 26), (.tmp 27)]),q 29 (.build [(.string ⟨#[]⟩), (.int .i64 0), (.slice none 0 0)] [(0, 1, (.tmp 25)), (1, 1, (.const (.int .i64 0))), (2, 1, (.tmp 28))]),qn (.store 3 (.tmp 4) (.tmp 29))] false) (.ret)))))) (.skip))) (.seq (.ops [qm 30 0,qd 31 (.nilchk (.tmp 30)) 1,qd 32 (.faddr 0 (.tmp 31)) 3,qd 33 (.load1 (.tmp 32)) 7,qm 34 0,qd 35 (.nilchk (.tmp 34)) 16,qd 36 (.faddr 1 (.tmp 35)) 48,qd 37 (.load1 (.tmp 36)) 112,qd 38 (.iaddr 2 (.tmp 33) (.tmp 37)) 255,qd 39 (.faddr 0 (.tmp 38)) 511,qd 40 (.load1 (.tmp 39)) 1023,qw 7 40 2047] true) (.seq (.seq (.ops [qm 41 7,q 42 (.bin .neq (.tmp 41) (.const (.string ⟨#[88]⟩))),qm 43 42,⟨some 44,.move (.tmp 7),some (43,true),0⟩,⟨some 45,.bin .neq (.tmp 44) (.const (.string ⟨#[70]⟩)),some (43,true),0⟩,q 46 (.pick (.tmp 43) (.tmp 45) (.const (.bool false))),qm 47 46,⟨some 48,.move (.tmp 7),some (47,true),0⟩,⟨some 49,.bin .neq (.tmp 48) (.const (.string ⟨#[71]⟩)),some (47,true),0⟩,q 50 (.pick (.tmp 47) (.tmp 49) (.const (.bool false)))] false) (.cond (.tmp 50) (.seq (.ops [qm 51 0,q 52 (.call 63 [(.tmp 51), (.const (.int .i64 3))]),qn (.store 3 (.tmp 4) (.tmp 52))] false) (.ret)) (.skip))) (.seq (.ops [qm 53 0,q 54 (.nilchk (.tmp 53)),q 55 (.faddr 1 (.tmp 54)),q 56 (.load1 (.tmp 55)),q 57 (.bin .add (.tmp 56) (.const (.int .i64 1))),q 58 (.nilchk (.tmp 53)),q 59 (.faddr 1 (.tmp 58)),qn (.store 1 (.tmp 59) (.tmp 57))] false) (.seq (.ops [qm 60 1,qm 61 7,q 62 (.bin .add (.tmp 60) (.tmp 61)),qm 63 0,q 64 (.call 137 [(.tmp 63)]),q 65 (.bslice 3 1 [(.tmp 64)]),q 66 (.build [(.string ⟨#[]⟩), (.int .i64 0), (.slice none 0 0)] [(0, 1, (.tmp 62)), (1, 1, (.const (.int .i64 0))), (2, 1, (.tmp 65))]),qn (.store 3 (.tmp 4) (.tmp 66))] false) (.ret))))))
set_option maxRecDepth 100000 in
theorem c141_ok : FunOK Tryd.prog 141 67 [.agg 4 3] c141 := ⟨⟨Tryd.f141, Tryd.func141, rfl, by kernel_rfl, rfl, by kernel_rfl⟩⟩
theorem ref_ways (hK : eqS (tokT s K) ⟨#[]⟩ = true) (hK3 : K ≤ 300) (o : Nat) (f : Nat) (hp : ∀ f' n r, f' < f → n ≤ K → runR (tokT s) names true f' .formula o n = some r → RAns s K names true 61 [.loc 0 0] n o r)
    (hq : ∀ f' n r, f' < f → n ≤ K → runR (tokT s) names true f' .single o n = some r → RAns s K names true 137 [.loc 0 0] n o r)
    (e : Bool) (n : Nat) (hn : n ≤ K) (r : Res) (hr : runR (tokT s) names true f (.ways e) o n = some r) : RAns s K names true 141 [.loc 0 0, .sc (.string (sE e))] n o r := by
  cases f with
  | zero => simp [runR] at hr
  | succ f =>
    simp only [runR] at hr
    have hT := ref_eat s K names true hK3 n o hn 0 (one 91)
    by_cases hB : eqS (tokT s n) (one 91) = true
    · rw [if_pos hB] at hr hT
      rw [hB] at hT
      have hn1 := notEnd hK hn hB (by decide)
      rcases bindR_some hr with ⟨a, m, h1, h2⟩ | ⟨c, m, t, y, h1, rfl⟩
      · have hm : m ≤ K := runR_in hK _ _ _ _ _ hn1 h1
        have hA : ACall Tryd.prog 61 _ _ _ _ := hp f _ _ (by omega) hn1 h1
        have hU := ref_eat s K names true hK3 m o hm 0 (one 85)
        by_cases hu : eqS (tokT s m) (one 85) = true
        · rw [if_pos hu] at h2 hU
          rw [hu] at hU
          have hm1 := notEnd hK hm hu (by decide)
          rcases bindR_some h2 with ⟨b, k, h3, h4⟩ | ⟨c, k, t, y, h3, rfl⟩
          · have hk : k ≤ K := runR_in hK _ _ _ _ _ hm1 h3
            have hF : ACall Tryd.prog 61 _ _ _ _ := hp f _ _ (by omega) hm1 h3
            have hV := ref_eat s K names true hK3 k o hk 0 (one 93)
            by_cases hv : eqS (tokT s k) (one 93) = true
            · rw [if_pos hv] at h4 hV
              rw [hv] at hV
              cases h4
              refine acall_introD c141_ok (by simp) (by simp) ?_ (under_pure _ (pure_rtree _ _))
              (apply rd_sound; focus (repeat' constructor))
              ((conv=>whnf);repeat(refine⟨rfl,?_⟩;conv=>whnf))
              (refine .inr (.inr (.inl ⟨rfl, _, _, (txtP hT (by simp [UnderL, Under]) _), ?_⟩)); ((conv=>whnf);repeat(refine⟨rfl,?_⟩;conv=>whnf)))
              (refine .inr (.inr (.inl ⟨rfl, _, _, (txtP hA (by simp [UnderL, Under]) _), ?_⟩)); ((conv=>whnf);repeat(refine⟨rfl,?_⟩;conv=>whnf)))
              (refine .inr (.inr (.inl ⟨rfl, _, _, (txtP hU (by simp [UnderL, Under]) _), ?_⟩)); ((conv=>whnf);repeat(refine⟨rfl,?_⟩;conv=>whnf)))
              (refine .inr (.inr (.inl ⟨rfl, _, _, (txtP hF (by simp [UnderL, Under]) _), ?_⟩)); ((conv=>whnf);repeat(refine⟨rfl,?_⟩;conv=>whnf)))
              (refine .inr (.inr (.inl ⟨rfl, _, _, (txtP hV (by simp [UnderL, Under]) _), ?_⟩)); ((conv=>whnf);repeat(refine⟨rfl,?_⟩;conv=>whnf)))
              refine ⟨by cases e <;> decide, ?_⟩
              ((conv=>whnf);repeat(refine⟨rfl,?_⟩;conv=>whnf))
              refine ⟨.agg _ _ ?_, close_oneT (pure_txt s K names true _ o _ _)⟩
              cases e
              · (refine rr2 (a := a) (b := b) (k := 14) (id := 4) true ?_ ?_ ?_) <;> rfl
              · (refine rr2 (a := a) (b := b) (k := 10) (id := 4) true ?_ ?_ ?_) <;> rfl
            · rw [if_neg hv] at h4 hV
              rw [show eqS (tokT s k) (one 93) = false by simpa using hv] at hV
              have hW := ref_wrong s K names true k o hk 3
              cases h4
              refine acall_introD c141_ok (by simp) (by simp) ?_ (under_pure _ (pure_rtree _ _))
              (apply rd_sound; focus (repeat' constructor))
              ((conv=>whnf);repeat(refine⟨rfl,?_⟩;conv=>whnf))
              (refine .inr (.inr (.inl ⟨rfl, _, _, (txtP hT (by simp [UnderL, Under]) _), ?_⟩)); ((conv=>whnf);repeat(refine⟨rfl,?_⟩;conv=>whnf)))
              (refine .inr (.inr (.inl ⟨rfl, _, _, (txtP hA (by simp [UnderL, Under]) _), ?_⟩)); ((conv=>whnf);repeat(refine⟨rfl,?_⟩;conv=>whnf)))
              (refine .inr (.inr (.inl ⟨rfl, _, _, (txtP hU (by simp [UnderL, Under]) _), ?_⟩)); ((conv=>whnf);repeat(refine⟨rfl,?_⟩;conv=>whnf)))
              (refine .inr (.inr (.inl ⟨rfl, _, _, (txtP hF (by simp [UnderL, Under]) _), ?_⟩)); ((conv=>whnf);repeat(refine⟨rfl,?_⟩;conv=>whnf)))
              (refine .inr (.inr (.inl ⟨rfl, _, _, (txtP hV (by simp [UnderL, Under]) _), ?_⟩)); ((conv=>whnf);repeat(refine⟨rfl,?_⟩;conv=>whnf)))
              (refine .inr (.inr (.inl ⟨rfl, _, _, (txtP hW (by simp [UnderL, Under]) _), ?_⟩)); ((conv=>whnf);repeat(refine⟨rfl,?_⟩;conv=>whnf)))
              exact ⟨by (repeat' (first | exact trivial | exact DeepM.none _ | refine And.intro ?_ ?_ | exact Or.inl rfl | exact Or.inr ⟨rfl, rfl⟩ | exact fun _ => rfl | exact (fun h => by cases h) | refine DeepM.loc _ _ _ _ _ rfl rfl ?_ | refine DeepM.own _ _ _ _ _ _ _ _ rfl rfl ?_ | refine DeepM.fn _ _ _ _ _ ?_ ?_ | refine DeepM.agg _ _ ?_ | refine DeepM.tup _ _ ?_ | refine DeepM.ifc _ _ _ ?_ | exact DeepM.refl _ | refine DeepML.cons _ _ _ _ ?_ ?_ | exact DeepML.refl _ | refine DeepMLL.cons _ _ _ _ ?_ ?_ | exact DeepMLL.refl _ | exact rfl)), close_oneT (pure_txt s K names true _ o _ _)⟩
          · have hc : c ≠ 0 := runR_in hK _ _ _ _ _ hm1 h3
            have hF : ACall Tryd.prog 61 _ _ _ _ := hp f _ _ (by omega) hm1 h3
            have hV := ref_eatE s K names true k o c (atT s k) hc (one 93)
            have hW := ref_wrongE s K names true k o c (atT s k) 3 hc
            refine acall_introD c141_ok (by simp) (by simp) ?_ (under_pure _ (pure_rtree _ _))
            (apply rd_sound; focus (repeat' constructor))
            ((conv=>whnf);repeat(refine⟨rfl,?_⟩;conv=>whnf))
            (refine .inr (.inr (.inl ⟨rfl, _, _, (txtP hT (by simp [UnderL, Under]) _), ?_⟩)); ((conv=>whnf);repeat(refine⟨rfl,?_⟩;conv=>whnf)))
            (refine .inr (.inr (.inl ⟨rfl, _, _, (txtP hA (by simp [UnderL, Under]) _), ?_⟩)); ((conv=>whnf);repeat(refine⟨rfl,?_⟩;conv=>whnf)))
            (refine .inr (.inr (.inl ⟨rfl, _, _, (txtP hU (by simp [UnderL, Under]) _), ?_⟩)); ((conv=>whnf);repeat(refine⟨rfl,?_⟩;conv=>whnf)))
            (refine .inr (.inr (.inl ⟨rfl, _, _, (txtP hF (by simp [UnderL, Under]) _), ?_⟩)); ((conv=>whnf);repeat(refine⟨rfl,?_⟩;conv=>whnf)))
            (refine .inr (.inr (.inl ⟨rfl, _, _, (txtP hV (by simp [UnderL, Under]) _), ?_⟩)); ((conv=>whnf);repeat(refine⟨rfl,?_⟩;conv=>whnf)))
            (refine .inr (.inr (.inl ⟨rfl, _, _, (txtP hW (by simp [UnderL, Under]) _), ?_⟩)); ((conv=>whnf);repeat(refine⟨rfl,?_⟩;conv=>whnf)))
            exact ⟨by (repeat' (first | exact trivial | exact DeepM.none _ | refine And.intro ?_ ?_ | exact Or.inl rfl | exact Or.inr ⟨rfl, rfl⟩ | exact fun _ => rfl | exact (fun h => by cases h) | refine DeepM.loc _ _ _ _ _ rfl rfl ?_ | refine DeepM.own _ _ _ _ _ _ _ _ rfl rfl ?_ | refine DeepM.fn _ _ _ _ _ ?_ ?_ | refine DeepM.agg _ _ ?_ | refine DeepM.tup _ _ ?_ | refine DeepM.ifc _ _ _ ?_ | exact DeepM.refl _ | refine DeepML.cons _ _ _ _ ?_ ?_ | exact DeepML.refl _ | refine DeepMLL.cons _ _ _ _ ?_ ?_ | exact DeepMLL.refl _ | exact rfl)), close_oneT (pure_txt s K names true _ o _ _)⟩
        · rw [if_neg hu] at h2 hU
          rw [show eqS (tokT s m) (one 85) = false by simpa using hu] at hU
          have hW := ref_wrong s K names true m o hm 3
          cases h2
          refine acall_introD c141_ok (by simp) (by simp) ?_ (under_pure _ (pure_rtree _ _))
          (apply rd_sound; focus (repeat' constructor))
          ((conv=>whnf);repeat(refine⟨rfl,?_⟩;conv=>whnf))
          (refine .inr (.inr (.inl ⟨rfl, _, _, (txtP hT (by simp [UnderL, Under]) _), ?_⟩)); ((conv=>whnf);repeat(refine⟨rfl,?_⟩;conv=>whnf)))
          (refine .inr (.inr (.inl ⟨rfl, _, _, (txtP hA (by simp [UnderL, Under]) _), ?_⟩)); ((conv=>whnf);repeat(refine⟨rfl,?_⟩;conv=>whnf)))
          (refine .inr (.inr (.inl ⟨rfl, _, _, (txtP hU (by simp [UnderL, Under]) _), ?_⟩)); ((conv=>whnf);repeat(refine⟨rfl,?_⟩;conv=>whnf)))
          (refine .inr (.inr (.inl ⟨rfl, _, _, (txtP hW (by simp [UnderL, Under]) _), ?_⟩)); ((conv=>whnf);repeat(refine⟨rfl,?_⟩;conv=>whnf)))
          exact ⟨by (repeat' (first | exact trivial | exact DeepM.none _ | refine And.intro ?_ ?_ | exact Or.inl rfl | exact Or.inr ⟨rfl, rfl⟩ | exact fun _ => rfl | exact (fun h => by cases h) | refine DeepM.loc _ _ _ _ _ rfl rfl ?_ | refine DeepM.own _ _ _ _ _ _ _ _ rfl rfl ?_ | refine DeepM.fn _ _ _ _ _ ?_ ?_ | refine DeepM.agg _ _ ?_ | refine DeepM.tup _ _ ?_ | refine DeepM.ifc _ _ _ ?_ | exact DeepM.refl _ | refine DeepML.cons _ _ _ _ ?_ ?_ | exact DeepML.refl _ | refine DeepMLL.cons _ _ _ _ ?_ ?_ | exact DeepMLL.refl _ | exact rfl)), close_oneT (pure_txt s K names true _ o _ _)⟩
      · have hc : c ≠ 0 := runR_in hK _ _ _ _ _ hn1 h1
        have hA : ACall Tryd.prog 61 _ _ _ _ := hp f _ _ (by omega) hn1 h1
        have hU := ref_eatE s K names true m o c (atT s m) hc (one 85)
        have hW := ref_wrongE s K names true m o c (atT s m) 3 hc
        refine acall_introD c141_ok (by simp) (by simp) ?_ (under_pure _ (pure_rtree _ _))
        (apply rd_sound; focus (repeat' constructor))
        ((conv=>whnf);repeat(refine⟨rfl,?_⟩;conv=>whnf))
        (refine .inr (.inr (.inl ⟨rfl, _, _, (txtP hT (by simp [UnderL, Under]) _), ?_⟩)); ((conv=>whnf);repeat(refine⟨rfl,?_⟩;conv=>whnf)))
        (refine .inr (.inr (.inl ⟨rfl, _, _, (txtP hA (by simp [UnderL, Under]) _), ?_⟩)); ((conv=>whnf);repeat(refine⟨rfl,?_⟩;conv=>whnf)))
        (refine .inr (.inr (.inl ⟨rfl, _, _, (txtP hU (by simp [UnderL, Under]) _), ?_⟩)); ((conv=>whnf);repeat(refine⟨rfl,?_⟩;conv=>whnf)))
        (refine .inr (.inr (.inl ⟨rfl, _, _, (txtP hW (by simp [UnderL, Under]) _), ?_⟩)); ((conv=>whnf);repeat(refine⟨rfl,?_⟩;conv=>whnf)))
        exact ⟨by (repeat' (first | exact trivial | exact DeepM.none _ | refine And.intro ?_ ?_ | exact Or.inl rfl | exact Or.inr ⟨rfl, rfl⟩ | exact fun _ => rfl | exact (fun h => by cases h) | refine DeepM.loc _ _ _ _ _ rfl rfl ?_ | refine DeepM.own _ _ _ _ _ _ _ _ rfl rfl ?_ | refine DeepM.fn _ _ _ _ _ ?_ ?_ | refine DeepM.agg _ _ ?_ | refine DeepM.tup _ _ ?_ | refine DeepM.ifc _ _ _ ?_ | exact DeepM.refl _ | refine DeepML.cons _ _ _ _ ?_ ?_ | exact DeepML.refl _ | refine DeepMLL.cons _ _ _ _ ?_ ?_ | exact DeepMLL.refl _ | exact rfl)), close_oneT (pure_txt s K names true _ o _ _)⟩
    rw [if_neg hB] at hr hT
    rw [show eqS (tokT s n) (one 91) = false by simpa using hB] at hT
    by_cases hk : wayK (tokT s n) = 0
    · rw [if_neg (by simpa using hk)] at hr
      have k1 : eqS (tokT s n) (one 88) = false := by
        cases h : eqS (tokT s n) (one 88) with
        | false => rfl
        | true => simp [wayK, h] at hk
      have k2 : eqS (tokT s n) (one 70) = false := by
        cases h : eqS (tokT s n) (one 70) with
        | false => rfl
        | true => simp [wayK, k1, h] at hk
      have k3 : eqS (tokT s n) (one 71) = false := by
        cases h : eqS (tokT s n) (one 71) with
        | false => rfl
        | true => simp [wayK, k1, k2, h] at hk
      cases hr
      have hW := ref_wrong s K names true n o hn 3
      refine acall_introD c141_ok (by simp) (by simp) ?_ (under_pure _ (pure_rtree _ _))
      (apply rd_sound; focus (repeat' constructor))
      ((conv=>whnf);repeat(refine⟨rfl,?_⟩;conv=>whnf))
      (refine .inr (.inr (.inl ⟨rfl, _, _, (txtP hT (by simp [UnderL, Under]) _), ?_⟩)); ((conv=>whnf);repeat(refine⟨rfl,?_⟩;conv=>whnf)))
      refine ⟨by omega, _, by rw [Int.toNat_natCast]; exact tokL_at s (show n < K + 1 by omega), ?_⟩
      ((conv=>whnf);repeat(refine⟨rfl,?_⟩;conv=>whnf))
      rw [show ((tokT s n).toList == (⟨#[88]⟩ : ByteArray).toList) = false from k1]
      ((conv=>whnf);repeat(refine⟨rfl,?_⟩;conv=>whnf))
      rw [show ((tokT s n).toList == (⟨#[70]⟩ : ByteArray).toList) = false from k2]
      ((conv=>whnf);repeat(refine⟨rfl,?_⟩;conv=>whnf))
      rw [show ((tokT s n).toList == (⟨#[71]⟩ : ByteArray).toList) = false from k3]
      ((conv=>whnf);repeat(refine⟨rfl,?_⟩;conv=>whnf))
      (refine .inr (.inr (.inl ⟨rfl, _, _, (txtP hW (by simp [UnderL, Under]) _), ?_⟩)); ((conv=>whnf);repeat(refine⟨rfl,?_⟩;conv=>whnf)))
      exact ⟨by (repeat' (first | exact trivial | exact DeepM.none _ | refine And.intro ?_ ?_ | exact Or.inl rfl | exact Or.inr ⟨rfl, rfl⟩ | exact fun _ => rfl | exact (fun h => by cases h) | refine DeepM.loc _ _ _ _ _ rfl rfl ?_ | refine DeepM.own _ _ _ _ _ _ _ _ rfl rfl ?_ | refine DeepM.fn _ _ _ _ _ ?_ ?_ | refine DeepM.agg _ _ ?_ | refine DeepM.tup _ _ ?_ | refine DeepM.ifc _ _ _ ?_ | exact DeepM.refl _ | refine DeepML.cons _ _ _ _ ?_ ?_ | exact DeepML.refl _ | refine DeepMLL.cons _ _ _ _ ?_ ?_ | exact DeepMLL.refl _ | exact rfl)), close_oneT (pure_txt s K names true _ o _ _)⟩
    · rw [if_pos hk] at hr
      have hn1 : n + 1 ≤ K := by
        unfold wayK at hk
        repeat (split at hk; · exact notEnd hK hn ‹_› (by decide))
        exact absurd rfl hk
      obtain ⟨q, h1, e1, e2, e3, e4⟩ : ∃ q, runR (tokT s) names true f .single o (n + 1) = some q ∧ r.treeR = mk1 (if e then wayK (tokT s n) else wayK (tokT s n) + 4) q.treeR ∧ r.posR = q.posR ∧ r.code = q.code ∧ r.place s = q.place s := by
        rcases bindR_some hr with ⟨a, m, h1, h2⟩ | ⟨c, m, t, y, h1, rfl⟩
        · cases h2; exact ⟨_, h1, rfl, rfl, rfl, rfl⟩
        · exact ⟨_, h1, rfl, rfl, rfl, rfl⟩
      have hA : ACall Tryd.prog 137 _ _ _ _ := hq f _ _ (by omega) hn1 h1
      unfold RAns
      rw [e1, e2, e3, e4]
      by_cases gX : eqS (tokT s n) (one 88) = true
      · rw [show wayK (tokT s n) = 7 by simp_all [wayK]]
        refine acall_introD c141_ok (by simp) (by simp) ?_ (under_pure _ (pure_rtree _ _))
        (apply rd_sound; focus (repeat' constructor))
        ((conv=>whnf);repeat(refine⟨rfl,?_⟩;conv=>whnf))
        (refine .inr (.inr (.inl ⟨rfl, _, _, (txtP hT (by simp [UnderL, Under]) _), ?_⟩)); ((conv=>whnf);repeat(refine⟨rfl,?_⟩;conv=>whnf)))
        refine ⟨by omega, _, by rw [Int.toNat_natCast]; exact tokL_at s (show n < K + 1 by omega), ?_⟩
        ((conv=>whnf);repeat(refine⟨rfl,?_⟩;conv=>whnf))
        rw [show ((tokT s n).toList == (⟨#[88]⟩ : ByteArray).toList) = true from gX]
        ((conv=>whnf);repeat(refine⟨rfl,?_⟩;conv=>whnf))
        (refine .inl ⟨by (unfold InR; rw [IntKind.wrap_i64]; omega), ?_⟩; ((conv=>whnf);repeat(refine⟨rfl,?_⟩;conv=>whnf)))
        have hsz : (tokT s n).size = 1 := eqS_size gX
        refine ⟨by rw [hsz]; cases e <;> decide, ?_⟩
        ((conv=>whnf);repeat(refine⟨rfl,?_⟩;conv=>whnf))
        (refine .inr (.inr (.inl ⟨rfl, _, _, (txtP hA (by simp [UnderL, Under]) _), ?_⟩)); ((conv=>whnf);repeat(refine⟨rfl,?_⟩;conv=>whnf)))
        refine ⟨.agg _ _ ?_, close_oneT (pure_txt s K names true _ o _ _)⟩
        have hb : tokT s n = one 88 := eqS_eq gX
        rw [hb]
        cases e
        · (refine rr1 (a := q.treeR) (k := 11) (id := 2) true ?_ ?_ ?_) <;> rfl
        · (refine rr1 (a := q.treeR) (k := 7) (id := 2) true ?_ ?_ ?_) <;> rfl
      have gX : eqS (tokT s n) (one 88) = false := by simpa using gX
      by_cases gF : eqS (tokT s n) (one 70) = true
      · rw [show wayK (tokT s n) = 8 by simp_all [wayK]]
        refine acall_introD c141_ok (by simp) (by simp) ?_ (under_pure _ (pure_rtree _ _))
        (apply rd_sound; focus (repeat' constructor))
        ((conv=>whnf);repeat(refine⟨rfl,?_⟩;conv=>whnf))
        (refine .inr (.inr (.inl ⟨rfl, _, _, (txtP hT (by simp [UnderL, Under]) _), ?_⟩)); ((conv=>whnf);repeat(refine⟨rfl,?_⟩;conv=>whnf)))
        refine ⟨by omega, _, by rw [Int.toNat_natCast]; exact tokL_at s (show n < K + 1 by omega), ?_⟩
        ((conv=>whnf);repeat(refine⟨rfl,?_⟩;conv=>whnf))
        rw [show ((tokT s n).toList == (⟨#[88]⟩ : ByteArray).toList) = false from gX]
        ((conv=>whnf);repeat(refine⟨rfl,?_⟩;conv=>whnf))
        rw [show ((tokT s n).toList == (⟨#[70]⟩ : ByteArray).toList) = true from gF]
        ((conv=>whnf);repeat(refine⟨rfl,?_⟩;conv=>whnf))
        (refine .inl ⟨by (unfold InR; rw [IntKind.wrap_i64]; omega), ?_⟩; ((conv=>whnf);repeat(refine⟨rfl,?_⟩;conv=>whnf)))
        have hsz : (tokT s n).size = 1 := eqS_size gF
        refine ⟨by rw [hsz]; cases e <;> decide, ?_⟩
        ((conv=>whnf);repeat(refine⟨rfl,?_⟩;conv=>whnf))
        (refine .inr (.inr (.inl ⟨rfl, _, _, (txtP hA (by simp [UnderL, Under]) _), ?_⟩)); ((conv=>whnf);repeat(refine⟨rfl,?_⟩;conv=>whnf)))
        refine ⟨.agg _ _ ?_, close_oneT (pure_txt s K names true _ o _ _)⟩
        have hb : tokT s n = one 70 := eqS_eq gF
        rw [hb]
        cases e
        · (refine rr1 (a := q.treeR) (k := 12) (id := 2) true ?_ ?_ ?_) <;> rfl
        · (refine rr1 (a := q.treeR) (k := 8) (id := 2) true ?_ ?_ ?_) <;> rfl
      have gF : eqS (tokT s n) (one 70) = false := by simpa using gF
      by_cases gG : eqS (tokT s n) (one 71) = true
      · rw [show wayK (tokT s n) = 9 by simp_all [wayK]]
        refine acall_introD c141_ok (by simp) (by simp) ?_ (under_pure _ (pure_rtree _ _))
        (apply rd_sound; focus (repeat' constructor))
        ((conv=>whnf);repeat(refine⟨rfl,?_⟩;conv=>whnf))
        (refine .inr (.inr (.inl ⟨rfl, _, _, (txtP hT (by simp [UnderL, Under]) _), ?_⟩)); ((conv=>whnf);repeat(refine⟨rfl,?_⟩;conv=>whnf)))
        refine ⟨by omega, _, by rw [Int.toNat_natCast]; exact tokL_at s (show n < K + 1 by omega), ?_⟩
        ((conv=>whnf);repeat(refine⟨rfl,?_⟩;conv=>whnf))
        rw [show ((tokT s n).toList == (⟨#[88]⟩ : ByteArray).toList) = false from gX]
        ((conv=>whnf);repeat(refine⟨rfl,?_⟩;conv=>whnf))
        rw [show ((tokT s n).toList == (⟨#[70]⟩ : ByteArray).toList) = false from gF]
        ((conv=>whnf);repeat(refine⟨rfl,?_⟩;conv=>whnf))
        rw [show ((tokT s n).toList == (⟨#[71]⟩ : ByteArray).toList) = true from gG]
        ((conv=>whnf);repeat(refine⟨rfl,?_⟩;conv=>whnf))
        (refine .inl ⟨by (unfold InR; rw [IntKind.wrap_i64]; omega), ?_⟩; ((conv=>whnf);repeat(refine⟨rfl,?_⟩;conv=>whnf)))
        have hsz : (tokT s n).size = 1 := eqS_size gG
        refine ⟨by rw [hsz]; cases e <;> decide, ?_⟩
        ((conv=>whnf);repeat(refine⟨rfl,?_⟩;conv=>whnf))
        (refine .inr (.inr (.inl ⟨rfl, _, _, (txtP hA (by simp [UnderL, Under]) _), ?_⟩)); ((conv=>whnf);repeat(refine⟨rfl,?_⟩;conv=>whnf)))
        refine ⟨.agg _ _ ?_, close_oneT (pure_txt s K names true _ o _ _)⟩
        have hb : tokT s n = one 71 := eqS_eq gG
        rw [hb]
        cases e
        · (refine rr1 (a := q.treeR) (k := 13) (id := 2) true ?_ ?_ ?_) <;> rfl
        · (refine rr1 (a := q.treeR) (k := 9) (id := 2) true ?_ ?_ ?_) <;> rfl
      have gG : eqS (tokT s n) (one 71) = false := by simpa using gG
      exact absurd (by simp [wayK, gX, gF, gG]) hk
end
end Go.Proofs.YtijeijfccgegaaaDoor
