/-
  A contract over few objects serves among many. No statement is proved here.
-/
import Derived.Test.YtkkfiadefekbbaaDsg
namespace Go.Proofs.Ytkkfiadefekbbaa
open Go.RowKit
set_option linter.unusedSimpArgs false
set_option linter.unusedVariables false

section
variable {P : Program} {f : FuncId}
theorem acall_frame {args : List D} {H0 H0' H H' : List AObj} {d : D} (ρ : Nat → Nat) (hA : ACall P f args H0 d H0') (inj : ∀ i j, i < H0'.length → j < H0'.length → ρ i = ρ j → i = j) (hold : ∀ i o, H0[i]? = some o → H[ρ i]? = some (o.ren ρ))
    (hnew : ∀ i, H0.length ≤ i → i < H0'.length → H.length ≤ ρ i) (hlen : H.length ≤ H'.length) (h1 : ∀ i o, H0'[i]? = some o → H'[ρ i]? = some (o.ren ρ)) (h2 : ∀ j, j < H.length → (∀ i, i < H0.length → ρ i ≠ j) → H'[j]? = H[j]?)
    (hargs : UnderL H0.length args) (hobj : ∀ o ∈ H0, o.under H0.length) : ACall P f (renL ρ args) H (D.ren ρ d) H' := by
  obtain ⟨hok, hl0, hrun⟩ := hA
  refine ⟨hok, hlen, fun J F w vs hst hdom hrep => ?_⟩
  have h0get : ∀ i, i < H0.length → H0[i]? = some (H0[i]!) := fun i hi => by rw [List.getElem!_eq_getElem?_getD, List.getElem?_eq_getElem hi]; rfl
  have hst0 : StOK (keepTo H0.length fun i => J (ρ i)) F w (fun i => H0[i]?) := by
    refine ⟨fun i s hs => ?_, fun i i' s s' b g1 g2 g3 g4 => ?_, fun i s b o g1 g2 g3 g4 => ?_, hst.lt⟩
    · unfold keepTo at hs
      split at hs
      · rename_i hi
        have ho := h0get i hi
        refine ⟨_, ho, objOK_keep (hobj _ (List.mem_of_getElem? ho)) (objOK_ren.2 ?_)⟩
        obtain ⟨o', q1, q2⟩ := hst.obj (ρ i) s hs
        have q1' : H[ρ i]? = some o' := q1
        rw [hold i _ ho] at q1'
        cases q1'
        exact q2
      · cases hs
    · unfold keepTo at g1 g2
      split at g1 <;> split at g2
      · exact inj i i' (by omega) (by omega) (hst.one (ρ i) (ρ i') s s' b g1 g2 g3 g4)
      all_goals first | cases g1 | cases g2
    · unfold keepTo at g1
      split at g1
      · exact hst.apart (ρ i) s b (o.ren ρ) g1 g2 (hold i o g3) (by rw [mut_ren]; exact g4)
      · cases g1
  have hd0 : ∀ id, keepTo H0.length (fun i => J (ρ i)) id ≠ none → id < H0.length := fun id hid => by
    unfold keepTo at hid
    split at hid
    · assumption
    · exact absurd rfl hid
  have hr0 : repL (keepTo H0.length fun i => J (ρ i)) F w args vs := repL_keep _ _ hargs ((repL_ren args vs).2 hrep)
  have own0 : ∀ b, Owns (keepTo H0.length fun i => J (ρ i)) b → ∃ i s, i < H0.length ∧ J (ρ i) = some s ∧ s.blk = some b := fun b ⟨i, s, hs, hb⟩ => by
    unfold keepTo at hs
    split at hs
    · exact ⟨i, s, by assumption, hs, hb⟩
    · cases hs
  have main := hrun _ F w vs hst0 hd0 hr0
  refine Calls.mono main fun e w' ⟨v, J0', F', he, st', dom', rp', ex⟩ => ?_
  let J' : Inj := fun id => match back ρ H0'.length id with | some i => J0' i | none => J id
  have jat : ∀ i, i < H0'.length → J' (ρ i) = J0' i := fun i hi => by simp only [J', back_of inj hi]
  have jno : ∀ id, back ρ H0'.length id = none → J' id = J id := fun id h => by simp only [J', h]
  have hle : J.le J' := fun id s hs => by
    cases e : back ρ H0'.length id with
    | none => exact ⟨s, by rw [jno id e]; exact hs, Nat.le_refl _, fun _ => rfl⟩
    | some i =>
      obtain ⟨k1, rfl⟩ := back_some e
      have hi : i < H0.length := by
        rcases Nat.lt_or_ge i H0.length with q | q
        · exact q
        · have := hnew i q k1
          have := hdom (ρ i) (by rw [hs]; simp)
          omega
      obtain ⟨s', g1, g2⟩ := ex.le i s (by simp only [keepTo, if_pos hi]; exact hs)
      exact ⟨s', by rw [jat i k1]; exact g1, g2⟩
  have hleρ : J0'.le (fun i => J' (ρ i)) := fun i s hs => ⟨s, by
    dsimp only
    rw [jat i (dom' i (by rw [hs]; simp))]; exact hs, Nat.le_refl _, fun _ => rfl⟩
  have nown : ∀ id s b, back ρ H0'.length id = none → J id = some s → s.blk = some b → ¬ Owns (keepTo H0.length fun i => J (ρ i)) b := fun id s b hb hs hblk ho => by
    obtain ⟨i, s', k1, k2, k3⟩ := own0 b ho
    exact back_none hb i (by omega) (hst.one (ρ i) id s' s b k2 hs k3 hblk)
  refine ⟨v, J', F', he, ⟨fun id s hs => ?_, fun id id' s s' b g1 g2 g3 g4 => ?_, fun id s b o g1 g2 g3 g4 => ?_, st'.lt⟩, fun id hid => ?_, (rep_ren d v).1 (rep_mono hleρ (fun _ h => h) (fun _ _ => rfl) _ _ rp'), ?_⟩
  · cases e : back ρ H0'.length id with
    | some i =>
      obtain ⟨k1, rfl⟩ := back_some e
      rw [jat i k1] at hs
      obtain ⟨o, q1, q2⟩ := st'.obj i s hs
      exact ⟨o.ren ρ, h1 i o q1, objOK_ren.1 (ObjOK_mono hleρ (fun _ h => h) (fun _ _ => rfl) (fun _ _ => rfl) q2)⟩
    | none =>
      rw [jno id e] at hs
      obtain ⟨o, q1, q2⟩ := hst.obj id s hs
      refine ⟨o, ?_, ObjOK_mono hle ex.grow ex.frozen (fun b hb => ex.block b (hst.blk_lt hs hb) (nown id s b e hs hb)) q2⟩
      show H'[id]? = some o
      rw [h2 id (hdom id (by rw [hs]; simp)) fun i hi => back_none e i (by omega)]
      exact q1
  · cases e : back ρ H0'.length id with
    | some i =>
      obtain ⟨k1, rfl⟩ := back_some e
      rw [jat i k1] at g1
      cases e' : back ρ H0'.length id' with
      | some i' =>
        obtain ⟨k1', rfl⟩ := back_some e'
        rw [jat i' k1'] at g2
        rw [st'.one i i' s s' b g1 g2 g3 g4]
      | none =>
        rw [jno id' e'] at g2
        rcases ex.ownsBack b ⟨i, s, g1, g3⟩ with q | q
        · exact absurd q (nown id' s' b e' g2 g4)
        · have := hst.blk_lt g2 g4; omega
    | none =>
      rw [jno id e] at g1
      cases e' : back ρ H0'.length id' with
      | some i' =>
        obtain ⟨k1', rfl⟩ := back_some e'
        rw [jat i' k1'] at g2
        rcases ex.ownsBack b ⟨i', s', g2, g4⟩ with q | q
        · exact absurd q (nown id s b e g1 g3)
        · have := hst.blk_lt g1 g3; omega
      | none =>
        rw [jno id' e'] at g2
        exact hst.one id id' s s' b g1 g2 g3 g4
  · have g3' : H'[id]? = some o := g3
    cases e : back ρ H0'.length id with
    | some i =>
      obtain ⟨k1, rfl⟩ := back_some e
      rw [jat i k1] at g1
      obtain ⟨o0, q1, _⟩ := st'.obj i s g1
      rw [h1 i o0 q1] at g3'
      cases g3'
      exact st'.apart i s b o0 g1 g2 q1 (by rw [mut_ren] at g4; exact g4)
    | none =>
      rw [jno id e] at g1
      rw [h2 id (hdom id (by rw [g1]; simp)) fun i hi => back_none e i (by omega)] at g3'
      intro hx
      rcases ex.growBack b hx with q | q | q
      · exact hst.apart id s b o g1 g2 g3' g4 q
      · exact nown id s b e g1 g2 q
      · have := hst.blk_lt g1 g2; omega
  · cases e : back ρ H0'.length id with
    | some i =>
      obtain ⟨k1, rfl⟩ := back_some e
      have := h1 i _ (List.getElem?_eq_getElem k1)
      exact get_lt this
    | none =>
      rw [jno id e] at hid
      have := hdom id hid
      omega
  · refine ⟨ex.os, ex.tape, ex.output, ex.size, fun b hb hn => ex.block b hb fun ho => ?_, ex.frozen, hle, ex.grow, fun b ⟨id, s, hs, hb⟩ => ?_, fun b hb => ?_⟩
    · obtain ⟨i, s, _, k2, k3⟩ := own0 b ho
      exact hn ⟨ρ i, s, k2, k3⟩
    · cases e : back ρ H0'.length id with
      | some i =>
        obtain ⟨k1, rfl⟩ := back_some e
        rw [jat i k1] at hs
        refine (ex.ownsBack b ⟨i, s, hs, hb⟩).imp_left fun q => ?_
        obtain ⟨k, s', _, k2, k3⟩ := own0 b q
        exact ⟨ρ k, s', k2, k3⟩
      | none =>
        rw [jno id e] at hs
        exact .inl ⟨id, s, hs, hb⟩
    · rcases ex.growBack b hb with q | q | q
      · exact .inl q
      · obtain ⟨k, s', _, k2, k3⟩ := own0 b q
        exact .inr (.inl ⟨ρ k, s', k2, k3⟩)
      · exact .inr (.inr q)

/-- A function that turns one row of the caller's. -/
theorem acall_row {pre post : List D} {cs cs' : List D} {d : D} (h : ACall P f (pre ++ .loc 0 0 :: post) [.row true cs] d [.row true cs']) (hpre : PureL pre) (hpost : PureL post) (hcs : PureL cs) (hcs' : PureL cs') (hd : Pure d)
    {H : List AObj} {id : Nat} (hid : H[id]? = some (.row true cs)) : ACall P f (pre ++ .loc id 0 :: post) H d (H.set id (.row true cs')) := by
  have hap : ∀ (a b : List D) (ρ : Nat → Nat), renL ρ (a ++ b) = renL ρ a ++ renL ρ b := fun a b ρ => by
    induction a with
    | nil => simp only [renL, List.nil_append]
    | cons x r ih => simp only [List.cons_append, renL, ih]
  have hua : ∀ (a b : List D), UnderL 1 a → UnderL 1 b → UnderL 1 (a ++ b) := fun a b ha hb => by
    induction a with
    | nil => exact hb
    | cons x r ih => simp only [UnderL, List.cons_append] at ha ⊢; exact ⟨ha.1, ih ha.2⟩
  have one : ∀ (i : Nat) (x y : AObj), [x][i]? = some y → i = 0 ∧ y = x := fun i x y h => by
    cases i with
    | zero => simp at h; exact ⟨rfl, h.symm⟩
    | succ i => simp at h
  have := acall_frame (H := H) (H' := H.set id (.row true cs')) (fun _ => id) h (fun i j hi hj _ => by simp at hi hj; omega) (fun i o ho => by
      obtain ⟨_, rfl⟩ := one i _ o ho
      simp only [AObj.ren, renL_pure cs hcs]; exact hid) (fun i h1 h2 => by simp at h1 h2; omega) (by simp) (fun i o ho => by
      obtain ⟨_, rfl⟩ := one i _ o ho
      simp only [AObj.ren, renL_pure cs' hcs']
      rw [List.getElem?_set_self (get_lt hid)]) (fun j hj hne => by
      rw [List.getElem?_set_ne (hne 0 (by simp))]) (by
      refine hua _ _ (underL_pure _ hpre) ?_
      simp only [UnderL, Under]
      exact ⟨by simp, underL_pure _ hpost⟩) (fun o ho => by
      simp at ho; subst ho
      exact underL_pure _ hcs)
  rw [hap, renL_pure _ hpre, ren_pure _ hd] at this
  simpa only [renL, D.ren, renL_pure _ hpost] using this
end
end Go.Proofs.Ytkkfiadefekbbaa
