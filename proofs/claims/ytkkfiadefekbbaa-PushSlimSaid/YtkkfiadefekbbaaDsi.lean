/-
  A slice of none in a row's cell becomes an own one. No statement is proved here.
-/
import Derived.Test.YtkkfiadefekbbaaDr
namespace Go.Proofs.Ytkkfiadefekbbaa
open Go.RowKit
set_option linter.unusedSimpArgs false
set_option linter.unusedVariables false

theorem leB_nilc {L n : Nat} (id j esz : Nat) {env : Env} {H : List AObj} {cs : List D} (hL : L ≤ H.length) (hid : H[id]? = some (.row true cs)) (hj : cs[j]? = some (.sc (.slice none 0 0))) :
    St.leB L n env H env (H.set id (.row true (cs.set j (.own H.length 0 0 0))) ++ [.vec true 0 esz []]) := fun J F a w hr => by
  have hfree : J H.length = none := by
    cases e : J H.length with
    | none => rfl
    | some s => have := hr.dom H.length (by rw [e]; simp); omega
  have hidl := get_lt hid
  let J' : Inj := fun i => if i = H.length then some ⟨false, 0, none, esz, 0, 0⟩ else J i
  have hle : J.le J' := fun i s hs => ⟨s, by
    have : i ≠ H.length := fun e => by subst e; rw [hfree] at hs; cases hs
    simp [J', this, hs], Nat.le_refl _, fun _ => rfl⟩
  have hget : ∀ i, i ≠ H.length → i ≠ id → (H.set id (.row true (cs.set j (.own H.length 0 0 0))) ++ [AObj.vec true 0 esz []])[i]? = H[i]? := fun i hi hne => by
    rcases Nat.lt_or_ge i H.length with q | q
    · rw [List.getElem?_append_left (by simpa using q), List.getElem?_set_ne (fun e => hne e.symm)]
    · rw [List.getElem?_eq_none q, List.getElem?_eq_none (by simp; omega)]
  have hgid : (H.set id (.row true (cs.set j (.own H.length 0 0 0))) ++ [AObj.vec true 0 esz []])[id]? = some (.row true (cs.set j (.own H.length 0 0 0))) := by
    rw [List.getElem?_append_left (by simpa using hidl), List.getElem?_set_self hidl]
  have hnew : ∀ v, v = Value.slice none 0 0 → rep J' F w (.own H.length 0 0 0) v := fun v hv => by
    simp only [rep]
    exact ⟨_, none, 0, 0, by simp [J']; rfl, hv, Nat.le_refl _, fun _ => ⟨rfl, Nat.le_refl _, Nat.zero_le _, rfl, rfl, .inl rfl⟩⟩
  refine ⟨J', F, ⟨hr.defers, hr.size, fun u => rep_mono hle (fun _ h => h) (fun _ _ => rfl) _ _ (hr.tmps u), ⟨fun i s hs => ?_, fun i i' s s' b g1 g2 g3 g4 => ?_, fun i s b o g1 g2 g3 g4 => ?_, hr.ok.lt⟩, fun i hi => ?_⟩, fun i s hi hs => ?_, fun b hb => hb, fun b ⟨i, s, hs, hb⟩ => ?_, fun b hb => .inl hb⟩
  · simp only [J'] at hs
    split at hs
    · rename_i e; subst e
      cases hs
      exact ⟨.vec true 0 esz [], by simp, rfl, rfl, rfl, rfl, Nat.le_refl _, .inl rfl⟩
    · rename_i e
      obtain ⟨o, h1, h2⟩ := hr.ok.obj i s hs
      by_cases e2 : i = id
      · subst e2
        have h1' : H[i]? = some o := h1
        rw [hid] at h1'
        cases h1'
        obtain ⟨k1, k2, k3, k4, k5, b, vals, te, t1, t2, t3, t4, t5⟩ := h2
        refine ⟨_, hgid, k1, k2, k3, by rw [List.length_set]; exact k4, by rw [List.length_set]; exact k5, b, vals, te, t1, t2, by rw [List.length_set]; exact t3, repCells_mk _ _ fun q c hq => ?_, t5⟩
        by_cases e3 : q = j
        · subst e3
          rw [List.getElem?_set_self (get_lt hj)] at hq
          cases hq
          obtain ⟨u, p1, p2, p3⟩ := repCells_get _ _ _ _ hj t4
          simp only [rep] at p3
          exact ⟨u, p1, p2, hnew u p3⟩
        · rw [List.getElem?_set_ne (fun e => e3 e.symm)] at hq
          obtain ⟨u, p1, p2, p3⟩ := repCells_get _ _ _ _ hq t4
          exact ⟨u, p1, p2, rep_mono hle (fun _ h => h) (fun _ _ => rfl) _ _ p3⟩
      · exact ⟨o, by rw [hget i e e2]; exact h1, ObjOK_mono hle (fun _ h => h) (fun _ _ => rfl) (fun _ _ => rfl) h2⟩
  · simp only [J'] at g1 g2
    split at g1
    · cases g1; simp [Site.blk] at g3
    · split at g2
      · cases g2; simp [Site.blk] at g4
      · exact hr.ok.one i i' s s' b g1 g2 g3 g4
  · simp only [J'] at g1
    split at g1
    · cases g1; simp [Site.blk] at g2
    · rename_i e
      by_cases e2 : i = id
      · subst e2
        exact hr.ok.apart i s b _ g1 g2 hid rfl
      · exact hr.ok.apart i s b o g1 g2 (by rw [← hget i e e2]; exact g3) g4
  · simp only [J'] at hi
    rw [List.length_append, List.length_singleton, List.length_set]
    split at hi
    · omega
    · have := hr.dom i hi; omega
  · have : i ≠ H.length := by omega
    simp [J', this, hs]
  · simp only [J'] at hs
    split at hs
    · cases hs; simp [Site.blk] at hb
    · exact ⟨i, s, hs, hb⟩
end Go.Proofs.Ytkkfiadefekbbaa
