/-
  Objects that turn no more: read to the bottom where they are named. No statement is proved here.
-/
import Derived.Test.YtkkfiadefekbbaaDsi
namespace Go.Proofs.Ytkkfiadefekbbaa
open Go.RowKit
set_option linter.unusedSimpArgs false
set_option linter.unusedVariables false

def freezeE (m : Nat) (H : List AObj) (env : Env) : Env → Prop
  | [] => True
  | (t, d) :: r => DeepM m H (lookD t env) d ∧ freezeE m H env r
def freezeO (m : Nat) (H : List AObj) (i : Nat) : AObj → AObj → Prop
  | .row q cs, .row q' cs' => (q' = q ∨ (m ≤ i ∧ q' = false)) ∧ (m ≤ i → q' = false) ∧ DeepML m H cs cs'
  | .vec q v e xs, .vec q' v' e' xs' => (q' = q ∨ (m ≤ i ∧ q' = false)) ∧ (m ≤ i → q' = false) ∧ v = v' ∧ e = e' ∧ DeepMLL m H xs xs'
  | _, _ => False
def freezeH (m : Nat) (H : List AObj) : Nat → List AObj → List AObj → Prop
  | _, [], [] => True
  | i, o :: r, o' :: r' => freezeO m H i o o' ∧ freezeH m H (i + 1) r r'
  | _, _, _ => False

theorem freezeE_look {m : Nat} {H : List AObj} {env : Env} : ∀ (env' : Env), freezeE m H env env' → ∀ t, DeepM m H (lookD t env) (lookD t env') ∨ lookD t env' = .junk
  | [], _, t => .inr rfl
  | (k, d) :: r, h, t => by
    simp only [freezeE] at h
    rw [lookD_cons]
    split
    · rename_i e; subst e; exact .inl h.1
    · exact freezeE_look r h.2 t
theorem freezeH_get {m : Nat} {H : List AObj} : ∀ (l l' : List AObj) (k : Nat), freezeH m H k l l' → l.length = l'.length ∧ ∀ i (o : AObj), l[i]? = some o → ∃ o', l'[i]? = some o' ∧ freezeO m H (k + i) o o'
  | [], [], k, _ => ⟨rfl, fun i o h => by simp at h⟩
  | [], _ :: _, k, h => by simp only [freezeH] at h
  | _ :: _, [], k, h => by simp only [freezeH] at h
  | o :: r, o' :: r', k, h => by
    simp only [freezeH] at h
    obtain ⟨h1, h2⟩ := freezeH_get r r' (k + 1) h.2
    refine ⟨by simp [h1], fun i x hx => ?_⟩
    cases i with
    | zero => simp at hx; subst hx; exact ⟨o', rfl, h.1⟩
    | succ i =>
      obtain ⟨y, q1, q2⟩ := h2 i x (by simpa using hx)
      exact ⟨y, by simpa using q1, by rw [show k + (i + 1) = k + 1 + i by omega]; exact q2⟩

theorem leB_freeze {L n : Nat} (m : Nat) {env env' : Env} {H H' : List AObj} (hE : freezeE m H env env') (hH : freezeH m H 0 H H') : St.leB L n env H env' H' := fun J F a w hr => by
  obtain ⟨hlen, hget⟩ := freezeH_get H H' 0 hH
  have hok := hr.ok
  refine ⟨J, fun b => F b ∨ OwnsFrom m J b, ⟨hr.defers, hr.size, fun t => ?_, ⟨fun i s hs => ?_, hok.one, fun i s b o g1 g2 g3 g4 => ?_, fun b hb => hb.elim (hok.lt b) fun ⟨i, s, _, h1, h2⟩ => hok.blk_lt h1 h2⟩, fun i hi => by rw [← hlen]; exact hr.dom i hi⟩, fun i s hi hs => hs, fun b hb => .inl hb, fun b hb => hb, fun b hb => hb.imp_right fun ⟨i, s, _, h1, h2⟩ => ⟨i, s, h1, h2⟩⟩
  · rcases freezeE_look env' hE t with h1 | e
    · exact deepM_sound hok _ _ _ h1 (hr.tmps t)
    · rw [e]; simp only [rep]
  · obtain ⟨o, h1, h2⟩ := hok.obj i s hs
    obtain ⟨o', h3, h4⟩ := hget i o h1
    rw [Nat.zero_add] at h4
    refine ⟨o', h3, ?_⟩
    cases o with
    | row q cs =>
      cases o' with
      | vec => exact h4.elim
      | row q' cs' =>
        obtain ⟨p1, _, p2⟩ := h4
        obtain ⟨k1, k2, k3, k4, k5, b, vals, te, t1, t2, t3, t4, t5⟩ := h2
        have hl := deepML_len _ _ p2
        refine ⟨k1, k2, k3, by rw [← hl]; exact k4, by rw [← hl]; exact k5, b, vals, te, t1, t2, by rw [← hl]; exact t3, deepMCells_sound hok _ _ b 0 p2 t4, fun e => ?_⟩
        rcases p1 with rfl | ⟨p1, _⟩
        · exact .inl (t5 e)
        · exact .inr ⟨i, s, p1, hs, by simp [Site.blk, k1, t1]⟩
    | vec q v e xs =>
      cases o' with
      | row => exact h4.elim
      | vec q' v' e' xs' =>
        obtain ⟨p1, _, rfl, rfl, p2⟩ := h4
        obtain ⟨k1, k2, k3, k4, k5, k6⟩ := h2
        have hl := deepMLL_len _ _ p2
        refine ⟨k1, k2, k3, by rw [← hl]; exact k4, k5, ?_⟩
        by_cases hz : s.cap = 0
        · exact .inl hz
        rcases k6 with k6 | ⟨b, o, vals, te, t1, t2, t3, t4, t5⟩
        · exact .inl k6
        · refine .inr ⟨b, o, vals, te, t1, t2, t3, deepMRows_sound hok _ _ b e o p2 t4, fun e => ?_⟩
          rcases p1 with rfl | ⟨p1, _⟩
          · exact .inl (t5 e)
          · exact .inr ⟨i, s, p1, hs, by simp [Site.blk, k1, hz, t1]⟩
  · obtain ⟨o0, h1, h2⟩ := hok.obj i s g1
    obtain ⟨o', h3, h4⟩ := hget i o0 h1
    rw [Nat.zero_add] at h4
    have g3' : H'[i]? = some o := g3
    rw [h3] at g3'
    cases g3'
    have hm : ¬ m ≤ i ∧ o0.mut = true := by
      cases o0 with
      | row q cs =>
        cases o with
        | vec => exact h4.elim
        | row q' cs' =>
          obtain ⟨p1, p2, _⟩ := h4
          simp only [AObj.mut] at g4 ⊢
          refine ⟨fun h => ?_, ?_⟩
          · rw [p2 h] at g4; cases g4
          · rcases p1 with rfl | ⟨_, rfl⟩
            · exact g4
            · cases g4
      | vec q v e xs =>
        cases o with
        | row => exact h4.elim
        | vec q' v' e' xs' =>
          obtain ⟨p1, p2, _⟩ := h4
          simp only [AObj.mut] at g4 ⊢
          refine ⟨fun h => ?_, ?_⟩
          · rw [p2 h] at g4; cases g4
          · rcases p1 with rfl | ⟨_, rfl⟩
            · exact g4
            · cases g4
    rintro (hx | ⟨i', s', p1, p2, p3⟩)
    · exact hok.apart i s b o0 g1 g2 h1 hm.2 hx
    · have := hok.one i i' s s' b g1 p2 g2 p3
      omega
end Go.Proofs.Ytkkfiadefekbbaa
