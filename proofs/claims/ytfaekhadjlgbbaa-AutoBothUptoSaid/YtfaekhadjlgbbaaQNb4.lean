/-
  Pairs by their numbers: both ways come to the same; where one goes on from a pair of a state and a set (Single), over deep values. No statement is proved here.
-/
import Derived.Test.YtfaekhadjlgbbaaQNb3
import Derived.Test.YtfaekhadjlgbbaaQAuA
import Derived.Test.YtfaekhadjlgbbaaQBo
namespace Go.Proofs.Ytfaekhadjlgbbaa
open Go.RowKit
set_option linter.unusedSimpArgs false
set_option linter.unusedVariables false
/-- The program's numbering and the reference's. -/
theorem runS_eq (nx : Pr → List Pr) : ∀ (k n : Nat) (L : List Pr) (T : List (List Int)), L.length ≤ 2048 → 2050 ≤ k + n → n ≤ L.length →
    (runR nx k n L T = none ∧ (runS nx k n L T).2.2 = false) ∨ ∃ L' T', runR nx k n L T = some (L', T') ∧ runS nx k n L T = (L', T', true)
  | 0, n, L, T, hL, hk, hn => by omega
  | k + 1, n, L, T, hL, hk, hn => by
    rw [runR, runS]
    by_cases q : n < L.length
    · rw [if_pos q, if_pos q]
      rcases pPutS_eq (nx (L.getD n (0, 0))) L [] hL with ⟨h1, h2⟩ | ⟨h1, h2⟩
      · rw [if_pos h1, h2]
        dsimp only
        rw [if_pos rfl]
        exact runS_eq nx k (n + 1) _ _ h1 (by omega) (by have := pPut_mono (nx (L.getD n (0, 0))) L []; omega)
      · rw [if_neg (by omega), if_neg (by rw [h2]; decide)]
        exact .inl ⟨rfl, rfl⟩
    · rw [if_neg q, if_neg q]
      exact .inr ⟨L, T, rfl, rfl⟩
theorem madeS_eq (start : List Pr) (nx : Pr → List Pr) :
    (runR nx 2050 0 (pPut start [] []).1 [] = none ∧ (madeS start nx).2.2 = false) ∨
    ∃ L T, runR nx 2050 0 (pPut start [] []).1 [] = some (L, T) ∧ madeS start nx = (L, T, true) ∧ (pPutS start [] [] true).2.1 = (pPut start [] []).2 := by
  unfold madeS
  rcases pPutS_eq start [] [] (by simp) with ⟨h1, h2⟩ | ⟨h1, h2⟩
  · rw [h2]
    dsimp only
    rw [if_pos rfl]
    rcases runS_eq nx 2050 0 _ [] h1 (by omega) (by omega) with ⟨q1, q2⟩ | ⟨L, T, q1, q2⟩
    · exact .inl ⟨q1, q2⟩
    · exact .inr ⟨L, T, q1, q2, rfl⟩
  · left
    refine ⟨?_, by rw [if_neg (by rw [h2]; decide)]⟩
    rw [runR, if_pos (by omega), if_neg]
    have := pPut_mono (nx ((pPut start [] []).1.getD 0 (0, 0))) (pPut start [] []).1 []
    omega
/-- The members, good pairs, of what comes out. -/
theorem runS_good {nx : Pr → List Pr} {Good : Pr → Prop} (hnx : ∀ p, Good p → ∀ q ∈ nx p, Good q) : ∀ (k n : Nat) (L : List Pr) (T : List (List Int)), (∀ p ∈ L, Good p) → L.length ≤ 2048 → (∀ p ∈ (runS nx k n L T).1, Good p) ∧ (runS nx k n L T).1.length ≤ 2049
  | 0, n, L, T, h, h2 => ⟨h, by show L.length ≤ _; omega⟩
  | k + 1, n, L, T, h, h2 => by
    rw [runS]
    split
    · rename_i q
      have hg := h _ (mem_getDP q)
      have h3 : ∀ p ∈ (pPutS (nx (L.getD n (0, 0))) L [] true).1, Good p := fun p hp => (pPutS_mem _ _ _ _ _ hp).elim (h p) (hnx _ hg p)
      have h4 := pPutS_len (nx (L.getD n (0, 0))) L [] true (fun _ => h2) (by omega)
      split
      · rename_i r
        exact runS_good hnx k _ _ _ h3 (h4.2 r)
      · exact ⟨h3, h4.1⟩
    · exact ⟨h, by show L.length ≤ _; omega⟩
theorem madeS_good {start : List Pr} {nx : Pr → List Pr} {Good : Pr → Prop} (hs : ∀ p ∈ start, Good p) (hnx : ∀ p, Good p → ∀ q ∈ nx p, Good q) : (∀ p ∈ (madeS start nx).1, Good p) ∧ (madeS start nx).1.length ≤ 2049 := by
  have h3 : ∀ p ∈ (pPutS start [] [] true).1, Good p := fun p hp => (pPutS_mem _ _ _ _ _ hp).elim (fun h => by cases h) (hs p)
  have h4 := pPutS_len start [] [] true (fun _ => by simp) (by simp)
  unfold madeS
  split
  · rename_i r
    exact runS_good hnx _ _ _ _ h3 (h4.2 r)
  · exact ⟨h3, h4.1⟩
theorem row_le {g : List (List Int)} {L : Nat} (h : ∀ l ∈ g, l.length ≤ L) (k : Nat) : (g.getD k []).length ≤ L := by
  rw [List.getD_eq_getElem?_getD]
  cases e : g[k]? with
  | none => simp
  | some l => exact h l (List.mem_of_getElem? e)
/-! ### Single -/
def sgridS (n : Nat) (F : List (List Int)) : List (List D) := F.map fun l => [dbl n (setB l)]
@[simp] theorem sgridS_len (n : Nat) (F : List (List Int)) : (sgridS n F).length = F.length := by simp [sgridS]
/-- The set that is waited for behind a state. -/
def kS (F : List (List Int)) (p : Pr) : Int := if F.length > 0 ∧ setB (F.getD p.2.toNat []) p.1.toNat = true then ((p.2.toNat + 1) % F.length : Nat) else p.2
def nxS (A : AutoD) (p : Pr) : List Pr := (A.next.getD p.1.toNat []).map fun t => (t, kS A.fair p)
def GoodS (A : AutoD) (p : Pr) : Prop := 0 ≤ p.1 ∧ p.1 < (A.next.length : Int) ∧ 0 ≤ p.2 ∧ (p.2 < (A.fair.length : Int) ∨ (A.fair.length = 0 ∧ p.2 = 0))
theorem GoodS.wf {A : AutoD} (h1 : A.next.length ≤ 2048) (h2 : A.fair.length ≤ 80) {p : Pr} (h : GoodS A p) : WfP p := by
  obtain ⟨a, b, c, d⟩ := h
  exact wfP_of ⟨a, by omega, c, by omega⟩
theorem GoodS.next {A : AutoD} (hin : ∀ l ∈ A.next, inB l A.next.length = true) {p : Pr} (h : GoodS A p) : ∀ q ∈ nxS A p, GoodS A q := by
  intro q hq
  obtain ⟨t, ht, rfl⟩ := List.mem_map.1 hq
  have hx := inB_mem (inB_row hin _) ht
  obtain ⟨a, b, c, d⟩ := h
  refine ⟨hx.1, hx.2, ?_, ?_⟩
  · show 0 ≤ kS A.fair p
    unfold kS
    split
    · omega
    · exact c
  · show kS A.fair p < _ ∨ _
    unfold kS
    split
    · rename_i r
      have := Nat.mod_lt (p.2.toNat + 1) r.1
      left
      omega
    · exact d
end Go.Proofs.Ytfaekhadjlgbbaa
