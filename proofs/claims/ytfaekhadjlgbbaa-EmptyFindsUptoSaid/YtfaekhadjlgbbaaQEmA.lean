/-
  Em0 Em1 Em2 Em3 joined. No statement is proved here.
-/
import Derived.Test.YtfaekhadjlgbbaaQNb0
import Derived.Test.YtfaekhadjlgbbaaQAu1
import Derived.Test.YtfaekhadjlgbbaaQAuB
import Derived.Test.YtfaekhadjlgbbaaQNb1
import Derived.Test.YtfaekhadjlgbbaaQWo
import Derived.Test.YtfaekhadjlgbbaaQWa0
import Derived.Test.YtfaekhadjlgbbaaQFn
namespace Go.Proofs.Ytfaekhadjlgbbaa
/-! ### XEm0 -/
section
set_option linter.unusedVariables false
/-- All of a list, in order: the pairs that are known then, and the list's numbers. -/
def eAdd : List Pr → List Pr → List Int → List Pr × List Int
  | [], L, o => (L, o)
  | p :: r, L, o => eAdd r (addP L p) (o ++ [(idxP (addP L p) p : Int)])
theorem addP_pre (L : List Pr) (p : Pr) : ∃ X, addP L p = L ++ X := by
  unfold addP
  split
  · exact ⟨[], by simp⟩
  · exact ⟨[p], rfl⟩
theorem idx_pre {L X : List Pr} {p : Pr} (h : p ∈ L) : idxP (L ++ X) p = idxP L p := by
  unfold idxP; rw [List.idxOf_append, if_pos h]
theorem eAdd_pre : ∀ (ps L : List Pr) (o : List Int), ∃ X, (eAdd ps L o).1 = L ++ X
  | [], L, o => ⟨[], by simp [eAdd]⟩
  | p :: r, L, o => by
    obtain ⟨X, hX⟩ := addP_pre L p
    obtain ⟨Y, hY⟩ := eAdd_pre r (addP L p) (o ++ [(idxP (addP L p) p : Int)])
    exact ⟨X ++ Y, by rw [eAdd, hY, hX, List.append_assoc]⟩
theorem eAdd_mem : ∀ (ps L : List Pr) (o : List Int) (q : Pr), q ∈ (eAdd ps L o).1 ↔ q ∈ L ∨ q ∈ ps
  | [], L, o, q => by simp [eAdd]
  | p :: r, L, o, q => by
    rw [eAdd, eAdd_mem r, mem_addP, List.mem_cons]
    constructor
    · rintro ((h | h) | h)
      · exact .inl h
      · exact .inr (.inl h)
      · exact .inr (.inr h)
    · rintro (h | h | h)
      · exact .inl (.inl h)
      · exact .inl (.inr h)
      · exact .inr h
theorem eAdd_nodup : ∀ (ps : List Pr) {L : List Pr} (o : List Int), L.Nodup → (eAdd ps L o).1.Nodup
  | [], _, _, h => h
  | p :: r, _, _, h => eAdd_nodup r _ (addP_nodup h p)
theorem eAdd_out : ∀ (ps L : List Pr) (o : List Int), (eAdd ps L o).2 = o ++ ps.map fun p => (idxP (eAdd ps L o).1 p : Int)
  | [], L, o => by simp [eAdd]
  | p :: r, L, o => by
    rw [eAdd, eAdd_out r]
    obtain ⟨X, hX⟩ := eAdd_pre r (addP L p) (o ++ [(idxP (addP L p) p : Int)])
    have : idxP (eAdd r (addP L p) (o ++ [(idxP (addP L p) p : Int)])).1 p = idxP (addP L p) p := by
      rw [hX]; exact idx_pre (mem_addP.2 (.inr rfl))
    rw [List.map_cons, this, List.append_assoc]
    rfl
theorem eAdd_old {ps L : List Pr} {o : List Int} {i : Nat} (h : i < L.length) : (eAdd ps L o).1.getD i (0, 0) = L.getD i (0, 0) := by
  obtain ⟨X, hX⟩ := eAdd_pre ps L o
  rw [hX, List.getD_eq_getElem?_getD, List.getElem?_append_left h, ← List.getD_eq_getElem?_getD]
theorem eAdd_mono (ps L : List Pr) (o : List Int) : L.length ≤ (eAdd ps L o).1.length := by
  obtain ⟨X, hX⟩ := eAdd_pre ps L o
  rw [hX]; simp
/-- From pair n on. -/
def eRun (nx : Pr → List Pr) : Nat → Nat → List Pr → List (List Int) → List Pr × List (List Int)
  | 0, _, L, T => (L, T)
  | k + 1, n, L, T => if n < L.length then eRun nx k (n + 1) (eAdd (nx (L.getD n (0, 0))) L []).1 (T ++ [(eAdd (nx (L.getD n (0, 0))) L []).2]) else (L, T)
/-- What holds before pair n is looked at. -/
structure NumI (start : List Pr) (nx : Pr → List Pr) (n : Nat) (L : List Pr) (T : List (List Int)) : Prop where
  nd : L.Nodup
  st : ∀ p ∈ start, p ∈ L
  len : T.length = n
  le : n ≤ L.length
  row : ∀ i, i < n → T.getD i [] = (nx (L.getD i (0, 0))).map fun q => (idxP L q : Int)
  cl : ∀ i, i < n → ∀ q ∈ nx (L.getD i (0, 0)), q ∈ L
  fr : ∀ j, j < L.length → L.getD j (0, 0) ∈ start ∨ ∃ i, i < n ∧ i < j ∧ L.getD j (0, 0) ∈ nx (L.getD i (0, 0))
theorem getD_memP {L : List Pr} {j : Nat} (h : j < L.length) : L.getD j (0, 0) ∈ L := by
  rw [List.getD_eq_getElem?_getD, List.getElem?_eq_getElem h]; simp
theorem NumI.begin (start : List Pr) (nx : Pr → List Pr) : NumI start nx 0 (eAdd start [] []).1 [] where
  nd := eAdd_nodup start [] .nil
  st p hp := (eAdd_mem start [] [] p).2 (.inr hp)
  len := rfl
  le := Nat.zero_le _
  row i hi := by omega
  cl i hi := by omega
  fr j hj := .inl (((eAdd_mem start [] [] _).1 (getD_memP hj)).resolve_left (by simp))
theorem NumI.next {start : List Pr} {nx : Pr → List Pr} {n : Nat} {L : List Pr} {T : List (List Int)} (h : NumI start nx n L T) (hn : n < L.length) :
    NumI start nx (n + 1) (eAdd (nx (L.getD n (0, 0))) L []).1 (T ++ [(eAdd (nx (L.getD n (0, 0))) L []).2]) := by
  generalize hp : L.getD n (0, 0) = p
  have hm := eAdd_mem (nx p) L []
  have ho := eAdd_out (nx p) L []
  have hold := fun i (hi : i < L.length) => eAdd_old (ps := nx p) (o := []) hi
  have hmono := eAdd_mono (nx p) L []
  obtain ⟨X, hX⟩ := eAdd_pre (nx p) L []
  refine ⟨eAdd_nodup _ _ h.nd, fun q hq => (hm q).2 (.inl (h.st q hq)), by simp [h.len], by omega, fun i hi => ?_, fun i hi q hq => ?_, fun j hj => ?_⟩
  · by_cases e : i = n
    · subst e
      rw [hold _ hn, hp, List.getD_eq_getElem?_getD, List.getElem?_append_right (by rw [h.len]; exact Nat.le_refl _), h.len, Nat.sub_self]
      show (eAdd (nx p) L []).2 = _
      rw [ho, List.nil_append]
    · have hi : i < n := by omega
      rw [hold i (by omega), List.getD_eq_getElem?_getD, List.getElem?_append_left (by rw [h.len]; exact hi), ← List.getD_eq_getElem?_getD, h.row i hi, hX]
      refine List.map_congr_left fun q hq => ?_
      rw [idx_pre (h.cl i hi q hq)]
  · by_cases e : i = n
    · subst e
      rw [hold _ hn, hp] at hq
      exact (hm q).2 (.inr hq)
    · rw [hold i (by omega)] at hq
      exact (hm q).2 (.inl (h.cl i (by omega) q hq))
  · by_cases hl : j < L.length
    · rw [hold j hl]
      rcases h.fr j hl with k | ⟨i, k1, k2, k3⟩
      · exact .inl k
      · exact .inr ⟨i, by omega, k2, by rw [hold i (by omega)]; exact k3⟩
    · refine .inr ⟨n, by omega, by omega, ?_⟩
      rw [hold n hn, hp]
      have hq : (eAdd (nx p) L []).1.getD j (0, 0) ∈ X := by
        rw [hX, List.getD_eq_getElem?_getD, List.getElem?_append_right (by omega)]
        rw [hX, List.length_append] at hj
        rw [List.getElem?_eq_getElem (by omega)]
        simp
      have hnd := eAdd_nodup (nx p) [] h.nd
      rw [hX] at hnd
      have hnot : ¬ (eAdd (nx p) L []).1.getD j (0, 0) ∈ L := fun q => (List.nodup_append.1 hnd).2.2 _ q _ hq rfl
      exact ((hm _).1 (getD_memP hj)).resolve_left hnot
/-- What has come out. -/
structure NumF (start : List Pr) (nx : Pr → List Pr) (L : List Pr) (G : List (List Int)) : Prop where
  nd : L.Nodup
  st : ∀ p ∈ start, p ∈ L
  len : G.length = L.length
  row : ∀ i, i < L.length → G.getD i [] = (nx (L.getD i (0, 0))).map fun q => (idxP L q : Int)
  cl : ∀ i, i < L.length → ∀ q ∈ nx (L.getD i (0, 0)), q ∈ L
  fr : ∀ j, j < L.length → L.getD j (0, 0) ∈ start ∨ ∃ i, i < j ∧ L.getD j (0, 0) ∈ nx (L.getD i (0, 0))
theorem NumI.fin {start : List Pr} {nx : Pr → List Pr} {n : Nat} {L : List Pr} {T : List (List Int)} (h : NumI start nx n L T) (hn : ¬ n < L.length) : NumF start nx L T := by
  have e : n = L.length := by have := h.le; omega
  subst e
  exact ⟨h.nd, h.st, h.len, h.row, h.cl, fun j hj => (h.fr j hj).imp_right fun ⟨i, _, k2, k3⟩ => ⟨i, k2, k3⟩⟩
/-- How many there can be. -/
theorem pairs_le {L : List Pr} (hnd : L.Nodup) {n m : Nat} (h : ∀ p ∈ L, (0 ≤ p.1 ∧ p.1 < (n : Int)) ∧ 0 ≤ p.2 ∧ p.2 < (m : Int)) : L.length ≤ n * m := by
  refine pigeon (n * m) L.length (fun i => (L.getD i (0, 0)).1.toNat * m + (L.getD i (0, 0)).2.toNat) (fun i hi => ?_) fun i j hi hj he => ?_
  · obtain ⟨⟨a, b⟩, c, d⟩ := h _ (getD_memP hi)
    generalize L.getD i (0, 0) = p at *
    have : (p.1.toNat + 1) * m ≤ n * m := Nat.mul_le_mul_right _ (by omega)
    rw [Nat.add_mul, Nat.one_mul] at this
    omega
  · obtain ⟨⟨a, b⟩, c, d⟩ := h _ (getD_memP hi)
    obtain ⟨⟨a', b'⟩, c', d'⟩ := h _ (getD_memP hj)
    have hxy : L.getD i (0, 0) = L.getD j (0, 0) := by
      generalize L.getD i (0, 0) = p at *
      generalize L.getD j (0, 0) = q at *
      have e1 : p.2.toNat = q.2.toNat := by
        have := congrArg (· % m) he
        simp only [Nat.mul_add_mod_self_right] at this
        rwa [Nat.mod_eq_of_lt (by omega), Nat.mod_eq_of_lt (by omega)] at this
      have e2 : p.1.toNat = q.1.toNat := by
        rw [e1] at he
        exact Nat.eq_of_mul_eq_mul_right (by omega) (Nat.add_right_cancel he)
      exact Prod.ext (by omega) (by omega)
    rw [List.getD_eq_getElem?_getD, List.getD_eq_getElem?_getD, List.getElem?_eq_getElem hi, List.getElem?_eq_getElem hj] at hxy
    simp only [Option.getD_some] at hxy
    rcases Nat.lt_trichotomy i j with q | q | q
    · exact absurd hxy (List.pairwise_iff_getElem.1 hnd i j hi hj q)
    · exact q
    · exact absurd hxy.symm (List.pairwise_iff_getElem.1 hnd j i hj hi q)
theorem idx_getD {L : List Pr} {q : Pr} (h : q ∈ L) : L.getD (idxP L q) (0, 0) = q := by
  have h1 := idx_lt h
  unfold idxP at h1 ⊢
  rw [List.getD_eq_getElem?_getD, List.getElem?_eq_getElem h1, List.getElem_idxOf h1]
  rfl
section
variable {start : List Pr} {nx : Pr → List Pr} {L : List Pr} {G : List (List Int)}
theorem NumF.rowmem (h : NumF start nx L G) {v : Nat} {x : Int} (hx : x ∈ G.getD v []) : v < L.length ∧ ∃ q, q ∈ nx (L.getD v (0, 0)) ∧ q ∈ L ∧ x = (idxP L q : Int) ∧ idxP L q < L.length := by
  have hv : v < L.length := by
    rcases Nat.lt_or_ge v L.length with q | q
    · exact q
    · rw [List.getD_eq_getElem?_getD, List.getElem?_eq_none (by have := h.len; omega)] at hx; cases hx
  rw [h.row v hv] at hx
  obtain ⟨q, hq, rfl⟩ := List.mem_map.1 hx
  have := h.cl v hv q hq
  exact ⟨hv, q, hq, this, rfl, idx_lt this⟩
theorem NumF.inG (h : NumF start nx L G) : ∀ l ∈ G, inB l G.length = true := fun l hl => by
  obtain ⟨v, hv, rfl⟩ := List.mem_iff_getElem.1 hl
  refine inB_of fun x hx => ?_
  obtain ⟨_, q, _, _, rfl, k⟩ := h.rowmem (v := v) (x := x) (by rw [List.getD_eq_getElem?_getD, List.getElem?_eq_getElem hv]; exact hx)
  have := h.len
  omega
theorem NumF.come (h : NumF start nx L G) : ∀ j, j < L.length → ∃ p ∈ start, To G (idxP L p) j := by
  intro j
  induction j using Nat.strongRecOn with
  | ind j ih =>
    intro hj
    have hid : idxP L (L.getD j (0, 0)) = j := by
      have h1 := idx_lt (getD_memP hj)
      have h2 := idx_getD (getD_memP hj)
      have hx : L[idxP L (L.getD j (0, 0))]'h1 = L[j] := by
        rw [List.getD_eq_getElem?_getD, List.getElem?_eq_getElem h1] at h2
        simp only [Option.getD_some] at h2
        rw [h2, List.getD_eq_getElem?_getD, List.getElem?_eq_getElem hj]; rfl
      rcases Nat.lt_trichotomy (idxP L (L.getD j (0, 0))) j with q | q | q
      · exact absurd hx (List.pairwise_iff_getElem.1 h.nd _ _ h1 hj q)
      · exact q
      · exact absurd hx.symm (List.pairwise_iff_getElem.1 h.nd _ _ hj h1 q)
    rcases h.fr j hj with k | ⟨i, k2, k3⟩
    · exact ⟨_, k, by rw [hid]; exact to_refl G j⟩
    · obtain ⟨p, hp, hT⟩ := ih i k2 (by omega)
      refine ⟨p, hp, to_trans hT ?_⟩
      have : ((j : Nat) : Int) ∈ G.getD i [] := by
        rw [h.row i (by omega)]
        exact List.mem_map.2 ⟨_, k3, by rw [hid]⟩
      have := to_edge this
      simpa using this
/-- A fair way among the pairs is one of any graph into which they go, row for row. -/
theorem NumF.fair (h : NumF start nx L G) {g' : List (List Int)} {code : Pr → Nat} (hg : ∀ p ∈ L, g'.getD (code p) [] = (nx p).map fun q => (code q : Int)) (sets : List (Nat → Bool)) :
    (∃ v, v < G.length ∧ Fw G (sets.map fun S v => S (code (L.getD v (0, 0)))) v) ↔ ∃ p ∈ start, Fw g' sets (code p) := by
  have he : ∀ v x, x ∈ G.getD v [] → ∃ y, y ∈ g'.getD (code (L.getD v (0, 0))) [] ∧ y.toNat = code (L.getD x.toNat (0, 0)) := fun v x hx => by
    obtain ⟨hv, q, q1, q2, rfl, q4⟩ := h.rowmem hx
    refine ⟨(code q : Int), ?_, ?_⟩
    · rw [hg _ (getD_memP hv)]; exact List.mem_map.2 ⟨q, q1, rfl⟩
    · rw [Int.toNat_natCast, Int.toNat_natCast, idx_getD q2]
  have hin : ∀ v x, x ∈ G.getD v [] → x.toNat < G.length := fun v x hx => by
    obtain ⟨_, q, _, _, rfl, k⟩ := h.rowmem hx
    have := h.len; omega
  constructor
  · rintro ⟨v, hv, k⟩
    have hv' : v < L.length := by have := h.len; omega
    obtain ⟨p, hp, hT⟩ := h.come v hv'
    refine ⟨p, hp, ?_⟩
    have := fw_map (h := fun v => code (L.getD v (0, 0))) he (Fw.back k hT)
    rwa [idx_getD (h.st p hp)] at this
  · rintro ⟨p, hp, k⟩
    have hpl := h.st p hp
    have hi : idxP L p < G.length := by have := h.len; have := idx_lt hpl; omega
    refine ⟨idxP L p, hi, fw_lift (h := fun v => code (L.getD v (0, 0))) (fun v hv y hy => ?_) hin hi (by rw [idx_getD hpl]; exact k)⟩
    have hv' : v < L.length := by have := h.len; omega
    rw [hg _ (getD_memP hv')] at hy
    obtain ⟨q, q1, rfl⟩ := List.mem_map.1 hy
    have hq := h.cl v hv' q q1
    refine ⟨(idxP L q : Int), by rw [h.row v hv']; exact List.mem_map.2 ⟨q, q1, rfl⟩, ?_⟩
    rw [Int.toNat_natCast, Int.toNat_natCast, idx_getD hq]
end
end

/-! ### XEm1 -/
section
open Go.RowKit
set_option linter.unusedSimpArgs false
set_option linter.unusedVariables false
def fitE (W : WorldD) (A : AutoD) (p : Pr) : Bool := fitsV A p.2.toNat (W.label.getD p.1.toNat 0)
def sbox (W : WorldD) (A : AutoD) (n t : Nat) (S : D) : List D := [dints W.start, dgrid W.next, dlet W.label, dgrid W.fair, dints A.start, dgrid A.next, dlet A.must, dlet A.nots, dgrid A.fair, .mp 0, .own 2 n 0 n, .own 3 t 0 t, S]
noncomputable def eheap (W : WorldD) (A : AutoD) (L : List Pr) (S : D) (T : List (List Int)) : List AObj :=
  [.mapo true (mapIs Try.prog 97 (fP L)), .row true (sbox W A L.length T.length S), .vec true L.length 2 (prows L), .vec true T.length 1 (growsI T)]
theorem under_eheap {W : WorldD} {A : AutoD} {L : List Pr} {S : D} (hS : Pure S) {T : List (List Int)} {m : Nat} (hm : 4 ≤ m) : ∀ o ∈ eheap W A L S T, o.under m := by
  have := under_pure (m := m) S hS
  have h1 := fun l => under_pure (m := m) _ (pure_dints l)
  have h2 := fun l => under_pure (m := m) _ (pure_dgrid l)
  have h3 := fun l => under_pure (m := m) _ (pure_dlet l)
  intro o ho
  simp only [eheap, List.mem_cons, List.not_mem_nil, or_false] at ho
  rcases ho with rfl | rfl | rfl | rfl <;> simp [AObj.under, sbox, UnderL, Under, this, h1, h2, h3] <;> omega
theorem underO_eheap {W : WorldD} {A : AutoD} {L : List Pr} {S : D} (hS : Pure S) {T : List (List Int)} {m : Nat} (hm : 4 ≤ m) : UnderO m (eheap W A L S T) := by
  have := under_eheap (W := W) (A := A) (L := L) hS (T := T) hm
  unfold eheap at *
  exact ⟨this _ (by simp), this _ (by simp), this _ (by simp), this _ (by simp), trivial⟩
set_option maxRecDepth 100000 in
theorem laidOutE : laidOutB Try.prog = true := by kernel_rfl
theorem keyedE : Maps.Keyed Try.prog 97 := Maps.Keyed.of_law (deep_law_laid laidOutE (m := 2) (by omega) (of_decide_eq_true (by kernel_rfl)) (by kernel_rfl) (by rw [Try.underlying97]))
set_option maxRecDepth 100000 in
theorem keyOf_pairE {p : Pr} (hp : WfP p) : ∃ l, keyOf Try.prog 97 (keyP p) = some l :=
  keyOf_two (of_decide_eq_true (by kernel_rfl)) (by kernel_rfl) Try.underlying97 rfl rfl rfl rfl (by decide) (by decide) Try.underlying3 (by kernel_rfl) (by kernel_rfl) _ _ hp.1 hp.2
def c104 : PC := .seq (.ops [⟨some 3,.box (.tmp 1),none,0⟩,
 ⟨some 4,.move (.const (.int .i64 0)),none,0⟩] false) (.seq (.seq (.ops [⟨some 7,.move (.tmp 0),none,0⟩,
 ⟨some 8,.nilchk (.tmp 7),none,1⟩,
 ⟨some 9,.faddr 4 (.tmp 8),none,3⟩,
 ⟨some 10,.loadA 5 (.tmp 9),none,7⟩,
 ⟨some 11,.faddr 1 (.tmp 3),none,0⟩,
 ⟨some 12,.load1 (.tmp 11),none,16⟩,
 ⟨some 13,.move (.tmp 0),none,0⟩,
 ⟨some 14,.nilchk (.tmp 13),none,64⟩,
 ⟨some 15,.faddr 0 (.tmp 14),none,192⟩,
 ⟨some 16,.faddr 2 (.tmp 15),none,448⟩,
 ⟨some 17,.load1 (.tmp 16),none,960⟩,
 ⟨some 18,.faddr 0 (.tmp 3),none,0⟩,
 ⟨some 19,.load1 (.tmp 18),none,2048⟩,
 ⟨some 20,.iaddr 1 (.tmp 17) (.tmp 19),none,8128⟩,
 ⟨some 21,.load1 (.tmp 20),none,16320⟩,
 ⟨some 22,.call 89 [(.tmp 10), (.tmp 12), (.tmp 21)],none,32767⟩,
 ⟨some 23,.un .not (.tmp 22),none,65535⟩] true) (.cond (.tmp 23) (.seq (.ops [⟨some 4,.move (.const (.int .i64 (-1))),none,0⟩] false) (.ret)) (.skip))) (.seq (.ops [⟨some 25,.move (.tmp 0),none,0⟩,
 ⟨some 26,.nilchk (.tmp 25),none,1⟩,
 ⟨some 27,.faddr 9 (.tmp 26),none,3⟩,
 ⟨some 28,.load1 (.tmp 27),none,7⟩,
 ⟨some 29,.loadA 2 (.tmp 3),none,0⟩,
 ⟨some 30,.look 97 (.int .i64 0) (.tmp 28) (.tmp 29),none,31⟩,
 ⟨some 24,.move (.tmp 30),none,63⟩,
 ⟨some 31,.ext 0 (.tmp 24),none,127⟩,
 ⟨some 32,.ext 1 (.tmp 24),none,127⟩,
 ⟨some 5,.move (.tmp 31),none,255⟩,
 ⟨some 6,.move (.tmp 32),none,1023⟩] true) (.seq (.seq (.ops [⟨some 33,.move (.tmp 6),none,0⟩,
 ⟨some 34,.un .not (.tmp 33),none,0⟩] false) (.cond (.tmp 34) (.seq (.ops [⟨some 35,.move (.tmp 0),none,0⟩,
 ⟨some 36,.nilchk (.tmp 35),none,0⟩,
 ⟨some 37,.faddr 10 (.tmp 36),none,0⟩,
 ⟨some 38,.load1 (.tmp 37),none,0⟩,
 ⟨some 39,.len (.tmp 38),none,0⟩,
 ⟨some 5,.move (.tmp 39),none,0⟩] false) (.seq (.ops [⟨some 40,.move (.tmp 0),none,0⟩,
 ⟨some 41,.nilchk (.tmp 40),none,1⟩,
 ⟨some 42,.faddr 9 (.tmp 41),none,3⟩,
 ⟨some 43,.load1 (.tmp 42),none,7⟩,
 ⟨some 44,.loadA 2 (.tmp 3),none,0⟩,
 ⟨some 45,.move (.tmp 5),none,0⟩,
 ⟨none,.mput 97 (.tmp 43) (.tmp 44) (.tmp 45),none,63⟩] true) (.ops [⟨some 46,.move (.tmp 0),none,0⟩,
 ⟨some 47,.move (.tmp 0),none,0⟩,
 ⟨some 48,.nilchk (.tmp 47),none,2⟩,
 ⟨some 49,.faddr 10 (.tmp 48),none,6⟩,
 ⟨some 50,.load1 (.tmp 49),none,14⟩,
 ⟨some 51,.loadA 2 (.tmp 3),none,0⟩,
 ⟨some 52,.bslice 2 1 [(.tmp 51)],none,32⟩,
 ⟨some 53,.append 2 16 (.tmp 50) (.tmp 52),none,126⟩,
 ⟨some 54,.nilchk (.tmp 46),none,255⟩,
 ⟨some 55,.faddr 10 (.tmp 54),none,511⟩,
 ⟨none,.store 1 (.tmp 55) (.tmp 53),none,1023⟩] true))) (.skip))) (.seq (.ops [⟨some 56,.move (.tmp 5),none,0⟩,
 ⟨some 4,.move (.tmp 56),none,0⟩] false) (.ret)))))
set_option maxRecDepth 100000 in
theorem c104_ok : FunOK Try.prog 104 57 [.tmp 4] c104 := ⟨⟨Try.f104, Try.func104, rfl, by kernel_rfl, rfl, by kernel_rfl⟩⟩
/-- What is right of a world, an automaton and a pair. -/
structure TwoW (W : WorldD) (A : AutoD) : Prop where
  fw : W.Fits
  fa : A.Fits
  cw : W.chk = 0
  ca : A.chk = 0
def GoodE (W : WorldD) (A : AutoD) (p : Pr) : Prop := (0 ≤ p.1 ∧ p.1 < (W.next.length : Int)) ∧ 0 ≤ p.2 ∧ p.2 < (A.next.length : Int)
theorem chk_world (W : WorldD) (h : W.chk = 0) : W.label.length = W.next.length ∧ W.next.length ≤ 600 ∧ W.fair.length ≤ 80 ∧ inB W.start W.next.length = true ∧ (∀ l ∈ W.next, inB l W.next.length = true) ∧ ∀ l ∈ W.fair, inB l W.next.length = true := by
  unfold WorldD.chk at h
  split at h
  · exact absurd h (by decide)
  split at h
  · exact absurd h (by decide)
  split at h
  · exact absurd h (by decide)
  split at h
  · exact absurd h (by decide)
  rename_i h1 h2 h3 h4
  have h2' := not_or.1 h2
  refine ⟨by omega, by omega, by omega, by simpa using h2'.2, fun l hl => ?_, fun l hl => ?_⟩
  · rw [Bool.not_eq_true, List.any_eq_false] at h3
    have := h3 l hl
    simp only [Bool.or_eq_true, Bool.not_eq_true', not_or, Bool.not_eq_false] at this
    exact this.2
  · rw [Bool.not_eq_true, List.any_eq_false] at h4
    simpa using h4 l hl
theorem GoodE.wf {W : WorldD} {A : AutoD} (h : TwoW W A) {p : Pr} (hp : GoodE W A p) : WfP p := by
  obtain ⟨⟨a, b⟩, c, d⟩ := hp
  have := (chk_world W h.cw).2.1
  have := (chk_auto A h.ca).2.2.1
  exact wfP_of ⟨a, by omega, c, by omega⟩
set_option maxRecDepth 100000 in
theorem em_add {W : WorldD} {A : AutoD} (hWA : TwoW W A) (L : List Pr) (hnd : L.Nodup) (hL : L.length ≤ 2000000) (S : D) (hS : Pure S) (T : List (List Int)) (p : Pr) (hg : GoodE W A p) :
    ACall Try.prog 104 [.loc 1 0, .agg (dpair p.1 p.2)] (eheap W A L S T) (.sc (.int .i64 (if fitE W A p = true then (idxP (addP L p) p : Int) else -1))) (eheap W A (if fitE W A p = true then addP L p else L) S T) := by
  have hp := GoodE.wf hWA hg
  have hkey := keyOf_pairE hp
  obtain ⟨⟨g1, g2⟩, g3, g4⟩ := hg
  obtain ⟨hlab, _⟩ := chk_world W hWA.cw
  obtain ⟨hm, hn, _⟩ := chk_auto A hWA.ca
  have hF := au_Fits A hm hn p.2.toNat (by omega) (W.label.getD p.1.toNat 0)
  rw [show ((p.2.toNat : Nat) : Int) = p.2 by omega] at hF
  refine acall_intro c104_ok (by simp) (by simp [eheap]) ?_ (by simp [Under]) (by
    intro x hx
    exact under_eheap hS (by simp [eheap]) x hx)
  have ef : fitE W A p = fitsV A p.2.toNat (W.label.getD p.1.toNat 0) := rfl
  rw [← ef] at hF
  generalize fitE W A p = fit at *
  unfold eheap sbox dpair
  unfold dauto AutoD.cells at hF
  (apply rd_sound; focus (repeat' constructor))
  ((conv=>whnf);repeat(refine .intro rfl ?_;conv=>whnf))
  refine ⟨by omega, _, u64a_at (l := W.label) (k := p.1.toNat) (by omega) (by omega), ?_⟩
  ((conv=>whnf);repeat(refine .intro rfl ?_;conv=>whnf))
  (refine .inl ⟨_, hF, ?_⟩; ((conv=>whnf);repeat(refine .intro rfl ?_;conv=>whnf)))
  cases fit
  · ((conv=>whnf);repeat(refine .intro rfl ?_;conv=>whnf))
    simp
  ((conv=>whnf);repeat(refine .intro rfl ?_;conv=>whnf))
  refine ⟨fP L, rfl, keyedE, hkey, fun v hv => ?_, fun hv => ?_⟩
  · by_cases h2 : p ∈ L
    · have hs := fP_some hnd h2
      have hv' : some v = some (Value.int .i64 (idxP L p)) := hv.symm.trans hs
      cases hv'
      have eA : addP L p = L := if_pos h2
      have eI : idxP (addP L p) p = idxP L p := by rw [eA]
      rw [eI, eA]
      ((conv=>whnf);repeat(refine .intro rfl ?_;conv=>whnf))
      simp
    · exfalso
      have hv' : some v = none := hv.symm.trans (fP_none h2)
      cases hv'
  · have h2 : ¬ p ∈ L := fun h2 => by
      have hv' : (none : Option Value) = some (Value.int .i64 (idxP L p)) := hv.symm.trans (fP_some hnd h2)
      cases hv'
    have eA : addP L p = L ++ [p] := if_neg h2
    have eI : idxP (addP L p) p = L.length := by rw [idx_addP, if_neg h2]
    rw [eI, eA]
    ((conv=>whnf);repeat(refine .intro rfl ?_;conv=>whnf))
    refine ⟨fP L, rfl, keyedE, hkey, hv, ?_⟩
    ((conv=>whnf);repeat(refine .intro rfl ?_;conv=>whnf))
    refine ⟨(by unfold sliceAppend; simp only [ll]; omega), ?_⟩
    ((conv=>whnf);repeat(refine .intro rfl ?_;conv=>whnf))
    refine ⟨?_, by simp⟩
    rw [if_pos rfl, fP_put, show (L ++ [p]).length = L.length + 1 by simp, ← prows_snocP]
    rfl
def rowE (W : WorldD) (A : AutoD) (x : Int) (k : List Int) : List Pr := (k.filter fun y => fitE W A (x, y)).map fun y => (x, y)
def crossE (W : WorldD) (A : AutoD) (l k : List Int) : List Pr := l.flatMap fun x => rowE W A x k
theorem rowE_cons (W : WorldD) (A : AutoD) (x y : Int) (k : List Int) : rowE W A x (y :: k) = if fitE W A (x, y) = true then (x, y) :: rowE W A x k else rowE W A x k := by
  unfold rowE
  rw [List.filter_cons]
  split <;> simp
theorem rowE_len (W : WorldD) (A : AutoD) (x : Int) (k : List Int) : (rowE W A x k).length ≤ k.length := by unfold rowE; rw [List.length_map]; exact List.length_filter_le _ _
theorem crossE_len (W : WorldD) (A : AutoD) (l k : List Int) : (crossE W A l k).length ≤ l.length * k.length := by
  induction l with
  | nil => simp [crossE]
  | cons x r ih =>
    have := rowE_len W A x k
    simp only [crossE, List.flatMap_cons, List.length_append, List.length_cons] at ih ⊢
    rw [Nat.add_mul, Nat.one_mul]
    omega
theorem crossE_good {W : WorldD} {A : AutoD} {l k : List Int} (hl : inB l W.next.length = true) (hk : inB k A.next.length = true) : ∀ p ∈ crossE W A l k, GoodE W A p := by
  intro p hp
  obtain ⟨x, hx, hp⟩ := List.mem_flatMap.1 hp
  obtain ⟨y, hy, rfl⟩ := List.mem_map.1 hp
  exact ⟨inB_mem hl hx, inB_mem hk (List.mem_filter.1 hy).1⟩
theorem getD_drop {l : List Int} {k : Nat} (h : k < l.length) : l.drop k = l.getD k 0 :: l.drop (k + 1) := by
  rw [List.drop_eq_getElem_cons h, List.getD_eq_getElem?_getD, List.getElem?_eq_getElem h]
  rfl
theorem GoodE.le {W : WorldD} {A : AutoD} (hWA : TwoW W A) {L : List Pr} (hnd : L.Nodup) (hg : ∀ p ∈ L, GoodE W A p) : L.length ≤ W.next.length * A.next.length := pairs_le hnd hg
theorem two_le {W : WorldD} {A : AutoD} (hWA : TwoW W A) : W.next.length * A.next.length ≤ 1228800 :=
  Nat.le_trans (Nat.mul_le_mul (chk_world W hWA.cw).2.1 (chk_auto A hWA.ca).2.2.1) (by decide)
def c55_2 : PC := .seq (.ops [⟨some 22,.bin .lss (.tmp 21) (.tmp 20),none,0⟩] false) (.seq (.cond (.tmp 22) (.skip) (.exit 2)) (.seq (.block 3 (.seq (.ops [⟨some 23,.iaddr 1 (.tmp 19) (.tmp 21),none,0⟩,
 ⟨some 24,.load1 (.tmp 23),none,0⟩,
 ⟨some 11,.move (.tmp 24),none,0⟩] false) (.seq (.ops [⟨some 25,.move (.tmp 0),none,0⟩,
 ⟨some 26,.move (.tmp 9),none,0⟩,
 ⟨some 27,.move (.tmp 11),none,0⟩,
 ⟨some 28,.build [(.int .i64 0), (.int .i64 0)] [(0, 1, (.tmp 26)), (1, 1, (.tmp 27))],none,0⟩,
 ⟨some 29,.call 104 [(.tmp 25), (.tmp 28)],none,0⟩,
 ⟨some 12,.move (.tmp 29),none,0⟩] false) (.seq (.ops [⟨some 30,.move (.tmp 12),none,0⟩,
 ⟨some 31,.bin .geq (.tmp 30) (.const (.int .i64 0)),none,0⟩] false) (.cond (.tmp 31) (.ops [⟨some 32,.move (.tmp 7),none,0⟩,
 ⟨some 33,.move (.tmp 12),none,0⟩,
 ⟨some 34,.bslice 1 1 [(.tmp 33)],none,0⟩,
 ⟨some 35,.append 1 8 (.tmp 32) (.tmp 34),none,0⟩,
 ⟨some 7,.move (.tmp 35),none,0⟩] false) (.skip)))))) (.ops [⟨some 36,.bin .add (.tmp 21) (.const (.int .i64 1)),none,0⟩,
 ⟨some 21,.move (.tmp 36),none,0⟩] false)))
def c55_1 : PC := .seq (.ops [⟨some 16,.bin .lss (.tmp 15) (.tmp 14),none,0⟩] false) (.seq (.cond (.tmp 16) (.skip) (.exit 0)) (.seq (.block 1 (.seq (.ops [⟨some 17,.iaddr 1 (.tmp 13) (.tmp 15),none,0⟩,
 ⟨some 18,.load1 (.tmp 17),none,0⟩,
 ⟨some 9,.move (.tmp 18),none,0⟩] false) (.seq (.ops [⟨some 19,.move (.tmp 2),none,0⟩,
 ⟨some 20,.len (.tmp 19),none,0⟩,
 ⟨some 21,.move (.const (.int .i64 0)),none,0⟩] false) (.block 2 (.loop c55_2))))) (.ops [⟨some 37,.bin .add (.tmp 15) (.const (.int .i64 1)),none,0⟩,
 ⟨some 15,.move (.tmp 37),none,0⟩] false)))
def c55 : PC := .seq (.ops [⟨some 6,.move (.const (.slice none 0 0)),none,0⟩] false) (.seq (.ops [⟨some 7,.move (.const (.slice none 0 0)),none,0⟩] false) (.seq (.seq (.ops [⟨some 13,.move (.tmp 1),none,0⟩,
 ⟨some 14,.len (.tmp 13),none,0⟩,
 ⟨some 15,.move (.const (.int .i64 0)),none,0⟩] false) (.block 0 (.loop c55_1))) (.seq (.ops [⟨some 38,.move (.tmp 7),none,0⟩,
 ⟨some 6,.move (.tmp 38),none,0⟩] false) (.ret))))
set_option maxRecDepth 100000 in
theorem c55_ok : FunOK Try.prog 55 39 [.tmp 6] c55 := ⟨⟨Try.f55, Try.func55, rfl, by kernel_rfl, rfl, by kernel_rfl⟩⟩
set_option maxRecDepth 100000 in
theorem em_cross {W : WorldD} {A : AutoD} (hWA : TwoW W A) (l k : List Int) (hl : l.length ≤ 1048576) (hk : k.length ≤ 1048576) (il : inB l W.next.length = true) (ik : inB k A.next.length = true) (L : List Pr) (hnd : L.Nodup) (hLg : ∀ p ∈ L, GoodE W A p) (S : D) (hS : Pure S) (T : List (List Int)) :
    ACall Try.prog 55 [.loc 1 0, dints l, dints k] (eheap W A L S T) (dints (eAdd (crossE W A l k) L []).2) (eheap W A (eAdd (crossE W A l k) L []).1 S T) := by
  refine acall_introD c55_ok (by simp) (by simp [eheap]) ?_ (under_pure _ (pure_dints _))
  have hSu := fun m => under_pure (m := m) S hS
  have hu1 := fun m l => under_pure (m := m) _ (pure_dints l)
  have hu2 := fun m l => under_pure (m := m) _ (pure_dgrid l)
  have hu3 := fun m l => under_pure (m := m) _ (pure_dlet l)
  have h2 := two_le hWA
  generalize hR : eAdd (crossE W A l k) L [] = R
  have hlk : l.length * k.length ≤ 1048576 * 1048576 := Nat.mul_le_mul hl hk
  unfold eheap sbox
  (apply rd_sound; focus (repeat' constructor))
  ((conv=>whnf);repeat(refine .intro rfl ?_;conv=>whnf))
  rw [List.length_map]
  refine pwp_ghostB (leB_nil 7 1 (by simp) rfl) ?_
  refine pwp_forH [0, 2, 13, 14] (fun ((i, M, o) : Nat × List Pr × List Int) => [(7, .own 4 o.length 0 o.length), (15, .sc (.int .i64 i))]) (fun (i, M, o) => eheap W A M S T ++ [.vec true o.length 1 (i64s o)])
    (fun (i, M, o) => i ≤ l.length ∧ M.Nodup ∧ (∀ p ∈ M, GoodE W A p) ∧ o.length ≤ i * k.length ∧ eAdd (crossE W A (l.drop i) k) M o = R) (fun (i, M, o) => l.length - i) (0, L, []) ?_
  ((conv=>whnf);repeat(refine .intro rfl ?_;conv=>whnf))
  refine ⟨⟨by omega, hnd, hLg, by simp, hR⟩, by (repeat' (first | exact trivial | refine And.intro rfl ?_)), rfl, ?_⟩
  rintro ⟨i, M, o⟩ ⟨hi, hMn, hMg, hol, hF⟩
  unfold eheap sbox
  ((conv=>whnf);repeat(refine .intro rfl ?_;conv=>whnf))
  (apply rd_sound; focus (repeat' constructor))
  ((conv=>whnf);repeat(refine .intro rfl ?_;conv=>whnf))
  (refine ifK_split (fun q0 => ?_) (fun q0 => ?_) <;> (rw [q0]; ((conv=>whnf);repeat(refine .intro rfl ?_;conv=>whnf))))
  · have q0 : i < l.length := by ((try simp only[oo,reduceCtorEq]at*)<;>omega)
    have hx := inB_mem il (mem_getD q0)
    refine ⟨by omega, _, intsD_at (l := l) (k := i) (by omega) q0, ?_⟩
    rw [getD_drop q0, crossE, List.flatMap_cons] at hF
    rw [show (l.drop (i + 1)).flatMap (fun x => rowE W A x k) = crossE W A (l.drop (i + 1)) k from rfl] at hF
    have hik : (i + 1) * k.length ≤ 1048576 * 1048576 := Nat.le_trans (Nat.mul_le_mul_right _ (by omega)) hlk
    have hik2 : (i + 1) * k.length = i * k.length + k.length := by rw [Nat.add_mul, Nat.one_mul]
    ((conv=>whnf);repeat(refine .intro rfl ?_;conv=>whnf))
    rw [List.length_map]
    generalize l.getD i 0 = x at *
    refine pwp_forH [0, 2, 9, 13, 14, 15, 19, 20] (fun ((j, M, o) : Nat × List Pr × List Int) => [(7, .own 4 o.length 0 o.length), (21, .sc (.int .i64 j))]) (fun (j, M, o) => eheap W A M S T ++ [.vec true o.length 1 (i64s o)])
      (fun (j, M, o) => j ≤ k.length ∧ M.Nodup ∧ (∀ p ∈ M, GoodE W A p) ∧ o.length ≤ i * k.length + j ∧ eAdd (rowE W A x (k.drop j) ++ crossE W A (l.drop (i + 1)) k) M o = R) (fun (j, M, o) => k.length - j) (0, M, o) ?_
    ((conv=>whnf);repeat(refine .intro rfl ?_;conv=>whnf))
    refine ⟨⟨by omega, hMn, hMg, by omega, hF⟩, by (repeat' (first | exact trivial | refine And.intro rfl ?_)), rfl, ?_⟩
    rintro ⟨j, M, o⟩ ⟨hj, hMn, hMg, hol, hF⟩
    unfold eheap sbox
    ((conv=>whnf);repeat(refine .intro rfl ?_;conv=>whnf))
    (apply rd_sound; focus (repeat' constructor))
    ((conv=>whnf);repeat(refine .intro rfl ?_;conv=>whnf))
    (refine ifK_split (fun q1 => ?_) (fun q1 => ?_) <;> (rw [q1]; ((conv=>whnf);repeat(refine .intro rfl ?_;conv=>whnf))))
    · have q1 : j < k.length := by ((try simp only[oo,reduceCtorEq]at*)<;>omega)
      have hy := inB_mem ik (mem_getD q1)
      refine ⟨by omega, _, intsD_at (l := k) (k := j) (by omega) q1, ?_⟩
      ((conv=>whnf);repeat(refine .intro rfl ?_;conv=>whnf))
      rw [getD_drop q1, rowE_cons] at hF
      generalize k.getD j 0 = y at *
      have hgp : GoodE W A (x, y) := ⟨hx, hy⟩
      have hMl := GoodE.le hWA hMn hMg
      have hA := acall_pre (em_add hWA M hMn (by omega) S hS T (x, y) hgp) [.vec true o.length 1 (i64s o)] (by simp [eheap]) (by simp [eheap, UnderL, Under, dpair]) (underO_eheap hS (by simp [eheap]))
      have hap := addP_len M (x, y)
      cases r : fitE W A (x, y)
      · rw [r, if_neg (by decide), if_neg (by decide)] at hA
        rw [r, if_neg (by decide)] at hF
        unfold eheap sbox dpair at hA
        (refine .inr (.inr (.inl ⟨rfl, _, _, hA, ?_⟩)); ((conv=>whnf);repeat(refine .intro rfl ?_;conv=>whnf)))
        (refine .inl ⟨by (unfold InR; rw [IntKind.wrap_i64]; omega), ?_⟩; ((conv=>whnf);repeat(refine .intro rfl ?_;conv=>whnf)))
        refine ⟨(j + 1, M, o), ⟨by omega, hMn, hMg, by omega, hF⟩, by dsimp only; omega, ?_⟩
        dsimp only
        (refine leB_close 5 (by simp) rfl ?_ ?_ <;> (repeat' (first | exact trivial | exact rfl | exact DeepM.refl _ | exact DeepML.refl _ | exact DeepMLL.refl _ | refine And.intro ?_ ?_ | (simp [Under, UnderL, UnderLL, -List.map_take, -List.map_drop]; done))))
        all_goals first | exact hSu _ | exact hu1 _ _ | exact hu2 _ _ | exact hu3 _ _ | skip
      · rw [r, if_pos rfl, if_pos rfl] at hA
        rw [r, if_pos rfl, List.cons_append, eAdd] at hF
        unfold eheap sbox dpair at hA
        (refine .inr (.inr (.inl ⟨rfl, _, _, hA, ?_⟩)); ((conv=>whnf);repeat(refine .intro rfl ?_;conv=>whnf)))
        refine ⟨(by unfold sliceAppend; simp only [ll]; omega), ?_⟩
        ((conv=>whnf);repeat(refine .intro rfl ?_;conv=>whnf))
        (refine .inl ⟨by (unfold InR; rw [IntKind.wrap_i64]; omega), ?_⟩; ((conv=>whnf);repeat(refine .intro rfl ?_;conv=>whnf)))
        · refine ⟨(j + 1, addP M (x, y), o ++ [(idxP (addP M (x, y)) (x, y) : Int)]), ⟨by omega, addP_nodup hMn _, fun q hq => (mem_addP.1 hq).elim (hMg q) (fun e => e ▸ hgp), by simp; omega, hF⟩, by dsimp only; omega, ?_⟩
          dsimp only
          rw [show (o ++ [(idxP (addP M (x, y)) (x, y) : Int)]).length = o.length + 1 by simp]
          (refine leB_close 5 (by simp) rfl ?_ ?_ <;> (repeat' (first | exact trivial | exact rfl | exact DeepM.refl _ | exact DeepML.refl _ | exact DeepMLL.refl _ | refine And.intro ?_ ?_ | (simp [Under, UnderL, UnderLL, -List.map_take, -List.map_drop]; done))))
          all_goals first | exact hSu _ | exact hu1 _ _ | exact hu2 _ _ | exact hu3 _ _ | exact deepMLL_eq (i64s_snoc o _) | skip
    · have q1 : j = k.length := by have : ¬ j < k.length := by ((try simp only[oo,reduceCtorEq]at*)<;>omega)
                                   omega
      subst q1
      rw [List.drop_length] at hF
      (refine .inl ⟨by (unfold InR; rw [IntKind.wrap_i64]; omega), ?_⟩; ((conv=>whnf);repeat(refine .intro rfl ?_;conv=>whnf)))
      refine ⟨(i + 1, M, o), ⟨by omega, hMn, hMg, by omega, hF⟩, by dsimp only; omega, ?_⟩
      dsimp only
      (refine leB_close 5 (by simp) rfl ?_ ?_ <;> (repeat' (first | exact trivial | exact rfl | exact DeepM.refl _ | exact DeepML.refl _ | exact DeepMLL.refl _ | refine And.intro ?_ ?_ | (simp [Under, UnderL, UnderLL, -List.map_take, -List.map_drop]; done))))
      all_goals first | exact hSu _ | exact hu1 _ _ | exact hu2 _ _ | exact hu3 _ _ | skip
  · have q0 : i = l.length := by have : ¬ i < l.length := by ((try simp only[oo,reduceCtorEq]at*)<;>omega)
                                 omega
    subst q0
    rw [List.drop_length] at hF
    have hF : (M, o) = R := hF
    subst hF
    exact ⟨.own _ _ _ _ _ _ _ _ rfl rfl (deepMLL_eq (drop_take_all (by simp [i64s]))), closeH_same _ [_] (under_eheap hS (Nat.le_refl _))⟩
end

/-! ### XEm2 -/
section
open Go.RowKit
set_option linter.unusedSimpArgs false
set_option linter.unusedVariables false
/-- The search as data. -/
def sdat (W : WorldD) (A : AutoD) (L : List Pr) (G : List (List Int)) (fr : List Int) : List D := [dints W.start, dgrid W.next, dlet W.label, dgrid W.fair, dints A.start, dgrid A.next, dlet A.must, dlet A.nots, dgrid A.fair, .junk, dpairs L, dgrid G, dints fr]
theorem pure_sdat (W : WorldD) (A : AutoD) (L : List Pr) (G : List (List Int)) (fr : List Int) : PureL (sdat W A L G fr) := by simp [sdat, PureL, Pure, pure_dints, pure_dgrid, pure_dlet, pure_dpairs]
theorem pure_ipt {cs : List D} (h : PureL cs) : Pure (.ipt cs) := by simpa only [Pure] using h
theorem row_leE {g : List (List Int)} {L : Nat} (h : ∀ l ∈ g, l.length ≤ L) (k : Nat) : (g.getD k []).length ≤ L := by
  rw [List.getD_eq_getElem?_getD]
  cases e : g[k]? with
  | none => simp
  | some l => exact h l (List.mem_of_getElem? e)
def brows (n : Nat) (F : List (Nat → Bool)) : List (List D) := F.map fun S => [dbl n S]
@[simp] theorem brows_len (n : Nat) (F : List (Nat → Bool)) : (brows n F).length = F.length := by simp [brows]
theorem pure_brows (n : Nat) (F : List (Nat → Bool)) : PureLL (brows n F) := pureLL_map _ (fun S => by simp [PureL, pure_dbl]) F
@[simp] theorem underLL_brows {m n : Nat} (F : List (Nat → Bool)) : UnderLL m (brows n F) ↔ True := ⟨fun _ => trivial, fun _ => underLL_pure _ (pure_brows n F)⟩
def selS (L : List Pr) (sel : Pr → Int) (l : List Int) : Nat → Bool := fun i => setB l (sel (L.getD i (0, 0))).toNat
theorem setB_take {l : List Int} {n k : Nat} (hin : inB l n = true) (hk : k < l.length) (v : Nat) : setB (l.take (k + 1)) v = if v = (l.getD k 0).toNat then true else setB (l.take k) v := by
  have hx := inB_mem hin (mem_getD hk)
  unfold setB
  rw [List.getD_eq_getElem?_getD, List.getElem?_eq_getElem hk] at hx ⊢
  simp only [Option.getD_some] at hx ⊢
  rw [Bool.eq_iff_iff, List.contains_iff_mem, List.take_add_one, List.getElem?_eq_getElem hk]
  split
  · rename_i q
    rw [List.mem_append, Option.toList_some, List.mem_singleton]
    exact ⟨fun _ => rfl, fun _ => .inr (by omega)⟩
  · rename_i q
    rw [List.contains_iff_mem, List.mem_append, Option.toList_some, List.mem_singleton]
    exact ⟨fun h => h.resolve_right (by omega), .inl⟩
def c62_1 : PC := .seq (.ops [⟨some 11,.bin .lss (.tmp 10) (.tmp 9),none,0⟩] false) (.seq (.cond (.tmp 11) (.skip) (.exit 0)) (.seq (.block 1 (.seq (.ops [⟨some 12,.iaddr 1 (.tmp 8) (.tmp 10),none,0⟩,
 ⟨some 13,.load1 (.tmp 12),none,0⟩,
 ⟨some 7,.move (.tmp 13),none,0⟩] false) (.ops [⟨some 14,.move (.tmp 5),none,0⟩,
 ⟨some 15,.move (.tmp 0),none,0⟩,
 ⟨some 16,.nilchk (.tmp 15),none,0⟩,
 ⟨some 17,.faddr 10 (.tmp 16),none,0⟩,
 ⟨some 18,.load1 (.tmp 17),none,0⟩,
 ⟨some 19,.move (.tmp 7),none,0⟩,
 ⟨some 20,.iaddr 2 (.tmp 18) (.tmp 19),none,0⟩,
 ⟨some 21,.faddr 0 (.tmp 20),none,0⟩,
 ⟨some 22,.load1 (.tmp 21),none,0⟩,
 ⟨some 23,.bslice 1 1 [(.tmp 22)],none,0⟩,
 ⟨some 24,.append 1 8 (.tmp 14) (.tmp 23),none,0⟩,
 ⟨some 5,.move (.tmp 24),none,0⟩] false))) (.ops [⟨some 25,.bin .add (.tmp 10) (.const (.int .i64 1)),none,0⟩,
 ⟨some 10,.move (.tmp 25),none,0⟩] false)))
def c62 : PC := .seq (.ops [⟨some 4,.move (.const (.slice none 0 0)),none,0⟩] false) (.seq (.ops [⟨some 5,.move (.const (.slice none 0 0)),none,0⟩] false) (.seq (.seq (.ops [⟨some 8,.move (.tmp 1),none,0⟩,
 ⟨some 9,.len (.tmp 8),none,0⟩,
 ⟨some 10,.move (.const (.int .i64 0)),none,0⟩] false) (.block 0 (.loop c62_1))) (.seq (.ops [⟨some 26,.move (.tmp 5),none,0⟩,
 ⟨some 4,.move (.tmp 26),none,0⟩] false) (.ret))))
set_option maxRecDepth 100000 in
theorem c62_ok : FunOK Try.prog 62 27 [.tmp 4] c62 := ⟨⟨Try.f62, Try.func62, rfl, by kernel_rfl, rfl, by kernel_rfl⟩⟩
theorem em_states (W : WorldD) (A : AutoD) (L : List Pr) (G : List (List Int)) (fr l : List Int) (hl : l.length ≤ 1000000000000) (hin : inB l L.length = true) : PCall Try.prog 62 [.ipt (sdat W A L G fr), dints l] (dints (l.map fun n => (L.getD n.toNat (0, 0)).1)) := by
  have hp := pure_sdat W A L G fr
  refine pcall_intro c62_ok (by simp) (by simp [PureL, Pure, pure_dints, hp]) ?_ (pure_dints _)
  unfold sdat dpairs
  (apply rd_sound; focus (repeat' constructor))
  ((conv=>whnf);repeat(refine .intro rfl ?_;conv=>whnf))
  rw [List.length_map]
  refine pwp_ghostB (leB_nil 5 1 (by simp) rfl) ?_
  refine pwp_for [0, 8, 9] (fun k : Nat => [(5, .own 0 k 0 k), (10, .sc (.int .i64 k))]) (fun k => [(0, .vec true k 1 (i64s ((l.take k).map fun n => (L.getD n.toNat (0, 0)).1)))]) (fun k => k ≤ l.length) (fun k => l.length - k) 0 ?_
  ((conv=>whnf);repeat(refine .intro rfl ?_;conv=>whnf))
  refine ⟨by omega, by (repeat' (first | exact trivial | refine And.intro rfl ?_)), rfl, ?_⟩
  rintro k hk
  ((conv=>whnf);repeat(refine .intro rfl ?_;conv=>whnf))
  (apply rd_sound; focus (repeat' constructor))
  ((conv=>whnf);repeat(refine .intro rfl ?_;conv=>whnf))
  (refine ifK_split (fun q0 => ?_) (fun q0 => ?_) <;> (rw [q0]; ((conv=>whnf);repeat(refine .intro rfl ?_;conv=>whnf))))
  · have q0 : k < l.length := by ((try simp only[oo,reduceCtorEq]at*)<;>omega)
    have hx := inB_mem hin (mem_getD q0)
    have eS : (l.take (k + 1)).map (fun n => (L.getD n.toNat (0, 0)).1) = (l.take k).map (fun n => (L.getD n.toNat (0, 0)).1) ++ [(L.getD (l.getD k 0).toNat (0, 0)).1] := by
      rw [List.take_add_one, List.getElem?_eq_getElem q0, List.getD_eq_getElem?_getD (l := l), List.getElem?_eq_getElem q0, List.map_append]; rfl
    refine ⟨by omega, _, intsD_at (l := l) (k := k) (by omega) q0, ?_⟩
    ((conv=>whnf);repeat(refine .intro rfl ?_;conv=>whnf))
    generalize l.getD k 0 = x at *
    refine ⟨by omega, _, prows_at (l := L) (k := x.toNat) (by omega) (by omega), ?_⟩
    ((conv=>whnf);repeat(refine .intro rfl ?_;conv=>whnf))
    refine ⟨(by unfold sliceAppend; simp only [ll]; omega), ?_⟩
    ((conv=>whnf);repeat(refine .intro rfl ?_;conv=>whnf))
    (refine .inl ⟨by (unfold InR; rw [IntKind.wrap_i64]; omega), ?_⟩; ((conv=>whnf);repeat(refine .intro rfl ?_;conv=>whnf)))
    refine ⟨k + 1, by omega, by dsimp only; omega, ?_⟩
    dsimp only
    rw [eS]
    (refine leB_close 1 (by simp) rfl ?_ ?_ <;> (repeat' (first | exact trivial | exact rfl | exact DeepM.refl _ | exact DeepML.refl _ | exact DeepMLL.refl _ | refine And.intro ?_ ?_ | (simp [Under, UnderL, UnderLL, -List.map_take, -List.map_drop]; done))))
    exact deepMLL_eq (by
      have := i64s_snoc ((l.take k).map fun n => (L.getD n.toNat (0, 0)).1) (L.getD x.toNat (0, 0)).1
      rw [List.length_map, List.length_take, Nat.min_eq_left hk] at this
      exact this)
  · have q0 : k = l.length := by have : ¬ k < l.length := by ((try simp only[oo,reduceCtorEq]at*)<;>omega)
                                 omega
    subst q0
    rw [List.take_length]
    exact .own _ _ _ _ _ _ _ _ rfl (by rw [drop_take_all (by simp [i64s])]; exact deepLL_refl _)
def c106_1 : PC := .seq (.ops [⟨some 19,.bin .lss (.tmp 18) (.tmp 17),none,0⟩] false) (.seq (.cond (.tmp 19) (.skip) (.exit 0)) (.seq (.block 1 (.seq (.ops [⟨some 20,.iaddr 1 (.tmp 16) (.tmp 18),none,0⟩,
 ⟨some 21,.load1 (.tmp 20),none,0⟩,
 ⟨some 10,.move (.tmp 21),none,0⟩] false) (.ops [⟨some 22,.move (.tmp 8),none,0⟩,
 ⟨some 23,.move (.tmp 10),none,0⟩,
 ⟨some 24,.iaddr 1 (.tmp 22) (.tmp 23),none,0⟩,
 ⟨none,.store 1 (.tmp 24) (.const (.bool true)),none,0⟩] false))) (.ops [⟨some 25,.bin .add (.tmp 18) (.const (.int .i64 1)),none,0⟩,
 ⟨some 18,.move (.tmp 25),none,0⟩] false)))
def c106_2 : PC := .seq (.ops [⟨some 38,.bin .lss (.tmp 37) (.tmp 36),none,0⟩] false) (.seq (.cond (.tmp 38) (.skip) (.exit 2)) (.seq (.block 3 (.seq (.ops [⟨some 39,.move (.tmp 37),none,0⟩,
 ⟨some 40,.iaddr 2 (.tmp 35) (.tmp 37),none,0⟩,
 ⟨some 41,.loadA 2 (.tmp 40),none,0⟩,
 ⟨some 13,.alloc [(.int .i64 0), (.int .i64 0)],none,0⟩,
 ⟨some 12,.move (.tmp 39),none,0⟩,
 ⟨none,.store 2 (.tmp 13) (.tmp 41),none,0⟩] false) (.ops [⟨some 42,.move (.tmp 11),none,0⟩,
 ⟨some 43,.move (.tmp 12),none,0⟩,
 ⟨some 44,.move (.tmp 8),none,0⟩,
 ⟨some 45,.move (.tmp 1),none,0⟩,
 ⟨some 46,.loadA 2 (.tmp 13),none,0⟩,
 ⟨some 47,.callv (.tmp 45) [(.tmp 46)],none,0⟩,
 ⟨some 48,.iaddr 1 (.tmp 44) (.tmp 47),none,0⟩,
 ⟨some 49,.load1 (.tmp 48),none,0⟩,
 ⟨some 50,.iaddr 1 (.tmp 42) (.tmp 43),none,0⟩,
 ⟨none,.store 1 (.tmp 50) (.tmp 49),none,0⟩] false))) (.ops [⟨some 51,.bin .add (.tmp 37) (.const (.int .i64 1)),none,0⟩,
 ⟨some 37,.move (.tmp 51),none,0⟩] false)))
def c106 : PC := .seq (.ops [⟨some 14,.move (.tmp 2),none,0⟩,
 ⟨some 15,.mslice 1 1 [(.bool false)] (.tmp 14) (.tmp 14),none,0⟩,
 ⟨some 8,.move (.tmp 15),none,0⟩] false) (.seq (.seq (.ops [⟨some 16,.move (.tmp 0),none,0⟩,
 ⟨some 17,.len (.tmp 16),none,0⟩,
 ⟨some 18,.move (.const (.int .i64 0)),none,0⟩] false) (.block 0 (.loop c106_1))) (.seq (.ops [⟨some 26,.load1 (.tmp 3),none,0⟩,
 ⟨some 27,.nilchk (.tmp 26),none,0⟩,
 ⟨some 28,.faddr 10 (.tmp 27),none,0⟩,
 ⟨some 29,.load1 (.tmp 28),none,0⟩,
 ⟨some 30,.len (.tmp 29),none,0⟩,
 ⟨some 31,.mslice 1 1 [(.bool false)] (.tmp 30) (.tmp 30),none,0⟩,
 ⟨some 11,.move (.tmp 31),none,0⟩] false) (.seq (.seq (.ops [⟨some 32,.load1 (.tmp 3),none,0⟩,
 ⟨some 33,.nilchk (.tmp 32),none,0⟩,
 ⟨some 34,.faddr 10 (.tmp 33),none,0⟩,
 ⟨some 35,.load1 (.tmp 34),none,0⟩,
 ⟨some 36,.len (.tmp 35),none,0⟩,
 ⟨some 37,.move (.const (.int .i64 0)),none,0⟩] false) (.block 2 (.loop c106_2))) (.ops [⟨some 52,.load1 (.tmp 4),none,0⟩,
 ⟨some 53,.move (.tmp 11),none,0⟩,
 ⟨some 54,.bslice 1 1 [(.tmp 53)],none,0⟩,
 ⟨some 55,.append 1 24 (.tmp 52) (.tmp 54),none,0⟩,
 ⟨none,.store 1 (.tmp 4) (.tmp 55),none,0⟩] false))))
set_option maxRecDepth 100000 in
theorem c106_ok : FunOK Try.prog 106 56 [] c106 := ⟨⟨Try.f106, Try.func106, rfl, by kernel_rfl, rfl, by kernel_rfl⟩⟩
set_option maxRecDepth 100000 in
theorem em_put (W : WorldD) (A : AutoD) (L : List Pr) (hL : L.length ≤ 2000000) (G : List (List Int)) (fr : List Int) (g : FuncId) (sel : Pr → Int) (n : Nat) (hn : n ≤ 2048) (hsel : ∀ p ∈ L, PCall Try.prog g [.agg (dpair p.1 p.2)] (.sc (.int .i64 (sel p)))) (hin : ∀ p ∈ L, 0 ≤ sel p ∧ sel p < (n : Int))
    (l : List Int) (hl : l.length ≤ 17592186043904) (hli : inB l n = true) (F : List (Nat → Bool)) (hF : F.length ≤ 1000) :
    ACall Try.prog 106 [dints l, .fn (.func g) [] [], .sc (.int .i64 n), .loc 0 0, .loc 1 0] [.row true [.ipt (sdat W A L G fr)], .row true [.own 2 F.length 0 F.length], .vec true F.length 1 (brows L.length F)]
      (.tup []) [.row true [.ipt (sdat W A L G fr)], .row true [.own 2 (F.length + 1) 0 (F.length + 1)], .vec true (F.length + 1) 1 (brows L.length (F ++ [selS L sel l]))] := by
  have hp := pure_sdat W A L G fr
  have hpU := fun m => under_pure (m := m) _ (pure_ipt hp)
  refine acall_introD c106_ok (by simp) (by simp) ?_ (by simp [Under, UnderL])
  obtain ⟨sd, hsd⟩ : ∃ sd : D, sd = .ipt (sdat W A L G fr) := ⟨_, rfl⟩
  have hsl : PureL [sd] := by subst hsd; exact ⟨pure_ipt hp, trivial⟩
  rw [← hsd] at hpU ⊢
  (apply rd_sound; focus (repeat' constructor))
  ((conv=>whnf);repeat(refine .intro rfl ?_;conv=>whnf))
  refine ⟨by omega, by omega, by omega, ?_⟩
  rw [Int.toNat_natCast, show List.map D.sc [Value.bool false] = [D.sc (.bool false)] from rfl, rbl_rep]
  ((conv=>whnf);repeat(refine .intro rfl ?_;conv=>whnf))
  rw [List.length_map]
  refine pwp_for [1, 3, 4, 8, 16, 17] (fun k : Nat => [(18, .sc (.int .i64 k))]) (fun k => [(3, .vec true 0 1 (rbl n (setB (l.take k))))]) (fun k => k ≤ l.length) (fun k => l.length - k) 0 ?_
  ((conv=>whnf);repeat(refine .intro rfl ?_;conv=>whnf))
  refine ⟨by omega, by (repeat' (first | exact trivial | refine And.intro rfl ?_)), rfl, ?_⟩
  rintro k hk
  ((conv=>whnf);repeat(refine .intro rfl ?_;conv=>whnf))
  (apply rd_sound; focus (repeat' constructor))
  ((conv=>whnf);repeat(refine .intro rfl ?_;conv=>whnf))
  (refine ifK_split (fun q0 => ?_) (fun q0 => ?_) <;> (rw [q0]; ((conv=>whnf);repeat(refine .intro rfl ?_;conv=>whnf))))
  · have q0 : k < l.length := by ((try simp only[oo,reduceCtorEq]at*)<;>omega)
    have hx := inB_mem hli (mem_getD q0)
    have e := setB_take hli q0
    refine ⟨by omega, _, intsD_at (l := l) (k := k) (by omega) q0, ?_⟩
    ((conv=>whnf);repeat(refine .intro rfl ?_;conv=>whnf))
    generalize l.getD k 0 = x at *
    (refine ⟨by omega, (by first | omega | (simp; done) | (simp; omega) | (simp only [ll]; omega)), ?_⟩; ((conv=>whnf);repeat(refine .intro rfl ?_;conv=>whnf)))
    refine ⟨_, rbl_atN x.toNat (by omega) (by omega), ?_⟩
    ((conv=>whnf);repeat(refine .intro rfl ?_;conv=>whnf))
    (refine .inl ⟨by (unfold InR; rw [IntKind.wrap_i64]; omega), ?_⟩; ((conv=>whnf);repeat(refine .intro rfl ?_;conv=>whnf)))
    refine ⟨k + 1, by omega, by dsimp only; omega, leB_envH (by (repeat' (first | exact trivial | refine And.intro rfl ?_))) ?_⟩
    rw [rbl_put (i := x.toNat) (f' := setB (l.take (k + 1))) (by omega) fun v _ => e v]
    rfl
  have q0 : k = l.length := by have : ¬ k < l.length := by ((try simp only[oo,reduceCtorEq]at*)<;>omega)
                               omega
  subst q0
  rw [List.take_length]
  subst hsd
  unfold sdat dpairs
  ((conv=>whnf);repeat(refine .intro rfl ?_;conv=>whnf))
  rw [prows_len]
  refine ⟨by omega, by omega, by omega, ?_⟩
  rw [Int.toNat_natCast, show List.map D.sc [Value.bool false] = [D.sc (.bool false)] from rfl, rbl_rep]
  ((conv=>whnf);repeat(refine .intro rfl ?_;conv=>whnf))
  rw [prows_len]
  refine pwp_for [1, 4, 8, 11, 35, 36] (fun k : Nat => [(37, .sc (.int .i64 k))]) (fun k => [(4, .vec true 0 1 (rbl L.length fun v => decide (v < k) && selS L sel l v))]) (fun k => k ≤ L.length) (fun k => L.length - k) 0 ?_
  ((conv=>whnf);repeat(refine .intro rfl ?_;conv=>whnf))
  refine ⟨by omega, by (repeat' (first | exact trivial | refine And.intro rfl ?_)), by rw [show (fun v => decide (v < 0) && selS L sel l v) = fun _ => false from funext fun v => by simp]; rfl, ?_⟩
  rintro k hk
  ((conv=>whnf);repeat(refine .intro rfl ?_;conv=>whnf))
  (apply rd_sound; focus (repeat' constructor))
  ((conv=>whnf);repeat(refine .intro rfl ?_;conv=>whnf))
  (refine ifK_split (fun q0 => ?_) (fun q0 => ?_) <;> (rw [q0]; ((conv=>whnf);repeat(refine .intro rfl ?_;conv=>whnf))))
  · have q0 : k < L.length := by ((try simp only[oo,reduceCtorEq]at*)<;>omega)
    have hse := hsel _ (mem_getDP q0)
    have hii := hin _ (mem_getDP q0)
    have eS : selS L sel l k = setB l (sel (L.getD k (0, 0))).toNat := rfl
    refine ⟨by omega, _, prows_at (k := k) (by omega) q0, ?_⟩
    ((conv=>whnf);repeat(refine .intro rfl ?_;conv=>whnf))
    generalize L.getD k (0, 0) = p at *
    (refine .inl ⟨_, hse, ?_⟩; ((conv=>whnf);repeat(refine .intro rfl ?_;conv=>whnf)))
    generalize sel p = x at *
    (refine ⟨by omega, (by first | omega | (simp; done) | (simp; omega) | (simp only [ll]; omega)), ?_⟩; ((conv=>whnf);repeat(refine .intro rfl ?_;conv=>whnf)))
    refine ⟨_, rbl_atN x.toNat (by omega) (by omega), ?_⟩
    ((conv=>whnf);repeat(refine .intro rfl ?_;conv=>whnf))
    (refine ⟨by omega, (by first | omega | (simp; done) | (simp; omega) | (simp only [ll]; omega)), ?_⟩; ((conv=>whnf);repeat(refine .intro rfl ?_;conv=>whnf)))
    refine ⟨_, rbl_atN k (by omega) q0, ?_⟩
    ((conv=>whnf);repeat(refine .intro rfl ?_;conv=>whnf))
    (refine .inl ⟨by (unfold InR; rw [IntKind.wrap_i64]; omega), ?_⟩; ((conv=>whnf);repeat(refine .intro rfl ?_;conv=>whnf)))
    refine ⟨k + 1, by omega, by dsimp only; omega, ?_⟩
    rw [rbl_put (i := k) (f' := fun v => decide (v < k + 1) && selS L sel l v) (by omega) fun v _ => by
      by_cases e : v = k
      · subst e; rw [if_pos rfl, ← eS]; simp
      · rw [if_neg e]
        by_cases e2 : v < k
        · rw [decide_eq_true e2, decide_eq_true (show v < k + 1 by omega)]
        · rw [decide_eq_false e2, decide_eq_false (show ¬ v < k + 1 by omega)]]
    (refine leB_close 5 (by simp) rfl ?_ ?_ <;> (repeat' (first | exact trivial | exact rfl | exact DeepM.refl _ | exact DeepML.refl _ | exact DeepMLL.refl _ | refine And.intro ?_ ?_ | (simp [Under, UnderL, UnderLL, -List.map_take, -List.map_drop]; done))))
    all_goals first | exact underL_pure _ hp | simp [pure_dints, pure_dgrid, pure_dlet, under_dints, under_dgrid] | skip
  have q0 : k = L.length := by have : ¬ k < L.length := by ((try simp only[oo,reduceCtorEq]at*)<;>omega)
                               omega
  subst q0
  refine ⟨(by unfold sliceAppend; simp only [ll]; omega), ?_⟩
  ((conv=>whnf);repeat(refine .intro rfl ?_;conv=>whnf))
  refine ⟨.refl _, ⟨rfl, .refl _, hpU _, trivial⟩, ⟨rfl, .refl _, by simp [UnderL, Under]⟩, ⟨rfl, rfl, rfl, ?_, underLL_pure _ (pure_brows _ _)⟩, trivial⟩
  rw [show brows L.length (F ++ [selS L sel l]) = brows L.length F ++ [[dbl L.length (selS L sel l)]] by simp [brows]]
  exact .append _ _ _ _ (deepMLL_eq (drop_take_all (by simp))) (.cons _ _ _ _ (.cons _ _ _ _ (.own _ _ _ _ _ _ _ _ rfl rfl (deepMLL_eq (by rw [drop_take_all (by simp)]; exact rbl_congr fun v hv => by rw [decide_eq_true hv]; simp))) (.refl _)) (.refl _))
def c107 : PC := .seq (.ops [⟨some 1,.box (.tmp 0),none,0⟩,
 ⟨some 2,.move (.const (.int .i64 0)),none,0⟩] false) (.seq (.ops [⟨some 3,.faddr 0 (.tmp 1),none,0⟩,
 ⟨some 4,.load1 (.tmp 3),none,0⟩,
 ⟨some 2,.move (.tmp 4),none,0⟩] false) (.ret))
set_option maxRecDepth 100000 in
theorem c107_ok : FunOK Try.prog 107 5 [.tmp 2] c107 := ⟨⟨Try.f107, Try.func107, rfl, by kernel_rfl, rfl, by kernel_rfl⟩⟩
def c108 : PC := .seq (.ops [⟨some 1,.box (.tmp 0),none,0⟩,
 ⟨some 2,.move (.const (.int .i64 0)),none,0⟩] false) (.seq (.ops [⟨some 3,.faddr 1 (.tmp 1),none,0⟩,
 ⟨some 4,.load1 (.tmp 3),none,0⟩,
 ⟨some 2,.move (.tmp 4),none,0⟩] false) (.ret))
set_option maxRecDepth 100000 in
theorem c108_ok : FunOK Try.prog 108 5 [.tmp 2] c108 := ⟨⟨Try.f108, Try.func108, rfl, by kernel_rfl, rfl, by kernel_rfl⟩⟩
theorem em_first (p : Pr) : PCall Try.prog 107 [.agg (dpair p.1 p.2)] (.sc (.int .i64 p.1)) := by
  refine pcall_intro c107_ok (by simp) (by simp [PureL, Pure, dpair]) ?_ (by simp [Pure])
  unfold dpair
  (apply rd_sound; focus (repeat' constructor))
  ((conv=>whnf);repeat(refine .intro rfl ?_;conv=>whnf))
  exact .refl _
theorem em_second (p : Pr) : PCall Try.prog 108 [.agg (dpair p.1 p.2)] (.sc (.int .i64 p.2)) := by
  refine pcall_intro c108_ok (by simp) (by simp [PureL, Pure, dpair]) ?_ (by simp [Pure])
  unfold dpair
  (apply rd_sound; focus (repeat' constructor))
  ((conv=>whnf);repeat(refine .intro rfl ?_;conv=>whnf))
  exact .refl _
def selL (L : List Pr) (sel : Pr → Int) (G : List (List Int)) (k : Nat) : List (Nat → Bool) := (G.take k).map (selS L sel)
theorem selL_succ {L : List Pr} {sel : Pr → Int} {G : List (List Int)} {k : Nat} (h : k < G.length) : selL L sel G (k + 1) = selL L sel G k ++ [selS L sel (G.getD k [])] := by
  unfold selL
  rw [List.take_add_one, List.getElem?_eq_getElem h, List.map_append, List.getD_eq_getElem?_getD, List.getElem?_eq_getElem h]
  rfl
theorem selL_len {L : List Pr} {sel : Pr → Int} {G : List (List Int)} {k : Nat} (h : k ≤ G.length) : (selL L sel G k).length = k := by simp [selL]; omega
def setsE (W : WorldD) (A : AutoD) (L : List Pr) : List (Nat → Bool) := selL L (·.1) W.fair W.fair.length ++ selL L (·.2) A.fair A.fair.length
def c57_1 : PC := .seq (.ops [⟨some 17,.bin .lss (.tmp 16) (.tmp 15),none,0⟩] false) (.seq (.cond (.tmp 17) (.skip) (.exit 0)) (.seq (.block 1 (.seq (.ops [⟨some 18,.iaddr 1 (.tmp 14) (.tmp 16),none,0⟩,
 ⟨some 19,.load1 (.tmp 18),none,0⟩,
 ⟨some 6,.move (.tmp 19),none,0⟩] false) (.ops [⟨some 20,.move (.tmp 4),none,0⟩,
 ⟨some 21,.move (.tmp 6),none,0⟩,
 ⟨some 22,.load1 (.tmp 1),none,0⟩,
 ⟨some 23,.nilchk (.tmp 22),none,0⟩,
 ⟨some 24,.faddr 0 (.tmp 23),none,0⟩,
 ⟨some 25,.faddr 1 (.tmp 24),none,0⟩,
 ⟨some 26,.load1 (.tmp 25),none,0⟩,
 ⟨some 27,.len (.tmp 26),none,0⟩,
 ⟨some 28,.callv (.tmp 20) [(.tmp 21), (.func 107), (.tmp 27)],none,0⟩] false))) (.ops [⟨some 29,.bin .add (.tmp 16) (.const (.int .i64 1)),none,0⟩,
 ⟨some 16,.move (.tmp 29),none,0⟩] false)))
def c57_2 : PC := .seq (.ops [⟨some 37,.bin .lss (.tmp 36) (.tmp 35),none,0⟩] false) (.seq (.cond (.tmp 37) (.skip) (.exit 2)) (.seq (.block 3 (.seq (.ops [⟨some 38,.iaddr 1 (.tmp 34) (.tmp 36),none,0⟩,
 ⟨some 39,.load1 (.tmp 38),none,0⟩,
 ⟨some 8,.move (.tmp 39),none,0⟩] false) (.ops [⟨some 40,.move (.tmp 4),none,0⟩,
 ⟨some 41,.move (.tmp 8),none,0⟩,
 ⟨some 42,.load1 (.tmp 1),none,0⟩,
 ⟨some 43,.nilchk (.tmp 42),none,0⟩,
 ⟨some 44,.faddr 4 (.tmp 43),none,0⟩,
 ⟨some 45,.faddr 1 (.tmp 44),none,0⟩,
 ⟨some 46,.load1 (.tmp 45),none,0⟩,
 ⟨some 47,.len (.tmp 46),none,0⟩,
 ⟨some 48,.callv (.tmp 40) [(.tmp 41), (.func 108), (.tmp 47)],none,0⟩] false))) (.ops [⟨some 49,.bin .add (.tmp 36) (.const (.int .i64 1)),none,0⟩,
 ⟨some 36,.move (.tmp 49),none,0⟩] false)))
def c57 : PC := .seq (.ops [⟨some 1,.box (.tmp 0),none,0⟩,
 ⟨some 2,.move (.const (.slice none 0 0)),none,0⟩] false) (.seq (.ops [⟨some 3,.alloc [(.slice none 0 0)],none,0⟩] false) (.seq (.ops [⟨some 9,.mkfn (.func 106) [] [(.tmp 1), (.tmp 3)],none,0⟩,
 ⟨some 4,.move (.tmp 9),none,0⟩] false) (.seq (.seq (.ops [⟨some 10,.load1 (.tmp 1),none,0⟩,
 ⟨some 11,.nilchk (.tmp 10),none,0⟩,
 ⟨some 12,.faddr 0 (.tmp 11),none,0⟩,
 ⟨some 13,.faddr 3 (.tmp 12),none,0⟩,
 ⟨some 14,.load1 (.tmp 13),none,0⟩,
 ⟨some 15,.len (.tmp 14),none,0⟩,
 ⟨some 16,.move (.const (.int .i64 0)),none,0⟩] false) (.block 0 (.loop c57_1))) (.seq (.seq (.ops [⟨some 30,.load1 (.tmp 1),none,0⟩,
 ⟨some 31,.nilchk (.tmp 30),none,0⟩,
 ⟨some 32,.faddr 4 (.tmp 31),none,0⟩,
 ⟨some 33,.faddr 4 (.tmp 32),none,0⟩,
 ⟨some 34,.load1 (.tmp 33),none,0⟩,
 ⟨some 35,.len (.tmp 34),none,0⟩,
 ⟨some 36,.move (.const (.int .i64 0)),none,0⟩] false) (.block 2 (.loop c57_2))) (.seq (.ops [⟨some 50,.load1 (.tmp 3),none,0⟩,
 ⟨some 2,.move (.tmp 50),none,0⟩] false) (.ret))))))
set_option maxRecDepth 100000 in
theorem c57_ok : FunOK Try.prog 57 51 [.tmp 2] c57 := ⟨⟨Try.f57, Try.func57, rfl, by kernel_rfl, rfl, by kernel_rfl⟩⟩
set_option maxRecDepth 100000 in
theorem em_sets {W : WorldD} {A : AutoD} (hWA : TwoW W A) (L : List Pr) (hL : L.length ≤ 2000000) (hg : ∀ p ∈ L, GoodE W A p) (G : List (List Int)) (fr : List Int) : PCall Try.prog 57 [.ipt (sdat W A L G fr)] (dbls L.length (setsE W A L)) := by
  have hp := pure_sdat W A L G fr
  obtain ⟨w1, w2, w3, w4, w5, w6⟩ := chk_world W hWA.cw
  obtain ⟨a1, a2, a3, a4, a5, a6, a7⟩ := chk_auto A hWA.ca
  have hP1 := fun k (hk : k < W.fair.length) F (hF : F.length ≤ 1000) => em_put W A L hL G fr 107 (·.1) W.next.length (by omega) (fun p _ => em_first p) (fun p hp => (hg p hp).1) (W.fair.getD k []) (row_leE hWA.fw.fairEach k) (inB_row w6 k) F hF
  have hP2 := fun k (hk : k < A.fair.length) F (hF : F.length ≤ 1000) => em_put W A L hL G fr 108 (·.2) A.next.length (by omega) (fun p _ => em_second p) (fun p hp => (hg p hp).2) (A.fair.getD k []) (row_leE hWA.fa.fairEach k) (inB_row a7 k) F hF
  refine pcall_intro c57_ok (by simp) (by simp [PureL, pure_ipt hp]) ?_ (pure_dbls _ _)
  have hpU := fun m => under_pure (m := m) _ (pure_ipt hp)
  obtain ⟨sd, hsd⟩ : ∃ sd : List D, sd = sdat W A L G fr := ⟨_, rfl⟩
  rw [← hsd] at hp hpU hP1 hP2 ⊢
  (apply rd_sound; focus (repeat' constructor))
  ((conv=>whnf);repeat(refine .intro rfl ?_;conv=>whnf))
  subst hsd
  unfold sdat
  ((conv=>whnf);repeat(refine .intro rfl ?_;conv=>whnf))
  rw [List.length_map]
  refine pwp_ghostB (leB_nilc 1 0 1 (by simp) rfl rfl) ?_
  refine pwp_forH [1, 3, 4, 14, 15] (fun k : Nat => [(16, .sc (.int .i64 k))]) (fun k => [.row true [.ipt (sdat W A L G fr)], .row true [.own 2 (selL L (·.1) W.fair k).length 0 (selL L (·.1) W.fair k).length], .vec true (selL L (·.1) W.fair k).length 1 (brows L.length (selL L (·.1) W.fair k))]) (fun k => k ≤ W.fair.length) (fun k => W.fair.length - k) 0 ?_
  ((conv=>whnf);repeat(refine .intro rfl ?_;conv=>whnf))
  refine ⟨by omega, by (repeat' (first | exact trivial | refine And.intro rfl ?_)), rfl, ?_⟩
  rintro k hk
  have eL := selL_len (L := L) (sel := (·.1)) hk
  ((conv=>whnf);repeat(refine .intro rfl ?_;conv=>whnf))
  (apply rd_sound; focus (repeat' constructor))
  ((conv=>whnf);repeat(refine .intro rfl ?_;conv=>whnf))
  (refine ifK_split (fun q0 => ?_) (fun q0 => ?_) <;> (rw [q0]; ((conv=>whnf);repeat(refine .intro rfl ?_;conv=>whnf))))
  · have q0 : k < W.fair.length := by ((try simp only[oo,reduceCtorEq]at*)<;>omega)
    have hP := hP1 k q0 (selL L (·.1) W.fair k) (by omega)
    have eS := selL_succ (L := L) (sel := (·.1)) q0
    refine ⟨by omega, _, gridD_at (g := W.fair) (k := k) (by omega) q0, ?_⟩
    rw [← eS] at hP
    ((conv=>whnf);repeat(refine .intro rfl ?_;conv=>whnf))
    rw [List.length_map]
    unfold sdat at hP
    (refine .inr (.inr (.inl ⟨rfl, _, _, hP, ?_⟩)); ((conv=>whnf);repeat(refine .intro rfl ?_;conv=>whnf)))
    (refine .inl ⟨by (unfold InR; rw [IntKind.wrap_i64]; omega), ?_⟩; ((conv=>whnf);repeat(refine .intro rfl ?_;conv=>whnf)))
    refine ⟨k + 1, by omega, by dsimp only; omega, ?_⟩
    have eL2 := selL_len (L := L) (sel := (·.1)) (k := k + 1) (show k + 1 ≤ W.fair.length by omega)
    dsimp only
    rw [eL2, eL]
    (refine leB_close 3 (by simp) rfl ?_ ?_ <;> (repeat' (first | exact trivial | exact rfl | exact DeepM.refl _ | exact DeepML.refl _ | exact DeepMLL.refl _ | refine And.intro ?_ ?_ | (simp [Under, UnderL, UnderLL, -List.map_take, -List.map_drop]; done))))
    all_goals first | exact hpU _ | skip
  have q0 : k = W.fair.length := by have : ¬ k < W.fair.length := by ((try simp only[oo,reduceCtorEq]at*)<;>omega)
                                    omega
  subst q0
  generalize hF0 : selL L (·.1) W.fair W.fair.length = F0 at *
  ((conv=>whnf);repeat(refine .intro rfl ?_;conv=>whnf))
  rw [List.length_map]
  refine pwp_forH [1, 3, 4, 34, 35] (fun k : Nat => [(36, .sc (.int .i64 k))]) (fun k => [.row true [.ipt (sdat W A L G fr)], .row true [.own 2 (F0 ++ selL L (·.2) A.fair k).length 0 (F0 ++ selL L (·.2) A.fair k).length], .vec true (F0 ++ selL L (·.2) A.fair k).length 1 (brows L.length (F0 ++ selL L (·.2) A.fair k))]) (fun k => k ≤ A.fair.length) (fun k => A.fair.length - k) 0 ?_
  ((conv=>whnf);repeat(refine .intro rfl ?_;conv=>whnf))
  refine ⟨by omega, by (repeat' (first | exact trivial | refine And.intro rfl ?_)), by simp [selL], ?_⟩
  rintro k hk
  have eL' := selL_len (L := L) (sel := (·.2)) hk
  ((conv=>whnf);repeat(refine .intro rfl ?_;conv=>whnf))
  (apply rd_sound; focus (repeat' constructor))
  ((conv=>whnf);repeat(refine .intro rfl ?_;conv=>whnf))
  (refine ifK_split (fun q0 => ?_) (fun q0 => ?_) <;> (rw [q0]; ((conv=>whnf);repeat(refine .intro rfl ?_;conv=>whnf))))
  · have q0 : k < A.fair.length := by ((try simp only[oo,reduceCtorEq]at*)<;>omega)
    have hP := hP2 k q0 (F0 ++ selL L (·.2) A.fair k) (by rw [List.length_append]; omega)
    have eS := selL_succ (L := L) (sel := (·.2)) q0
    refine ⟨by omega, _, gridD_at (g := A.fair) (k := k) (by omega) q0, ?_⟩
    rw [List.append_assoc, ← eS] at hP
    ((conv=>whnf);repeat(refine .intro rfl ?_;conv=>whnf))
    rw [List.length_map]
    unfold sdat at hP
    (refine .inr (.inr (.inl ⟨rfl, _, _, hP, ?_⟩)); ((conv=>whnf);repeat(refine .intro rfl ?_;conv=>whnf)))
    (refine .inl ⟨by (unfold InR; rw [IntKind.wrap_i64]; omega), ?_⟩; ((conv=>whnf);repeat(refine .intro rfl ?_;conv=>whnf)))
    refine ⟨k + 1, by omega, by dsimp only; omega, ?_⟩
    have eL2 : (F0 ++ selL L (·.2) A.fair (k + 1)).length = (F0 ++ selL L (·.2) A.fair k).length + 1 := by rw [List.length_append, List.length_append, selL_len (by omega), eL']; rfl
    dsimp only
    rw [eL2]
    (refine leB_close 3 (by simp) rfl ?_ ?_ <;> (repeat' (first | exact trivial | exact rfl | exact DeepM.refl _ | exact DeepML.refl _ | exact DeepMLL.refl _ | refine And.intro ?_ ?_ | (simp [Under, UnderL, UnderLL, -List.map_take, -List.map_drop]; done))))
    all_goals first | exact hpU _ | skip
  have q0 : k = A.fair.length := by have : ¬ k < A.fair.length := by ((try simp only[oo,reduceCtorEq]at*)<;>omega)
                                    omega
  subst q0
  unfold setsE
  rw [hF0]
  exact .own _ _ _ _ _ _ _ _ rfl (by rw [drop_take_all (by simp)]; exact deepLL_refl _)
end

/-! ### XEm3 -/
section
open Go.RowKit
set_option linter.unusedSimpArgs false
set_option linter.unusedVariables false
noncomputable def goodP (g : List (List Int)) (F : List (Nat → Bool)) (k : Nat) : Nat → Bool := fun i => okT g g.length i && (F.take k).all fun S => hasF g S g.length i
theorem goodP_succ {g : List (List Int)} {F : List (Nat → Bool)} {k : Nat} (h : k < F.length) (i : Nat) : goodP g F (k + 1) i = (goodP g F k i && hasF g (F.getD k noT) g.length i) := by
  unfold goodP
  rw [all_take h noT, Bool.and_assoc]
theorem goodP_all {g : List (List Int)} {F : List (Nat → Bool)} : goodP g F F.length = goodS g F := by
  funext i; unfold goodP goodS; rw [List.take_length]
def c109 : PC := .seq (.ops [⟨some 4,.move (.const (.bool false)),none,0⟩] false) (.seq (.ops [⟨some 5,.load1 (.tmp 1),none,0⟩,
 ⟨some 6,.move (.tmp 0),none,0⟩,
 ⟨some 7,.iaddr 1 (.tmp 5) (.tmp 6),none,3⟩,
 ⟨some 8,.load1 (.tmp 7),none,7⟩,
 ⟨some 9,.load1 (.tmp 1),none,0⟩,
 ⟨some 10,.load1 (.tmp 2),none,0⟩,
 ⟨some 11,.iaddr 1 (.tmp 9) (.tmp 10),none,48⟩,
 ⟨some 12,.load1 (.tmp 11),none,112⟩,
 ⟨some 13,.bin .eql (.tmp 8) (.tmp 12),none,255⟩,
 ⟨some 4,.move (.tmp 13),none,511⟩] true) (.ret))
set_option maxRecDepth 100000 in
theorem c109_ok : FunOK Try.prog 109 14 [.tmp 4] c109 := ⟨⟨Try.f109, Try.func109, rfl, by kernel_rfl, rfl, by kernel_rfl⟩⟩
theorem em_same (g : List (List Int)) (x : Int) (hx : 0 ≤ x ∧ x < (g.length : Int)) (n : Nat) (hn : n < g.length) : PCall Try.prog 109 [.sc (.int .i64 x), .ipt [dints (partsL g)], .ipt [.sc (.int .i64 n)]] (.sc (.bool (partsG g x.toNat == partsG g n))) := by
  refine pcall_intro c109_ok (by simp) (by simp [PureL, Pure, pure_dints]) ?_ (by simp [Pure])
  unfold partsL dints
  (apply rd_sound; focus (repeat' constructor))
  ((conv=>whnf);repeat(refine .intro rfl ?_;conv=>whnf))
  refine ⟨by omega, _, gl_atN x.toNat (by omega) (by omega), ?_⟩
  ((conv=>whnf);repeat(refine .intro rfl ?_;conv=>whnf))
  refine ⟨by omega, _, gl_atN n (by omega) hn, ?_⟩
  ((conv=>whnf);repeat(refine .intro rfl ?_;conv=>whnf))
  exact .refl _
def c58_1 : PC := .seq (.ops [⟨some 28,.bin .lss (.tmp 27) (.tmp 26),none,0⟩] false) (.seq (.cond (.tmp 28) (.skip) (.exit 0)) (.seq (.block 1 (.seq (.ops [⟨some 29,.move (.tmp 27),none,0⟩,
 ⟨some 30,.iaddr 1 (.tmp 25) (.tmp 27),none,0⟩,
 ⟨some 31,.load1 (.tmp 30),none,0⟩,
 ⟨some 8,.alloc [(.int .i64 0)],none,0⟩,
 ⟨none,.store 1 (.tmp 8) (.tmp 29),none,0⟩,
 ⟨some 9,.move (.tmp 31),none,0⟩] false) (.seq (.ops [⟨some 32,.move (.tmp 9),none,0⟩,
 ⟨some 33,.mkfn (.func 109) [] [(.tmp 4), (.tmp 8)],none,0⟩,
 ⟨some 34,.call 93 [(.tmp 32), (.tmp 33)],none,0⟩] false) (.cond (.tmp 34) (.ops [⟨some 35,.move (.tmp 7),none,0⟩,
 ⟨some 36,.load1 (.tmp 4),none,0⟩,
 ⟨some 37,.load1 (.tmp 8),none,0⟩,
 ⟨some 38,.iaddr 1 (.tmp 36) (.tmp 37),none,0⟩,
 ⟨some 39,.load1 (.tmp 38),none,0⟩,
 ⟨some 40,.iaddr 1 (.tmp 35) (.tmp 39),none,0⟩,
 ⟨none,.store 1 (.tmp 40) (.const (.bool true)),none,0⟩] false) (.skip))))) (.ops [⟨some 41,.bin .add (.tmp 27) (.const (.int .i64 1)),none,0⟩,
 ⟨some 27,.move (.tmp 41),none,0⟩] false)))
def c58_3 : PC := .seq (.ops [⟨some 57,.bin .lss (.tmp 56) (.tmp 55),none,0⟩] false) (.seq (.cond (.tmp 57) (.skip) (.exit 4)) (.seq (.block 5 (.seq (.ops [⟨some 58,.move (.tmp 56),none,0⟩,
 ⟨some 59,.iaddr 1 (.tmp 54) (.tmp 56),none,0⟩,
 ⟨some 60,.load1 (.tmp 59),none,0⟩,
 ⟨some 13,.move (.tmp 58),none,0⟩,
 ⟨some 14,.move (.tmp 60),none,0⟩] false) (.ops [⟨some 61,.move (.tmp 12),none,0⟩,
 ⟨some 62,.load1 (.tmp 4),none,0⟩,
 ⟨some 63,.move (.tmp 13),none,0⟩,
 ⟨some 64,.iaddr 1 (.tmp 62) (.tmp 63),none,6⟩,
 ⟨some 65,.load1 (.tmp 64),none,14⟩,
 ⟨some 66,.move (.tmp 12),none,0⟩,
 ⟨some 67,.load1 (.tmp 4),none,0⟩,
 ⟨some 68,.move (.tmp 13),none,0⟩,
 ⟨some 69,.iaddr 1 (.tmp 67) (.tmp 68),none,192⟩,
 ⟨some 70,.load1 (.tmp 69),none,448⟩,
 ⟨some 71,.iaddr 1 (.tmp 66) (.tmp 70),none,992⟩,
 ⟨some 72,.load1 (.tmp 71),none,2016⟩,
 ⟨some 73,.move (.tmp 72),none,4064⟩,
 ⟨some 74,.move (.tmp 14),some (73,false),8160⟩,
 ⟨some 75,.pick (.tmp 73) (.const (.bool true)) (.tmp 74),none,16352⟩,
 ⟨some 76,.iaddr 1 (.tmp 61) (.tmp 65),none,32767⟩,
 ⟨none,.store 1 (.tmp 76) (.tmp 75),none,65535⟩] true))) (.ops [⟨some 77,.bin .add (.tmp 56) (.const (.int .i64 1)),none,0⟩,
 ⟨some 56,.move (.tmp 77),none,0⟩] false)))
def c58_4 : PC := .seq (.ops [⟨some 81,.bin .lss (.tmp 80) (.tmp 79),none,0⟩] false) (.seq (.cond (.tmp 81) (.skip) (.exit 6)) (.seq (.block 7 (.seq (.ops [⟨some 82,.move (.tmp 80),none,0⟩,
 ⟨some 15,.move (.tmp 82),none,0⟩] false) (.ops [⟨some 83,.move (.tmp 7),none,0⟩,
 ⟨some 84,.move (.tmp 15),none,0⟩,
 ⟨some 85,.move (.tmp 7),none,0⟩,
 ⟨some 86,.move (.tmp 15),none,0⟩,
 ⟨some 87,.iaddr 1 (.tmp 85) (.tmp 86),none,0⟩,
 ⟨some 88,.load1 (.tmp 87),none,0⟩,
 ⟨some 89,.move (.tmp 88),none,0⟩,
 ⟨some 90,.move (.tmp 12),some (89,true),0⟩,
 ⟨some 91,.move (.tmp 15),some (89,true),0⟩,
 ⟨some 92,.iaddr 1 (.tmp 90) (.tmp 91),some (89,true),0⟩,
 ⟨some 93,.load1 (.tmp 92),some (89,true),0⟩,
 ⟨some 94,.pick (.tmp 89) (.tmp 93) (.const (.bool false)),none,0⟩,
 ⟨some 95,.iaddr 1 (.tmp 83) (.tmp 84),none,0⟩,
 ⟨none,.store 1 (.tmp 95) (.tmp 94),none,0⟩] false))) (.ops [⟨some 96,.bin .add (.tmp 80) (.const (.int .i64 1)),none,0⟩,
 ⟨some 80,.move (.tmp 96),none,0⟩] false)))
def c58_2 : PC := .seq (.ops [⟨some 45,.bin .lss (.tmp 44) (.tmp 43),none,0⟩] false) (.seq (.cond (.tmp 45) (.skip) (.exit 2)) (.seq (.block 3 (.seq (.ops [⟨some 46,.iaddr 1 (.tmp 42) (.tmp 44),none,0⟩,
 ⟨some 47,.load1 (.tmp 46),none,0⟩,
 ⟨some 11,.move (.tmp 47),none,0⟩] false) (.seq (.ops [⟨some 48,.move (.tmp 0),none,0⟩,
 ⟨some 49,.nilchk (.tmp 48),none,0⟩,
 ⟨some 50,.faddr 10 (.tmp 49),none,0⟩,
 ⟨some 51,.load1 (.tmp 50),none,0⟩,
 ⟨some 52,.len (.tmp 51),none,0⟩,
 ⟨some 53,.mslice 1 1 [(.bool false)] (.tmp 52) (.tmp 52),none,0⟩,
 ⟨some 12,.move (.tmp 53),none,0⟩] false) (.seq (.seq (.ops [⟨some 54,.move (.tmp 11),none,0⟩,
 ⟨some 55,.len (.tmp 54),none,0⟩,
 ⟨some 56,.move (.const (.int .i64 0)),none,0⟩] false) (.block 4 (.loop c58_3))) (.seq (.ops [⟨some 78,.move (.tmp 7),none,0⟩,
 ⟨some 79,.len (.tmp 78),none,0⟩,
 ⟨some 80,.move (.const (.int .i64 0)),none,0⟩] false) (.block 6 (.loop c58_4))))))) (.ops [⟨some 97,.bin .add (.tmp 44) (.const (.int .i64 1)),none,0⟩,
 ⟨some 44,.move (.tmp 97),none,0⟩] false)))
def c58 : PC := .seq (.ops [⟨some 4,.box (.tmp 1),none,0⟩,
 ⟨some 6,.move (.const (.int .i64 0)),none,0⟩] false) (.seq (.ops [⟨some 16,.move (.tmp 0),none,0⟩,
 ⟨some 17,.nilchk (.tmp 16),none,0⟩,
 ⟨some 18,.faddr 10 (.tmp 17),none,0⟩,
 ⟨some 19,.load1 (.tmp 18),none,0⟩,
 ⟨some 20,.len (.tmp 19),none,0⟩,
 ⟨some 21,.mslice 1 1 [(.bool false)] (.tmp 20) (.tmp 20),none,0⟩,
 ⟨some 7,.move (.tmp 21),none,0⟩] false) (.seq (.seq (.ops [⟨some 22,.move (.tmp 0),none,0⟩,
 ⟨some 23,.nilchk (.tmp 22),none,0⟩,
 ⟨some 24,.faddr 11 (.tmp 23),none,0⟩,
 ⟨some 25,.load1 (.tmp 24),none,0⟩,
 ⟨some 26,.len (.tmp 25),none,0⟩,
 ⟨some 27,.move (.const (.int .i64 0)),none,0⟩] false) (.block 0 (.loop c58_1))) (.seq (.seq (.ops [⟨some 42,.move (.tmp 2),none,0⟩,
 ⟨some 43,.len (.tmp 42),none,0⟩,
 ⟨some 44,.move (.const (.int .i64 0)),none,0⟩] false) (.block 2 (.loop c58_2))) (.seq (.ops [⟨some 98,.move (.tmp 7),none,0⟩,
 ⟨some 99,.call 110 [(.tmp 98), (.const (.bool true))],none,0⟩,
 ⟨some 6,.move (.tmp 99),none,0⟩] false) (.ret)))))
set_option maxRecDepth 100000 in
theorem c58_ok : FunOK Try.prog 58 100 [.tmp 6] c58 := ⟨⟨Try.f58, Try.func58, rfl, by kernel_rfl, rfl, by kernel_rfl⟩⟩
set_option maxRecDepth 100000 in
theorem em_good (W : WorldD) (A : AutoD) (L : List Pr) (g : List (List Int)) (hLg : g.length = L.length) (fr : List Int) (hn : g.length ≤ 2000000) (hin0 : ∀ l ∈ g, inB l g.length = true) (hF : FitsG g) (F : List (Nat → Bool)) (hFl : F.length ≤ 1000) :
    PCall Try.prog 58 [.ipt (sdat W A L g fr), dints (partsL g), dbls g.length F] (.sc (.int .i64 (idxF (fun b => true == b) ((List.range g.length).map (goodS g F))))) := by
  have hrow := fun k => inB_row hin0 k
  have hp := pure_sdat W A L g fr
  have hc := fun k (hk : k < g.length) => containsF_int (fun n => .sc (.int .i64 n)) (fun a => by simp [Pure]) (g.getD k []) (by have := hF.at k; omega) (fun x => partsG g x.toNat == partsG g k) 109 [.ipt [dints (partsL g)], .ipt [.sc (.int .i64 k)]] (by simp [PureL, Pure, pure_dints]) fun a ha => em_same g a (inB_mem (hrow k) ha) k hk
  have hI := index_bool ((List.range g.length).map (goodS g F)) (by simp; omega) true
  refine pcall_intro c58_ok (by simp) (by simp [PureL, Pure, pure_dints, hp, pure_dbls]) ?_ (by simp [Pure])
  unfold sdat dpairs dbls dgrid
  (apply rd_sound; focus (repeat' constructor))
  ((conv=>whnf);repeat(refine .intro rfl ?_;conv=>whnf))
  rw [prows_len, ← hLg]
  refine ⟨by omega, by omega, by omega, ?_⟩
  rw [Int.toNat_natCast, show List.map D.sc [Value.bool false] = [D.sc (.bool false)] from rfl, rbl_rep]
  ((conv=>whnf);repeat(refine .intro rfl ?_;conv=>whnf))
  rw [List.length_map]
  refine pwp_for [0, 2, 4, 7, 25, 26] (fun k : Nat => [(27, .sc (.int .i64 k))]) (fun k => [(1, .vec true 0 1 (rbl g.length (okT g k)))]) (fun k => k ≤ g.length) (fun k => g.length - k) 0 ?_
  ((conv=>whnf);repeat(refine .intro rfl ?_;conv=>whnf))
  refine ⟨by omega, by (repeat' (first | exact trivial | refine And.intro rfl ?_)), rfl, ?_⟩
  rintro k hk
  ((conv=>whnf);repeat(refine .intro rfl ?_;conv=>whnf))
  (apply rd_sound; focus (repeat' constructor))
  ((conv=>whnf);repeat(refine .intro rfl ?_;conv=>whnf))
  (refine ifK_split (fun q0 => ?_) (fun q0 => ?_) <;> (rw [q0]; ((conv=>whnf);repeat(refine .intro rfl ?_;conv=>whnf))))
  · have q0 : k < g.length := by ((try simp only[oo,reduceCtorEq]at*)<;>omega)
    have hpl := parts_lt q0
    have e1 := okT_succ g k
    refine ⟨by omega, _, gridD_at (k := k) (by omega) q0, ?_⟩
    ((conv=>whnf);repeat(refine .intro rfl ?_;conv=>whnf))
    (refine .inr (.inl ⟨_, _, (by (repeat' (first | exact Deep.refl _ | exact Deep.none _ | exact deep_row _ | exact DeepL.nil | exact DeepLL.nil | refine Deep.agg _ _ ?_ | refine Deep.tup _ _ ?_ | refine Deep.own _ _ _ _ _ _ _ _ rfl ?_ | refine Deep.loc _ _ _ _ _ rfl ?_ | refine Deep.ifc _ _ _ ?_ | refine Deep.fn _ _ _ _ _ ?_ ?_ | refine DeepL.cons _ _ _ _ ?_ ?_ | refine DeepLL.cons _ _ _ _ ?_ ?_ | exact deepLL_refl _))), (hc k q0), rfl, ?_⟩); ((conv=>whnf);repeat(refine .intro rfl ?_;conv=>whnf)))
    rw [show ((g.getD k []).any fun x => partsG g x.toNat == partsG g k) = loopB g k from rfl]
    cases r : loopB g k
    · ((conv=>whnf);repeat(refine .intro rfl ?_;conv=>whnf))
      (refine .inl ⟨by (unfold InR; rw [IntKind.wrap_i64]; omega), ?_⟩; ((conv=>whnf);repeat(refine .intro rfl ?_;conv=>whnf)))
      refine ⟨k + 1, by omega, by dsimp only; omega, ?_⟩
      (refine leB_close 2 (by simp) rfl ?_ ?_ <;> (repeat' (first | exact trivial | exact rfl | exact DeepM.refl _ | exact DeepML.refl _ | exact DeepMLL.refl _ | refine And.intro ?_ ?_ | (simp [Under, UnderL, UnderLL, -List.map_take, -List.map_drop]; done))))
      all_goals first | exact underL_pure _ hp | exact deepMLL_eq (rbl_congr fun i _ => by rw [e1, r, Bool.and_false, Bool.or_false]) | skip
    · ((conv=>whnf);repeat(refine .intro rfl ?_;conv=>whnf))
      refine ⟨by omega, _, gl_atN k (by omega) q0, ?_⟩
      ((conv=>whnf);repeat(refine .intro rfl ?_;conv=>whnf))
      (refine ⟨by omega, (by first | omega | (simp; done) | (simp; omega) | (simp only [ll]; omega)), ?_⟩; ((conv=>whnf);repeat(refine .intro rfl ?_;conv=>whnf)))
      refine ⟨_, rbl_atN (partsG g k).toNat (by omega) (by omega), ?_⟩
      ((conv=>whnf);repeat(refine .intro rfl ?_;conv=>whnf))
      (refine .inl ⟨by (unfold InR; rw [IntKind.wrap_i64]; omega), ?_⟩; ((conv=>whnf);repeat(refine .intro rfl ?_;conv=>whnf)))
      refine ⟨k + 1, by omega, by dsimp only; omega, ?_⟩
      rw [rbl_put (i := (partsG g k).toNat) (f' := okT g (k + 1)) (by omega) fun v _ => by
        rw [e1, r, Bool.and_true]
        by_cases e : v = (partsG g k).toNat
        · rw [if_pos e, show (partsG g k == (v : Int)) = true by rw [beq_iff_eq]; omega, Bool.or_true]
        · rw [if_neg e, show (partsG g k == (v : Int)) = false by rw [beq_eq_false_iff_ne]; omega, Bool.or_false]]
      (refine leB_close 2 (by simp) rfl ?_ ?_ <;> (repeat' (first | exact trivial | exact rfl | exact DeepM.refl _ | exact DeepML.refl _ | exact DeepMLL.refl _ | refine And.intro ?_ ?_ | (simp [Under, UnderL, UnderLL, -List.map_take, -List.map_drop]; done))))
      all_goals first | exact underL_pure _ hp | skip
  have q0 : k = g.length := by have : ¬ k < g.length := by ((try simp only[oo,reduceCtorEq]at*)<;>omega)
                               omega
  subst q0
  clear hc
  rw [List.length_map]
  refine pwp_for [0, 4, 7, 42, 43] (fun k : Nat => [(44, .sc (.int .i64 k))]) (fun k => [(1, .vec true 0 1 (rbl g.length (goodP g F k)))]) (fun k => k ≤ F.length) (fun k => F.length - k) 0 ?_
  ((conv=>whnf);repeat(refine .intro rfl ?_;conv=>whnf))
  refine ⟨by omega, by (repeat' (first | exact trivial | refine And.intro rfl ?_)), by rw [show goodP g F 0 = okT g g.length from funext fun i => by simp [goodP]]; rfl, ?_⟩
  rintro k hk
  ((conv=>whnf);repeat(refine .intro rfl ?_;conv=>whnf))
  (apply rd_sound; focus (repeat' constructor))
  ((conv=>whnf);repeat(refine .intro rfl ?_;conv=>whnf))
  (refine ifK_split (fun q0 => ?_) (fun q0 => ?_) <;> (rw [q0]; ((conv=>whnf);repeat(refine .intro rfl ?_;conv=>whnf))))
  · have q0 : k < F.length := by ((try simp only[oo,reduceCtorEq]at*)<;>omega)
    have eG := fun i => goodP_succ (g := g) q0 i
    refine ⟨by omega, _, dbls_at (n := g.length) (F := F) (k := k) (by omega) q0, ?_⟩
    ((conv=>whnf);repeat(refine .intro rfl ?_;conv=>whnf))
    generalize F.getD k noT = S at *
    rw [prows_len, ← hLg]
    refine ⟨by omega, by omega, by omega, ?_⟩
    rw [Int.toNat_natCast, show List.map D.sc [Value.bool false] = [D.sc (.bool false)] from rfl, rbl_rep]
    ((conv=>whnf);repeat(refine .intro rfl ?_;conv=>whnf))
    rw [rbl_len]
    refine pwp_for [0, 4, 7, 12, 42, 43, 44, 54, 55] (fun j : Nat => [(56, .sc (.int .i64 j))]) (fun j => [(2, .vec true 0 1 (rbl g.length (hasF g S j)))]) (fun j => j ≤ g.length) (fun j => g.length - j) 0 ?_
    ((conv=>whnf);repeat(refine .intro rfl ?_;conv=>whnf))
    refine ⟨by omega, by (repeat' (first | exact trivial | refine And.intro rfl ?_)), by rw [show hasF g S 0 = fun _ => false from funext fun i => rfl]; rfl, ?_⟩
    rintro j hj
    ((conv=>whnf);repeat(refine .intro rfl ?_;conv=>whnf))
    (apply rd_sound; focus (repeat' constructor))
    ((conv=>whnf);repeat(refine .intro rfl ?_;conv=>whnf))
    (refine ifK_split (fun q2 => ?_) (fun q2 => ?_) <;> (rw [q2]; ((conv=>whnf);repeat(refine .intro rfl ?_;conv=>whnf))))
    · have q2 : j < g.length := by ((try simp only[oo,reduceCtorEq]at*)<;>omega)
      have eH := fun i => hasF_succ g S j i
      have hpj := parts_lt (g := g) q2
      refine ⟨by omega, _, rbl_atN j (by omega) q2, ?_⟩
      ((conv=>whnf);repeat(refine .intro rfl ?_;conv=>whnf))
      refine ⟨by omega, _, gl_atN j (by omega) q2, ?_⟩
      ((conv=>whnf);repeat(refine .intro rfl ?_;conv=>whnf))
      refine ⟨by omega, _, gl_atN j (by omega) q2, ?_⟩
      ((conv=>whnf);repeat(refine .intro rfl ?_;conv=>whnf))
      (refine ⟨by omega, (by first | omega | (simp; done) | (simp; omega) | (simp only [ll]; omega)), ?_⟩; ((conv=>whnf);repeat(refine .intro rfl ?_;conv=>whnf)))
      refine ⟨_, rbl_atN (partsG g j).toNat (by omega) (by omega), ?_⟩
      ((conv=>whnf);repeat(refine .intro rfl ?_;conv=>whnf))
      have fin : ∀ v, (v = true ↔ hasF g S j (partsG g j).toNat = true ∨ S j = true) → (rbl g.length (hasF g S j)).set (partsG g j).toNat [.sc (.bool v)] = rbl g.length (hasF g S (j + 1)) := fun v hv =>
        rbl_put rfl fun q _ => by
          rw [eH]
          by_cases e : q = (partsG g j).toNat
          · subst e
            rw [if_pos rfl, show (partsG g j == (((partsG g j).toNat : Nat) : Int)) = true by rw [beq_iff_eq]; omega, Bool.true_and, Bool.eq_iff_iff, Bool.or_eq_true, hv]
          · rw [if_neg e, show (partsG g j == (q : Int)) = false by rw [beq_eq_false_iff_ne]; omega, Bool.false_and, Bool.or_false]
      cases r : hasF g S j (partsG g j).toNat
      · ((conv=>whnf);repeat(refine .intro rfl ?_;conv=>whnf))
        (refine ⟨by omega, (by first | omega | (simp; done) | (simp; omega) | (simp only [ll]; omega)), ?_⟩; ((conv=>whnf);repeat(refine .intro rfl ?_;conv=>whnf)))
        refine ⟨_, rbl_atN (partsG g j).toNat (by omega) (by omega), ?_⟩
        ((conv=>whnf);repeat(refine .intro rfl ?_;conv=>whnf))
        (refine .inl ⟨by (unfold InR; rw [IntKind.wrap_i64]; omega), ?_⟩; ((conv=>whnf);repeat(refine .intro rfl ?_;conv=>whnf)))
        refine ⟨j + 1, by omega, by dsimp only; omega, leB_envH (by (repeat' (first | exact trivial | refine And.intro rfl ?_))) ?_⟩
        have := fin (S j) (by rw [r]; simp)
        rw [Nat.zero_add, this]
        rfl
      · ((conv=>whnf);repeat(refine .intro rfl ?_;conv=>whnf))
        (refine ⟨by omega, (by first | omega | (simp; done) | (simp; omega) | (simp only [ll]; omega)), ?_⟩; ((conv=>whnf);repeat(refine .intro rfl ?_;conv=>whnf)))
        refine ⟨_, rbl_atN (partsG g j).toNat (by omega) (by omega), ?_⟩
        ((conv=>whnf);repeat(refine .intro rfl ?_;conv=>whnf))
        (refine .inl ⟨by (unfold InR; rw [IntKind.wrap_i64]; omega), ?_⟩; ((conv=>whnf);repeat(refine .intro rfl ?_;conv=>whnf)))
        refine ⟨j + 1, by omega, by dsimp only; omega, leB_envH (by (repeat' (first | exact trivial | refine And.intro rfl ?_))) ?_⟩
        have := fin true (by rw [r]; simp)
        rw [Nat.zero_add, this]
        rfl
    have q2 : j = g.length := by have : ¬ j < g.length := by ((try simp only[oo,reduceCtorEq]at*)<;>omega)
                                 omega
    rw [q2]
    clear q2
    refine pwp_for [0, 4, 7, 12, 42, 43, 44, 79] (fun i : Nat => [(80, .sc (.int .i64 i))]) (fun i => [(1, .vec true 0 1 (rbl g.length fun x => if x < i then goodP g F (k + 1) x else goodP g F k x))]) (fun i => i ≤ g.length) (fun i => g.length - i) 0 ?_
    ((conv=>whnf);repeat(refine .intro rfl ?_;conv=>whnf))
    refine ⟨by omega, by (repeat' (first | exact trivial | refine And.intro rfl ?_)), by simp; rfl, ?_⟩
    rintro i hi
    ((conv=>whnf);repeat(refine .intro rfl ?_;conv=>whnf))
    (apply rd_sound; focus (repeat' constructor))
    ((conv=>whnf);repeat(refine .intro rfl ?_;conv=>whnf))
    (refine ifK_split (fun q3 => ?_) (fun q3 => ?_) <;> (rw [q3]; ((conv=>whnf);repeat(refine .intro rfl ?_;conv=>whnf))))
    · have q3 : i < g.length := by ((try simp only[oo,reduceCtorEq]at*)<;>omega)
      have fin : (rbl g.length fun x => if x < i then goodP g F (k + 1) x else goodP g F k x).set i [.sc (.bool (goodP g F (k + 1) i))] = rbl g.length fun x => if x < i + 1 then goodP g F (k + 1) x else goodP g F k x :=
        rbl_put rfl fun q _ => by
          by_cases e : q = i
          · subst e; rw [if_pos (by omega), if_pos rfl]
          · rw [if_neg e]
            by_cases e2 : q < i
            · rw [if_pos e2, if_pos (by omega)]
            · rw [if_neg e2, if_neg (by omega)]
      have eGi := eG i
      have hat : (rbl g.length fun x => if x < i then goodP g F (k + 1) x else goodP g F k x)[i]? = some [.sc (.bool (goodP g F k i))] := by
        rw [rbl_atN i rfl q3, if_neg (by omega)]
      (refine ⟨by omega, (by first | omega | (simp; done) | (simp; omega) | (simp only [ll]; omega)), ?_⟩; ((conv=>whnf);repeat(refine .intro rfl ?_;conv=>whnf)))
      refine ⟨_, by rw [Nat.zero_add]; exact hat, ?_⟩
      ((conv=>whnf);repeat(refine .intro rfl ?_;conv=>whnf))
      cases r : goodP g F k i
      · rw [r, Bool.false_and] at eGi
        rw [eGi] at fin
        ((conv=>whnf);repeat(refine .intro rfl ?_;conv=>whnf))
        (refine ⟨by omega, (by first | omega | (simp; done) | (simp; omega) | (simp only [ll]; omega)), ?_⟩; ((conv=>whnf);repeat(refine .intro rfl ?_;conv=>whnf)))
        refine ⟨_, by rw [Nat.zero_add]; exact hat, ?_⟩
        ((conv=>whnf);repeat(refine .intro rfl ?_;conv=>whnf))
        (refine .inl ⟨by (unfold InR; rw [IntKind.wrap_i64]; omega), ?_⟩; ((conv=>whnf);repeat(refine .intro rfl ?_;conv=>whnf)))
        refine ⟨i + 1, by omega, by dsimp only; omega, leB_envH (by (repeat' (first | exact trivial | refine And.intro rfl ?_))) ?_⟩
        rw [Nat.zero_add, show (i : Int).toNat = i from Int.toNat_natCast i, fin]
        rfl
      · rw [r, Bool.true_and] at eGi
        rw [eGi] at fin
        ((conv=>whnf);repeat(refine .intro rfl ?_;conv=>whnf))
        (refine ⟨by omega, (by first | omega | (simp; done) | (simp; omega) | (simp only [ll]; omega)), ?_⟩; ((conv=>whnf);repeat(refine .intro rfl ?_;conv=>whnf)))
        refine ⟨_, rbl_atN i (by omega) q3, ?_⟩
        ((conv=>whnf);repeat(refine .intro rfl ?_;conv=>whnf))
        (refine ⟨by omega, (by first | omega | (simp; done) | (simp; omega) | (simp only [ll]; omega)), ?_⟩; ((conv=>whnf);repeat(refine .intro rfl ?_;conv=>whnf)))
        refine ⟨_, by rw [Nat.zero_add]; exact hat, ?_⟩
        ((conv=>whnf);repeat(refine .intro rfl ?_;conv=>whnf))
        (refine .inl ⟨by (unfold InR; rw [IntKind.wrap_i64]; omega), ?_⟩; ((conv=>whnf);repeat(refine .intro rfl ?_;conv=>whnf)))
        refine ⟨i + 1, by omega, by dsimp only; omega, leB_envH (by (repeat' (first | exact trivial | refine And.intro rfl ?_))) ?_⟩
        rw [Nat.zero_add, show (i : Int).toNat = i from Int.toNat_natCast i, fin]
        rfl
    · have q3 : i = g.length := by have : ¬ i < g.length := by ((try simp only[oo,reduceCtorEq]at*)<;>omega)
                                   omega
      subst q3
      (refine .inl ⟨by (unfold InR; rw [IntKind.wrap_i64]; omega), ?_⟩; ((conv=>whnf);repeat(refine .intro rfl ?_;conv=>whnf)))
      refine ⟨k + 1, by omega, by dsimp only; omega, ?_⟩
      dsimp only
      (refine leB_close 2 (by simp) rfl ?_ ?_ <;> (repeat' (first | exact trivial | exact rfl | exact DeepM.refl _ | exact DeepML.refl _ | exact DeepMLL.refl _ | refine And.intro ?_ ?_ | (simp [Under, UnderL, UnderLL, -List.map_take, -List.map_drop]; done))))
      all_goals first | exact underL_pure _ hp | exact underLL_pure _ (pureLL_map _ (fun S => by simp [PureL, pure_dbl]) F) | exact deepMLL_eq (rbl_congr fun v hv => by rw [if_pos hv]) | skip
  have q0 : k = F.length := by have : ¬ k < F.length := by ((try simp only[oo,reduceCtorEq]at*)<;>omega)
                               omega
  subst q0
  rw [goodP_all]
  rw [show ((List.range g.length).map (goodS g F)).map (fun a => [D.sc (.bool a)]) = List.drop 0 (List.take g.length (rbl g.length (goodS g F))) by rw [rbl_all, rbl_map]] at hI
  (refine .inr (.inl ⟨_, _, (by (repeat' (first | exact Deep.refl _ | exact Deep.none _ | exact deep_row _ | exact DeepL.nil | exact DeepLL.nil | refine Deep.agg _ _ ?_ | refine Deep.tup _ _ ?_ | refine Deep.own _ _ _ _ _ _ _ _ rfl ?_ | refine Deep.loc _ _ _ _ _ rfl ?_ | refine Deep.ifc _ _ _ ?_ | refine Deep.fn _ _ _ _ _ ?_ ?_ | refine DeepL.cons _ _ _ _ ?_ ?_ | refine DeepLL.cons _ _ _ _ ?_ ?_ | exact deepLL_refl _))), hI, rfl, ?_⟩); ((conv=>whnf);repeat(refine .intro rfl ?_;conv=>whnf)))
  exact .refl _
end

end Go.Proofs.Ytfaekhadjlgbbaa
