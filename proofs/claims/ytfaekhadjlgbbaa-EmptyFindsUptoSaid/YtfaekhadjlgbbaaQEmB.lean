/-
  Em4 Em5 Em6 Em7 Em8 joined. No statement is proved here.
-/
import Derived.Test.YtfaekhadjlgbbaaQEmA
import Derived.Test.YtfaekhadjlgbbaaQRev
import Derived.Test.YtfaekhadjlgbbaaQWxA
import Derived.Test.YtfaekhadjlgbbaaQFz
namespace Go.Proofs.Ytfaekhadjlgbbaa
/-! ### XEm4 -/
section
set_option linter.unusedVariables false
/-- Who has been come to, from whom (-1: from none). -/
def keysM (M : List Pr) : List Int := M.map (·.1)
def wAdd (ok : Nat → Bool) (n : Int) : List Int → List Pr → List Pr
  | [], M => M
  | k :: r, M => wAdd ok n r (if (keysM M).contains k = false ∧ ok k.toNat = true then M ++ [(k, n)] else M)
def wSt : List Int → List Pr → List Pr
  | [], M => M
  | k :: r, M => wSt r (if (keysM M).contains k = false then M ++ [(k, -1)] else M)
def nodeM (M : List Pr) (h : Nat) : Int := (M.getD h (0, 0)).1
def wRun (g : List (List Int)) (to ok : Nat → Bool) : Nat → Nat → List Pr → Option (List Pr × Nat)
  | 0, _, _ => none
  | f + 1, h, M => if h < M.length then (if to (nodeM M h).toNat = true then some (M, h) else wRun g to ok f (h + 1) (wAdd ok (nodeM M h) (g.getD (nodeM M h).toNat []) M)) else none
def upM (M : List Pr) (n : Int) : Int := ((M.find? fun p => p.1 == n).map (·.2)).getD (-1)
def wBack (M : List Pr) : Nat → Int → List Int
  | 0, _ => []
  | f + 1, n => if n < 0 then [] else n :: wBack M f (upM M n)
def wayE (g : List (List Int)) (to ok : Nat → Bool) (from_ : List Int) : List Int :=
  match wRun g to ok (g.length + 1) 0 (wSt from_ []) with
  | some (M, h) => (wBack M (M.length + 1) (nodeM M h)).reverse
  | none => []
/-- What is known of such a table. -/
structure WayI (g : List (List Int)) (ok : Nat → Bool) (from_ : List Int) (M : List Pr) : Prop where
  nd : (keysM M).Nodup
  rng : ∀ p ∈ M, 0 ≤ p.1 ∧ p.1 < (g.length : Int)
  par : ∀ j, j < M.length → (M.getD j (0, 0)).2 = -1 ∨ ∃ i, i < j ∧ (M.getD j (0, 0)).2 = nodeM M i
  okF : ∀ p ∈ M, p.1 ∈ from_ ∨ ok p.1.toNat = true
theorem keys_len (M : List Pr) : (keysM M).length = M.length := by simp [keysM]
theorem keys_app (M : List Pr) (p : Pr) : keysM (M ++ [p]) = keysM M ++ [p.1] := by simp [keysM]
theorem nodeM_old {M : List Pr} {p : Pr} {i : Nat} (h : i < M.length) : nodeM (M ++ [p]) i = nodeM M i := by
  unfold nodeM
  rw [List.getD_eq_getElem?_getD, List.getElem?_append_left h, ← List.getD_eq_getElem?_getD]
theorem WayI.len {g : List (List Int)} {ok : Nat → Bool} {from_ : List Int} {M : List Pr} (h : WayI g ok from_ M) : M.length ≤ g.length := by
  rw [← keys_len]
  have hnd := h.nd
  refine pigeon g.length (keysM M).length (fun i => ((keysM M).getD i 0).toNat) (fun i hi => ?_) fun i j hi hj he => ?_
  · have hm : (keysM M).getD i 0 ∈ keysM M := by rw [List.getD_eq_getElem?_getD, List.getElem?_eq_getElem hi]; simp
    obtain ⟨p, hp, e⟩ := List.mem_map.1 hm
    have := h.rng p hp
    rw [← e]; omega
  · have hi' : (keysM M).getD i 0 ∈ keysM M := by rw [List.getD_eq_getElem?_getD, List.getElem?_eq_getElem hi]; simp
    have hj' : (keysM M).getD j 0 ∈ keysM M := by rw [List.getD_eq_getElem?_getD, List.getElem?_eq_getElem hj]; simp
    obtain ⟨p, hp, e1⟩ := List.mem_map.1 hi'
    obtain ⟨q, hq, e2⟩ := List.mem_map.1 hj'
    have a := h.rng p hp
    have b := h.rng q hq
    have hx : (keysM M).getD i 0 = (keysM M).getD j 0 := by rw [← e1, ← e2] at he ⊢; omega
    rw [List.getD_eq_getElem?_getD, List.getD_eq_getElem?_getD, List.getElem?_eq_getElem hi, List.getElem?_eq_getElem hj] at hx
    simp only [Option.getD_some] at hx
    rcases Nat.lt_trichotomy i j with q | q | q
    · exact absurd hx (List.pairwise_iff_getElem.1 hnd i j hi hj q)
    · exact q
    · exact absurd hx.symm (List.pairwise_iff_getElem.1 hnd j i hj hi q)
theorem WayI.push {g : List (List Int)} {ok : Nat → Bool} {from_ : List Int} {M : List Pr} (h : WayI g ok from_ M) {k n : Int} (hk : 0 ≤ k ∧ k < (g.length : Int)) (hn : ¬ k ∈ keysM M) (hp : n = -1 ∨ ∃ i, i < M.length ∧ n = nodeM M i) (hf : k ∈ from_ ∨ ok k.toNat = true) : WayI g ok from_ (M ++ [(k, n)]) where
  nd := by
    rw [keys_app, List.nodup_append]
    exact ⟨h.nd, by simp, fun a ha b hb => by rw [List.mem_singleton] at hb; subst hb; exact fun e => hn (e ▸ ha)⟩
  rng p hp := by
    rcases List.mem_append.1 hp with q | q
    · exact h.rng p q
    · rw [List.mem_singleton] at q; subst q; exact hk
  par j hj := by
    by_cases e : j < M.length
    · rw [List.getD_eq_getElem?_getD, List.getElem?_append_left e, ← List.getD_eq_getElem?_getD]
      rcases h.par j e with k1 | ⟨i, k1, k2⟩
      · exact .inl k1
      · exact .inr ⟨i, k1, by rw [k2, nodeM_old (by omega)]⟩
    · have ej : j = M.length := by simp at hj; omega
      subst ej
      rw [List.getD_eq_getElem?_getD, List.getElem?_append_right (Nat.le_refl _), Nat.sub_self]
      show n = -1 ∨ _
      rcases hp with k1 | ⟨i, k1, k2⟩
      · exact .inl k1
      · exact .inr ⟨i, k1, by show n = _; rw [k2, nodeM_old k1]⟩
  okF p hp := by
    rcases List.mem_append.1 hp with q | q
    · exact h.okF p q
    · rw [List.mem_singleton] at q; subst q; exact hf
theorem contains_no {l : List Int} {k : Int} (h : l.contains k = false) : ¬ k ∈ l := fun q => by rw [List.contains_iff_mem.2 q] at h; cases h
theorem contains_yes {l : List Int} {k : Int} (h : ¬ l.contains k = false) : k ∈ l := List.contains_iff_mem.1 (by cases e : l.contains k <;> simp_all)
/-- The beginnings. -/
theorem wSt_ok {g : List (List Int)} {ok : Nat → Bool} {from_ : List Int} : ∀ (r : List Int) {M : List Pr}, WayI g ok from_ M → (∀ x ∈ r, x ∈ from_ ∧ 0 ≤ x ∧ x < (g.length : Int)) →
    WayI g ok from_ (wSt r M) ∧ (∀ x ∈ r, x ∈ keysM (wSt r M)) ∧ ∃ X, wSt r M = M ++ X
  | [], M, h, _ => ⟨h, by simp, [], by simp [wSt]⟩
  | k :: r, M, h, hr => by
    rw [wSt]
    by_cases q : (keysM M).contains k = false
    · rw [if_pos q]
      obtain ⟨a, b, X, hX⟩ := wSt_ok r (h.push (hr k (by simp)).2 (contains_no q) (.inl rfl) (.inl (hr k (by simp)).1)) fun x hx => hr x (by simp [hx])
      refine ⟨a, fun x hx => ?_, (k, -1) :: X, by rw [hX]; simp⟩
      rcases List.mem_cons.1 hx with rfl | hx
      · rw [hX]; simp [keysM]
      · exact b x hx
    · rw [if_neg q]
      obtain ⟨a, b, X, hX⟩ := wSt_ok r h fun x hx => hr x (by simp [hx])
      refine ⟨a, fun x hx => ?_, X, hX⟩
      rcases List.mem_cons.1 hx with rfl | hx
      · have := contains_yes q
        rw [hX]; unfold keysM at this ⊢; rw [List.map_append]; exact List.mem_append.2 (.inl this)
      · exact b x hx
/-- A row. -/
theorem wAdd_ok {g : List (List Int)} {ok : Nat → Bool} {from_ : List Int} {n : Int} {i0 : Nat} : ∀ (r : List Int) {M : List Pr}, WayI g ok from_ M → i0 < M.length → n = nodeM M i0 → (∀ x ∈ r, 0 ≤ x ∧ x < (g.length : Int)) →
    WayI g ok from_ (wAdd ok n r M) ∧ (∀ x ∈ r, ok x.toNat = true → x ∈ keysM (wAdd ok n r M)) ∧ ∃ X, wAdd ok n r M = M ++ X
  | [], M, h, _, _, _ => ⟨h, by simp, [], by simp [wAdd]⟩
  | k :: r, M, h, hi, hn, hr => by
    rw [wAdd]
    by_cases q : (keysM M).contains k = false ∧ ok k.toNat = true
    · rw [if_pos q]
      obtain ⟨a, b, X, hX⟩ := wAdd_ok (n := n) (i0 := i0) r (h.push (hr k (by simp)) (contains_no q.1) (.inr ⟨i0, hi, hn⟩) (.inr q.2)) (by rw [List.length_append]; omega) (by rw [nodeM_old hi]; exact hn) fun x hx => hr x (by simp [hx])
      refine ⟨a, fun x hx hx2 => ?_, (k, n) :: X, by rw [hX]; simp⟩
      rcases List.mem_cons.1 hx with rfl | hx
      · rw [hX]; simp [keysM]
      · exact b x hx hx2
    · rw [if_neg q]
      obtain ⟨a, b, X, hX⟩ := wAdd_ok (i0 := i0) r h hi hn fun x hx => hr x (by simp [hx])
      refine ⟨a, fun x hx hx2 => ?_, X, hX⟩
      rcases List.mem_cons.1 hx with rfl | hx
      · have := contains_yes fun z => q ⟨z, hx2⟩
        rw [hX]; unfold keysM at this ⊢; rw [List.map_append]; exact List.mem_append.2 (.inl this)
      · exact b x hx hx2
theorem WayI.none (g : List (List Int)) (ok : Nat → Bool) (from_ : List Int) : WayI g ok from_ [] where
  nd := .nil
  rng p hp := by cases hp
  par j hj := by cases hj
  okF p hp := by cases hp
/-- The way along who came from where. -/
theorem find_node {M : List Pr} (hnd : (keysM M).Nodup) {i : Nat} (hi : i < M.length) : M.find? (fun p => p.1 == nodeM M i) = some (M.getD i (0, 0)) := by
  have : M.getD i (0, 0) = M[i] := by rw [List.getD_eq_getElem?_getD, List.getElem?_eq_getElem hi]; rfl
  rw [this, List.find?_eq_some_iff_getElem]
  unfold nodeM
  rw [this]
  refine ⟨by simp, i, hi, rfl, fun j hj => ?_⟩
  have := List.pairwise_iff_getElem.1 hnd j i (by simp [keysM]; omega) (by simp [keysM]; omega) hj
  simp only [keysM, List.getElem_map] at this
  simpa using this
theorem up_node {M : List Pr} (hnd : (keysM M).Nodup) {i : Nat} (hi : i < M.length) : upM M (nodeM M i) = (M.getD i (0, 0)).2 := by
  unfold upM; rw [find_node hnd hi]; rfl
/-- Node t - 1, or none. -/
def atM (M : List Pr) (t : Nat) : Int := if t = 0 then -1 else nodeM M (t - 1)
theorem WayI.up {g : List (List Int)} {ok : Nat → Bool} {from_ : List Int} {M : List Pr} (h : WayI g ok from_ M) {t : Nat} (ht : 0 < t) (hl : t ≤ M.length) : ∃ t', t' < t ∧ upM M (atM M t) = atM M t' ∧ (M.getD (t - 1) (0, 0)).2 = atM M t' ∧ 0 ≤ atM M t ∧ atM M t < (g.length : Int) := by
  have e : atM M t = nodeM M (t - 1) := by unfold atM; rw [if_neg (by omega)]
  rw [e, up_node h.nd (by omega)]
  have hr := h.rng _ (getD_memP (show t - 1 < M.length by omega))
  rcases h.par (t - 1) (by omega) with k | ⟨i, k1, k2⟩
  · exact ⟨0, ht, by rw [k]; rfl, by rw [k]; rfl, hr⟩
  · refine ⟨i + 1, by omega, ?_, ?_, hr⟩
    · rw [k2]; unfold atM; rw [if_neg (by omega)]; rfl
    · rw [k2]; unfold atM; rw [if_neg (by omega)]; rfl
theorem WayI.back {g : List (List Int)} {ok : Nat → Bool} {from_ : List Int} {M : List Pr} (h : WayI g ok from_ M) : ∀ (f t : Nat), t ≤ M.length → (∀ x ∈ wBack M f (atM M t), 0 ≤ x ∧ x < (g.length : Int)) ∧ (wBack M f (atM M t)).length ≤ t
  | 0, t, _ => by simp [wBack]
  | f + 1, t, ht => by
    rw [wBack]
    by_cases h0 : t = 0
    · subst h0
      rw [if_pos (by simp [atM])]; simp
    · obtain ⟨t', k1, k2, _, k3, k4⟩ := h.up (t := t) (by omega) ht
      rw [if_neg (by omega), k2]
      obtain ⟨a, b⟩ := h.back f t' (by omega)
      refine ⟨fun x hx => ?_, by simp; omega⟩
      rcases List.mem_cons.1 hx with rfl | hx
      · exact ⟨k3, k4⟩
      · exact a x hx
/-- All that is allowed to be gone. -/
def resO (g : List (List Int)) (ok : Nat → Bool) : List (List Int) := g.map fun l => l.filter fun x => ok x.toNat
theorem resO_mem {g : List (List Int)} {ok : Nat → Bool} {v : Nat} {x : Int} : x ∈ (resO g ok).getD v [] ↔ x ∈ g.getD v [] ∧ ok x.toNat = true := by
  unfold resO
  rw [List.getD_eq_getElem?_getD, List.getD_eq_getElem?_getD, List.getElem?_map]
  cases g[v]? with
  | none => simp
  | some l => simp
/-- What the search gives, from a table on. -/
theorem wRun_ok {g : List (List Int)} (hin : ∀ l ∈ g, inB l g.length = true) {to ok : Nat → Bool} {from_ : List Int} : ∀ (f h : Nat) (M : List Pr), WayI g ok from_ M → h ≤ M.length → g.length + 1 ≤ f + h → (∀ x ∈ from_, x ∈ keysM M) → (∀ i, i < h → to (nodeM M i).toNat = false ∧ ∀ y ∈ g.getD (nodeM M i).toNat [], ok y.toNat = true → y ∈ keysM M) →
    match wRun g to ok f h M with
    | some (M', h') => WayI g ok from_ M' ∧ h' < M'.length ∧ to (nodeM M' h').toNat = true
    | none => ∀ x ∈ from_, ∀ v, To (resO g ok) x.toNat v → to v = false
  | 0, h, M, hI, hh, hf, _, _ => by have := hI.len; omega
  | f + 1, h, M, hI, hh, hf, hst, hcl => by
    rw [wRun]
    by_cases q : h < M.length
    · rw [if_pos q]
      by_cases q2 : to (nodeM M h).toNat = true
      · rw [if_pos q2]
        exact ⟨hI, q, q2⟩
      · rw [if_neg q2]
        obtain ⟨a, b, X, hX⟩ := wAdd_ok (n := nodeM M h) (g.getD (nodeM M h).toNat []) hI q rfl fun x hx => inB_mem (inB_row hin _) hx
        have hsub : ∀ x, x ∈ keysM M → x ∈ keysM (wAdd ok (nodeM M h) (g.getD (nodeM M h).toNat []) M) := fun x hx => by
          rw [hX]; unfold keysM at hx ⊢; rw [List.map_append]; exact List.mem_append.2 (.inl hx)
        have hnode : ∀ i, i < M.length → nodeM (wAdd ok (nodeM M h) (g.getD (nodeM M h).toNat []) M) i = nodeM M i := fun i hi => by
          rw [hX]; unfold nodeM; rw [List.getD_eq_getElem?_getD, List.getElem?_append_left hi, ← List.getD_eq_getElem?_getD]
        have hlen : M.length ≤ (wAdd ok (nodeM M h) (g.getD (nodeM M h).toNat []) M).length := by rw [hX]; simp
        refine wRun_ok hin f (h + 1) _ a (by omega) (by omega) (fun x hx => hsub x (hst x hx)) fun i hi => ?_
        by_cases e : i = h
        · subst e
          rw [hnode i q]
          exact ⟨by simpa using q2, b⟩
        · rw [hnode i (by omega)]
          obtain ⟨c, d⟩ := hcl i (by omega)
          exact ⟨c, fun y hy hy2 => hsub y (d y hy hy2)⟩
    · rw [if_neg q]
      intro x hx v hv
      have eh : h = M.length := by omega
      subst eh
      have key : ((v : Nat) : Int) ∈ keysM M := to_closed (g := resO g ok) (s := fun v => ((v : Nat) : Int) ∈ keysM M) (fun u hu y hy => by
        obtain ⟨y1, y2⟩ := resO_mem.1 hy
        have hy0 := inB_mem (inB_row hin u) y1
        obtain ⟨p, hp, ep⟩ := List.mem_map.1 hu
        obtain ⟨i, hi, rfl⟩ := List.mem_iff_getElem.1 hp
        have en : nodeM M i = (u : Int) := by unfold nodeM; rw [List.getD_eq_getElem?_getD, List.getElem?_eq_getElem hi]; exact ep
        have := (hcl i hi).2 y (by rw [en]; exact y1) y2
        rwa [show ((y.toNat : Nat) : Int) = y by omega]) hv (by
        have h1 := hst x hx
        obtain ⟨p, hp, ep⟩ := List.mem_map.1 h1
        have := hI.rng p hp
        have ep : p.1 = x := ep
        rwa [show ((x.toNat : Nat) : Int) = x by omega])
      obtain ⟨p, hp, ep⟩ := List.mem_map.1 key
      obtain ⟨i, hi, rfl⟩ := List.mem_iff_getElem.1 hp
      have en : nodeM M i = (v : Int) := by unfold nodeM; rw [List.getD_eq_getElem?_getD, List.getElem?_eq_getElem hi]; exact ep
      have := (hcl i hi).1
      rw [en] at this
      simpa using this
/-- All that is asked of a way. -/
theorem wayE_ok {g : List (List Int)} (hin : ∀ l ∈ g, inB l g.length = true) (to ok : Nat → Bool) {from_ : List Int} (hf : inB from_ g.length = true) : inB (wayE g to ok from_) g.length = true ∧ (wayE g to ok from_).length ≤ g.length ∧
    ((∃ x ∈ from_, ∃ v, To (resO g ok) x.toNat v ∧ to v = true) → ∃ init last, wayE g to ok from_ = init ++ [last] ∧ to last.toNat = true ∧ (last ∈ from_ ∨ ok last.toNat = true)) := by
  obtain ⟨a, b, _⟩ := wSt_ok (ok := ok) (from_ := from_) from_ (WayI.none g ok from_) fun x hx => ⟨hx, inB_mem hf hx⟩
  have hR := wRun_ok hin (to := to) (ok := ok) (g.length + 1) 0 (wSt from_ []) a (Nat.zero_le _) (by omega) b fun i hi => by omega
  unfold wayE
  cases e : wRun g to ok (g.length + 1) 0 (wSt from_ []) with
  | none =>
    rw [e] at hR
    refine ⟨rfl, by simp, fun ⟨x, hx, v, h1, h2⟩ => ?_⟩
    have := hR x hx v h1
    rw [h2] at this; cases this
  | some q =>
    obtain ⟨M, h⟩ := q
    rw [e] at hR
    obtain ⟨hI, hh, ht⟩ := hR
    have en : nodeM M h = atM M (h + 1) := by unfold atM; rw [if_neg (by omega)]; rfl
    obtain ⟨c, d⟩ := hI.back (M.length + 1) (h + 1) (by omega)
    have hl := hI.len
    dsimp only
    rw [en]
    refine ⟨inB_of fun x hx => c x (List.mem_reverse.1 hx), by rw [List.length_reverse]; omega, fun _ => ?_⟩
    have hr := hI.rng _ (getD_memP hh)
    rw [wBack, if_neg (by rw [← en]; unfold nodeM; omega), ← en]
    exact ⟨_, _, by rw [List.reverse_cons], ht, hI.okF _ (getD_memP hh)⟩
end

/-! ### XEm5 -/
section
open Go.RowKit
set_option linter.unusedSimpArgs false
set_option linter.unusedVariables false
/-! ### The table of who came from where -/
noncomputable def fIa (f : Value → Option Value) (M : List Pr) : Value → Option Value := M.foldl (fun f p => putF f (.int .i64 p.1) (.int .i64 p.2)) f
noncomputable def fI (M : List Pr) : Value → Option Value := fIa (fun _ => none) M
theorem fI_snoc (M : List Pr) (p : Pr) : fI (M ++ [p]) = putF (fI M) (.int .i64 p.1) (.int .i64 p.2) := by
  unfold fI fIa; rw [List.foldl_append]; rfl
theorem fIa_other {n : Int} : ∀ (M : List Pr) (f : Value → Option Value), ¬ n ∈ keysM M → fIa f M (.int .i64 n) = f (.int .i64 n)
  | [], f, _ => rfl
  | p :: r, f, h => by
    have h1 : p.1 ≠ n := fun e => h (by simp [keysM, e])
    show fIa _ r _ = _
    rw [fIa_other r _ fun q => h (by simp only [keysM, List.map_cons, List.mem_cons] at q ⊢; exact .inr q)]
    unfold putF
    dsimp only
    rw [if_neg fun e => h1 (by injection e with _ e; exact e.symm)]
theorem fI_none {n : Int} {M : List Pr} (h : ¬ n ∈ keysM M) : fI M (.int .i64 n) = none := fIa_other M _ h
theorem fIa_at : ∀ (M : List Pr) (f : Value → Option Value), (keysM M).Nodup → ∀ j, j < M.length → fIa f M (.int .i64 (nodeM M j)) = some (.int .i64 (M.getD j (0, 0)).2)
  | [], _, _, j, hj => by cases hj
  | p :: r, f, hnd, j, hj => by
    have h1 := List.nodup_cons.1 (show (p.1 :: keysM r).Nodup from hnd)
    cases j with
    | zero =>
      show fIa _ r (.int .i64 p.1) = _
      rw [fIa_other r _ h1.1]
      unfold putF
      dsimp only
      rw [if_pos rfl]
      rfl
    | succ j =>
      show fIa _ r (.int .i64 (nodeM r j)) = _
      rw [fIa_at r _ h1.2 j (by simpa using hj)]
      rfl
theorem fI_at {M : List Pr} (hnd : (keysM M).Nodup) {j : Nat} (hj : j < M.length) : fI M (.int .i64 (nodeM M j)) = some (.int .i64 (M.getD j (0, 0)).2) := fIa_at M _ hnd j hj
theorem fI_yes {n : Int} {M : List Pr} (hnd : (keysM M).Nodup) (h : n ∈ keysM M) : ∃ v, fI M (.int .i64 n) = some v := by
  obtain ⟨p, hp, rfl⟩ := List.mem_map.1 h
  obtain ⟨i, hi, rfl⟩ := List.mem_iff_getElem.1 hp
  have := fI_at hnd hi
  rw [show nodeM M i = M[i].1 by unfold nodeM; rw [List.getD_eq_getElem?_getD, List.getElem?_eq_getElem hi]; rfl] at this
  exact ⟨_, this⟩
theorem keyedI {P : Program} {k : TypeId} {q : IntKind} (hu : P.underlying k = some (.int q)) : Maps.Keyed P k := Maps.int_keyed hu
theorem keyOf_i64 {P : Program} {k : TypeId} (hu : P.underlying k = some (.int .i64)) {n : Int} (hn : (Lit.int .i64 n).wf = true) : ∃ l, keyOf P k (.int .i64 n) = some l := by
  unfold keyOf
  rw [hu]
  simp only [mapKey, hu]
  rw [if_pos ⟨trivial, hn⟩]
  exact ⟨_, rfl⟩
theorem wf_small64 {n : Int} (h : 0 ≤ n ∧ n ≤ 1000000000000) : (Lit.int .i64 n).wf = true := by
  have h1 : IntKind.min .i64 = -9223372036854775808 := by decide
  have h2 : IntKind.max .i64 = 9223372036854775807 := by decide
  simp only [Lit.wf, Bool.and_eq_true, decide_eq_true_eq]; omega
theorem renLL_i64e {ρ : Nat → Nat} (l : List Int) : renLL ρ (i64s l) = i64s l := renLL_pure _ (pureLL_map _ (fun _ => by simp [PureL, Pure]) l)
noncomputable def okP (g : List (List Int)) (only : Int) : Nat → Bool := fun k => decide (only < 0) || partsG g k == only
def c59_1 : PC := .seq (.ops [⟨some 27,.bin .lss (.tmp 26) (.tmp 25),none,0⟩] false) (.seq (.cond (.tmp 27) (.skip) (.exit 0)) (.seq (.block 1 (.seq (.ops [⟨some 28,.iaddr 1 (.tmp 24) (.tmp 26),none,0⟩,
 ⟨some 29,.load1 (.tmp 28),none,0⟩,
 ⟨some 14,.move (.tmp 29),none,0⟩] false) (.seq (.ops [⟨some 31,.move (.tmp 11),none,0⟩,
 ⟨some 32,.move (.tmp 14),none,0⟩,
 ⟨some 33,.look 3 (.int .i64 0) (.tmp 31) (.tmp 32),none,0⟩,
 ⟨some 30,.move (.tmp 33),none,0⟩,
 ⟨some 34,.ext 0 (.tmp 30),none,0⟩,
 ⟨some 35,.ext 1 (.tmp 30),none,0⟩,
 ⟨some 15,.move (.tmp 34),none,0⟩,
 ⟨some 16,.move (.tmp 35),none,0⟩] false) (.seq (.ops [⟨some 36,.move (.tmp 16),none,0⟩,
 ⟨some 37,.un .not (.tmp 36),none,0⟩] false) (.cond (.tmp 37) (.seq (.ops [⟨some 38,.move (.tmp 11),none,0⟩,
 ⟨some 39,.move (.tmp 14),none,0⟩,
 ⟨none,.mput 3 (.tmp 38) (.tmp 39) (.const (.int .i64 (-1))),none,0⟩] false) (.ops [⟨some 40,.move (.tmp 12),none,0⟩,
 ⟨some 41,.move (.tmp 14),none,0⟩,
 ⟨some 42,.bslice 1 1 [(.tmp 41)],none,0⟩,
 ⟨some 43,.append 1 8 (.tmp 40) (.tmp 42),none,0⟩,
 ⟨some 12,.move (.tmp 43),none,0⟩] false)) (.skip)))))) (.ops [⟨some 44,.bin .add (.tmp 26) (.const (.int .i64 1)),none,0⟩,
 ⟨some 26,.move (.tmp 44),none,0⟩] false)))
def c59_3 : PC := .seq (.seq (.ops [⟨some 56,.move (.tmp 17),none,0⟩,
 ⟨some 57,.bin .geq (.tmp 56) (.const (.int .i64 0)),none,0⟩] false) (.cond (.tmp 57) (.skip) (.exit 4))) (.seq (.block 5 (.ops [⟨some 61,.move (.tmp 18),none,0⟩,
 ⟨some 62,.move (.tmp 17),none,0⟩,
 ⟨some 63,.bslice 1 1 [(.tmp 62)],none,0⟩,
 ⟨some 64,.append 1 8 (.tmp 61) (.tmp 63),none,0⟩,
 ⟨some 18,.move (.tmp 64),none,0⟩] false)) (.ops [⟨some 58,.move (.tmp 11),none,0⟩,
 ⟨some 59,.move (.tmp 17),none,0⟩,
 ⟨some 60,.lookv 3 (.tmp 58) (.tmp 59),none,0⟩,
 ⟨some 17,.move (.tmp 60),none,0⟩] false))
def c59_4 : PC := .seq (.ops [⟨some 77,.bin .lss (.tmp 76) (.tmp 75),none,0⟩] false) (.seq (.cond (.tmp 77) (.skip) (.exit 6)) (.seq (.block 7 (.seq (.ops [⟨some 78,.iaddr 1 (.tmp 74) (.tmp 76),none,0⟩,
 ⟨some 79,.load1 (.tmp 78),none,0⟩,
 ⟨some 20,.move (.tmp 79),none,0⟩] false) (.seq (.ops [⟨some 81,.move (.tmp 11),none,0⟩,
 ⟨some 82,.move (.tmp 20),none,0⟩,
 ⟨some 83,.look 3 (.int .i64 0) (.tmp 81) (.tmp 82),none,0⟩,
 ⟨some 80,.move (.tmp 83),none,0⟩,
 ⟨some 84,.ext 0 (.tmp 80),none,0⟩,
 ⟨some 85,.ext 1 (.tmp 80),none,0⟩,
 ⟨some 21,.move (.tmp 84),none,0⟩,
 ⟨some 22,.move (.tmp 85),none,0⟩] false) (.seq (.ops [⟨some 86,.move (.tmp 22),none,0⟩,
 ⟨some 87,.un .not (.tmp 86),none,0⟩,
 ⟨some 88,.move (.tmp 87),none,0⟩,
 ⟨some 89,.move (.tmp 4),some (88,true),0⟩,
 ⟨some 90,.bin .lss (.tmp 89) (.const (.int .i64 0)),some (88,true),0⟩,
 ⟨some 91,.move (.tmp 90),some (88,true),0⟩,
 ⟨some 92,.move (.tmp 3),some (91,false),0⟩,
 ⟨some 93,.move (.tmp 20),some (91,false),0⟩,
 ⟨some 94,.iaddr 1 (.tmp 92) (.tmp 93),some (91,false),0⟩,
 ⟨some 95,.load1 (.tmp 94),some (91,false),0⟩,
 ⟨some 96,.move (.tmp 4),some (91,false),0⟩,
 ⟨some 97,.bin .eql (.tmp 95) (.tmp 96),some (91,false),0⟩,
 ⟨some 98,.pick (.tmp 91) (.const (.bool true)) (.tmp 97),some (88,true),0⟩,
 ⟨some 99,.pick (.tmp 88) (.tmp 98) (.const (.bool false)),none,0⟩] false) (.cond (.tmp 99) (.seq (.ops [⟨some 100,.move (.tmp 11),none,0⟩,
 ⟨some 101,.move (.tmp 20),none,0⟩,
 ⟨some 102,.move (.tmp 17),none,0⟩,
 ⟨none,.mput 3 (.tmp 100) (.tmp 101) (.tmp 102),none,0⟩] false) (.ops [⟨some 103,.move (.tmp 12),none,0⟩,
 ⟨some 104,.move (.tmp 20),none,0⟩,
 ⟨some 105,.bslice 1 1 [(.tmp 104)],none,0⟩,
 ⟨some 106,.append 1 8 (.tmp 103) (.tmp 105),none,0⟩,
 ⟨some 12,.move (.tmp 106),none,0⟩] false)) (.skip)))))) (.ops [⟨some 107,.bin .add (.tmp 76) (.const (.int .i64 1)),none,0⟩,
 ⟨some 76,.move (.tmp 107),none,0⟩] false)))
def c59_2 : PC := .seq (.seq (.ops [⟨some 45,.move (.tmp 12),none,0⟩,
 ⟨some 46,.len (.tmp 45),none,0⟩,
 ⟨some 47,.bin .gtr (.tmp 46) (.const (.int .i64 0)),none,0⟩] false) (.cond (.tmp 47) (.skip) (.exit 2))) (.block 3 (.seq (.ops [⟨some 48,.move (.tmp 12),none,0⟩,
 ⟨some 49,.iaddr 1 (.tmp 48) (.const (.int .i64 0)),none,0⟩,
 ⟨some 50,.load1 (.tmp 49),none,0⟩,
 ⟨some 17,.move (.tmp 50),none,0⟩] false) (.seq (.ops [⟨some 51,.move (.tmp 12),none,0⟩,
 ⟨some 52,.slc 1 (.tmp 51) (some (.const (.int .i64 1))) none none,none,0⟩,
 ⟨some 12,.move (.tmp 52),none,0⟩] false) (.seq (.seq (.ops [⟨some 53,.move (.tmp 2),none,0⟩,
 ⟨some 54,.move (.tmp 17),none,0⟩,
 ⟨some 55,.callv (.tmp 53) [(.tmp 54)],none,0⟩] false) (.cond (.tmp 55) (.seq (.ops [⟨some 18,.move (.const (.slice none 0 0)),none,0⟩] false) (.seq (.block 4 (.loop c59_3)) (.seq (.ops [⟨some 65,.move (.tmp 18),none,0⟩,
 ⟨some 66,.call 111 [(.tmp 65)],none,0⟩] false) (.seq (.ops [⟨some 67,.move (.tmp 18),none,0⟩,
 ⟨some 10,.move (.tmp 67),none,0⟩] false) (.ret))))) (.skip))) (.seq (.ops [⟨some 68,.move (.tmp 0),none,0⟩,
 ⟨some 69,.nilchk (.tmp 68),none,0⟩,
 ⟨some 70,.faddr 11 (.tmp 69),none,0⟩,
 ⟨some 71,.load1 (.tmp 70),none,0⟩,
 ⟨some 72,.move (.tmp 17),none,0⟩,
 ⟨some 73,.iaddr 1 (.tmp 71) (.tmp 72),none,0⟩,
 ⟨some 74,.load1 (.tmp 73),none,0⟩,
 ⟨some 75,.len (.tmp 74),none,0⟩,
 ⟨some 76,.move (.const (.int .i64 0)),none,0⟩] false) (.block 6 (.loop c59_4)))))))
def c59 : PC := .seq (.ops [⟨some 10,.move (.const (.slice none 0 0)),none,0⟩] false) (.seq (.ops [⟨some 23,.mkmap 3,none,0⟩,
 ⟨some 11,.move (.tmp 23),none,0⟩] false) (.seq (.ops [⟨some 12,.move (.const (.slice none 0 0)),none,0⟩] false) (.seq (.seq (.ops [⟨some 24,.move (.tmp 1),none,0⟩,
 ⟨some 25,.len (.tmp 24),none,0⟩,
 ⟨some 26,.move (.const (.int .i64 0)),none,0⟩] false) (.block 0 (.loop c59_1))) (.seq (.block 2 (.loop c59_2)) (.seq (.ops [⟨some 10,.move (.const (.slice none 0 0)),none,0⟩] false) (.ret))))))
set_option maxRecDepth 100000 in
theorem c59_ok : FunOK Try.prog 59 108 [.tmp 10] c59 := ⟨⟨Try.f59, Try.func59, rfl, by kernel_rfl, rfl, by kernel_rfl⟩⟩
set_option maxRecDepth 100000 in
theorem em_way (W : WorldD) (A : AutoD) (L : List Pr) (g : List (List Int)) (fr : List Int) (hn : g.length ≤ 2000000) (hin0 : ∀ l ∈ g, inB l g.length = true) (hF : FitsG g) (to : Nat → Bool) (cl : FuncId) (caps : List D) (hcp : PureL caps)
    (hcl : ∀ x : Int, 0 ≤ x → x < (g.length : Int) → PCall Try.prog cl (.sc (.int .i64 x) :: caps) (.sc (.bool (to x.toNat)))) (from_ : List Int) (hfl : from_.length ≤ 17592186043904) (hf : inB from_ g.length = true) (only : Int) :
    PCall Try.prog 59 [.ipt (sdat W A L g fr), dints from_, .fn (.func cl) [] caps, dints (partsL g), .sc (.int .i64 only)] (dints (wayE g to (okP g only) from_)) := by
  have hp := pure_sdat W A L g fr
  have hkd := keyedI (P := Try.prog) Try.underlying3
  have hkey := fun x (h : 0 ≤ x ∧ x < (g.length : Int)) => keyOf_i64 (P := Try.prog) Try.underlying3 (n := x) (wf_small64 ⟨h.1, by omega⟩)
  refine pcall_intro c59_ok (by simp) (by simp [PureL, Pure, pure_dints, hp, hcp]) ?_ (pure_dints _)
  have hWE : wayE g to (okP g only) from_ = match wRun g to (okP g only) (g.length + 1) 0 (wSt from_ []) with | some (M, h) => (wBack M (M.length + 1) (nodeM M h)).reverse | none => [] := rfl
  obtain ⟨sd, hsd⟩ : ∃ sd : D, sd = .ipt (sdat W A L g fr) := ⟨_, rfl⟩
  have hsl : PureL [sd] := by subst hsd; exact ⟨pure_ipt hp, trivial⟩
  rw [← hsd]
  (apply rd_sound; focus (repeat' constructor))
  ((conv=>whnf);repeat(refine .intro rfl ?_;conv=>whnf))
  rw [List.length_map]
  refine pwp_ghostB (leB_nil 12 1 (by simp) rfl) ?_
  refine pwp_forH [0, 2, 3, 4, 11, 24, 25] (fun ((k, M) : Nat × List Pr) => [(12, .own 1 M.length 0 M.length), (26, .sc (.int .i64 k))]) (fun (k, M) => [.mapo true (mapIs Try.prog 3 (fI M)), .vec true M.length 1 (i64s (keysM M))])
    (fun (k, M) => k ≤ from_.length ∧ WayI g (okP g only) from_ M ∧ wSt (from_.drop k) M = wSt from_ []) (fun (k, M) => from_.length - k) (0, []) ?_
  ((conv=>whnf);repeat(refine .intro rfl ?_;conv=>whnf))
  refine ⟨⟨by omega, WayI.none _ _ _, rfl⟩, by (repeat' (first | exact trivial | refine And.intro rfl ?_)), rfl, ?_⟩
  rintro ⟨k, M⟩ ⟨hk, hI, hS⟩
  have hMl := hI.len
  have hKl := keys_len M
  ((conv=>whnf);repeat(refine .intro rfl ?_;conv=>whnf))
  (apply rd_sound; focus (repeat' constructor))
  ((conv=>whnf);repeat(refine .intro rfl ?_;conv=>whnf))
  (refine ifK_split (fun q0 => ?_) (fun q0 => ?_) <;> (rw [q0]; ((conv=>whnf);repeat(refine .intro rfl ?_;conv=>whnf))))
  · have q0 : k < from_.length := by ((try simp only[oo,reduceCtorEq]at*)<;>omega)
    have hx := inB_mem hf (mem_getD q0)
    have hxm := mem_getD q0
    refine ⟨by omega, _, intsD_at (l := from_) (k := k) (by omega) q0, ?_⟩
    ((conv=>whnf);repeat(refine .intro rfl ?_;conv=>whnf))
    rw [getD_drop q0, wSt] at hS
    generalize from_.getD k 0 = x at *
    refine ⟨fI M, rfl, hkd, hkey x hx, fun v hv => ?_, fun hv => ?_⟩
    · have hc : ¬ (keysM M).contains x = false := fun e => by
        have := (fI_none (contains_no e)).symm.trans hv
        cases this
      rw [if_neg hc] at hS
      ((conv=>whnf);repeat(refine .intro rfl ?_;conv=>whnf))
      (refine .inl ⟨by (unfold InR; rw [IntKind.wrap_i64]; omega), ?_⟩; ((conv=>whnf);repeat(refine .intro rfl ?_;conv=>whnf)))
      refine ⟨(k + 1, M), ⟨by omega, hI, hS⟩, by dsimp only; omega, ?_⟩
      exact leB_envH (by (repeat' (first | exact trivial | refine And.intro rfl ?_))) rfl
    · have hc : (keysM M).contains x = false := by
        cases e : (keysM M).contains x
        · rfl
        · obtain ⟨v, h⟩ := fI_yes hI.nd (List.contains_iff_mem.1 e)
          have := hv.symm.trans h
          cases this
      rw [if_pos hc] at hS
      have hI2 := hI.push hx (contains_no hc) (.inl rfl) (.inl hxm)
      ((conv=>whnf);repeat(refine .intro rfl ?_;conv=>whnf))
      refine ⟨fI M, rfl, hkd, hkey x hx, hv, ?_⟩
      ((conv=>whnf);repeat(refine .intro rfl ?_;conv=>whnf))
      refine ⟨(by unfold sliceAppend; simp only [ll]; omega), ?_⟩
      ((conv=>whnf);repeat(refine .intro rfl ?_;conv=>whnf))
      (refine .inl ⟨by (unfold InR; rw [IntKind.wrap_i64]; omega), ?_⟩; ((conv=>whnf);repeat(refine .intro rfl ?_;conv=>whnf)))
      refine ⟨(k + 1, M ++ [(x, -1)]), ⟨by omega, hI2, hS⟩, by dsimp only; omega, ?_⟩
      dsimp only
      rw [fI_snoc, show (M ++ [(x, (-1 : Int))]).length = M.length + 1 by simp]
      (refine leB_close 2 (by simp) rfl ?_ ?_ <;> (repeat' (first | exact trivial | exact rfl | exact DeepM.refl _ | exact DeepML.refl _ | exact DeepMLL.refl _ | refine And.intro ?_ ?_ | (simp [Under, UnderL, UnderLL, -List.map_take, -List.map_drop]; done))))
      all_goals first | exact under_pure _ hsl.1 | exact underL_pure _ hcp | exact underL_pure _ hcp | exact deepMLL_eq (by rw [keys_app, ← i64s_snoc, keys_len]) | skip
  have q0 : k = from_.length := by have : ¬ k < from_.length := by ((try simp only[oo,reduceCtorEq]at*)<;>omega)
                                   omega
  subst q0
  rw [List.drop_length] at hS
  have hS : M = wSt from_ [] := hS
  rw [← hS] at hWE
  generalize hRes : wRun g to (okP g only) (g.length + 1) 0 M = R at hWE
  refine pwp_forH [0, 2, 3, 4, 11] (fun ((h, M, Z, lo, hi, ver) : Nat × List Pr × List Int × Nat × Nat × Nat) => [(12, .own 1 ver lo hi)]) (fun (h, M, Z, lo, hi, ver) => [.mapo true (mapIs Try.prog 3 (fI M)), .vec true ver 1 (i64s Z)])
    (fun (h, M, Z, lo, hi, ver) => WayI g (okP g only) from_ M ∧ h ≤ M.length ∧ lo ≤ hi ∧ hi ≤ Z.length ∧ (Z.take hi).drop lo = (keysM M).drop h ∧ wRun g to (okP g only) (g.length + 1 - h) h M = R) (fun (h, M, Z, lo, hi, ver) => g.length + 1 - h) (0, M, keysM M, 0, M.length, M.length) ?_
  ((conv=>whnf);repeat(refine .intro rfl ?_;conv=>whnf))
  refine ⟨⟨hI, by omega, by omega, by omega, by rw [List.take_of_length_le (by omega)], hRes⟩, by (repeat' (first | exact trivial | refine And.intro rfl ?_)), rfl, ?_⟩
  rintro ⟨h, M, Z, lo, hi, ver⟩ ⟨hI, hh, hlo, hhi, hZ, hR⟩
  have hMl := hI.len
  have hKl := keys_len M
  have hZl : hi - lo = M.length - h := by
    have := congrArg List.length hZ
    rw [List.length_drop, List.length_drop, List.length_take] at this
    omega
  rw [show g.length + 1 - h = (g.length - h) + 1 by omega, wRun] at hR
  ((conv=>whnf);repeat(refine .intro rfl ?_;conv=>whnf))
  (apply rd_sound; focus (repeat' constructor))
  ((conv=>whnf);repeat(refine .intro rfl ?_;conv=>whnf))
  (refine ifK_split (fun q1 => ?_) (fun q1 => ?_) <;> (rw [q1]; ((conv=>whnf);repeat(refine .intro rfl ?_;conv=>whnf))))
  · have q1 : lo < hi := by ((try simp only[oo,reduceCtorEq]at*)<;>omega)
    have hhM : h < M.length := by omega
    rw [if_pos hhM] at hR
    have hx := hI.rng _ (getD_memP hhM)
    have eN : (M.getD h (0, 0)).1 = nodeM M h := rfl
    rw [eN] at hx
    have hd : (keysM M).drop h = nodeM M h :: (keysM M).drop (h + 1) := by
      rw [List.drop_eq_getElem_cons (by omega)]
      unfold nodeM keysM
      rw [List.getElem_map, List.getD_eq_getElem?_getD, List.getElem?_eq_getElem hhM]
      rfl
    rw [headQ q1 hhi, hd] at hZ
    obtain ⟨hz1, hz2⟩ := List.cons.inj hZ
    (refine ⟨by omega, (by first | omega | (simp; done) | (simp; omega) | (simp only [ll]; omega)), ?_⟩; ((conv=>whnf);repeat(refine .intro rfl ?_;conv=>whnf)))
    refine ⟨_, intsD_at (l := Z) (k := lo) (by omega) (by omega), ?_⟩
    ((conv=>whnf);repeat(refine .intro rfl ?_;conv=>whnf))
    rw [hz1]
    refine ⟨by omega, by omega, by omega, ?_⟩
    ((conv=>whnf);repeat(refine .intro rfl ?_;conv=>whnf))
    rw [show lo + (hi - lo) = hi by omega]
    have hcx := hcl (nodeM M h) hx.1 hx.2
    have en1 : nodeM M h = atM M (h + 1) := by unfold atM; rw [if_neg (by omega)]; rfl
    generalize hxe : nodeM M h = x at *
    (refine .inl ⟨_, hcx, ?_⟩; ((conv=>whnf);repeat(refine .intro rfl ?_;conv=>whnf)))
    cases hto : to x.toNat
    · rw [hto, if_neg (by decide)] at hR
      ((conv=>whnf);repeat(refine .intro rfl ?_;conv=>whnf))
      subst hsd
      unfold sdat dgrid
      ((conv=>whnf);repeat(refine .intro rfl ?_;conv=>whnf))
      refine ⟨by omega, _, gridD_at (g := g) (k := x.toNat) (by omega) (by omega), ?_⟩
      ((conv=>whnf);repeat(refine .intro rfl ?_;conv=>whnf))
      rw [List.length_map]
      have hrow := fun y hy => inB_mem (inB_row hin0 x.toNat) (x := y) hy
      have hrl := hF.at x.toNat
      generalize g.getD x.toNat [] = row at *
      refine pwp_forH [0, 2, 3, 4, 11, 17, 74, 75] (fun ((k, M', Z', lo', hi', ver') : Nat × List Pr × List Int × Nat × Nat × Nat) => [(12, .own 1 ver' lo' hi'), (76, .sc (.int .i64 k))]) (fun (k, M', Z', lo', hi', ver') => [.mapo true (mapIs Try.prog 3 (fI M')), .vec true ver' 1 (i64s Z')])
        (fun (k, M', Z', lo', hi', ver') => k ≤ row.length ∧ WayI g (okP g only) from_ M' ∧ h < M'.length ∧ nodeM M' h = x ∧ lo' ≤ hi' ∧ hi' ≤ Z'.length ∧ (Z'.take hi').drop lo' = (keysM M').drop (h + 1) ∧ wAdd (okP g only) x (row.drop k) M' = wAdd (okP g only) x row M) (fun (k, M', Z', lo', hi', ver') => row.length - k) (0, M, Z, lo + 1, hi, ver) ?_
      ((conv=>whnf);repeat(refine .intro rfl ?_;conv=>whnf))
      refine ⟨⟨by omega, hI, hhM, hxe, by omega, hhi, hz2, rfl⟩, by (repeat' (first | exact trivial | refine And.intro rfl ?_)), rfl, ?_⟩
      rintro ⟨k, M', Z', lo', hi', ver'⟩ ⟨hk, hI', hhM', hx', hlo', hhi', hZ', hA'⟩
      have hMl' := hI'.len
      have hKl' := keys_len M'
      have hZl' : hi' - lo' = M'.length - (h + 1) := by
        have := congrArg List.length hZ'
        rw [List.length_drop, List.length_drop, List.length_take] at this
        omega
      ((conv=>whnf);repeat(refine .intro rfl ?_;conv=>whnf))
      (apply rd_sound; focus (repeat' constructor))
      ((conv=>whnf);repeat(refine .intro rfl ?_;conv=>whnf))
      (refine ifK_split (fun q2 => ?_) (fun q2 => ?_) <;> (rw [q2]; ((conv=>whnf);repeat(refine .intro rfl ?_;conv=>whnf))))
      · have q2 : k < row.length := by ((try simp only[oo,reduceCtorEq]at*)<;>omega)
        have hy := hrow _ (mem_getD q2)
        refine ⟨by omega, _, intsD_at (l := row) (k := k) (by omega) q2, ?_⟩
        ((conv=>whnf);repeat(refine .intro rfl ?_;conv=>whnf))
        rw [getD_drop q2, wAdd] at hA'
        generalize row.getD k 0 = y at *
        refine ⟨fI M', rfl, hkd, hkey y hy, fun v hv => ?_, fun hv => ?_⟩
        · have hc : ¬ (keysM M').contains y = false := fun e => by
            have := (fI_none (contains_no e)).symm.trans hv
            cases this
          rw [if_neg fun q => hc q.1] at hA'
          ((conv=>whnf);repeat(refine .intro rfl ?_;conv=>whnf))
          (refine .inl ⟨by (unfold InR; rw [IntKind.wrap_i64]; omega), ?_⟩; ((conv=>whnf);repeat(refine .intro rfl ?_;conv=>whnf)))
          refine ⟨(k + 1, M', Z', lo', hi', ver'), ⟨by omega, hI', hhM', hx', hlo', hhi', hZ', hA'⟩, by dsimp only; omega, ?_⟩
          exact leB_envH (by (repeat' (first | exact trivial | refine And.intro rfl ?_))) rfl
        · have hc : (keysM M').contains y = false := by
            cases e : (keysM M').contains y
            · rfl
            · obtain ⟨v, h⟩ := fI_yes hI'.nd (List.contains_iff_mem.1 e)
              have := hv.symm.trans h
              cases this
          have eok : okP g only y.toNat = (decide (only < 0) || partsG g y.toNat == only) := rfl
          ((conv=>whnf);repeat(refine .intro rfl ?_;conv=>whnf))
          (refine ifK_split (fun r => ?_) (fun r => ?_) <;> (rw [r]; ((conv=>whnf);repeat(refine .intro rfl ?_;conv=>whnf))))
          · rw [r, Bool.true_or] at eok
            rw [if_pos ⟨hc, eok⟩] at hA'
            have hI2 := hI'.push hy (contains_no hc) (.inr ⟨h, hhM', hx'.symm⟩) (.inr eok)
            refine ⟨fI M', rfl, hkd, hkey y hy, hv, ?_⟩
            ((conv=>whnf);repeat(refine .intro rfl ?_;conv=>whnf))
            refine ⟨(by unfold sliceAppend; simp only [ll]; omega), ?_⟩
            ((conv=>whnf);repeat(refine .intro rfl ?_;conv=>whnf))
            (refine .inl ⟨by (unfold InR; rw [IntKind.wrap_i64]; omega), ?_⟩; ((conv=>whnf);repeat(refine .intro rfl ?_;conv=>whnf)))
            refine ⟨(k + 1, M' ++ [(y, x)], (Z'.take hi').drop lo' ++ [y], 0, hi' - lo' + 1, ver' + 1), ⟨by omega, hI2, by simp; omega, by rw [nodeM_old hhM']; exact hx', by omega, by simp; omega, ?_, hA'⟩, by dsimp only; omega, ?_⟩
            · rw [List.drop_zero, List.take_of_length_le (by simp; omega), hZ', keys_app, List.drop_append_of_le_length (by omega)]
            · dsimp only
              rw [fI_snoc]
              (refine leB_close 2 (by simp) rfl ?_ ?_ <;> (repeat' (first | exact trivial | exact rfl | exact DeepM.refl _ | exact DeepML.refl _ | exact DeepMLL.refl _ | refine And.intro ?_ ?_ | (simp [Under, UnderL, UnderLL, -List.map_take, -List.map_drop]; done))))
              all_goals first | exact deepMLL_eq i64s_queueW | exact underL_pure _ hp | exact underL_pure _ hcp | (simp; done) | skip
          · refine ⟨by omega, _, gl_atN y.toNat (by omega) (by omega), ?_⟩
            ((conv=>whnf);repeat(refine .intro rfl ?_;conv=>whnf))
            rw [r, Bool.false_or] at eok
            (refine ifK_split (fun r2 => ?_) (fun r2 => ?_) <;> (rw [r2]; ((conv=>whnf);repeat(refine .intro rfl ?_;conv=>whnf))))
            · have r2 : (partsG g y.toNat == only) = true := r2
              rw [r2] at eok
              rw [if_pos ⟨hc, eok⟩] at hA'
              have hI2 := hI'.push hy (contains_no hc) (.inr ⟨h, hhM', hx'.symm⟩) (.inr eok)
              refine ⟨fI M', rfl, hkd, hkey y hy, hv, ?_⟩
              ((conv=>whnf);repeat(refine .intro rfl ?_;conv=>whnf))
              refine ⟨(by unfold sliceAppend; simp only [ll]; omega), ?_⟩
              ((conv=>whnf);repeat(refine .intro rfl ?_;conv=>whnf))
              (refine .inl ⟨by (unfold InR; rw [IntKind.wrap_i64]; omega), ?_⟩; ((conv=>whnf);repeat(refine .intro rfl ?_;conv=>whnf)))
              refine ⟨(k + 1, M' ++ [(y, x)], (Z'.take hi').drop lo' ++ [y], 0, hi' - lo' + 1, ver' + 1), ⟨by omega, hI2, by simp; omega, by rw [nodeM_old hhM']; exact hx', by omega, by simp; omega, ?_, hA'⟩, by dsimp only; omega, ?_⟩
              · rw [List.drop_zero, List.take_of_length_le (by simp; omega), hZ', keys_app, List.drop_append_of_le_length (by omega)]
              · dsimp only
                rw [fI_snoc]
                (refine leB_close 2 (by simp) rfl ?_ ?_ <;> (repeat' (first | exact trivial | exact rfl | exact DeepM.refl _ | exact DeepML.refl _ | exact DeepMLL.refl _ | refine And.intro ?_ ?_ | (simp [Under, UnderL, UnderLL, -List.map_take, -List.map_drop]; done))))
                all_goals first | exact deepMLL_eq i64s_queueW | exact underL_pure _ hp | exact underL_pure _ hcp | (simp; done) | skip
            · have r2 : (partsG g y.toNat == only) = false := r2
              rw [r2] at eok
              rw [if_neg fun q => by rw [eok] at q; cases q.2] at hA'
              (refine .inl ⟨by (unfold InR; rw [IntKind.wrap_i64]; omega), ?_⟩; ((conv=>whnf);repeat(refine .intro rfl ?_;conv=>whnf)))
              refine ⟨(k + 1, M', Z', lo', hi', ver'), ⟨by omega, hI', hhM', hx', hlo', hhi', hZ', hA'⟩, by dsimp only; omega, ?_⟩
              exact leB_envH (by (repeat' (first | exact trivial | refine And.intro rfl ?_))) rfl
      · have q2 : k = row.length := by have : ¬ k < row.length := by ((try simp only[oo,reduceCtorEq]at*)<;>omega)
                                       omega
        subst q2
        rw [List.drop_length] at hA'
        have hA' : M' = wAdd (okP g only) x row M := hA'
        rw [← hA'] at hR
        refine ⟨(h + 1, M', Z', lo', hi', ver'), ⟨hI', by omega, hlo', hhi', hZ', by rw [show g.length + 1 - (h + 1) = g.length - h by omega]; exact hR⟩, by dsimp only; omega, ?_⟩
        exact leB_envH (by (repeat' (first | exact trivial | refine And.intro rfl ?_))) rfl
    · rw [hto, if_pos rfl] at hR
      subst hR
      ((conv=>whnf);repeat(refine .intro rfl ?_;conv=>whnf))
      generalize hB0 : wBack M (M.length + 1) x = B
      refine pwp_ghostB (leB_nil 18 1 (by simp) rfl) ?_
      refine pwp_forH [11] (fun ((f, t, o) : Nat × Nat × List Int) => [(17, .sc (.int .i64 (atM M t))), (18, .own 2 o.length 0 o.length)]) (fun (f, t, o) => [.mapo true (mapIs Try.prog 3 (fI M)), .vec true ver 1 (i64s Z), .vec true o.length 1 (i64s o)])
        (fun (f, t, o) => t ≤ f ∧ t ≤ M.length ∧ o.length + t ≤ M.length + 1 ∧ o ++ wBack M f (atM M t) = B) (fun (f, t, o) => t) (M.length + 1, h + 1, []) ?_
      ((conv=>whnf);repeat(refine .intro rfl ?_;conv=>whnf))
      refine ⟨⟨by omega, by omega, by simp; omega, by rw [← en1]; exact hB0⟩, ⟨by show D.sc (.int .i64 x) = _; rw [en1], by (repeat' (first | exact trivial | refine And.intro rfl ?_))⟩, rfl, ?_⟩
      rintro ⟨f, t, o⟩ ⟨hf1, ht, ho, hB⟩
      ((conv=>whnf);repeat(refine .intro rfl ?_;conv=>whnf))
      (apply rd_sound; focus (repeat' constructor))
      ((conv=>whnf);repeat(refine .intro rfl ?_;conv=>whnf))
      (refine ifK_split (fun q2 => ?_) (fun q2 => ?_) <;> (rw [q2]; ((conv=>whnf);repeat(refine .intro rfl ?_;conv=>whnf))))
      · have t0 : 0 < t := by
          rcases Nat.eq_zero_or_pos t with e | e
          · subst e; simp [atM] at q2
          · exact e
        obtain ⟨t', k1, k2, k3, k4, k5⟩ := hI.up t0 ht
        have eA : atM M t = nodeM M (t - 1) := by unfold atM; rw [if_neg (by omega)]
        obtain ⟨f', rfl⟩ : ∃ f', f = f' + 1 := ⟨f - 1, by omega⟩
        rw [wBack, if_neg (by omega), k2] at hB
        have hlook : fI M (.int .i64 (atM M t)) = some (.int .i64 (atM M t')) := by rw [eA, fI_at hI.nd (by omega), k3]
        refine ⟨(by unfold sliceAppend; simp only [ll]; omega), ?_⟩
        ((conv=>whnf);repeat(refine .intro rfl ?_;conv=>whnf))
        refine ⟨fI M, rfl, hkd, hkey _ ⟨k4, k5⟩, _, hlook, ?_⟩
        ((conv=>whnf);repeat(refine .intro rfl ?_;conv=>whnf))
        refine ⟨(f', t', o ++ [atM M t]), ⟨by omega, by omega, by simp; omega, by rw [List.append_assoc]; exact hB⟩, by dsimp only; omega, ?_⟩
        dsimp only
        rw [show (o ++ [atM M t]).length = o.length + 1 by simp]
        (refine leB_close 3 (by simp) rfl ?_ ?_ <;> (repeat' (first | exact trivial | exact rfl | exact DeepM.refl _ | exact DeepML.refl _ | exact DeepMLL.refl _ | refine And.intro ?_ ?_ | (simp [Under, UnderL, UnderLL, -List.map_take, -List.map_drop]; done))))
        all_goals first | exact deepMLL_eq (i64s_snoc o _) | skip
      · have t0 : t = 0 := by
          rcases Nat.eq_zero_or_pos t with e | e
          · exact e
          · obtain ⟨t', k1, k2, k3, k4, k5⟩ := hI.up e ht
            exfalso; simp at q2; omega
        subst t0
        have hB : o = B := by
          rw [← hB]
          cases f <;> simp [wBack, atM]
        subst hB
        (refine .inr (.inr (.inl ⟨rfl, _, _, (acall_mid (reverse_int o (by omega) o.length) [.mapo true (mapIs Try.prog 3 (fI M)), .vec true ver 1 (i64s Z)] [] rfl (by simp [UnderL, Under]) (by simp [UnderO, AObj.under]) (by simp only [renL, D.ren]; rfl) rfl (by simp only [List.map_cons, List.map_nil, AObj.ren, renLL_i64e]; rfl) (by simp only [List.map_cons, List.map_nil, AObj.ren, renLL_i64e]; rfl)), ?_⟩)); ((conv=>whnf);repeat(refine .intro rfl ?_;conv=>whnf)))
        have hEE : wayE g to (okP g only) from_ = o.reverse := by
          rw [hWE]
          show (wBack M (M.length + 1) (nodeM M h)).reverse = _
          rw [hxe, hB0]
        rw [hEE]
        exact .own _ _ _ _ _ _ _ _ rfl (by rw [List.drop_zero, List.take_of_length_le (by simp [i64s])]; exact deepLL_refl _)
  · have h0 : hi = lo := by ((try simp only[oo,reduceCtorEq]at*)<;>omega)
    have hhM : ¬ h < M.length := by omega
    rw [if_neg hhM] at hR
    subst hR
    rw [hWE]
    (repeat' (first | exact Deep.refl _ | exact Deep.none _ | exact deep_row _ | exact DeepL.nil | exact DeepLL.nil | refine Deep.agg _ _ ?_ | refine Deep.tup _ _ ?_ | refine Deep.own _ _ _ _ _ _ _ _ rfl ?_ | refine Deep.loc _ _ _ _ _ rfl ?_ | refine Deep.ifc _ _ _ ?_ | refine Deep.fn _ _ _ _ _ ?_ ?_ | refine DeepL.cons _ _ _ _ ?_ ?_ | refine DeepLL.cons _ _ _ _ ?_ ?_ | exact deepLL_refl _))
set_option maxRecDepth 100000 in
theorem em_wayO (W : WorldD) (A : AutoD) (L : List Pr) (g : List (List Int)) (fr : List Int) (hn : g.length ≤ 2000000) (hin0 : ∀ l ∈ g, inB l g.length = true) (hF : FitsG g) (to : Nat → Bool) (cl : FuncId)
    (hcl : ∀ x : Int, 0 ≤ x → x < (g.length : Int) → PCall Try.prog cl [.sc (.int .i64 x), .ipt [dbl g.length to]] (.sc (.bool (to x.toNat)))) (Z0 : List Int) (v0 : Nat) (hz0 : 0 < Z0.length) (hz1 : Z0.length ≤ 1000000000000) (from_ : List Int) (hfr : from_ = [Z0.getD (Z0.length - 1) 0]) (hf : inB from_ g.length = true) (only : Int) :
    ACall Try.prog 59 [.ipt (sdat W A L g fr), .own 0 v0 (Z0.length - 1) Z0.length, .fn (.func cl) [] [.loc 1 0], dints (partsL g), .sc (.int .i64 only)] [.vec true v0 1 (i64s Z0), .row true [dbl g.length to]] (dints (wayE g to (okP g only) from_)) [.vec true v0 1 (i64s Z0), .row true [dbl g.length to]] := by
  have hp := pure_sdat W A L g fr
  have hfl : from_.length ≤ 17592186043904 := by rw [hfr]; simp
  have hkd := keyedI (P := Try.prog) Try.underlying3
  have hkey := fun x (h : 0 ≤ x ∧ x < (g.length : Int)) => keyOf_i64 (P := Try.prog) Try.underlying3 (n := x) (wf_small64 ⟨h.1, by omega⟩)
  have hUO : ∀ o ∈ [AObj.vec true v0 1 (i64s Z0), AObj.row true [dbl g.length to]], o.under 2 := by
    intro o ho
    simp only [List.mem_cons, List.not_mem_nil, or_false] at ho
    rcases ho with rfl | rfl
    · exact underLL_pure _ (pureLL_map _ (fun _ => by simp [PureL, Pure]) _)
    · exact underL_pure _ ⟨pure_dbl _ _, trivial⟩
  refine acall_introD c59_ok (by simp) (by simp) ?_ (under_pure _ (pure_dints _))
  have hWE : wayE g to (okP g only) from_ = match wRun g to (okP g only) (g.length + 1) 0 (wSt from_ []) with | some (M, h) => (wBack M (M.length + 1) (nodeM M h)).reverse | none => [] := rfl
  obtain ⟨sd, hsd⟩ : ∃ sd : D, sd = .ipt (sdat W A L g fr) := ⟨_, rfl⟩
  have hsl : PureL [sd] := by subst hsd; exact ⟨pure_ipt hp, trivial⟩
  rw [← hsd]
  (apply rd_sound; focus (repeat' constructor))
  ((conv=>whnf);repeat(refine .intro rfl ?_;conv=>whnf))
  rw [show Z0.length - (Z0.length - 1) = from_.length by rw [hfr]; simp; omega]
  refine pwp_ghostB (leB_nil 12 1 (by simp) rfl) ?_
  refine pwp_forH [0, 2, 3, 4, 11, 24, 25] (fun ((k, M) : Nat × List Pr) => [(12, .own 3 M.length 0 M.length), (26, .sc (.int .i64 k))]) (fun (k, M) => [.vec true v0 1 (i64s Z0), .row true [dbl g.length to],.mapo true (mapIs Try.prog 3 (fI M)), .vec true M.length 1 (i64s (keysM M))])
    (fun (k, M) => k ≤ from_.length ∧ WayI g (okP g only) from_ M ∧ wSt (from_.drop k) M = wSt from_ []) (fun (k, M) => from_.length - k) (0, []) ?_
  ((conv=>whnf);repeat(refine .intro rfl ?_;conv=>whnf))
  refine ⟨⟨by omega, WayI.none _ _ _, rfl⟩, by (repeat' (first | exact trivial | refine And.intro rfl ?_)), rfl, ?_⟩
  rintro ⟨k, M⟩ ⟨hk, hI, hS⟩
  have hMl := hI.len
  have hKl := keys_len M
  ((conv=>whnf);repeat(refine .intro rfl ?_;conv=>whnf))
  (apply rd_sound; focus (repeat' constructor))
  ((conv=>whnf);repeat(refine .intro rfl ?_;conv=>whnf))
  (refine ifK_split (fun q0 => ?_) (fun q0 => ?_) <;> (rw [q0]; ((conv=>whnf);repeat(refine .intro rfl ?_;conv=>whnf))))
  · have q0 : k < from_.length := by ((try simp only[oo,reduceCtorEq]at*)<;>omega)
    have hx := inB_mem hf (mem_getD q0)
    have hxm := mem_getD q0
    have hk0 : k = 0 := by
      have h1 : from_.length = 1 := by rw [hfr]; rfl
      omega
    (refine ⟨by omega, (by first | omega | (simp; done) | (simp; omega) | (simp only [ll]; omega)), ?_⟩; ((conv=>whnf);repeat(refine .intro rfl ?_;conv=>whnf)))
    refine ⟨_, intsD_at (l := Z0) (k := Z0.length - 1) (by omega) (by omega), ?_⟩
    ((conv=>whnf);repeat(refine .intro rfl ?_;conv=>whnf))
    rw [show Z0.getD (Z0.length - 1) 0 = from_.getD k 0 by rw [hfr, hk0]; rfl]
    rw [getD_drop q0, wSt] at hS
    generalize from_.getD k 0 = x at *
    refine ⟨fI M, rfl, hkd, hkey x hx, fun v hv => ?_, fun hv => ?_⟩
    · have hc : ¬ (keysM M).contains x = false := fun e => by
        have := (fI_none (contains_no e)).symm.trans hv
        cases this
      rw [if_neg hc] at hS
      ((conv=>whnf);repeat(refine .intro rfl ?_;conv=>whnf))
      (refine .inl ⟨by (unfold InR; rw [IntKind.wrap_i64]; omega), ?_⟩; ((conv=>whnf);repeat(refine .intro rfl ?_;conv=>whnf)))
      refine ⟨(k + 1, M), ⟨by omega, hI, hS⟩, by dsimp only; omega, ?_⟩
      exact leB_envH (by (repeat' (first | exact trivial | refine And.intro rfl ?_))) rfl
    · have hc : (keysM M).contains x = false := by
        cases e : (keysM M).contains x
        · rfl
        · obtain ⟨v, h⟩ := fI_yes hI.nd (List.contains_iff_mem.1 e)
          have := hv.symm.trans h
          cases this
      rw [if_pos hc] at hS
      have hI2 := hI.push hx (contains_no hc) (.inl rfl) (.inl hxm)
      ((conv=>whnf);repeat(refine .intro rfl ?_;conv=>whnf))
      refine ⟨fI M, rfl, hkd, hkey x hx, hv, ?_⟩
      ((conv=>whnf);repeat(refine .intro rfl ?_;conv=>whnf))
      refine ⟨(by unfold sliceAppend; simp only [ll]; omega), ?_⟩
      ((conv=>whnf);repeat(refine .intro rfl ?_;conv=>whnf))
      (refine .inl ⟨by (unfold InR; rw [IntKind.wrap_i64]; omega), ?_⟩; ((conv=>whnf);repeat(refine .intro rfl ?_;conv=>whnf)))
      refine ⟨(k + 1, M ++ [(x, -1)]), ⟨by omega, hI2, hS⟩, by dsimp only; omega, ?_⟩
      dsimp only
      rw [fI_snoc, show (M ++ [(x, (-1 : Int))]).length = M.length + 1 by simp]
      (refine leB_close 4 (by simp) rfl ?_ ?_ <;> (repeat' (first | exact trivial | exact rfl | exact DeepM.refl _ | exact DeepML.refl _ | exact DeepMLL.refl _ | refine And.intro ?_ ?_ | (simp [Under, UnderL, UnderLL, -List.map_take, -List.map_drop]; done))))
      all_goals first | exact under_pure _ hsl.1 | (simp; done) | (simp; done) | exact deepMLL_eq (by rw [keys_app, ← i64s_snoc, keys_len]) | skip
  have q0 : k = from_.length := by have : ¬ k < from_.length := by ((try simp only[oo,reduceCtorEq]at*)<;>omega)
                                   omega
  subst q0
  rw [List.drop_length] at hS
  have hS : M = wSt from_ [] := hS
  rw [← hS] at hWE
  generalize hRes : wRun g to (okP g only) (g.length + 1) 0 M = R at hWE
  refine pwp_forH [0, 2, 3, 4, 11] (fun ((h, M, Z, lo, hi, ver) : Nat × List Pr × List Int × Nat × Nat × Nat) => [(12, .own 3 ver lo hi)]) (fun (h, M, Z, lo, hi, ver) => [.vec true v0 1 (i64s Z0), .row true [dbl g.length to],.mapo true (mapIs Try.prog 3 (fI M)), .vec true ver 1 (i64s Z)])
    (fun (h, M, Z, lo, hi, ver) => WayI g (okP g only) from_ M ∧ h ≤ M.length ∧ lo ≤ hi ∧ hi ≤ Z.length ∧ (Z.take hi).drop lo = (keysM M).drop h ∧ wRun g to (okP g only) (g.length + 1 - h) h M = R) (fun (h, M, Z, lo, hi, ver) => g.length + 1 - h) (0, M, keysM M, 0, M.length, M.length) ?_
  ((conv=>whnf);repeat(refine .intro rfl ?_;conv=>whnf))
  refine ⟨⟨hI, by omega, by omega, by omega, by rw [List.take_of_length_le (by omega)], hRes⟩, by (repeat' (first | exact trivial | refine And.intro rfl ?_)), rfl, ?_⟩
  rintro ⟨h, M, Z, lo, hi, ver⟩ ⟨hI, hh, hlo, hhi, hZ, hR⟩
  have hMl := hI.len
  have hKl := keys_len M
  have hZl : hi - lo = M.length - h := by
    have := congrArg List.length hZ
    rw [List.length_drop, List.length_drop, List.length_take] at this
    omega
  rw [show g.length + 1 - h = (g.length - h) + 1 by omega, wRun] at hR
  ((conv=>whnf);repeat(refine .intro rfl ?_;conv=>whnf))
  (apply rd_sound; focus (repeat' constructor))
  ((conv=>whnf);repeat(refine .intro rfl ?_;conv=>whnf))
  (refine ifK_split (fun q1 => ?_) (fun q1 => ?_) <;> (rw [q1]; ((conv=>whnf);repeat(refine .intro rfl ?_;conv=>whnf))))
  · have q1 : lo < hi := by ((try simp only[oo,reduceCtorEq]at*)<;>omega)
    have hhM : h < M.length := by omega
    rw [if_pos hhM] at hR
    have hx := hI.rng _ (getD_memP hhM)
    have eN : (M.getD h (0, 0)).1 = nodeM M h := rfl
    rw [eN] at hx
    have hd : (keysM M).drop h = nodeM M h :: (keysM M).drop (h + 1) := by
      rw [List.drop_eq_getElem_cons (by omega)]
      unfold nodeM keysM
      rw [List.getElem_map, List.getD_eq_getElem?_getD, List.getElem?_eq_getElem hhM]
      rfl
    rw [headQ q1 hhi, hd] at hZ
    obtain ⟨hz1, hz2⟩ := List.cons.inj hZ
    (refine ⟨by omega, (by first | omega | (simp; done) | (simp; omega) | (simp only [ll]; omega)), ?_⟩; ((conv=>whnf);repeat(refine .intro rfl ?_;conv=>whnf)))
    refine ⟨_, intsD_at (l := Z) (k := lo) (by omega) (by omega), ?_⟩
    ((conv=>whnf);repeat(refine .intro rfl ?_;conv=>whnf))
    rw [hz1]
    refine ⟨by omega, by omega, by omega, ?_⟩
    ((conv=>whnf);repeat(refine .intro rfl ?_;conv=>whnf))
    rw [show lo + (hi - lo) = hi by omega]
    have hcx := hcl (nodeM M h) hx.1 hx.2
    have en1 : nodeM M h = atM M (h + 1) := by unfold atM; rw [if_neg (by omega)]; rfl
    generalize hxe : nodeM M h = x at *
    (refine .inr (.inl ⟨_, _, (by (repeat' (first | exact Deep.refl _ | exact Deep.none _ | exact deep_row _ | exact DeepL.nil | exact DeepLL.nil | refine Deep.agg _ _ ?_ | refine Deep.tup _ _ ?_ | refine Deep.own _ _ _ _ _ _ _ _ rfl ?_ | refine Deep.loc _ _ _ _ _ rfl ?_ | refine Deep.ifc _ _ _ ?_ | refine Deep.fn _ _ _ _ _ ?_ ?_ | refine DeepL.cons _ _ _ _ ?_ ?_ | refine DeepLL.cons _ _ _ _ ?_ ?_ | exact deepLL_refl _))), hcx, rfl, ?_⟩); ((conv=>whnf);repeat(refine .intro rfl ?_;conv=>whnf)))
    cases hto : to x.toNat
    · rw [hto, if_neg (by decide)] at hR
      ((conv=>whnf);repeat(refine .intro rfl ?_;conv=>whnf))
      subst hsd
      unfold sdat dgrid
      ((conv=>whnf);repeat(refine .intro rfl ?_;conv=>whnf))
      refine ⟨by omega, _, gridD_at (g := g) (k := x.toNat) (by omega) (by omega), ?_⟩
      ((conv=>whnf);repeat(refine .intro rfl ?_;conv=>whnf))
      rw [List.length_map]
      have hrow := fun y hy => inB_mem (inB_row hin0 x.toNat) (x := y) hy
      have hrl := hF.at x.toNat
      generalize g.getD x.toNat [] = row at *
      refine pwp_forH [0, 2, 3, 4, 11, 17, 74, 75] (fun ((k, M', Z', lo', hi', ver') : Nat × List Pr × List Int × Nat × Nat × Nat) => [(12, .own 3 ver' lo' hi'), (76, .sc (.int .i64 k))]) (fun (k, M', Z', lo', hi', ver') => [.vec true v0 1 (i64s Z0), .row true [dbl g.length to],.mapo true (mapIs Try.prog 3 (fI M')), .vec true ver' 1 (i64s Z')])
        (fun (k, M', Z', lo', hi', ver') => k ≤ row.length ∧ WayI g (okP g only) from_ M' ∧ h < M'.length ∧ nodeM M' h = x ∧ lo' ≤ hi' ∧ hi' ≤ Z'.length ∧ (Z'.take hi').drop lo' = (keysM M').drop (h + 1) ∧ wAdd (okP g only) x (row.drop k) M' = wAdd (okP g only) x row M) (fun (k, M', Z', lo', hi', ver') => row.length - k) (0, M, Z, lo + 1, hi, ver) ?_
      ((conv=>whnf);repeat(refine .intro rfl ?_;conv=>whnf))
      refine ⟨⟨by omega, hI, hhM, hxe, by omega, hhi, hz2, rfl⟩, by (repeat' (first | exact trivial | refine And.intro rfl ?_)), rfl, ?_⟩
      rintro ⟨k, M', Z', lo', hi', ver'⟩ ⟨hk, hI', hhM', hx', hlo', hhi', hZ', hA'⟩
      have hMl' := hI'.len
      have hKl' := keys_len M'
      have hZl' : hi' - lo' = M'.length - (h + 1) := by
        have := congrArg List.length hZ'
        rw [List.length_drop, List.length_drop, List.length_take] at this
        omega
      ((conv=>whnf);repeat(refine .intro rfl ?_;conv=>whnf))
      (apply rd_sound; focus (repeat' constructor))
      ((conv=>whnf);repeat(refine .intro rfl ?_;conv=>whnf))
      (refine ifK_split (fun q2 => ?_) (fun q2 => ?_) <;> (rw [q2]; ((conv=>whnf);repeat(refine .intro rfl ?_;conv=>whnf))))
      · have q2 : k < row.length := by ((try simp only[oo,reduceCtorEq]at*)<;>omega)
        have hy := hrow _ (mem_getD q2)
        refine ⟨by omega, _, intsD_at (l := row) (k := k) (by omega) q2, ?_⟩
        ((conv=>whnf);repeat(refine .intro rfl ?_;conv=>whnf))
        rw [getD_drop q2, wAdd] at hA'
        generalize row.getD k 0 = y at *
        refine ⟨fI M', rfl, hkd, hkey y hy, fun v hv => ?_, fun hv => ?_⟩
        · have hc : ¬ (keysM M').contains y = false := fun e => by
            have := (fI_none (contains_no e)).symm.trans hv
            cases this
          rw [if_neg fun q => hc q.1] at hA'
          ((conv=>whnf);repeat(refine .intro rfl ?_;conv=>whnf))
          (refine .inl ⟨by (unfold InR; rw [IntKind.wrap_i64]; omega), ?_⟩; ((conv=>whnf);repeat(refine .intro rfl ?_;conv=>whnf)))
          refine ⟨(k + 1, M', Z', lo', hi', ver'), ⟨by omega, hI', hhM', hx', hlo', hhi', hZ', hA'⟩, by dsimp only; omega, ?_⟩
          exact leB_envH (by (repeat' (first | exact trivial | refine And.intro rfl ?_))) rfl
        · have hc : (keysM M').contains y = false := by
            cases e : (keysM M').contains y
            · rfl
            · obtain ⟨v, h⟩ := fI_yes hI'.nd (List.contains_iff_mem.1 e)
              have := hv.symm.trans h
              cases this
          have eok : okP g only y.toNat = (decide (only < 0) || partsG g y.toNat == only) := rfl
          ((conv=>whnf);repeat(refine .intro rfl ?_;conv=>whnf))
          (refine ifK_split (fun r => ?_) (fun r => ?_) <;> (rw [r]; ((conv=>whnf);repeat(refine .intro rfl ?_;conv=>whnf))))
          · rw [r, Bool.true_or] at eok
            rw [if_pos ⟨hc, eok⟩] at hA'
            have hI2 := hI'.push hy (contains_no hc) (.inr ⟨h, hhM', hx'.symm⟩) (.inr eok)
            refine ⟨fI M', rfl, hkd, hkey y hy, hv, ?_⟩
            ((conv=>whnf);repeat(refine .intro rfl ?_;conv=>whnf))
            refine ⟨(by unfold sliceAppend; simp only [ll]; omega), ?_⟩
            ((conv=>whnf);repeat(refine .intro rfl ?_;conv=>whnf))
            (refine .inl ⟨by (unfold InR; rw [IntKind.wrap_i64]; omega), ?_⟩; ((conv=>whnf);repeat(refine .intro rfl ?_;conv=>whnf)))
            refine ⟨(k + 1, M' ++ [(y, x)], (Z'.take hi').drop lo' ++ [y], 0, hi' - lo' + 1, ver' + 1), ⟨by omega, hI2, by simp; omega, by rw [nodeM_old hhM']; exact hx', by omega, by simp; omega, ?_, hA'⟩, by dsimp only; omega, ?_⟩
            · rw [List.drop_zero, List.take_of_length_le (by simp; omega), hZ', keys_app, List.drop_append_of_le_length (by omega)]
            · dsimp only
              rw [fI_snoc]
              (refine leB_close 4 (by simp) rfl ?_ ?_ <;> (repeat' (first | exact trivial | exact rfl | exact DeepM.refl _ | exact DeepML.refl _ | exact DeepMLL.refl _ | refine And.intro ?_ ?_ | (simp [Under, UnderL, UnderLL, -List.map_take, -List.map_drop]; done))))
              all_goals first | exact deepMLL_eq i64s_queueW | exact underL_pure _ hp | exact underL_pure _ hcp | (simp; done) | skip
          · refine ⟨by omega, _, gl_atN y.toNat (by omega) (by omega), ?_⟩
            ((conv=>whnf);repeat(refine .intro rfl ?_;conv=>whnf))
            rw [r, Bool.false_or] at eok
            (refine ifK_split (fun r2 => ?_) (fun r2 => ?_) <;> (rw [r2]; ((conv=>whnf);repeat(refine .intro rfl ?_;conv=>whnf))))
            · have r2 : (partsG g y.toNat == only) = true := r2
              rw [r2] at eok
              rw [if_pos ⟨hc, eok⟩] at hA'
              have hI2 := hI'.push hy (contains_no hc) (.inr ⟨h, hhM', hx'.symm⟩) (.inr eok)
              refine ⟨fI M', rfl, hkd, hkey y hy, hv, ?_⟩
              ((conv=>whnf);repeat(refine .intro rfl ?_;conv=>whnf))
              refine ⟨(by unfold sliceAppend; simp only [ll]; omega), ?_⟩
              ((conv=>whnf);repeat(refine .intro rfl ?_;conv=>whnf))
              (refine .inl ⟨by (unfold InR; rw [IntKind.wrap_i64]; omega), ?_⟩; ((conv=>whnf);repeat(refine .intro rfl ?_;conv=>whnf)))
              refine ⟨(k + 1, M' ++ [(y, x)], (Z'.take hi').drop lo' ++ [y], 0, hi' - lo' + 1, ver' + 1), ⟨by omega, hI2, by simp; omega, by rw [nodeM_old hhM']; exact hx', by omega, by simp; omega, ?_, hA'⟩, by dsimp only; omega, ?_⟩
              · rw [List.drop_zero, List.take_of_length_le (by simp; omega), hZ', keys_app, List.drop_append_of_le_length (by omega)]
              · dsimp only
                rw [fI_snoc]
                (refine leB_close 4 (by simp) rfl ?_ ?_ <;> (repeat' (first | exact trivial | exact rfl | exact DeepM.refl _ | exact DeepML.refl _ | exact DeepMLL.refl _ | refine And.intro ?_ ?_ | (simp [Under, UnderL, UnderLL, -List.map_take, -List.map_drop]; done))))
                all_goals first | exact deepMLL_eq i64s_queueW | exact underL_pure _ hp | exact underL_pure _ hcp | (simp; done) | skip
            · have r2 : (partsG g y.toNat == only) = false := r2
              rw [r2] at eok
              rw [if_neg fun q => by rw [eok] at q; cases q.2] at hA'
              (refine .inl ⟨by (unfold InR; rw [IntKind.wrap_i64]; omega), ?_⟩; ((conv=>whnf);repeat(refine .intro rfl ?_;conv=>whnf)))
              refine ⟨(k + 1, M', Z', lo', hi', ver'), ⟨by omega, hI', hhM', hx', hlo', hhi', hZ', hA'⟩, by dsimp only; omega, ?_⟩
              exact leB_envH (by (repeat' (first | exact trivial | refine And.intro rfl ?_))) rfl
      · have q2 : k = row.length := by have : ¬ k < row.length := by ((try simp only[oo,reduceCtorEq]at*)<;>omega)
                                       omega
        subst q2
        rw [List.drop_length] at hA'
        have hA' : M' = wAdd (okP g only) x row M := hA'
        rw [← hA'] at hR
        refine ⟨(h + 1, M', Z', lo', hi', ver'), ⟨hI', by omega, hlo', hhi', hZ', by rw [show g.length + 1 - (h + 1) = g.length - h by omega]; exact hR⟩, by dsimp only; omega, ?_⟩
        exact leB_envH (by (repeat' (first | exact trivial | refine And.intro rfl ?_))) rfl
    · rw [hto, if_pos rfl] at hR
      subst hR
      ((conv=>whnf);repeat(refine .intro rfl ?_;conv=>whnf))
      generalize hB0 : wBack M (M.length + 1) x = B
      refine pwp_ghostB (leB_nil 18 1 (by simp) rfl) ?_
      refine pwp_forH [11] (fun ((f, t, o) : Nat × Nat × List Int) => [(17, .sc (.int .i64 (atM M t))), (18, .own 4 o.length 0 o.length)]) (fun (f, t, o) => [.vec true v0 1 (i64s Z0), .row true [dbl g.length to],.mapo true (mapIs Try.prog 3 (fI M)), .vec true ver 1 (i64s Z), .vec true o.length 1 (i64s o)])
        (fun (f, t, o) => t ≤ f ∧ t ≤ M.length ∧ o.length + t ≤ M.length + 1 ∧ o ++ wBack M f (atM M t) = B) (fun (f, t, o) => t) (M.length + 1, h + 1, []) ?_
      ((conv=>whnf);repeat(refine .intro rfl ?_;conv=>whnf))
      refine ⟨⟨by omega, by omega, by simp; omega, by rw [← en1]; exact hB0⟩, ⟨by show D.sc (.int .i64 x) = _; rw [en1], by (repeat' (first | exact trivial | refine And.intro rfl ?_))⟩, rfl, ?_⟩
      rintro ⟨f, t, o⟩ ⟨hf1, ht, ho, hB⟩
      ((conv=>whnf);repeat(refine .intro rfl ?_;conv=>whnf))
      (apply rd_sound; focus (repeat' constructor))
      ((conv=>whnf);repeat(refine .intro rfl ?_;conv=>whnf))
      (refine ifK_split (fun q2 => ?_) (fun q2 => ?_) <;> (rw [q2]; ((conv=>whnf);repeat(refine .intro rfl ?_;conv=>whnf))))
      · have t0 : 0 < t := by
          rcases Nat.eq_zero_or_pos t with e | e
          · subst e; simp [atM] at q2
          · exact e
        obtain ⟨t', k1, k2, k3, k4, k5⟩ := hI.up t0 ht
        have eA : atM M t = nodeM M (t - 1) := by unfold atM; rw [if_neg (by omega)]
        obtain ⟨f', rfl⟩ : ∃ f', f = f' + 1 := ⟨f - 1, by omega⟩
        rw [wBack, if_neg (by omega), k2] at hB
        have hlook : fI M (.int .i64 (atM M t)) = some (.int .i64 (atM M t')) := by rw [eA, fI_at hI.nd (by omega), k3]
        refine ⟨(by unfold sliceAppend; simp only [ll]; omega), ?_⟩
        ((conv=>whnf);repeat(refine .intro rfl ?_;conv=>whnf))
        refine ⟨fI M, rfl, hkd, hkey _ ⟨k4, k5⟩, _, hlook, ?_⟩
        ((conv=>whnf);repeat(refine .intro rfl ?_;conv=>whnf))
        refine ⟨(f', t', o ++ [atM M t]), ⟨by omega, by omega, by simp; omega, by rw [List.append_assoc]; exact hB⟩, by dsimp only; omega, ?_⟩
        dsimp only
        rw [show (o ++ [atM M t]).length = o.length + 1 by simp]
        (refine leB_close 5 (by simp) rfl ?_ ?_ <;> (repeat' (first | exact trivial | exact rfl | exact DeepM.refl _ | exact DeepML.refl _ | exact DeepMLL.refl _ | refine And.intro ?_ ?_ | (simp [Under, UnderL, UnderLL, -List.map_take, -List.map_drop]; done))))
        all_goals first | exact deepMLL_eq (i64s_snoc o _) | skip
      · have t0 : t = 0 := by
          rcases Nat.eq_zero_or_pos t with e | e
          · exact e
          · obtain ⟨t', k1, k2, k3, k4, k5⟩ := hI.up e ht
            exfalso; simp at q2; omega
        subst t0
        have hB : o = B := by
          rw [← hB]
          cases f <;> simp [wBack, atM]
        subst hB
        (refine .inr (.inr (.inl ⟨rfl, _, _, (acall_mid (reverse_int o (by omega) o.length) [.vec true v0 1 (i64s Z0), .row true [dbl g.length to],.mapo true (mapIs Try.prog 3 (fI M)), .vec true ver 1 (i64s Z)] [] rfl (by simp [UnderL, Under]) (by simp [UnderO, AObj.under]) (by simp only [renL, D.ren]; rfl) rfl (by simp only [List.map_cons, List.map_nil, AObj.ren, renLL_i64e]; rfl) (by simp only [List.map_cons, List.map_nil, AObj.ren, renLL_i64e]; rfl)), ?_⟩)); ((conv=>whnf);repeat(refine .intro rfl ?_;conv=>whnf)))
        have hEE : wayE g to (okP g only) from_ = o.reverse := by
          rw [hWE]
          show (wBack M (M.length + 1) (nodeM M h)).reverse = _
          rw [hxe, hB0]
        rw [hEE]
        exact ⟨.own _ _ _ _ _ _ _ _ rfl rfl (deepMLL_eq (by rw [List.drop_zero, List.take_of_length_le (by simp [i64s])]; rfl)), closeH_same _ [_, _, _] hUO⟩
  · have h0 : hi = lo := by ((try simp only[oo,reduceCtorEq]at*)<;>omega)
    have hhM : ¬ h < M.length := by omega
    rw [if_neg hhM] at hR
    subst hR
    rw [hWE]
    exact ⟨.none _, closeH_same _ [_, _] hUO⟩
end

/-! ### XEm6 -/
section
open Go.RowKit
set_option linter.unusedSimpArgs false
set_option linter.unusedVariables false
def lastE (l : List Int) : Int := l.getD (l.length - 1) 0
theorem lastE_app (l : List Int) (x : Int) : lastE (l ++ [x]) = x := by
  unfold lastE
  rw [List.length_append, List.length_singleton, Nat.add_sub_cancel, List.getD_eq_getElem?_getD, List.getElem?_append_right (Nat.le_refl _), Nat.sub_self]
  rfl
theorem lastE_mem {l : List Int} (h : l ≠ []) : lastE l ∈ l := by
  have := List.length_pos_iff.2 h
  unfold lastE
  rw [List.getD_eq_getElem?_getD, List.getElem?_eq_getElem (by omega)]
  simp
noncomputable def rndO (g : List (List Int)) (F : List (Nat → Bool)) (e : Nat) : Nat → List Int
  | 0 => [(e : Int)]
  | k + 1 => if (rndO g F e k).any (fun x => (F.getD k noT) x.toNat) = true then rndO g F e k else rndO g F e k ++ (wayE g (F.getD k noT) (okP g (partsG g e)) [lastE (rndO g F e k)]).drop 1
def toE (e : Nat) : Nat → Bool := fun k => ((k : Nat) : Int) == (e : Int)
noncomputable def thenE (g : List (List Int)) (o : List Int) (e : Nat) (k : Nat) : List Int := ((g.getD (lastE o).toNat []).take k).filter fun x => partsG g x.toNat == partsG g e
noncomputable def homeE (g : List (List Int)) (o : List Int) (e : Nat) : List Int := wayE g (toE e) (okP g (partsG g e)) (thenE g o e (g.getD (lastE o).toNat []).length)
noncomputable def rndE (g : List (List Int)) (F : List (Nat → Bool)) (e : Nat) : List Int :=
  rndO g F e F.length ++ (homeE g (rndO g F e F.length) e).take ((homeE g (rndO g F e F.length) e).length - 1)
structure RH (g : List (List Int)) (F : List (Nat → Bool)) (e : Nat) : Prop where
  he : e < g.length
  hin : ∀ l ∈ g, inB l g.length = true
  nt : Nontriv g e
  has : ∀ S ∈ F, ∃ d, d < g.length ∧ S d = true ∧ partsG g d = partsG g e
theorem okP_iff {g : List (List Int)} {e v : Nat} (he : e < g.length) : okP g (partsG g e) v = true ↔ partsG g v = partsG g e := by
  have := (parts_lt he).1
  unfold okP
  rw [decide_eq_false (show ¬ partsG g e < 0 by omega), Bool.false_or, beq_iff_eq]
theorem hin_lt {g : List (List Int)} (hin : ∀ l ∈ g, inB l g.length = true) (v : Nat) (x : Int) (hx : x ∈ g.getD v []) : 0 ≤ x ∧ x.toNat < g.length := by
  have := inB_mem (inB_row hin v) hx; omega
theorem to_lt2 {g : List (List Int)} (hin : ∀ l ∈ g, inB l g.length = true) {u v : Nat} (hu : u < g.length) (h : To g u v) : v < g.length := to_lt (fun v x hx => (hin_lt hin v x hx).2) hu h
theorem part_to {g : List (List Int)} (hin : ∀ l ∈ g, inB l g.length = true) {e a b : Nat} (he : e < g.length) (ha : a < g.length) (hb : b < g.length) (h1 : partsG g a = partsG g e) (h2 : partsG g b = partsG g e) : To (resO g (okP g (partsG g e))) a b := by
  obtain ⟨m1, m2⟩ := mutB_iff.1 ((parts_eq ha hb).1 (h1.trans h2.symm))
  have key : ∀ v, To g a v → To g v a → To (resO g (okP g (partsG g e))) a v := by
    intro v hv
    induction hv with
    | base m => intro _; exact .base m
    | step k hx ih =>
      rename_i u x
      intro hba
      have hu := ih (to_trans (to_edge hx) hba)
      refine .step hu (resO_mem.2 ⟨hx, (okP_iff he).2 ?_⟩)
      have hul := to_lt2 hin ha k
      have hxl := (hin_lt hin u x hx).2
      rw [(parts_eq hxl ha).2 (mutB_iff.2 ⟨hba, .step k hx⟩), h1]
  exact key b m1 m2
structure RndOk (g : List (List Int)) (e : Nat) (o : List Int) : Prop where
  ne : o ≠ []
  rng : inB o g.length = true
  last : partsG g (lastE o).toNat = partsG g e
theorem RndOk.lt {g : List (List Int)} {e : Nat} {o : List Int} (h : RndOk g e o) : 0 ≤ lastE o ∧ lastE o < (g.length : Int) := inB_mem h.rng (lastE_mem h.ne)
theorem inB_append {l m : List Int} {n : Nat} (h : inB l n = true) (k : inB m n = true) : inB (l ++ m) n = true := inB_of fun x hx => (List.mem_append.1 hx).elim (inB_mem h) (inB_mem k)
theorem RndOk.way {g : List (List Int)} {F : List (Nat → Bool)} {e : Nat} {o : List Int} (H : RH g F e) (h : RndOk g e o) {S : Nat → Bool} (hS : S ∈ F) :
    RndOk g e (o ++ (wayE g S (okP g (partsG g e)) [lastE o]).drop 1) ∧ (wayE g S (okP g (partsG g e)) [lastE o]) ≠ [] ∧ (wayE g S (okP g (partsG g e)) [lastE o]).length ≤ g.length := by
  have hl := h.lt
  obtain ⟨w1, w2, w3⟩ := wayE_ok H.hin S (okP g (partsG g e)) (from_ := [lastE o]) (inB_of fun x hx => by rw [List.mem_singleton] at hx; subst hx; exact hl)
  obtain ⟨d, d1, d2, d3⟩ := H.has S hS
  obtain ⟨init, last, e1, e2, e3⟩ := w3 ⟨lastE o, by simp, d, part_to H.hin H.he (by omega) d1 h.last d3, d2⟩
  refine ⟨⟨by simp [h.ne], inB_append h.rng (inB_of fun x hx => inB_mem w1 (List.mem_of_mem_drop hx)), ?_⟩, by rw [e1]; simp, w2⟩
  cases init with
  | nil => rw [e1]; simp [h.last]
  | cons a r =>
    rw [e1, List.cons_append, List.drop_succ_cons, List.drop_zero, ← List.append_assoc, lastE_app]
    rcases e3 with q | q
    · rw [List.mem_singleton] at q; rw [q]; exact h.last
    · exact (okP_iff H.he).1 q
theorem rnd_ok {g : List (List Int)} {F : List (Nat → Bool)} {e : Nat} (H : RH g F e) : ∀ k, k ≤ F.length → RndOk g e (rndO g F e k) ∧ (rndO g F e k).length ≤ 1 + k * g.length
  | 0, _ => by
    have := H.he
    exact ⟨⟨by simp [rndO], inB_of fun x hx => by simp [rndO] at hx; omega, by simp [rndO, lastE]⟩, by simp [rndO]⟩
  | k + 1, hk => by
    obtain ⟨h1, h2⟩ := rnd_ok H k (by omega)
    rw [rndO]
    have : (k + 1) * g.length = k * g.length + g.length := by rw [Nat.add_mul, Nat.one_mul]
    split
    · exact ⟨h1, by omega⟩
    · have hS : F.getD k noT ∈ F := by rw [List.getD_eq_getElem?_getD, List.getElem?_eq_getElem (show k < F.length by omega)]; simp
      obtain ⟨a, b, c⟩ := h1.way H hS
      refine ⟨a, ?_⟩
      rw [List.length_append, List.length_drop]
      omega
theorem RndOk.home {g : List (List Int)} {F : List (Nat → Bool)} {e : Nat} {o : List Int} (H : RH g F e) (h : RndOk g e o) : inB (thenE g o e (g.getD (lastE o).toNat []).length) g.length = true ∧ homeE g o e ≠ [] ∧ inB (homeE g o e) g.length = true ∧ (homeE g o e).length ≤ g.length := by
  have hl := h.lt
  have hT : inB (thenE g o e (g.getD (lastE o).toNat []).length) g.length = true := inB_of fun x hx => inB_mem (inB_row H.hin _) (List.mem_of_mem_take (List.mem_filter.1 hx).1)
  obtain ⟨w1, w2, w3⟩ := wayE_ok H.hin (toE e) (okP g (partsG g e)) hT
  have hlt : (lastE o).toNat < g.length := by omega
  obtain ⟨m1, m2⟩ := mutB_iff.1 ((parts_eq hlt H.he).1 h.last)
  obtain ⟨x, x1, x2⟩ := nontriv_mut H.nt m2 m1
  have hx := hin_lt H.hin _ x x1
  have hpx : partsG g x.toNat = partsG g e := by rw [(parts_eq hx.2 hlt).2 (mutB_iff.2 ⟨x2, to_edge x1⟩), h.last]
  obtain ⟨init, last, e1, _, _⟩ := w3 ⟨x, List.mem_filter.2 ⟨by rw [List.take_length]; exact x1, by rw [hpx]; simp⟩, e, part_to H.hin H.he hx.2 H.he hpx rfl, by simp [toE]⟩
  exact ⟨hT, by unfold homeE; rw [e1]; simp, w1, w2⟩
theorem rndE_ok {g : List (List Int)} {F : List (Nat → Bool)} {e : Nat} (H : RH g F e) : inB (rndE g F e) g.length = true ∧ (rndE g F e).length ≤ 1 + F.length * g.length + g.length := by
  obtain ⟨h1, h2⟩ := rnd_ok H F.length (Nat.le_refl _)
  obtain ⟨_, _, h4, h5⟩ := h1.home H
  refine ⟨inB_append h1.rng (inB_of fun x hx => inB_mem h4 (List.mem_of_mem_take hx)), ?_⟩
  unfold rndE
  rw [List.length_append, List.length_take]
  omega
end

/-! ### XEm7 -/
section
open Go.RowKit
set_option linter.unusedSimpArgs false
set_option linter.unusedVariables false
theorem i64s_tail (o l : List Int) (a b : Nat) : List.drop 0 (List.take o.length (i64s o)) ++ List.drop a (List.take b (i64s l)) = i64s (o ++ (l.take b).drop a) := by
  rw [drop_take_all (by simp [i64s])]
  simp [i64s, List.map_drop, List.map_take]
theorem pure_i64s' (l : List Int) : PureLL (i64s l) := pureLL_map _ (fun _ => by simp [PureL, Pure]) l
def c112 : PC := .seq (.ops [⟨some 3,.move (.const (.bool false)),none,0⟩] false) (.seq (.ops [⟨some 4,.load1 (.tmp 1),none,0⟩,
 ⟨some 5,.move (.tmp 0),none,0⟩,
 ⟨some 6,.iaddr 1 (.tmp 4) (.tmp 5),none,0⟩,
 ⟨some 7,.load1 (.tmp 6),none,0⟩,
 ⟨some 3,.move (.tmp 7),none,0⟩] false) (.ret))
set_option maxRecDepth 100000 in
theorem c112_ok : FunOK Try.prog 112 8 [.tmp 3] c112 := ⟨⟨Try.f112, Try.func112, rfl, by kernel_rfl, rfl, by kernel_rfl⟩⟩
theorem em_pick1 (n : Nat) (S : Nat → Bool) (x : Int) (h0 : 0 ≤ x) (hx : x < (n : Int)) : PCall Try.prog 112 [.sc (.int .i64 x), .ipt [dbl n S]] (.sc (.bool (S x.toNat))) := by
  refine pcall_intro c112_ok (by simp) (by simp [PureL, Pure, pure_dbl]) ?_ (by simp [Pure])
  unfold dbl
  (apply rd_sound; focus (repeat' constructor))
  ((conv=>whnf);repeat(refine .intro rfl ?_;conv=>whnf))
  refine ⟨by omega, _, rbl_atN x.toNat (by omega) (by omega), ?_⟩
  ((conv=>whnf);repeat(refine .intro rfl ?_;conv=>whnf))
  exact .refl _
def c113 : PC := .seq (.ops [⟨some 3,.move (.const (.bool false)),none,0⟩] false) (.seq (.ops [⟨some 4,.load1 (.tmp 1),none,0⟩,
 ⟨some 5,.move (.tmp 0),none,0⟩,
 ⟨some 6,.iaddr 1 (.tmp 4) (.tmp 5),none,0⟩,
 ⟨some 7,.load1 (.tmp 6),none,0⟩,
 ⟨some 3,.move (.tmp 7),none,0⟩] false) (.ret))
set_option maxRecDepth 100000 in
theorem c113_ok : FunOK Try.prog 113 8 [.tmp 3] c113 := ⟨⟨Try.f113, Try.func113, rfl, by kernel_rfl, rfl, by kernel_rfl⟩⟩
theorem em_pick2 (n : Nat) (S : Nat → Bool) (x : Int) (h0 : 0 ≤ x) (hx : x < (n : Int)) : PCall Try.prog 113 [.sc (.int .i64 x), .ipt [dbl n S]] (.sc (.bool (S x.toNat))) := by
  refine pcall_intro c113_ok (by simp) (by simp [PureL, Pure, pure_dbl]) ?_ (by simp [Pure])
  unfold dbl
  (apply rd_sound; focus (repeat' constructor))
  ((conv=>whnf);repeat(refine .intro rfl ?_;conv=>whnf))
  refine ⟨by omega, _, rbl_atN x.toNat (by omega) (by omega), ?_⟩
  ((conv=>whnf);repeat(refine .intro rfl ?_;conv=>whnf))
  exact .refl _
def c114 : PC := .seq (.ops [⟨some 3,.move (.const (.bool false)),none,0⟩] false) (.seq (.ops [⟨some 4,.move (.tmp 0),none,0⟩,
 ⟨some 5,.load1 (.tmp 1),none,0⟩,
 ⟨some 6,.bin .eql (.tmp 4) (.tmp 5),none,0⟩,
 ⟨some 3,.move (.tmp 6),none,0⟩] false) (.ret))
set_option maxRecDepth 100000 in
theorem c114_ok : FunOK Try.prog 114 7 [.tmp 3] c114 := ⟨⟨Try.f114, Try.func114, rfl, by kernel_rfl, rfl, by kernel_rfl⟩⟩
theorem em_here (e : Nat) (x : Int) (h0 : 0 ≤ x) : PCall Try.prog 114 [.sc (.int .i64 x), .ipt [.sc (.int .i64 e)]] (.sc (.bool (toE e x.toNat))) := by
  refine pcall_intro c114_ok (by simp) (by simp [PureL, Pure]) ?_ (by simp [Pure])
  (apply rd_sound; focus (repeat' constructor))
  ((conv=>whnf);repeat(refine .intro rfl ?_;conv=>whnf))
  exact deep_eq (by unfold toE; rw [Int.toNat_of_nonneg h0])
def c60 : PC := .seq (.ops [⟨some 4,.move (.const (.bool false)),none,0⟩] false) (.seq (.ops [⟨some 5,.load1 (.tmp 1),none,0⟩,
 ⟨some 6,.move (.tmp 0),none,0⟩,
 ⟨some 7,.iaddr 1 (.tmp 5) (.tmp 6),none,3⟩,
 ⟨some 8,.load1 (.tmp 7),none,7⟩,
 ⟨some 9,.load1 (.tmp 2),none,0⟩,
 ⟨some 10,.bin .eql (.tmp 8) (.tmp 9),none,31⟩,
 ⟨some 4,.move (.tmp 10),none,63⟩] true) (.ret))
set_option maxRecDepth 100000 in
theorem c60_ok : FunOK Try.prog 60 11 [.tmp 4] c60 := ⟨⟨Try.f60, Try.func60, rfl, by kernel_rfl, rfl, by kernel_rfl⟩⟩
theorem em_inpart (g : List (List Int)) (p : Int) (x : Int) (h0 : 0 ≤ x) (hx : x < (g.length : Int)) : PCall Try.prog 60 [.sc (.int .i64 x), .ipt [dints (partsL g)], .ipt [.sc (.int .i64 p)]] (.sc (.bool (partsG g x.toNat == p))) := by
  refine pcall_intro c60_ok (by simp) (by simp [PureL, Pure, pure_dints]) ?_ (by simp [Pure])
  unfold partsL dints
  (apply rd_sound; focus (repeat' constructor))
  ((conv=>whnf);repeat(refine .intro rfl ?_;conv=>whnf))
  refine ⟨by omega, _, gl_atN x.toNat (by omega) (by omega), ?_⟩
  ((conv=>whnf);repeat(refine .intro rfl ?_;conv=>whnf))
  exact .refl _
theorem thenE_succ {g : List (List Int)} {o : List Int} {e k : Nat} (h : k < (g.getD (lastE o).toNat []).length) : thenE g o e (k + 1) = if (partsG g ((g.getD (lastE o).toNat []).getD k 0).toNat == partsG g e) = true then thenE g o e k ++ [(g.getD (lastE o).toNat []).getD k 0] else thenE g o e k := by
  unfold thenE
  rw [List.take_add_one, List.getElem?_eq_getElem h, List.filter_append, List.getD_eq_getElem?_getD (l := g.getD (lastE o).toNat []), List.getElem?_eq_getElem h]
  simp only [Option.toList_some, Option.getD_some, List.filter_cons, List.filter_nil]
  split <;> simp
theorem thenE_len (g : List (List Int)) (o : List Int) (e k : Nat) : (thenE g o e k).length ≤ k := Nat.le_trans (List.length_filter_le _ _) (by simp; omega)
def c61_1 : PC := .seq (.ops [⟨some 27,.bin .lss (.tmp 26) (.tmp 25),none,0⟩] false) (.seq (.cond (.tmp 27) (.skip) (.exit 0)) (.seq (.block 1 (.seq (.ops [⟨some 28,.iaddr 1 (.tmp 24) (.tmp 26),none,0⟩,
 ⟨some 29,.load1 (.tmp 28),none,0⟩,
 ⟨some 12,.alloc [(.slice none 0 0)],none,0⟩,
 ⟨none,.store 1 (.tmp 12) (.tmp 29),none,0⟩] false) (.seq (.seq (.ops [⟨some 30,.move (.tmp 10),none,0⟩,
 ⟨some 31,.mkfn (.func 112) [] [(.tmp 12)],none,0⟩,
 ⟨some 32,.call 93 [(.tmp 30), (.tmp 31)],none,0⟩] false) (.cond (.tmp 32) (.exit 1) (.skip))) (.seq (.ops [⟨some 33,.move (.tmp 0),none,0⟩,
 ⟨some 34,.move (.tmp 10),none,0⟩,
 ⟨some 35,.move (.tmp 10),none,0⟩,
 ⟨some 36,.len (.tmp 35),none,0⟩,
 ⟨some 37,.bin .sub (.tmp 36) (.const (.int .i64 1)),none,0⟩,
 ⟨some 38,.slc 1 (.tmp 34) (some (.tmp 37)) none none,none,0⟩,
 ⟨some 39,.mkfn (.func 113) [] [(.tmp 12)],none,0⟩,
 ⟨some 40,.move (.tmp 2),none,0⟩,
 ⟨some 41,.move (.tmp 9),none,0⟩,
 ⟨some 42,.call 59 [(.tmp 33), (.tmp 38), (.tmp 39), (.tmp 40), (.tmp 41)],none,0⟩,
 ⟨some 13,.move (.tmp 42),none,0⟩] false) (.ops [⟨some 43,.move (.tmp 10),none,0⟩,
 ⟨some 44,.move (.tmp 13),none,0⟩,
 ⟨some 45,.slc 1 (.tmp 44) (some (.const (.int .i64 1))) none none,none,0⟩,
 ⟨some 46,.append 1 8 (.tmp 43) (.tmp 45),none,0⟩,
 ⟨some 10,.move (.tmp 46),none,0⟩] false))))) (.ops [⟨some 47,.bin .add (.tmp 26) (.const (.int .i64 1)),none,0⟩,
 ⟨some 26,.move (.tmp 47),none,0⟩] false)))
def c61_2 : PC := .seq (.ops [⟨some 62,.bin .lss (.tmp 61) (.tmp 60),none,0⟩] false) (.seq (.cond (.tmp 62) (.skip) (.exit 2)) (.seq (.block 3 (.seq (.ops [⟨some 63,.iaddr 1 (.tmp 59) (.tmp 61),none,0⟩,
 ⟨some 64,.load1 (.tmp 63),none,0⟩,
 ⟨some 16,.move (.tmp 64),none,0⟩] false) (.seq (.ops [⟨some 65,.move (.tmp 2),none,0⟩,
 ⟨some 66,.move (.tmp 16),none,0⟩,
 ⟨some 67,.iaddr 1 (.tmp 65) (.tmp 66),none,0⟩,
 ⟨some 68,.load1 (.tmp 67),none,0⟩,
 ⟨some 69,.move (.tmp 9),none,0⟩,
 ⟨some 70,.bin .eql (.tmp 68) (.tmp 69),none,0⟩] false) (.cond (.tmp 70) (.ops [⟨some 71,.move (.tmp 14),none,0⟩,
 ⟨some 72,.move (.tmp 16),none,0⟩,
 ⟨some 73,.bslice 1 1 [(.tmp 72)],none,0⟩,
 ⟨some 74,.append 1 8 (.tmp 71) (.tmp 73),none,0⟩,
 ⟨some 14,.move (.tmp 74),none,0⟩] false) (.skip))))) (.ops [⟨some 75,.bin .add (.tmp 61) (.const (.int .i64 1)),none,0⟩,
 ⟨some 61,.move (.tmp 75),none,0⟩] false)))
def c61 : PC := .seq (.ops [⟨some 5,.box (.tmp 1),none,0⟩,
 ⟨some 8,.move (.const (.slice none 0 0)),none,0⟩] false) (.seq (.ops [⟨some 18,.move (.tmp 2),none,0⟩,
 ⟨some 19,.load1 (.tmp 5),none,0⟩,
 ⟨some 20,.iaddr 1 (.tmp 18) (.tmp 19),none,0⟩,
 ⟨some 21,.load1 (.tmp 20),none,0⟩,
 ⟨some 9,.move (.tmp 21),none,0⟩] false) (.seq (.ops [⟨some 22,.load1 (.tmp 5),none,0⟩,
 ⟨some 23,.bslice 1 1 [(.tmp 22)],none,0⟩,
 ⟨some 10,.move (.tmp 23),none,0⟩] false) (.seq (.seq (.ops [⟨some 24,.move (.tmp 3),none,0⟩,
 ⟨some 25,.len (.tmp 24),none,0⟩,
 ⟨some 26,.move (.const (.int .i64 0)),none,0⟩] false) (.block 0 (.loop c61_1))) (.seq (.ops [⟨some 14,.move (.const (.slice none 0 0)),none,0⟩] false) (.seq (.seq (.ops [⟨some 48,.move (.tmp 0),none,0⟩,
 ⟨some 49,.nilchk (.tmp 48),none,1⟩,
 ⟨some 50,.faddr 11 (.tmp 49),none,3⟩,
 ⟨some 51,.load1 (.tmp 50),none,7⟩,
 ⟨some 52,.move (.tmp 10),none,0⟩,
 ⟨some 53,.move (.tmp 10),none,0⟩,
 ⟨some 54,.len (.tmp 53),none,32⟩,
 ⟨some 55,.bin .sub (.tmp 54) (.const (.int .i64 1)),none,96⟩,
 ⟨some 56,.iaddr 1 (.tmp 52) (.tmp 55),none,240⟩,
 ⟨some 57,.load1 (.tmp 56),none,496⟩,
 ⟨some 58,.iaddr 1 (.tmp 51) (.tmp 57),none,1023⟩,
 ⟨some 59,.load1 (.tmp 58),none,2047⟩,
 ⟨some 60,.len (.tmp 59),none,4095⟩,
 ⟨some 61,.move (.const (.int .i64 0)),none,0⟩] true) (.block 2 (.loop c61_2))) (.seq (.ops [⟨some 76,.move (.tmp 0),none,0⟩,
 ⟨some 77,.move (.tmp 14),none,0⟩,
 ⟨some 78,.mkfn (.func 114) [] [(.tmp 5)],none,0⟩,
 ⟨some 79,.move (.tmp 2),none,0⟩,
 ⟨some 80,.move (.tmp 9),none,0⟩,
 ⟨some 81,.call 59 [(.tmp 76), (.tmp 77), (.tmp 78), (.tmp 79), (.tmp 80)],none,0⟩,
 ⟨some 17,.move (.tmp 81),none,0⟩] false) (.seq (.ops [⟨some 82,.move (.tmp 10),none,0⟩,
 ⟨some 83,.move (.tmp 17),none,0⟩,
 ⟨some 84,.move (.tmp 17),none,0⟩,
 ⟨some 85,.len (.tmp 84),none,0⟩,
 ⟨some 86,.bin .sub (.tmp 85) (.const (.int .i64 1)),none,0⟩,
 ⟨some 87,.slc 1 (.tmp 83) none (some (.tmp 86)) none,none,0⟩,
 ⟨some 88,.append 1 8 (.tmp 82) (.tmp 87),none,0⟩,
 ⟨some 8,.move (.tmp 88),none,0⟩] false) (.ret))))))))
set_option maxRecDepth 100000 in
theorem c61_ok : FunOK Try.prog 61 89 [.tmp 8] c61 := ⟨⟨Try.f61, Try.func61, rfl, by kernel_rfl, rfl, by kernel_rfl⟩⟩
set_option maxRecDepth 100000 in
theorem em_round (W : WorldD) (A : AutoD) (L : List Pr) (g : List (List Int)) (fr : List Int) (hn : g.length ≤ 2000000) (hF : FitsG g) (F : List (Nat → Bool)) (hFl : F.length ≤ 1000) (e : Nat) (H : RH g F e) :
    PCall Try.prog 61 [.ipt (sdat W A L g fr), .sc (.int .i64 e), dints (partsL g), dbls g.length F] (dints (rndE g F e)) := by
  have hp := pure_sdat W A L g fr
  have he := H.he
  have hpe := parts_lt he
  refine pcall_intro c61_ok (by simp) (by simp [PureL, Pure, pure_dints, hp, pure_dbls]) ?_ (pure_dints _)
  obtain ⟨sd, hsd⟩ : ∃ sd : D, sd = .ipt (sdat W A L g fr) := ⟨_, rfl⟩
  have hsl : PureL [sd] := by subst hsd; exact ⟨pure_ipt hp, trivial⟩
  have hsr : ∀ ρ, D.ren ρ sd = sd := fun ρ => ren_pure _ hsl.1
  rw [← hsd]
  unfold dbls
  (apply rd_sound; focus (repeat' constructor))
  ((conv=>whnf);repeat(refine .intro rfl ?_;conv=>whnf))
  refine ⟨by omega, _, gl_atN e (by omega) he, ?_⟩
  ((conv=>whnf);repeat(refine .intro rfl ?_;conv=>whnf))
  rw [List.length_map]
  refine pwp_forH [0, 2, 5, 9, 24, 25] (fun ((k, ver) : Nat × Nat) => [(10, .own 1 ver 0 (rndO g F e k).length), (26, .sc (.int .i64 k))]) (fun (k, ver) => [.row true [.sc (.int .i64 e)], .vec true ver 1 (i64s (rndO g F e k))]) (fun (k, ver) => k ≤ F.length) (fun (k, ver) => F.length - k) (0, 0) ?_
  ((conv=>whnf);repeat(refine .intro rfl ?_;conv=>whnf))
  refine ⟨by omega, by (repeat' (first | exact trivial | refine And.intro rfl ?_)), rfl, ?_⟩
  rintro ⟨k, ver⟩ hk
  obtain ⟨hO, hOl⟩ := rnd_ok H k hk
  have hOl2 : (rndO g F e k).length ≤ 4000000000 := by
    have := Nat.mul_le_mul (show k ≤ 1000 by omega) hn
    omega
  have hOn := List.length_pos_iff.2 hO.ne
  have eR : rndO g F e (k + 1) = if (rndO g F e k).any (fun x => (F.getD k noT) x.toNat) = true then rndO g F e k else rndO g F e k ++ (wayE g (F.getD k noT) (okP g (partsG g e)) [lastE (rndO g F e k)]).drop 1 := rfl
  ((conv=>whnf);repeat(refine .intro rfl ?_;conv=>whnf))
  (apply rd_sound; focus (repeat' constructor))
  ((conv=>whnf);repeat(refine .intro rfl ?_;conv=>whnf))
  (refine ifK_split (fun q0 => ?_) (fun q0 => ?_) <;> (rw [q0]; ((conv=>whnf);repeat(refine .intro rfl ?_;conv=>whnf))))
  · have q0 : k < F.length := by ((try simp only[oo,reduceCtorEq]at*)<;>omega)
    have hS : F.getD k noT ∈ F := by rw [List.getD_eq_getElem?_getD, List.getElem?_eq_getElem q0]; simp
    refine ⟨by omega, _, dbls_at (n := g.length) (F := F) (k := k) (by omega) q0, ?_⟩
    obtain ⟨_, hw2, hw3⟩ := hO.way H hS
    generalize F.getD k noT = S at *
    ((conv=>whnf);repeat(refine .intro rfl ?_;conv=>whnf))
    generalize hoe : rndO g F e k = o at *
    have hC := containsF_int (fun n => .sc (.int .i64 n)) (fun a => by simp [Pure]) o (by omega) (fun x => S x.toNat) 112 [.ipt [dbl g.length S]] (by simp [PureL, Pure, pure_dbl]) fun a ha => em_pick1 g.length S a (inB_mem hO.rng ha).1 (inB_mem hO.rng ha).2
    rw [show (o.map fun n => [D.sc (.int .i64 n)]) = List.drop 0 (List.take o.length (i64s o)) from (drop_take_all (by simp [i64s])).symm] at hC
    (refine .inr (.inl ⟨_, _, (by (repeat' (first | exact Deep.refl _ | exact Deep.none _ | exact deep_row _ | exact DeepL.nil | exact DeepLL.nil | refine Deep.agg _ _ ?_ | refine Deep.tup _ _ ?_ | refine Deep.own _ _ _ _ _ _ _ _ rfl ?_ | refine Deep.loc _ _ _ _ _ rfl ?_ | refine Deep.ifc _ _ _ ?_ | refine Deep.fn _ _ _ _ _ ?_ ?_ | refine DeepL.cons _ _ _ _ ?_ ?_ | refine DeepLL.cons _ _ _ _ ?_ ?_ | exact deepLL_refl _))), hC, rfl, ?_⟩); ((conv=>whnf);repeat(refine .intro rfl ?_;conv=>whnf)))
    cases r : o.any (fun x => S x.toNat)
    · rw [r, if_neg (by decide)] at eR
      ((conv=>whnf);repeat(refine .intro rfl ?_;conv=>whnf))
      (refine .inl ⟨by (unfold InR; rw [IntKind.wrap_i64]; omega), ?_⟩; ((conv=>whnf);repeat(refine .intro rfl ?_;conv=>whnf)))
      refine ⟨by omega, by omega, by omega, ?_⟩
      ((conv=>whnf);repeat(refine .intro rfl ?_;conv=>whnf))
      have hWy := em_wayO W A L g fr hn H.hin hF S 113 (fun x h1 h2 => em_pick2 g.length S x h1 h2) o ver hOn (by omega) [lastE o] rfl (inB_of fun x hx => by rw [List.mem_singleton] at hx; subst hx; exact hO.lt) (partsG g e)
      rw [← hsd] at hWy
      generalize wayE g S (okP g (partsG g e)) [lastE o] = l at *
      have hln := List.length_pos_iff.2 hw2
      rw [show 0 + (((o.length - 0 : Nat) : Int) - 1).toNat = o.length - 1 by omega, show 0 + (o.length - 0) = o.length by omega]
      (refine .inr (.inr (.inl ⟨rfl, _, _, (acall_mid hWy [.row true [.sc (.int .i64 e)]] [] rfl (by simp [UnderL, Under, under_pure _ hsl.1]) ⟨underLL_pure _ (pure_i64s' _), underL_pure _ ⟨pure_dbl _ _, trivial⟩, trivial⟩ (by simp only [renL, D.ren, hsr, ren_dints]; rfl) (ren_dints _) (by simp only [List.map_cons, List.map_nil, AObj.ren, renLL_i64e, renL, ren_pure _ (pure_dbl _ _)]; rfl) (by simp only [List.map_cons, List.map_nil, AObj.ren, renLL_i64e, renL, ren_pure _ (pure_dbl _ _)]; rfl)), ?_⟩)); ((conv=>whnf);repeat(refine .intro rfl ?_;conv=>whnf)))
      rw [List.length_map]
      refine ⟨by omega, by omega, by omega, ?_⟩
      ((conv=>whnf);repeat(refine .intro rfl ?_;conv=>whnf))
      refine ⟨(by unfold sliceAppend; simp only [ll]; omega), ?_⟩
      ((conv=>whnf);repeat(refine .intro rfl ?_;conv=>whnf))
      (refine .inl ⟨by (unfold InR; rw [IntKind.wrap_i64]; omega), ?_⟩; ((conv=>whnf);repeat(refine .intro rfl ?_;conv=>whnf)))
      refine ⟨(k + 1, ver + 1), by omega, by dsimp only; omega, ?_⟩
      dsimp only
      rw [eR]
      have hle : (o ++ l.drop 1).length = o.length + (l.length - 1) := by rw [List.length_append, List.length_drop]
      rw [hle, show (List.drop (Int.toNat 1) (List.take l.length (List.map (fun n => [D.sc (Value.int .i64 n)]) l))).length = l.length - 1 by simp]
      (refine leB_close 2 (by simp) rfl ?_ ?_ <;> (repeat' (first | exact trivial | exact rfl | exact DeepM.refl _ | exact DeepML.refl _ | exact DeepMLL.refl _ | refine And.intro ?_ ?_ | (simp [Under, UnderL, UnderLL, -List.map_take, -List.map_drop]; done))))
      all_goals first | exact under_pure _ hsl.1 | exact underLL_pure _ (pureLL_map _ (fun S => by simp [PureL, pure_dbl]) F) | exact deepMLL_eq (by have := i64s_tail o l 1 l.length; rw [List.take_length] at this; exact this) | skip
    · rw [r, if_pos rfl] at eR
      ((conv=>whnf);repeat(refine .intro rfl ?_;conv=>whnf))
      (refine .inl ⟨by (unfold InR; rw [IntKind.wrap_i64]; omega), ?_⟩; ((conv=>whnf);repeat(refine .intro rfl ?_;conv=>whnf)))
      refine ⟨(k + 1, ver), by omega, by dsimp only; omega, ?_⟩
      dsimp only
      rw [eR]
      (refine leB_close 2 (by simp) rfl ?_ ?_ <;> (repeat' (first | exact trivial | exact rfl | exact DeepM.refl _ | exact DeepML.refl _ | exact DeepMLL.refl _ | refine And.intro ?_ ?_ | (simp [Under, UnderL, UnderLL, -List.map_take, -List.map_drop]; done))))
      all_goals first | exact under_pure _ hsl.1 | exact underLL_pure _ (pureLL_map _ (fun S => by simp [PureL, pure_dbl]) F) | skip
  · have q0 : k = F.length := by have : ¬ k < F.length := by ((try simp only[oo,reduceCtorEq]at*)<;>omega)
                                 omega
    subst q0
    have eE : rndE g F e = rndO g F e F.length ++ (homeE g (rndO g F e F.length) e).take ((homeE g (rndO g F e F.length) e).length - 1) := rfl
    subst hsd
    unfold sdat dgrid
    ((conv=>whnf);repeat(refine .intro rfl ?_;conv=>whnf))
    obtain ⟨ht1, hh1, hh2, hh3⟩ := hO.home H
    have hlt := hO.lt
    (refine .inl ⟨by (unfold InR; rw [IntKind.wrap_i64]; omega), ?_⟩; ((conv=>whnf);repeat(refine .intro rfl ?_;conv=>whnf)))
    (refine ⟨by omega, (by first | omega | (simp; done) | (simp; omega) | (simp only [ll]; omega)), ?_⟩; ((conv=>whnf);repeat(refine .intro rfl ?_;conv=>whnf)))
    generalize hoe : rndO g F e F.length = o at *
    refine ⟨_, intsD_at (l := o) (k := o.length - 1) (by omega) (by omega), ?_⟩
    ((conv=>whnf);repeat(refine .intro rfl ?_;conv=>whnf))
    rw [show o.getD (o.length - 1) 0 = lastE o from rfl]
    refine ⟨by omega, _, gridD_at (g := g) (k := (lastE o).toNat) (by omega) (by omega), ?_⟩
    ((conv=>whnf);repeat(refine .intro rfl ?_;conv=>whnf))
    rw [List.length_map]
    have hrl := hF.at (lastE o).toNat
    have eT := fun k hk => thenE_succ (g := g) (o := o) (e := e) (k := k) hk
    have hTl := fun k => thenE_len g o e k
    have hrow := fun y hy => inB_mem (inB_row H.hin (lastE o).toNat) (x := y) hy
    have hhE : homeE g o e = wayE g (toE e) (okP g (partsG g e)) (thenE g o e (g.getD (lastE o).toNat []).length) := rfl
    have hT0 : thenE g o e 0 = [] := by simp [thenE]
    generalize g.getD (lastE o).toNat [] = row at *
    generalize thenE g o e = T at *
    refine pwp_ghostB (leB_nil 14 1 (by simp) rfl) ?_
    refine pwp_forH [0, 2, 5, 9, 10, 59, 60] (fun ((k, c) : Nat × Nat) => [(14, .own 2 c 0 c), (61, .sc (.int .i64 k))]) (fun (k, c) => [.row true [.sc (.int .i64 e)], .vec true ver 1 (i64s o), .vec true c 1 (i64s (T k))]) (fun (k, c) => k ≤ row.length ∧ (T k).length = c) (fun (k, c) => row.length - k) (0, 0) ?_
    ((conv=>whnf);repeat(refine .intro rfl ?_;conv=>whnf))
    refine ⟨⟨by omega, by rw [hT0]; rfl⟩, by (repeat' (first | exact trivial | refine And.intro rfl ?_)), by dsimp only; rw [hT0, ← hoe]; rfl, ?_⟩
    rintro ⟨k, c⟩ ⟨hk, hc⟩
    have hTk := hTl k
    ((conv=>whnf);repeat(refine .intro rfl ?_;conv=>whnf))
    (apply rd_sound; focus (repeat' constructor))
    ((conv=>whnf);repeat(refine .intro rfl ?_;conv=>whnf))
    (refine ifK_split (fun q1 => ?_) (fun q1 => ?_) <;> (rw [q1]; ((conv=>whnf);repeat(refine .intro rfl ?_;conv=>whnf))))
    · have q1 : k < row.length := by ((try simp only[oo,reduceCtorEq]at*)<;>omega)
      have hy := hrow _ (mem_getD q1)
      have eS := eT k q1
      refine ⟨by omega, _, intsD_at (l := row) (k := k) (by omega) q1, ?_⟩
      ((conv=>whnf);repeat(refine .intro rfl ?_;conv=>whnf))
      generalize row.getD k 0 = y at *
      refine ⟨by omega, _, gl_atN y.toNat (by omega) (by omega), ?_⟩
      ((conv=>whnf);repeat(refine .intro rfl ?_;conv=>whnf))
      (refine ifK_split (fun r2 => ?_) (fun r2 => ?_) <;> (rw [r2]; ((conv=>whnf);repeat(refine .intro rfl ?_;conv=>whnf))))
      · have r2 : (partsG g y.toNat == partsG g e) = true := r2
        rw [r2, if_pos rfl] at eS
        refine ⟨(by unfold sliceAppend; simp only [ll]; omega), ?_⟩
        ((conv=>whnf);repeat(refine .intro rfl ?_;conv=>whnf))
        (refine .inl ⟨by (unfold InR; rw [IntKind.wrap_i64]; omega), ?_⟩; ((conv=>whnf);repeat(refine .intro rfl ?_;conv=>whnf)))
        refine ⟨(k + 1, c + 1), ⟨by omega, by rw [eS, List.length_append, hc]; rfl⟩, by dsimp only; omega, ?_⟩
        dsimp only
        rw [eS]
        (refine leB_close 3 (by simp) rfl ?_ ?_ <;> (repeat' (first | exact trivial | exact rfl | exact DeepM.refl _ | exact DeepML.refl _ | exact DeepMLL.refl _ | refine And.intro ?_ ?_ | (simp [Under, UnderL, UnderLL, -List.map_take, -List.map_drop]; done))))
        all_goals first | exact underL_pure _ hp | exact deepMLL_eq (by rw [← hc, i64s_snoc]) | skip
      · have r2 : (partsG g y.toNat == partsG g e) = false := r2
        rw [r2, if_neg (by decide)] at eS
        (refine .inl ⟨by (unfold InR; rw [IntKind.wrap_i64]; omega), ?_⟩; ((conv=>whnf);repeat(refine .intro rfl ?_;conv=>whnf)))
        refine ⟨(k + 1, c), ⟨by omega, by rw [eS]; exact hc⟩, by dsimp only; omega, leB_envH (by (repeat' (first | exact trivial | refine And.intro rfl ?_))) ?_⟩
        dsimp only
        rw [eS]
    · have q1 : k = row.length := by have : ¬ k < row.length := by ((try simp only[oo,reduceCtorEq]at*)<;>omega)
                                     omega
      subst q1
      have hWy := em_way W A L g fr hn H.hin hF (toE e) 114 [.ipt [.sc (.int .i64 e)]] (by simp [PureL, Pure]) (fun x h1 _ => em_here e x h1) (T row.length) (by omega) ht1 (partsG g e)
      rw [← hhE] at hWy
      generalize homeE g o e = l at *
      have hln := List.length_pos_iff.2 hh1
      (refine .inr (.inr (.inr (.inr (.inl ⟨_, _, _, (acallAt_frz (args0 := [.ipt (sdat W A L g fr), .own 1 c 0 c, .fn (.func 114) [] [.loc 0 0], dints (partsL g), .sc (.int .i64 (partsG g e))]) (H0 := [.row true [.sc (.int .i64 e)], .vec true c 1 (i64s (T row.length))])
        (.cons _ _ _ _ (.refl _) (.cons _ _ _ _ (.own _ _ _ _ _ _ _ _ rfl (by rw [drop_take_all (by simp [i64s]; omega)]; exact deepLL_refl _)) (.cons _ _ _ _ (.fn _ _ _ _ _ .nil (.cons _ _ _ _ (.loc _ _ _ _ _ rfl (deepL_refl _)) .nil)) (.cons _ _ _ _ (.refl _) (.cons _ _ _ _ (.refl _) .nil))))) hWy (pure_dints _) [0, 2] rfl (by decide) (by simp [UnderL, Under, underL_pure _ hp]) ⟨underL_pure _ (by simp [PureL, Pure]), underLL_pure _ (pure_i64s' _), trivial⟩ (by simp only [renL, D.ren, ren_dints, renL_pure _ hp]; rfl) (fun i o ho => by
          rcases i with _ | _ | i
          · simp at ho; subst ho; rfl
          · simp at ho; subst ho; simp only [AObj.ren, renLL_i64e]; rfl
          · simp at ho)), ?_⟩)))); ((conv=>whnf);repeat(refine .intro rfl ?_;conv=>whnf)))
      rw [List.length_map]
      (refine .inl ⟨by (unfold InR; rw [IntKind.wrap_i64]; omega), ?_⟩; ((conv=>whnf);repeat(refine .intro rfl ?_;conv=>whnf)))
      refine ⟨by omega, by omega, by simp, ?_⟩
      ((conv=>whnf);repeat(refine .intro rfl ?_;conv=>whnf))
      refine ⟨(by unfold sliceAppend; simp only [ll]; omega), ?_⟩
      ((conv=>whnf);repeat(refine .intro rfl ?_;conv=>whnf))
      rw [eE]
      refine .own _ _ _ _ _ _ _ _ rfl ?_
      rw [show (((l.length : Nat) : Int) - 1).toNat = l.length - 1 by omega]
      have hh := i64s_tail o l 0 (l.length - 1)
      rw [List.drop_zero] at hh
      rw [show List.drop 0 (List.take o.length (i64s o)) ++ List.drop 0 (List.take (l.length - 1) (List.map (fun n => [D.sc (Value.int .i64 n)]) l)) = i64s (o ++ l.take (l.length - 1)) from hh]
      rw [drop_take_all (by simp [i64s])]
      exact deepLL_refl _
end

/-! ### XEm8 -/
section
open Go.RowKit
set_option linter.unusedSimpArgs false
set_option linter.unusedVariables false
def nxE (W : WorldD) (A : AutoD) (p : Pr) : List Pr := crossE W A (W.next.getD p.1.toNat []) (A.next.getD p.2.toNat [])
structure BigW (W : WorldD) (A : AutoD) : Prop where
  two : TwoW W A
  sw : W.start.length ≤ 1048576
  sa : A.start.length ≤ 1048576
  rw_ : ∀ l ∈ W.next, l.length ≤ 1048576
  ra : ∀ l ∈ A.next, l.length ≤ 1048576
theorem BigW.next {W : WorldD} {A : AutoD} (h : BigW W A) (p : Pr) : (∀ q ∈ nxE W A p, GoodE W A q) ∧ (nxE W A p).length ≤ 1099511627776 := by
  obtain ⟨_, _, _, _, w5, _⟩ := chk_world W h.two.cw
  obtain ⟨_, _, _, _, _, a6, _⟩ := chk_auto A h.two.ca
  refine ⟨crossE_good (inB_row w5 _) (inB_row a6 _), ?_⟩
  have h1 := crossE_len W A (W.next.getD p.1.toNat []) (A.next.getD p.2.toNat [])
  have h2 := Nat.mul_le_mul (row_leE h.rw_ p.1.toNat) (row_leE h.ra p.2.toNat)
  unfold nxE
  omega
theorem BigW.begin {W : WorldD} {A : AutoD} (h : BigW W A) : (∀ q ∈ crossE W A W.start A.start, GoodE W A q) ∧ (crossE W A W.start A.start).length ≤ 1099511627776 := by
  obtain ⟨_, _, _, w4, _, _⟩ := chk_world W h.two.cw
  obtain ⟨_, _, _, _, a5, _, _⟩ := chk_auto A h.two.ca
  refine ⟨crossE_good w4 a5, ?_⟩
  have h1 := crossE_len W A W.start A.start
  have h2 := Nat.mul_le_mul h.sw h.sa
  omega
theorem eAdd_good {Q : Pr → Prop} {ps L : List Pr} {o : List Int} (h : ∀ p ∈ L, Q p) (k : ∀ p ∈ ps, Q p) : ∀ p ∈ (eAdd ps L o).1, Q p := fun p hp => ((eAdd_mem ps L o p).1 hp).elim (h p) (k p)
theorem eRun_ok {W : WorldD} {A : AutoD} (h : BigW W A) {start : List Pr} : ∀ (f n : Nat) (L : List Pr) (T : List (List Int)), NumI start (nxE W A) n L T → (∀ p ∈ L, GoodE W A p) → W.next.length * A.next.length + 2 ≤ f + n →
    NumF start (nxE W A) (eRun (nxE W A) f n L T).1 (eRun (nxE W A) f n L T).2 ∧ ∀ p ∈ (eRun (nxE W A) f n L T).1, GoodE W A p
  | 0, n, L, T, hI, hg, hf => by have := hI.le; have := GoodE.le h.two hI.nd hg; omega
  | f + 1, n, L, T, hI, hg, hf => by
    rw [eRun]
    split
    · rename_i q
      exact eRun_ok h f (n + 1) _ _ (hI.next q) (eAdd_good hg (h.next _).1) (by omega)
    · rename_i q
      exact ⟨hI.fin q, hg⟩
def beginE (W : WorldD) (A : AutoD) : List Pr × List Int := eAdd (crossE W A W.start A.start) [] []
def finE (W : WorldD) (A : AutoD) : List Pr × List (List Int) := eRun (nxE W A) (W.next.length * A.next.length + 2) 0 (beginE W A).1 []
theorem finE_ok {W : WorldD} {A : AutoD} (h : BigW W A) : NumF (crossE W A W.start A.start) (nxE W A) (finE W A).1 (finE W A).2 ∧ ∀ p ∈ (finE W A).1, GoodE W A p :=
  eRun_ok h _ 0 _ [] (NumI.begin _ _) (eAdd_good (by simp) h.begin.1) (by omega)
theorem eRun_pre (nx : Pr → List Pr) : ∀ (f n : Nat) (L : List Pr) (T : List (List Int)), ∃ X, (eRun nx f n L T).1 = L ++ X
  | 0, n, L, T => ⟨[], by simp [eRun]⟩
  | f + 1, n, L, T => by
    rw [eRun]
    split
    · obtain ⟨X, hX⟩ := eAdd_pre (nx (L.getD n (0, 0))) L []
      obtain ⟨Y, hY⟩ := eRun_pre nx f (n + 1) (eAdd (nx (L.getD n (0, 0))) L []).1 (T ++ [(eAdd (nx (L.getD n (0, 0))) L []).2])
      exact ⟨X ++ Y, by rw [hY, hX, List.append_assoc]⟩
    · exact ⟨[], by simp⟩
theorem beginE_is {W : WorldD} {A : AutoD} : (beginE W A).2 = (crossE W A W.start A.start).map fun p => (idxP (finE W A).1 p : Int) := by
  obtain ⟨X, hX⟩ := eRun_pre (nxE W A) (W.next.length * A.next.length + 2) 0 (beginE W A).1 []
  have hX' : (finE W A).1 = (beginE W A).1 ++ X := hX
  rw [hX']
  unfold beginE
  rw [eAdd_out, List.nil_append]
  refine List.map_congr_left fun p hp => ?_
  rw [idx_pre ((eAdd_mem _ [] [] p).2 (.inr hp))]
theorem NumF.fits {W : WorldD} {A : AutoD} (h : BigW W A) {start L : List Pr} {G : List (List Int)} (hN : NumF start (nxE W A) L G) (hg : ∀ p ∈ L, GoodE W A p) : G.length ≤ 1228800 ∧ FitsG G := by
  have h1 := GoodE.le h.two hN.nd hg
  have h2 := two_le h.two
  have h3 := hN.len
  refine ⟨by omega, by omega, fun l hl => ?_⟩
  obtain ⟨i, hi, rfl⟩ := List.mem_iff_getElem.1 hl
  have := hN.row i (by omega)
  rw [List.getD_eq_getElem?_getD, List.getElem?_eq_getElem hi] at this
  simp only [Option.getD_some] at this
  rw [this, List.length_map]
  have := (h.next (L.getD i (0, 0))).2
  omega
theorem begin_in {W : WorldD} {A : AutoD} (h : BigW W A) : inB (beginE W A).2 (finE W A).2.length = true ∧ (beginE W A).2.length ≤ 1099511627776 := by
  obtain ⟨hN, hg⟩ := finE_ok h
  rw [beginE_is]
  refine ⟨inB_of fun x hx => ?_, by rw [List.length_map]; exact h.begin.2⟩
  obtain ⟨p, hp, rfl⟩ := List.mem_map.1 hx
  have := idx_lt (hN.st p hp)
  have := hN.len
  omega
/-! ### A good part -/
theorem resO_all {g : List (List Int)} {ok : Nat → Bool} (h : ∀ v, ok v = true) {u v : Nat} (k : To g u v) : To (resO g ok) u v := by
  unfold To at k
  induction k with
  | base m => exact .base m
  | step k hx ih => exact .step ih (resO_mem.2 ⟨hx, h _⟩)
theorem good_part {g : List (List Int)} (hin : ∀ l ∈ g, inB l g.length = true) {F : List (Nat → Bool)} {i : Nat} (h : goodS g F i = true) : (∃ v, v < g.length ∧ partsG g v = (i : Int)) ∧ ∀ e, e < g.length → partsG g e = (i : Int) → RH g F e := by
  unfold goodS at h
  rw [Bool.and_eq_true, List.all_eq_true] at h
  obtain ⟨h1, h2⟩ := h
  unfold okT at h1
  obtain ⟨v, hv, h3⟩ := List.any_eq_true.1 h1
  rw [Bool.and_eq_true, beq_iff_eq] at h3
  have hv := List.mem_range.1 hv
  refine ⟨⟨v, hv, h3.1⟩, fun e he hp => ⟨he, hin, ?_, fun S hS => ?_⟩⟩
  · have hn := (loop_iff (fun v x hx => (hin_lt hin v x hx).2) hv).1 h3.2
    obtain ⟨m1, m2⟩ := mutB_iff.1 ((parts_eq hv he).1 (h3.1.trans hp.symm))
    exact nontriv_mut hn m1 m2
  · have := h2 S hS
    unfold hasF at this
    obtain ⟨d, hd, h4⟩ := List.any_eq_true.1 this
    rw [Bool.and_eq_true, beq_iff_eq] at h4
    exact ⟨d, List.mem_range.1 hd, h4.2, h4.1.trans hp.symm⟩
/-- What Find answers of a right world and a right automaton. -/
noncomputable def pE (g : List (List Int)) (F : List (Nat → Bool)) : Int := idxF (fun b => true == b) ((List.range g.length).map (goodS g F))
noncomputable def stemE (g : List (List Int)) (F : List (Nat → Bool)) (fr : List Int) : List Int := wayE g (fun k => partsG g k == pE g F) (okP g (-1)) fr
def statesL (L : List Pr) (l : List Int) : List Int := l.map fun n => (L.getD n.toNat (0, 0)).1
noncomputable def findR (W : WorldD) (A : AutoD) (L : List Pr) (g : List (List Int)) (fr : List Int) : D :=
  if pE g (setsE W A L) < 0 then .tup [.agg [dints [], dints []], .sc (.bool false), .sc (.int .i64 0)] else
    .tup [.agg [dints (statesL L ((stemE g (setsE W A L) fr).take ((stemE g (setsE W A L) fr).length - 1))), dints (statesL L (rndE g (setsE W A L) (lastE (stemE g (setsE W A L) fr)).toNat))], .sc (.bool true), .sc (.int .i64 0)]
theorem pE_some {g : List (List Int)} {F : List (Nat → Bool)} (h : ¬ pE g F < 0) : ∃ i : Nat, pE g F = (i : Int) ∧ goodS g F i = true := by
  obtain ⟨k, h1, hk, h2, _⟩ := idxF_lt (show 0 ≤ idxF (fun b => true == b) ((List.range g.length).map (goodS g F)) from by unfold pE at h; omega)
  refine ⟨k, h1, ?_⟩
  simpa using h2
theorem pE_iff {g : List (List Int)} (hin : ∀ l ∈ g, inB l g.length = true) {F : List (Nat → Bool)} : (¬ pE g F < 0) ↔ ∃ v, v < g.length ∧ Fw g F v := by
  rw [← goodS_any (fun v x hx => (hin_lt hin v x hx).2) F]
  have h1 := idxF_any (fun b => true == b) ((List.range g.length).map (goodS g F))
  have h2 : (¬ pE g F < 0) ↔ decide (pE g F ≥ 0) = true := by rw [decide_eq_true_iff]; omega
  rw [h2, pE, h1, List.any_eq_true]
  constructor
  · rintro ⟨b, hb, hb2⟩
    obtain ⟨i, hi, rfl⟩ := List.mem_map.1 hb
    exact ⟨i, List.mem_range.1 hi, by simpa using hb2⟩
  · rintro ⟨i, hi, h⟩
    exact ⟨_, List.mem_map.2 ⟨i, List.mem_range.2 hi, rfl⟩, by simpa using h⟩
/-- The way to a good part. -/
theorem stemE_ok {W : WorldD} {A : AutoD} (h : BigW W A) {F : List (Nat → Bool)} (hp : ¬ pE (finE W A).2 F < 0) :
    inB (stemE (finE W A).2 F (beginE W A).2) (finE W A).2.length = true ∧ (stemE (finE W A).2 F (beginE W A).2).length ≤ (finE W A).2.length ∧ stemE (finE W A).2 F (beginE W A).2 ≠ [] ∧ RH (finE W A).2 F (lastE (stemE (finE W A).2 F (beginE W A).2)).toNat := by
  obtain ⟨hN, hg⟩ := finE_ok h
  obtain ⟨i, e1, hG⟩ := pE_some hp
  obtain ⟨⟨v, hv, hpv⟩, hR⟩ := good_part hN.inG hG
  obtain ⟨b1, _⟩ := begin_in h
  obtain ⟨w1, w2, w3⟩ := wayE_ok hN.inG (fun k => partsG (finE W A).2 k == pE (finE W A).2 F) (okP (finE W A).2 (-1)) b1
  obtain ⟨q, hq, hT⟩ := hN.come v (by have := hN.len; omega)
  obtain ⟨init, last, s1, s2, _⟩ := w3 ⟨(idxP (finE W A).1 q : Int), by rw [beginE_is]; exact List.mem_map.2 ⟨q, hq, rfl⟩, v, by
    rw [Int.toNat_natCast]
    exact resO_all (fun v => by unfold okP; rw [decide_eq_true (by omega : (-1 : Int) < 0)]; rfl) hT, by rw [hpv, e1]; simp⟩
  refine ⟨w1, w2, by unfold stemE; rw [s1]; simp, ?_⟩
  have hl : lastE (stemE (finE W A).2 F (beginE W A).2) = last := by unfold stemE; rw [s1, lastE_app]
  have hr := inB_mem w1 (x := last) (by rw [s1]; simp)
  rw [hl]
  exact hR last.toNat (by omega) (by rw [beq_iff_eq] at s2; rw [s2, e1])
def sboxD (d : Nat) (W : WorldD) (A : AutoD) (n t : Nat) (S : D) : List D := [dints W.start, dgrid W.next, dlet W.label, dgrid W.fair, dints A.start, dgrid A.next, dlet A.must, dlet A.nots, dgrid A.fair, .mp d, .own (d + 2) n 0 n, .own (d + 3) t 0 t, S]
noncomputable def eheapD (d : Nat) (W : WorldD) (A : AutoD) (L : List Pr) (S : D) (T : List (List Int)) : List AObj :=
  [.mapo true (mapIs Try.prog 97 (fP L)), .row true (sboxD d W A L.length T.length S), .vec true L.length 2 (prows L), .vec true T.length 1 (growsI T)]
theorem ren_dletE {ρ : Nat → Nat} (l : List Int) : D.ren ρ (dlet l) = dlet l := ren_pure _ (pure_dlet l)
theorem eheap_ren {W : WorldD} {A : AutoD} {L : List Pr} {S : D} (hS : Pure S) {T : List (List Int)} : (eheap W A L S T).map (AObj.ren fun i => 3 + i) = eheapD 3 W A L S T := by
  simp only [eheap, eheapD, sbox, sboxD, List.map_cons, List.map_nil, AObj.ren, renL, D.ren, renLL_pure _ (pure_prows L), renLL_pure _ (pure_growsI T), ren_pure _ hS, ren_dints, ren_dgrid, ren_dletE]
def c18_1 : PC := .seq (.seq (.ops [⟨some 42,.move (.tmp 10),none,0⟩,
 ⟨some 43,.move (.tmp 9),none,0⟩,
 ⟨some 44,.nilchk (.tmp 43),none,0⟩,
 ⟨some 45,.faddr 10 (.tmp 44),none,0⟩,
 ⟨some 46,.load1 (.tmp 45),none,0⟩,
 ⟨some 47,.len (.tmp 46),none,0⟩,
 ⟨some 48,.bin .lss (.tmp 42) (.tmp 47),none,0⟩] false) (.cond (.tmp 48) (.skip) (.exit 0))) (.seq (.block 1 (.ops [⟨some 51,.move (.tmp 9),none,0⟩,
 ⟨some 52,.move (.tmp 9),none,0⟩,
 ⟨some 53,.nilchk (.tmp 52),none,2⟩,
 ⟨some 54,.faddr 11 (.tmp 53),none,6⟩,
 ⟨some 55,.load1 (.tmp 54),none,14⟩,
 ⟨some 56,.move (.tmp 9),none,0⟩,
 ⟨some 57,.faddr 1 (.tmp 2),none,0⟩,
 ⟨some 58,.load1 (.tmp 57),none,64⟩,
 ⟨some 59,.move (.tmp 9),none,0⟩,
 ⟨some 60,.nilchk (.tmp 59),none,256⟩,
 ⟨some 61,.faddr 10 (.tmp 60),none,768⟩,
 ⟨some 62,.load1 (.tmp 61),none,1792⟩,
 ⟨some 63,.move (.tmp 10),none,0⟩,
 ⟨some 64,.iaddr 2 (.tmp 62) (.tmp 63),none,7936⟩,
 ⟨some 65,.faddr 0 (.tmp 64),none,16128⟩,
 ⟨some 66,.load1 (.tmp 65),none,32512⟩,
 ⟨some 67,.iaddr 1 (.tmp 58) (.tmp 66),none,65472⟩,
 ⟨some 68,.load1 (.tmp 67),none,131008⟩,
 ⟨some 69,.faddr 1 (.tmp 3),none,0⟩,
 ⟨some 70,.load1 (.tmp 69),none,262144⟩,
 ⟨some 71,.move (.tmp 9),none,0⟩,
 ⟨some 72,.nilchk (.tmp 71),none,1048576⟩,
 ⟨some 73,.faddr 10 (.tmp 72),none,3145728⟩,
 ⟨some 74,.load1 (.tmp 73),none,7340032⟩,
 ⟨some 75,.move (.tmp 10),none,0⟩,
 ⟨some 76,.iaddr 2 (.tmp 74) (.tmp 75),none,32505856⟩,
 ⟨some 77,.faddr 1 (.tmp 76),none,66060288⟩,
 ⟨some 78,.load1 (.tmp 77),none,133169152⟩,
 ⟨some 79,.iaddr 1 (.tmp 70) (.tmp 78),none,268173312⟩,
 ⟨some 80,.load1 (.tmp 79),none,536608768⟩,
 ⟨some 81,.call 55 [(.tmp 56), (.tmp 68), (.tmp 80)],none,1073741792⟩,
 ⟨some 82,.bslice 1 1 [(.tmp 81)],none,2147483616⟩,
 ⟨some 83,.append 1 24 (.tmp 55) (.tmp 82),none,4294967294⟩,
 ⟨some 84,.nilchk (.tmp 51),none,8589934591⟩,
 ⟨some 85,.faddr 11 (.tmp 84),none,17179869183⟩,
 ⟨none,.store 1 (.tmp 85) (.tmp 83),none,34359738367⟩] true)) (.ops [⟨some 49,.move (.tmp 10),none,0⟩,
 ⟨some 50,.bin .add (.tmp 49) (.const (.int .i64 1)),none,0⟩,
 ⟨some 10,.move (.tmp 50),none,0⟩] false))
def c18 : PC := .seq (.ops [⟨some 2,.box (.tmp 0),none,0⟩,
 ⟨some 3,.box (.tmp 1),none,0⟩,
 ⟨some 4,.alloc [(.slice none 0 0), (.slice none 0 0)],none,0⟩,
 ⟨some 5,.move (.const (.bool false)),none,0⟩,
 ⟨some 6,.move (.const (.int .i64 0)),none,0⟩] false) (.seq (.seq (.ops [⟨some 16,.loadA 4 (.tmp 2),none,0⟩,
 ⟨some 17,.call 54 [(.tmp 16)],none,0⟩,
 ⟨some 7,.move (.tmp 17),none,0⟩] false) (.seq (.ops [⟨some 18,.move (.tmp 7),none,0⟩,
 ⟨some 19,.bin .neq (.tmp 18) (.const (.int .i64 0)),none,0⟩] false) (.cond (.tmp 19) (.seq (.ops [⟨some 20,.build [(.slice none 0 0), (.slice none 0 0)] [],none,0⟩,
 ⟨some 21,.move (.tmp 7),none,0⟩,
 ⟨none,.store 2 (.tmp 4) (.tmp 20),none,0⟩,
 ⟨some 5,.move (.const (.bool false)),none,0⟩,
 ⟨some 6,.move (.tmp 21),none,0⟩] false) (.ret)) (.skip)))) (.seq (.seq (.ops [⟨some 22,.loadA 5 (.tmp 3),none,0⟩,
 ⟨some 23,.call 10 [(.tmp 22)],none,0⟩,
 ⟨some 8,.move (.tmp 23),none,0⟩] false) (.seq (.ops [⟨some 24,.move (.tmp 8),none,0⟩,
 ⟨some 25,.bin .neq (.tmp 24) (.const (.int .i64 0)),none,0⟩] false) (.cond (.tmp 25) (.seq (.ops [⟨some 26,.build [(.slice none 0 0), (.slice none 0 0)] [],none,0⟩,
 ⟨some 27,.move (.tmp 8),none,0⟩,
 ⟨none,.store 2 (.tmp 4) (.tmp 26),none,0⟩,
 ⟨some 5,.move (.const (.bool false)),none,0⟩,
 ⟨some 6,.move (.tmp 27),none,0⟩] false) (.ret)) (.skip)))) (.seq (.ops [⟨some 28,.loadA 4 (.tmp 2),none,0⟩,
 ⟨some 29,.loadA 5 (.tmp 3),none,0⟩,
 ⟨some 30,.mkmap 97,none,0⟩,
 ⟨some 31,.build [(.slice none 0 0), (.slice none 0 0), (.slice none 0 0), (.slice none 0 0), (.slice none 0 0), (.slice none 0 0), (.slice none 0 0), (.slice none 0 0), (.slice none 0 0), (.map none), (.slice none 0 0), (.slice none 0 0), (.slice none 0 0)] [(0, 4, (.tmp 28)), (4, 5, (.tmp 29)), (9, 1, (.tmp 30))],none,0⟩,
 ⟨some 32,.box (.tmp 31),none,0⟩,
 ⟨some 9,.move (.tmp 32),none,0⟩] false) (.seq (.stop (.ops [⟨some 33,.move (.tmp 9),none,0⟩,
 ⟨some 34,.move (.tmp 9),none,0⟩,
 ⟨some 35,.faddr 0 (.tmp 2),none,0⟩,
 ⟨some 36,.load1 (.tmp 35),none,0⟩,
 ⟨some 37,.faddr 0 (.tmp 3),none,0⟩,
 ⟨some 38,.load1 (.tmp 37),none,0⟩,
 ⟨some 39,.call 55 [(.tmp 34), (.tmp 36), (.tmp 38)],none,0⟩,
 ⟨some 40,.nilchk (.tmp 33),none,0⟩,
 ⟨some 41,.faddr 12 (.tmp 40),none,0⟩,
 ⟨none,.store 1 (.tmp 41) (.tmp 39),none,0⟩] false)) (.seq (.seq (.ops [⟨some 10,.move (.const (.int .i64 0)),none,0⟩] false) (.block 0 (.loop c18_1))) (.seq (.stop (.ops [⟨some 86,.move (.tmp 9),none,0⟩,
 ⟨some 87,.nilchk (.tmp 86),none,0⟩,
 ⟨some 88,.faddr 11 (.tmp 87),none,0⟩,
 ⟨some 89,.load1 (.tmp 88),none,0⟩,
 ⟨some 90,.call 56 [(.tmp 89)],none,0⟩,
 ⟨some 11,.alloc [(.slice none 0 0)],none,0⟩,
 ⟨none,.store 1 (.tmp 11) (.tmp 90),none,0⟩] false)) (.seq (.ops [⟨some 91,.move (.tmp 9),none,0⟩,
 ⟨some 92,.call 57 [(.tmp 91)],none,0⟩,
 ⟨some 12,.move (.tmp 92),none,0⟩] false) (.seq (.ops [⟨some 93,.move (.tmp 9),none,0⟩,
 ⟨some 94,.load1 (.tmp 11),none,0⟩,
 ⟨some 95,.move (.tmp 12),none,0⟩,
 ⟨some 96,.call 58 [(.tmp 93), (.tmp 94), (.tmp 95)],none,0⟩,
 ⟨some 13,.alloc [(.int .i64 0)],none,0⟩,
 ⟨none,.store 1 (.tmp 13) (.tmp 96),none,0⟩] false) (.seq (.seq (.ops [⟨some 97,.load1 (.tmp 13),none,0⟩,
 ⟨some 98,.bin .lss (.tmp 97) (.const (.int .i64 0)),none,0⟩] false) (.cond (.tmp 98) (.seq (.ops [⟨some 99,.build [(.slice none 0 0), (.slice none 0 0)] [],none,0⟩,
 ⟨none,.store 2 (.tmp 4) (.tmp 99),none,0⟩,
 ⟨some 5,.move (.const (.bool false)),none,0⟩,
 ⟨some 6,.move (.const (.int .i64 0)),none,0⟩] false) (.ret)) (.skip))) (.seq (.ops [⟨some 100,.move (.tmp 9),none,0⟩,
 ⟨some 101,.move (.tmp 9),none,0⟩,
 ⟨some 102,.nilchk (.tmp 101),none,2⟩,
 ⟨some 103,.faddr 12 (.tmp 102),none,6⟩,
 ⟨some 104,.load1 (.tmp 103),none,14⟩,
 ⟨some 105,.mkfn (.func 60) [] [(.tmp 11), (.tmp 13)],none,0⟩,
 ⟨some 106,.load1 (.tmp 11),none,0⟩,
 ⟨some 107,.call 59 [(.tmp 100), (.tmp 104), (.tmp 105), (.tmp 106), (.const (.int .i64 (-1)))],none,127⟩,
 ⟨some 14,.move (.tmp 107),none,255⟩] true) (.seq (.ops [⟨some 108,.move (.tmp 9),none,0⟩,
 ⟨some 109,.move (.tmp 14),none,0⟩,
 ⟨some 110,.move (.tmp 14),none,0⟩,
 ⟨some 111,.len (.tmp 110),none,4⟩,
 ⟨some 112,.bin .sub (.tmp 111) (.const (.int .i64 1)),none,12⟩,
 ⟨some 113,.iaddr 1 (.tmp 109) (.tmp 112),none,30⟩,
 ⟨some 114,.load1 (.tmp 113),none,62⟩,
 ⟨some 115,.load1 (.tmp 11),none,0⟩,
 ⟨some 116,.move (.tmp 12),none,0⟩,
 ⟨some 117,.call 61 [(.tmp 108), (.tmp 114), (.tmp 115), (.tmp 116)],none,511⟩,
 ⟨some 15,.move (.tmp 117),none,1023⟩] true) (.seq (.ops [⟨some 118,.move (.tmp 9),none,0⟩,
 ⟨some 119,.move (.tmp 14),none,0⟩,
 ⟨some 120,.move (.tmp 14),none,0⟩,
 ⟨some 121,.len (.tmp 120),none,0⟩,
 ⟨some 122,.bin .sub (.tmp 121) (.const (.int .i64 1)),none,0⟩,
 ⟨some 123,.slc 1 (.tmp 119) none (some (.tmp 122)) none,none,0⟩,
 ⟨some 124,.call 62 [(.tmp 118), (.tmp 123)],none,0⟩,
 ⟨some 125,.move (.tmp 9),none,0⟩,
 ⟨some 126,.move (.tmp 15),none,0⟩,
 ⟨some 127,.call 62 [(.tmp 125), (.tmp 126)],none,0⟩,
 ⟨some 128,.build [(.slice none 0 0), (.slice none 0 0)] [(0, 1, (.tmp 124)), (1, 1, (.tmp 127))],none,0⟩,
 ⟨none,.store 2 (.tmp 4) (.tmp 128),none,0⟩,
 ⟨some 5,.move (.const (.bool true)),none,0⟩,
 ⟨some 6,.move (.const (.int .i64 0)),none,0⟩] false) (.ret)))))))))))))
set_option maxRecDepth 100000 in
theorem c18_ok : FunOK Try.prog 18 129 [.agg 4 2, .tmp 5, .tmp 6] c18 := ⟨⟨Try.f18, Try.func18, rfl, by kernel_rfl, rfl, by kernel_rfl⟩⟩
set_option maxRecDepth 100000 in
theorem em_Find {W : WorldD} {A : AutoD} (h : BigW W A) : PCall Try.prog 18 [dworld W, dauto A] (findR W A (finE W A).1 (finE W A).2 (beginE W A).2) := by
  obtain ⟨w1, w2, w3, w4, w5, w6⟩ := chk_world W h.two.cw
  obtain ⟨a1, a2, a3, a4, a5, a6, a7⟩ := chk_auto A h.two.ca
  have hN2 := two_le h.two
  have hCW := wo_Check W h.two.fw
  rw [h.two.cw] at hCW
  have hCA := au_Check A h.two.fa
  rw [h.two.ca] at hCA
  have hX := fun L hnd hLg S hS T => em_cross h.two W.start A.start h.sw h.sa w4 a5 L hnd hLg S hS T
  have hX2 := fun (p : Pr) L hnd hLg S hS T => em_cross h.two (W.next.getD p.1.toNat []) (A.next.getD p.2.toNat []) (row_leE h.rw_ p.1.toNat) (row_leE h.ra p.2.toNat) (inB_row w5 p.1.toNat) (inB_row a6 p.2.toNat) L hnd hLg S hS T
  have hpW := pure_wocells W
  have hpA := pure_aucells A
  refine pcall_intro c18_ok (by simp) (by simp [PureL, pure_dworld, pure_dauto]) ?_ (by unfold findR; split <;> simp [Pure, PureL, pure_dints])
  have hfin : finE W A = eRun (nxE W A) (W.next.length * A.next.length + 2) 0 (beginE W A).1 [] := rfl
  unfold dworld dauto at *
  unfold WorldD.cells AutoD.cells at *
  (apply rd_sound; focus (repeat' constructor))
  ((conv=>whnf);repeat(refine .intro rfl ?_;conv=>whnf))
  (refine .inl ⟨_, hCW, ?_⟩; ((conv=>whnf);repeat(refine .intro rfl ?_;conv=>whnf)))
  (refine .inl ⟨_, hCA, ?_⟩; ((conv=>whnf);repeat(refine .intro rfl ?_;conv=>whnf)))
  refine pwp_ghostB (leB_trans (leB_nilc 4 10 2 (by simp) rfl rfl) (leB_nilc 4 11 1 (by simp) rfl rfl)) ?_
  (apply rd_sound; focus (repeat' constructor))
  ((conv=>whnf);repeat(refine .intro rfl ?_;conv=>whnf))
  have hnil : Pure nilV := trivial
  have hX0 := hX [] .nil (by simp) nilV hnil []
  rw [show eAdd (crossE W A W.start A.start) [] [] = beginE W A from rfl] at hX0
  have hN0 := NumI.begin (crossE W A W.start A.start) (nxE W A)
  rw [show eAdd (crossE W A W.start A.start) [] [] = beginE W A from rfl] at hN0
  have hG0 : ∀ p ∈ (beginE W A).1, GoodE W A p := eAdd_good (by simp) h.begin.1
  have hRR : ∀ L G, finE W A = (L, G) → NumF (crossE W A W.start A.start) (nxE W A) L G ∧ (∀ p ∈ L, GoodE W A p) ∧ inB (beginE W A).2 G.length = true ∧ (beginE W A).2.length ≤ 1099511627776 ∧ ∀ F, ¬ pE G F < 0 → inB (stemE G F (beginE W A).2) G.length = true ∧ (stemE G F (beginE W A).2).length ≤ G.length ∧ stemE G F (beginE W A).2 ≠ [] ∧ RH G F (lastE (stemE G F (beginE W A).2)).toNat := fun L G e => by
    have k1 := finE_ok h
    have k2 := begin_in h
    have k3 := fun F hp => stemE_ok h (F := F) hp
    rw [e] at k1 k2 k3
    exact ⟨k1.1, k1.2, k2.1, k2.2, k3⟩
  generalize beginE W A = B at *
  obtain ⟨L0, fr⟩ := B
  dsimp only at *
  have hSf := pure_dints fr
  (refine .inr (.inr (.inl ⟨rfl, _, _, (acall_mid hX0 [.row true [dints W.start, dgrid W.next, dlet W.label, dgrid W.fair], .row true [dints A.start, dgrid A.next, dlet A.must, dlet A.nots, dgrid A.fair], .row true [nilV, nilV]] [] rfl (by simp [eheap, UnderL, Under]) (underO_eheap hnil (by simp [eheap])) (by simp only [renL, D.ren, ren_dints]; rfl) (ren_dints _) (congrArg (_ ++ ·) ((List.append_nil _).trans (eheap_ren hnil))) (congrArg (_ ++ ·) ((List.append_nil _).trans (eheap_ren hnil)))), ?_⟩)); ((conv=>whnf);repeat(refine .intro rfl ?_;conv=>whnf)))
  refine pwp_forH [2, 3, 4, 9] (fun ((n, M, T) : Nat × List Pr × List (List Int)) => [(10, .sc (.int .i64 n))]) (fun (n, M, T) => [.row true [dints W.start, dgrid W.next, dlet W.label, dgrid W.fair], .row true [dints A.start, dgrid A.next, dlet A.must, dlet A.nots, dgrid A.fair], .row true [nilV, nilV]] ++ eheapD 3 W A M (dints fr) T)
    (fun (n, M, T) => NumI (crossE W A W.start A.start) (nxE W A) n M T ∧ (∀ p ∈ M, GoodE W A p) ∧ eRun (nxE W A) (W.next.length * A.next.length + 2 - n) n M T = finE W A) (fun (n, M, T) => W.next.length * A.next.length + 2 - n) (0, L0, []) ?_
  ((conv=>whnf);repeat(refine .intro rfl ?_;conv=>whnf))
  refine ⟨⟨hN0, hG0, hfin.symm⟩, by (repeat' (first | exact trivial | refine And.intro rfl ?_)), rfl, ?_⟩
  rintro ⟨n, M, T⟩ ⟨hI, hMg, hF⟩
  have hMl := GoodE.le h.two hI.nd hMg
  have hIl := hI.le
  have hTl := hI.len
  rw [show W.next.length * A.next.length + 2 - n = (W.next.length * A.next.length + 1 - n) + 1 by omega, eRun] at hF
  unfold eheapD sboxD
  ((conv=>whnf);repeat(refine .intro rfl ?_;conv=>whnf))
  (apply rd_sound; focus (repeat' constructor))
  ((conv=>whnf);repeat(refine .intro rfl ?_;conv=>whnf))
  (refine ifK_split (fun q0 => ?_) (fun q0 => ?_) <;> (rw [q0]; ((conv=>whnf);repeat(refine .intro rfl ?_;conv=>whnf))))
  · have q0 : n < M.length := by ((try simp only[oo,reduceCtorEq]at*)<;>omega)
    rw [if_pos q0] at hF
    have hgp := hMg _ (mem_getDP q0)
    obtain ⟨⟨g1, g2⟩, g3, g4⟩ := hgp
    have hNx := hI.next q0
    have hnx := h.next (M.getD n (0, 0))
    have hC := acall_mid (hX2 (M.getD n (0, 0)) M hI.nd hMg (dints fr) hSf T) [.row true [dints W.start, dgrid W.next, dlet W.label, dgrid W.fair], .row true [dints A.start, dgrid A.next, dlet A.must, dlet A.nots, dgrid A.fair], .row true [nilV, nilV]] [] rfl (by simp [eheap, UnderL, Under]) (underO_eheap hSf (by simp [eheap])) (by simp only [renL, D.ren, ren_dints]; rfl) (ren_dints _) (congrArg (_ ++ ·) ((List.append_nil _).trans (eheap_ren hSf))) (congrArg (_ ++ ·) ((List.append_nil _).trans (eheap_ren hSf)))
    rw [show crossE W A (W.next.getD (M.getD n (0, 0)).1.toNat []) (A.next.getD (M.getD n (0, 0)).2.toNat []) = nxE W A (M.getD n (0, 0)) from rfl] at hC
    (refine ⟨by omega, (by first | omega | (simp; done) | (simp; omega) | (simp only [ll]; omega)), ?_⟩; ((conv=>whnf);repeat(refine .intro rfl ?_;conv=>whnf)))
    refine ⟨_, prows_at (l := M) (k := n) (by omega) q0, ?_⟩
    ((conv=>whnf);repeat(refine .intro rfl ?_;conv=>whnf))
    refine ⟨by omega, _, gridD_at (g := W.next) (k := (M.getD n (0, 0)).1.toNat) (by omega) (by omega), ?_⟩
    ((conv=>whnf);repeat(refine .intro rfl ?_;conv=>whnf))
    (refine ⟨by omega, (by first | omega | (simp; done) | (simp; omega) | (simp only [ll]; omega)), ?_⟩; ((conv=>whnf);repeat(refine .intro rfl ?_;conv=>whnf)))
    refine ⟨_, prows_at (l := M) (k := n) (by omega) q0, ?_⟩
    ((conv=>whnf);repeat(refine .intro rfl ?_;conv=>whnf))
    refine ⟨by omega, _, gridD_at (g := A.next) (k := (M.getD n (0, 0)).2.toNat) (by omega) (by omega), ?_⟩
    ((conv=>whnf);repeat(refine .intro rfl ?_;conv=>whnf))
    unfold eheapD sboxD at hC
    have hgd := eAdd_good (o := []) hMg hnx.1
    generalize nxE W A (M.getD n (0, 0)) = ps at *
    generalize eAdd ps M [] = Q at *
    obtain ⟨M', o⟩ := Q
    dsimp only at *
    (refine .inr (.inr (.inr (.inl ⟨_, _, by simp [UnderL, UnderLL, UnderO, AObj.under, Under], by simp [UnderL, UnderLL, UnderO, AObj.under, Under], hC, ?_⟩))); ((conv=>whnf);repeat(refine .intro rfl ?_;conv=>whnf)))
    refine ⟨(by unfold sliceAppend; simp only [ll]; omega), ?_⟩
    ((conv=>whnf);repeat(refine .intro rfl ?_;conv=>whnf))
    (refine .inl ⟨by (unfold InR; rw [IntKind.wrap_i64]; omega), ?_⟩; ((conv=>whnf);repeat(refine .intro rfl ?_;conv=>whnf)))
    refine ⟨(n + 1, M', T ++ [o]), ⟨hNx, hgd, by rw [show W.next.length * A.next.length + 2 - (n + 1) = W.next.length * A.next.length + 1 - n by omega]; exact hF⟩, by dsimp only; omega, ?_⟩
    dsimp only
    rw [show (T ++ [o]).length = T.length + 1 by simp]
    (refine leB_close 7 (by simp) rfl ?_ ?_ <;> (repeat' (first | exact trivial | exact rfl | exact DeepM.refl _ | exact DeepML.refl _ | exact DeepMLL.refl _ | refine And.intro ?_ ?_ | (simp [Under, UnderL, UnderLL, -List.map_take, -List.map_drop]; done))))
    all_goals first | exact underL_pure _ hpW | exact underL_pure _ hpA | exact deepMLL_eq (growsI_snoc rfl) | (simp [under_pure _ (pure_dlet _)]; done) | skip
  · have q0 : ¬ n < M.length := by ((try simp only[oo,reduceCtorEq]at*)<;>omega)
    rw [if_neg q0] at hF
    obtain ⟨hNF, hg2, hfi, hfl, hst⟩ := hRR M T hF.symm
    obtain ⟨hTn, hTF⟩ := hNF.fits h hg2
    have hin := hNF.inG
    rw [← hF]
    have hTM := hNF.len
    have hSe := em_sets h.two M (by omega) hg2 T fr
    rw [← hTM] at hSe
    have hFl : (setsE W A M).length ≤ 1000 := by unfold setsE; rw [List.length_append, selL_len (Nat.le_refl _), selL_len (Nat.le_refl _)]; omega
    have hfr : findR W A M T fr = if pE T (setsE W A M) < 0 then .tup [.agg [dints [], dints []], .sc (.bool false), .sc (.int .i64 0)] else
        .tup [.agg [dints (statesL M ((stemE T (setsE W A M) fr).take ((stemE T (setsE W A M) fr).length - 1))), dints (statesL M (rndE T (setsE W A M) (lastE (stemE T (setsE W A M) fr)).toNat))], .sc (.bool true), .sc (.int .i64 0)] := rfl
    have hps := pure_sdat W A M T fr
    generalize setsE W A M = F at *
    have hGo := em_good W A M T hTM fr (by omega) hin hTF F hFl
    rw [show idxF (fun b => true == b) ((List.range T.length).map (goodS T F)) = pE T F from rfl] at hGo
    have hst := hst F
    refine pwp_ghostB (leB_freeze (fun i => i == 4 || i == 5 || i == 6) (env' := [(4, .loc 2 0), (9, .ipt (sdat W A M T fr))]) (H' := [.row true [dints W.start, dgrid W.next, dlet W.label, dgrid W.fair], .row true [dints A.start, dgrid A.next, dlet A.must, dlet A.nots, dgrid A.fair], .row true [nilV, nilV], .mapo true (mapIs Try.prog 97 (fP M)), .row false (sboxD 3 W A M.length T.length (dints fr)), .vec false M.length 2 (prows M), .vec false T.length 1 (growsI T)])
      ⟨.refl _, .loc _ _ _ _ _ rfl rfl (.cons _ _ _ _ (.refl _) (.cons _ _ _ _ (.refl _) (.cons _ _ _ _ (.refl _) (.cons _ _ _ _ (.refl _) (.cons _ _ _ _ (.refl _) (.cons _ _ _ _ (.refl _) (.cons _ _ _ _ (.refl _) (.cons _ _ _ _ (.refl _) (.cons _ _ _ _ (.refl _) (.cons _ _ _ _ (.junk _) (.cons _ _ _ _ (.own _ _ _ _ _ _ _ _ rfl rfl (deepMLL_eq (drop_take_all (by simp)))) (.cons _ _ _ _ (.own _ _ _ _ _ _ _ _ rfl rfl (deepMLL_eq (drop_take_all (by simp)))) (.refl _))))))))))))), trivial⟩
      ⟨⟨.inl rfl, fun h => absurd h (by decide), .refl _⟩, ⟨.inl rfl, fun h => absurd h (by decide), .refl _⟩, ⟨.inl rfl, fun h => absurd h (by decide), .refl _⟩, ⟨.inl rfl, fun h => absurd h (by decide), rfl⟩, ⟨.inr ⟨rfl, rfl⟩, fun _ => rfl, .refl _⟩, ⟨.inr ⟨rfl, rfl⟩, fun _ => rfl, rfl, rfl, .refl _⟩, ⟨.inr ⟨rfl, rfl⟩, fun _ => rfl, rfl, rfl, .refl _⟩, trivial⟩) ?_
    have hSp := scc_Split T (by omega) hin hTF
    unfold sdat at hSe hGo
    unfold sdat sboxD
    (apply rd_sound; focus (repeat' constructor))
    ((conv=>whnf);repeat(refine .intro rfl ?_;conv=>whnf))
    (refine .inl ⟨_, hSp, ?_⟩; ((conv=>whnf);repeat(refine .intro rfl ?_;conv=>whnf)))
    (refine .inl ⟨_, hSe, ?_⟩; ((conv=>whnf);repeat(refine .intro rfl ?_;conv=>whnf)))
    (refine .inl ⟨_, hGo, ?_⟩; ((conv=>whnf);repeat(refine .intro rfl ?_;conv=>whnf)))
    rw [hfr]
    (refine ifK_split (fun p0 => ?_) (fun p0 => ?_) <;> (rw [p0]; ((conv=>whnf);repeat(refine .intro rfl ?_;conv=>whnf))))
    · have p0 : pE T F < 0 := of_decide_eq_true p0
      rw [if_pos p0]
      exact .tup _ _ (.cons _ _ _ _ (.agg _ _ (.cons _ _ _ _ (.none _) (.cons _ _ _ _ (.none _) .nil))) (.cons _ _ _ _ (.refl _) (.cons _ _ _ _ (.refl _) .nil)))
    · have p0 : ¬ pE T F < 0 := of_decide_eq_false p0
      rw [if_neg p0]
      obtain ⟨s1, s2, s3, s4⟩ := hst p0
      have hsn := List.length_pos_iff.2 s3
      have hlE := inB_mem s1 (lastE_mem s3)
      have hWy := em_way W A M T fr (by omega) hin hTF (fun k => partsG T k == pE T F) 60 [.ipt [dints (partsL T)], .ipt [.sc (.int .i64 (pE T F))]] (by simp [PureL, Pure, pure_dints]) (fun x h1 h2 => em_inpart T (pE T F) x h1 h2) fr (by omega) hfi (-1)
      rw [show wayE T (fun k => partsG T k == pE T F) (okP T (-1)) fr = stemE T F fr from rfl] at hWy
      have hRd := em_round W A M T fr (by omega) hTF F hFl (lastE (stemE T F fr)).toNat s4
      rw [show (((lastE (stemE T F fr)).toNat : Nat) : Int) = lastE (stemE T F fr) by omega] at hRd
      obtain ⟨r1, r2⟩ := rndE_ok s4
      have hS1 := em_states W A M T fr ((stemE T F fr).take ((stemE T F fr).length - 1)) (by rw [List.length_take]; omega) (by rw [← hTM]; exact inB_of fun x hx => inB_mem s1 (List.mem_of_mem_take hx))
      have hrl : (rndE T F (lastE (stemE T F fr)).toNat).length ≤ 1000000000000 := by
        have := Nat.mul_le_mul hFl hTn
        omega
      have hS2 := em_states W A M T fr (rndE T F (lastE (stemE T F fr)).toNat) hrl (by rw [← hTM]; exact r1)
      rw [show ((stemE T F fr).take ((stemE T F fr).length - 1)).map (fun n => (M.getD n.toNat (0, 0)).1) = statesL M ((stemE T F fr).take ((stemE T F fr).length - 1)) from rfl] at hS1
      rw [show (rndE T F (lastE (stemE T F fr)).toNat).map (fun n => (M.getD n.toNat (0, 0)).1) = statesL M (rndE T F (lastE (stemE T F fr)).toNat) from rfl] at hS2
      generalize rndE T F (lastE (stemE T F fr)).toNat = rnd at *
      generalize stemE T F fr = st at *
      generalize pE T F = p at *
      unfold sdat at hWy hRd hS1 hS2 hps
      ((conv=>whnf);repeat(refine .intro rfl ?_;conv=>whnf))
      (refine .inr (.inr (.inr (.inr (.inl ⟨_, _, _, (acallAt_frz (args0 := [.ipt [dints W.start, dgrid W.next, dlet W.label, dgrid W.fair, dints A.start, dgrid A.next, dlet A.must, dlet A.nots, dgrid A.fair, .junk, dpairs M, dgrid T, dints fr], dints fr, .fn (.func 60) [] [.loc 0 0, .loc 1 0], dints (partsL T), .sc (.int .i64 (-1))]) (H0 := [.row true [dints (partsL T)], .row true [.sc (.int .i64 p)]])
        (.cons _ _ _ _ (.refl _) (.cons _ _ _ _ (.refl _) (.cons _ _ _ _ (.fn _ _ _ _ _ .nil (.cons _ _ _ _ (.loc _ _ _ _ _ rfl (deepL_refl _)) (.cons _ _ _ _ (.loc _ _ _ _ _ rfl (deepL_refl _)) .nil))) (.cons _ _ _ _ (.refl _) (.cons _ _ _ _ (.refl _) .nil))))) hWy (pure_dints _) [7, 8] rfl (by decide) ⟨under_pure _ (pure_ipt hps), under_pure _ (pure_dints _), by simp [UnderL, Under], under_pure _ (pure_dints _), trivial, trivial⟩ ⟨underL_pure _ ⟨pure_dints _, trivial⟩, underL_pure _ ⟨trivial, trivial⟩, trivial⟩ (by simp only [renL, D.ren, ren_dints, ren_dgrid, ren_dletE, ren_pure _ (pure_dpairs _)]; rfl) (fun i o ho => by
          rcases i with _ | _ | i
          · simp at ho; subst ho; simp only [AObj.ren, renL, ren_dints]; rfl
          · simp at ho; subst ho; rfl
          · simp at ho)), ?_⟩)))); ((conv=>whnf);repeat(refine .intro rfl ?_;conv=>whnf)))
      rw [List.length_map]
      (refine .inl ⟨by (unfold InR; rw [IntKind.wrap_i64]; omega), ?_⟩; ((conv=>whnf);repeat(refine .intro rfl ?_;conv=>whnf)))
      refine ⟨by omega, _, intsD_at (l := st) (k := st.length - 1) (by omega) (by omega), ?_⟩
      ((conv=>whnf);repeat(refine .intro rfl ?_;conv=>whnf))
      rw [show st.getD (st.length - 1) 0 = lastE st from rfl, show D.ren (fun i => [7, 8].getD i 0) (dints (partsL T)) = dints (partsL T) from ren_dints _]
      (refine .inl ⟨_, hRd, ?_⟩; ((conv=>whnf);repeat(refine .intro rfl ?_;conv=>whnf)))
      rw [List.length_map]
      (refine .inl ⟨by (unfold InR; rw [IntKind.wrap_i64]; omega), ?_⟩; ((conv=>whnf);repeat(refine .intro rfl ?_;conv=>whnf)))
      refine ⟨by omega, by omega, by simp, ?_⟩
      ((conv=>whnf);repeat(refine .intro rfl ?_;conv=>whnf))
      rw [show (D.lst 1 (List.drop 0 (List.take (((st.length : Nat) : Int) - 1).toNat (List.map (fun n => [D.sc (Value.int .i64 n)]) st)))) = dints (st.take (st.length - 1)) by
        rw [show (((st.length : Nat) : Int) - 1).toNat = st.length - 1 by omega, List.drop_zero, ← List.map_take]; rfl]
      (refine .inl ⟨_, hS1, ?_⟩; ((conv=>whnf);repeat(refine .intro rfl ?_;conv=>whnf)))
      (refine .inl ⟨_, hS2, ?_⟩; ((conv=>whnf);repeat(refine .intro rfl ?_;conv=>whnf)))
      exact .refl _
end

end Go.Proofs.Ytfaekhadjlgbbaa
