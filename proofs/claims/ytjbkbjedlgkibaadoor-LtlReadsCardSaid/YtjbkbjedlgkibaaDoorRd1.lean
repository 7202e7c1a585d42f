/-
  Formulas read from texts: what is read has known kinds; what a reader answers at its end. Plain Lean. No statement is proved here.
-/
import Derived.Test.YtjbkbjedlgkibaaDoorRd0
import Derived.Test.YtjbkbjedlgkibaaDoorDk
namespace Go.Proofs.YtjbkbjedlgkibaaDoor
set_option linter.unusedSimpArgs false
set_option linter.unusedVariables false
/-- A tree whose kinds are those of a sort of formulas, and whose nodes have two kids at most. -/
inductive KT (all : Bool) : Tree → Prop where
  | mk (t : Tree) (h : 1 ≤ t.kind ∧ t.kind ≤ (if all then 14 else 11)) (w : t.width ≤ 2) (k : ∀ j, j < t.width → KT all (t.kid j)) : KT all t
theorem KT.small {all : Bool} {t : Tree} (h : KT all t) : Small t := by
  induction h with
  | mk t h w k ih => exact .mk t (by omega) ih
theorem kt0 {all : Bool} {k n : Int} (h : 1 ≤ k ∧ k ≤ 11) : KT all (mk0 k n) := .mk _ (by show 1 ≤ k ∧ k ≤ _; cases all <;> simp <;> omega) (by simp [mk0, Tree.width, Tree.kids]) fun j hj => by simp [mk0, Tree.width, Tree.kids] at hj
theorem kt1 {all : Bool} {k : Int} {a : Tree} (h : 1 ≤ k ∧ k ≤ (if all then 14 else 11)) (ha : KT all a) : KT all (mk1 k a) := .mk _ h (by simp [mk1, Tree.width, Tree.kids]) fun j hj => by
  simp [mk1, Tree.width, Tree.kids] at hj
  subst hj
  exact ha
theorem kt2 {all : Bool} {k : Int} {a b : Tree} (h : 1 ≤ k ∧ k ≤ (if all then 14 else 11)) (ha : KT all a) (hb : KT all b) : KT all (mk2 k a b) := .mk _ h (by simp [mk2, Tree.width, Tree.kids]) fun j hj => by
  simp [mk2, Tree.width, Tree.kids] at hj
  match j with
  | 0 => exact ha
  | 1 => exact hb
theorem kAll {all : Bool} {k : Int} (h : 1 ≤ k ∧ k ≤ 11) : 1 ≤ k ∧ k ≤ (if all then 14 else 11) := by cases all <;> simp <;> omega
section
variable {T : Nat → ByteArray} {names : List ByteArray} {all : Bool}
theorem runR_kt : ∀ (f : Nat) (j : Job) (o n : Nat) (a : Tree) (m : Nat), (∀ hi b, j = .rowL hi b → KT all b) → (∀ e, j = .ways e → all = true) → runR T names all f j o n = some (.ok a m) → KT all a := by
  have hb : ∀ {r : Option Res} {gx gy : Tree → Tree} {k : Tree → Nat → Option Res} {a : Tree} {m : Nat}, bindR r gx gy k = some (.ok a m) → ∃ b i, r = some (.ok b i) ∧ k b i = some (.ok a m) := fun h => by
    rcases bindR_some h with ⟨b, i, h1, h2⟩ | ⟨c, i, t, y, h1, h2⟩
    · exact ⟨b, i, h1, h2⟩
    · cases h2
  intro f
  induction f with
  | zero => intro j o n a m _ _ h; simp [runR] at h
  | succ f ih =>
    intro j o n a m hj hw h
    have ih0 : ∀ {j o n a m}, (∀ hi b, j ≠ .rowL hi b) → (∀ e, j ≠ .ways e) → runR T names all f j o n = some (.ok a m) → KT all a := fun h1 h2 h3 => ih _ _ _ _ _ (fun hi b e => absurd e (h1 hi b)) (fun e e' => absurd e' (h2 e)) h3
    cases j with
    | formula =>
      simp only [runR] at h
      obtain ⟨b, i, h1, h2⟩ := hb h
      have k1 := ih0 (by simp) (by simp) h1
      split at h2
      · obtain ⟨c, i', h3, h4⟩ := hb h2
        have k2 := ih0 (by simp) (by simp) h3
        cases h4
        exact kt2 (kAll (by omega)) (kt1 (kAll (by omega)) k1) k2
      · cases h2; exact k1
    | row hi =>
      simp only [runR] at h
      obtain ⟨b, i, h1, h2⟩ := hb h
      have k1 := ih0 (by cases hi <;> simp [partR]) (by cases hi <;> simp [partR]) h1
      exact ih _ _ _ _ _ (fun hi' b' e => by cases e; exact k1) (fun e e' => by cases e') h2
    | rowL hi b =>
      simp only [runR] at h
      have k0 := hj hi b rfl
      split at h
      · obtain ⟨c, i, h1, h2⟩ := hb h
        have k1 := ih0 (by cases hi <;> simp [partR]) (by cases hi <;> simp [partR]) h1
        exact ih _ _ _ _ _ (fun hi' b' e => by cases e; exact kt2 (kAll (by cases hi <;> simp [kndR])) k0 k1) (fun e e' => by cases e') h2
      · cases h; exact k0
    | way =>
      simp only [runR] at h
      obtain ⟨b, i, h1, h2⟩ := hb h
      have k1 := ih0 (by simp) (by simp) h1
      split at h2
      · cases h2; exact k1
      split at h2
      · obtain ⟨c, i', h3, h4⟩ := hb h2
        cases h4; exact kt2 (kAll (by omega)) k1 (ih0 (by simp) (by simp) h3)
      split at h2
      · obtain ⟨c, i', h3, h4⟩ := hb h2
        cases h4; exact kt2 (kAll (by omega)) k1 (ih0 (by simp) (by simp) h3)
      split at h2
      · obtain ⟨c, i', h3, h4⟩ := hb h2
        have k2 := ih0 (by simp) (by simp) h3
        cases h4
        refine kt2 (kAll (by omega)) k2 (kt2 (kAll (by omega)) k1 ?_)
        unfold orTrue
        split
        · exact kt0 (by omega)
        · exact k2
      · cases h2; exact k1
    | single =>
      simp only [runR] at h
      split at h
      · split at h
        · cases h
        · obtain ⟨b, i, h1, h2⟩ := hb h
          have k1 := ih0 (by simp) (by simp) h1
          split at h2
          · cases h2; exact k1
          · cases h2
      split at h
      · rename_i hk
        split at h
        · cases h
        · obtain ⟨b, i, h1, h2⟩ := hb h
          have k1 := ih0 (by simp) (by simp) h1
          cases h2
          refine kt1 (kAll ?_) k1
          unfold preK at hk ⊢
          (repeat' split) <;> simp_all
      split at h
      · rename_i hc
        split at h
        · cases h
        · exact ih _ _ _ _ _ (fun hi b e => by cases e) (fun _ _ => hc.1) h
      · unfold wordR noR at h
        (repeat' split at h) <;> first
          | (cases h; exact kt0 (by omega))
          | cases h
    | ways e =>
      have hall := hw e rfl
      subst hall
      simp only [runR] at h
      split at h
      · obtain ⟨b, i, h1, h2⟩ := hb h
        have k1 := ih0 (by simp) (by simp) h1
        split at h2
        · obtain ⟨c, i', h3, h4⟩ := hb h2
          have k2 := ih0 (by simp) (by simp) h3
          split at h4
          · cases h4; exact kt2 (by cases e <;> simp) k1 k2
          · cases h4
        · cases h2
      split at h
      · rename_i hk
        obtain ⟨b, i, h1, h2⟩ := hb h
        have k1 := ih0 (by simp) (by simp) h1
        cases h2
        have hw : wayK (T n) = 0 ∨ 7 ≤ wayK (T n) ∧ wayK (T n) ≤ 9 := by unfold wayK; (repeat' split) <;> omega
        generalize wayK (T n) = w at hk hw
        refine kt1 ?_ k1
        cases e
        · show 1 ≤ w + 4 ∧ w + 4 ≤ 14; omega
        · show 1 ≤ w ∧ w ≤ 14; omega
      · cases h
/-- An answer within so many tokens; a fault has a number. -/
def InK (K : Nat) : Res → Prop
  | .ok _ m => m ≤ K
  | .bad c _ _ _ => c ≠ 0
theorem runR_in {K : Nat} (hK : eqS (T K) ⟨#[]⟩ = true) : ∀ (f : Nat) (j : Job) (o n : Nat) (r : Res), n ≤ K → runR T names all f j o n = some r → InK K r := by
  have hK := (eqS_empty _).1 hK
  have lt : ∀ {n : Nat} {t : ByteArray}, n ≤ K → eqS (T n) t = true → 0 < t.size → n + 1 ≤ K := fun {n t} hn h h0 => by
    rcases Nat.lt_or_ge n K with h1 | h1
    · exact h1
    · rw [show n = K by omega] at h
      have := eqS_size h
      omega
  intro f
  induction f with
  | zero => intro j o n r _ h; simp [runR] at h
  | succ f ih =>
    intro j o n r hn h
    have hb : ∀ {j : Job} {o n : Nat} {gx gy : Tree → Tree} {k : Tree → Nat → Option Res} {r : Res}, n ≤ K → bindR (runR T names all f j o n) gx gy k = some r → (∀ a m, m ≤ K → k a m = some r → InK K r) → InK K r := fun hn h hk => by
      rcases bindR_some h with ⟨b, i, h1, h2⟩ | ⟨c, i, t, y, h1, rfl⟩
      · exact hk _ _ (ih _ _ _ _ hn h1) h2
      · exact (show c ≠ 0 from ih _ _ _ (.bad c i t y) hn h1)
    cases j with
    | formula =>
      simp only [runR] at h
      refine hb hn h fun a m hm h2 => ?_
      split at h2
      · rename_i he
        refine hb (lt hm he (by decide)) h2 fun b k hk h3 => ?_
        cases h3; exact hk
      · cases h2; exact hm
    | row hi =>
      simp only [runR] at h
      exact hb hn h fun a m hm h2 => ih _ _ _ _ hm h2
    | rowL hi b =>
      simp only [runR] at h
      split at h
      · rename_i he
        exact hb (lt hn he (by cases hi <;> decide)) h fun a m hm h2 => ih _ _ _ _ hm h2
      · cases h; exact hn
    | way =>
      simp only [runR] at h
      refine hb hn h fun a m hm h2 => ?_
      split at h2
      · cases h2; exact hm
      split at h2
      · exact hb (lt hm ‹_› (by decide)) h2 fun b k hk h3 => by cases h3; exact hk
      split at h2
      · exact hb (lt hm ‹_› (by decide)) h2 fun b k hk h3 => by cases h3; exact hk
      split at h2
      · exact hb (lt hm ‹_› (by decide)) h2 fun b k hk h3 => by cases h3; exact hk
      · cases h2; exact hm
    | single =>
      simp only [runR] at h
      split at h
      · rename_i he
        have hn1 := lt hn he (by decide)
        split at h
        · cases h; show (5 : Int) ≠ 0; decide
        refine hb hn1 h fun a m hm h2 => ?_
        split at h2
        · rename_i he2
          have := lt hm he2 (by decide)
          cases h2; exact this
        · cases h2; show (3 : Int) ≠ 0; decide
      split at h
      · rename_i he
        have hn1 : n + 1 ≤ K := by
          unfold preK at he
          split at he
          · exact lt hn ‹_› (by decide)
          split at he
          · exact absurd rfl he
          repeat (split at he; · exact lt hn ‹_› (by decide))
          exact absurd rfl he
        split at h
        · cases h; show (5 : Int) ≠ 0; decide
        refine hb hn1 h fun a m hm h2 => ?_
        cases h2; exact hm
      split at h
      · rename_i he
        have hn1 : n + 1 ≤ K := he.2.elim (fun h => lt hn h (by decide)) (fun h => lt hn h (by decide))
        split at h
        · cases h; show (5 : Int) ≠ 0; decide
        exact ih _ _ _ _ hn1 h
      · unfold wordR noR at h
        split at h
        · cases h; show (3 : Int) ≠ 0; decide
        rename_i hl
        have hn1 : n + 1 ≤ K := by
          rcases Nat.lt_or_ge n K with h1 | h1
          · exact h1
          · refine absurd ?_ hl
            rw [show n = K by omega]
            unfold lowT
            rw [hK]
            rfl
        (repeat' split at h) <;> first
          | (cases h; exact hn1)
          | (cases h; show (4 : Int) ≠ 0; decide)
    | ways e =>
      simp only [runR] at h
      split at h
      · rename_i he
        refine hb (lt hn he (by decide)) h fun a m hm h2 => ?_
        split at h2
        · rename_i he2
          refine hb (lt hm he2 (by decide)) h2 fun b k hk h3 => ?_
          split at h3
          · rename_i he3
            have := lt hk he3 (by decide)
            cases h3; exact this
          · cases h3; show (3 : Int) ≠ 0; decide
        · cases h2; show (3 : Int) ≠ 0; decide
      split at h
      · rename_i he
        have hn1 : n + 1 ≤ K := by
          unfold wayK at he
          repeat (split at he; · exact lt hn ‹_› (by decide))
          exact absurd rfl he
        refine hb hn1 h fun a m hm h2 => ?_
        cases h2; exact hm
      · cases h; show (3 : Int) ≠ 0; decide
end
/-- What is answered at the end: the formula, the place and the number of what is wrong. -/
noncomputable def ansR (kids : Int → Int) (s : ByteArray) : Res → Tree × Int × Int
  | .bad c m _ _ => (mk0 0 0, atT s m, c)
  | .ok a m => if eqS (tokT s m) ⟨#[]⟩ = false then (mk0 0 0, atT s m, 3) else if chk kids a = 0 then (a, 0, 0) else (mk0 0 0, s.size, chk kids a)
/-- What reading a text comes to. -/
theorem reads_end (s : ByteArray) (names : List ByteArray) (all : Bool) (hs : s.size ≤ 300) : ∃ r, runR (tokT s) names all 3000 .formula 0 0 = some r ∧ (∀ a m, r = .ok a m → KT all a) ∧ (∀ c m x y, r = .bad c m x y → c = 3 ∨ c = 4 ∨ c = 5) := by
  obtain ⟨K, h1, h2, h3⟩ := tok_end s
  obtain ⟨r, e1, e2, e3⟩ := runR_ends (T := tokT s) (names := names) (all := all) h2 3000 .formula 0 0 (Nat.zero_le _) (by show 8 * (K - 0) + 4 < 3000; omega)
  exact ⟨r, e1, fun a m h => runR_kt 3000 .formula 0 0 a m (fun _ _ h => by cases h) (fun _ h => by cases h) (by rw [e1, h]), fun c m x y h => (e3 c m x y h).2⟩
end Go.Proofs.YtjbkbjedlgkibaaDoor
