/-
  A formula's automaton, plain: the atoms in order, the table of what is kept. No statement is proved here.
-/
import Derived.Test.YtihgbinhidppdaaTa2
import Derived.Test.YtihgbinhidppdaaSrt
namespace Go.Proofs.Ytihgbinhidppdaa
open Go.RowKit
set_option linter.unusedSimpArgs false
set_option linter.unusedVariables false
theorem strict_eq : ∀ (a b : List Int), a.Pairwise (· < ·) → b.Pairwise (· < ·) → (∀ x, x ∈ a ↔ x ∈ b) → a = b
  | [], [], _, _, _ => rfl
  | [], y :: b, _, _, h => by have := (h y).2 (by simp); cases this
  | x :: a, [], _, _, h => by have := (h x).1 (by simp); cases this
  | x :: a, y :: b, ha, hb, h => by
    rw [List.pairwise_cons] at ha hb
    have hxy : x = y := by
      have h1 := (h x).1 (by simp)
      have h2 := (h y).2 (by simp)
      rcases List.mem_cons.1 h1 with e | e
      · exact e
      · rcases List.mem_cons.1 h2 with e2 | e2
        · exact e2.symm
        · have := ha.1 y e2; have := hb.1 x e; omega
    subst hxy
    refine congrArg _ (strict_eq a b ha.2 hb.2 fun z => ⟨fun hz => ?_, fun hz => ?_⟩)
    · have := ha.1 z hz
      rcases List.mem_cons.1 ((h z).1 (by simp [hz])) with e | e
      · omega
      · exact e
    · have := hb.1 z hz
      rcases List.mem_cons.1 ((h z).2 (by simp [hz])) with e | e
      · omega
      · exact e
theorem numsF_strict (p : Nat → Bool) (k : Nat) : (numsF p k).Pairwise (· < ·) := by
  unfold numsF
  rw [List.pairwise_map]
  refine List.Pairwise.imp (R := fun a b : Nat => a < b) (fun h => by omega) ?_
  exact List.Pairwise.filter _ (List.pairwise_lt_range ..)
theorem le_strict {l : List Int} (h : l.Pairwise (fun a b => a ≤ b)) (hn : l.Nodup) : l.Pairwise (· < ·) := by
  have := List.Pairwise.and h hn
  exact this.imp fun ⟨h1, h2⟩ => by omega
theorem sort_atoms {f : Tree} (hw : f.wf lKids) : sortI (addI [] (atomsOf f)) = sortA (atomsOf f) := by
  have hp : (sortI (addI [] (atomsOf f))).Perm (addI [] (atomsOf f)) := List.mergeSort_perm _ _
  refine strict_eq _ _ (le_strict ?_ (hp.nodup_iff.2 (addI_nodup _ _ (by simp)))) (numsF_strict _ _) fun x => ?_
  · have := List.pairwise_mergeSort (le := fun x y : Int => decide (x ≤ y)) (fun a b c h1 h2 => by simp only [decide_eq_true_eq] at *; omega) (fun a b => by simp only [Bool.or_eq_true, decide_eq_true_eq]; omega) (addI [] (atomsOf f))
    exact this.imp fun h => by simpa using h
  · rw [hp.mem_iff, mem_addI, mem_sortA (atoms_range f hw)]
    simp
theorem tabI_of {f : Tree} (hw : f.wf pKids) (h10 : (sortA (atomsOf f)).length + (addT [] (partsOf f)).length ≤ 10) : TabI (sortA (atomsOf f)) (addT [] (partsOf f)) where
  few := h10
  atoms x hx := atoms_range f (wf_p hw) x ((mem_sortA (atoms_range f (wf_p hw))).1 hx)
  told g hg := part_told (wf_p hw) hg
  wf g hg := parts_wf pKids f hw g (((mem_addT _ _).1 hg).resolve_left (by simp))
/-! ### The table of what is kept -/
noncomputable def byRow (A : List Int) (P : List Tree) (k r : Nat) : List Int := numsF (fun t => keptE A P t == r) k
noncomputable def byTab (A : List Int) (P : List Tree) (k : Nat) : List (List Int) := (List.range (2 ^ P.length)).map (byRow A P k)
@[simp] theorem byTab_len (A : List Int) (P : List Tree) (k : Nat) : (byTab A P k).length = 2 ^ P.length := by simp [byTab]
theorem byTab_at {A : List Int} {P : List Tree} {k r : Nat} (h : r < 2 ^ P.length) : (byTab A P k).getD r [] = byRow A P k r := by
  unfold byTab
  rw [List.getD_eq_getElem?_getD, List.getElem?_map, List.getElem?_range h]
  rfl
theorem byRow_len (A : List Int) (P : List Tree) (k r : Nat) : (byRow A P k r).length ≤ k := numsF_len _ _
theorem byTab_zero (A : List Int) (P : List Tree) : byTab A P 0 = List.replicate (2 ^ P.length) [] := by
  unfold byTab
  rw [List.eq_replicate_iff]
  refine ⟨by simp, fun b hb => ?_⟩
  obtain ⟨r, _, rfl⟩ := List.mem_map.1 hb
  rfl
theorem kept_lt (A : List Int) (P : List Tree) (s : Nat) : keptE A P s < 2 ^ P.length := keptN_lt _ _
theorem byTab_set (A : List Int) (P : List Tree) (k : Nat) : (byTab A P k).set (keptE A P k) (byRow A P k (keptE A P k) ++ [(k : Int)]) = byTab A P (k + 1) := by
  apply List.ext_getElem?
  intro j
  rw [List.getElem?_set]
  by_cases hj : j < 2 ^ P.length
  · rw [getD_at (L := byTab A P (k + 1)) (by simpa using hj), byTab_at hj]
    have hS : byRow A P (k + 1) j = if (keptE A P k == j) = true then byRow A P k j ++ [(k : Int)] else byRow A P k j := numsF_succ _ _
    rw [hS]
    by_cases e : keptE A P k = j
    · rw [if_pos e, e, if_pos (by simpa using hj), if_pos (by simp)]
    · rw [if_neg e, getD_at (L := byTab A P k) (by simpa using hj), byTab_at hj, if_neg (by simpa using e)]
  · rw [List.getElem?_eq_none (by simpa using hj), if_neg (fun e : keptE A P k = j => hj (e ▸ kept_lt A P k)), List.getElem?_eq_none (by simpa using hj)]
theorem owed_lt {a p s : Nat} (h : s < 2 ^ (a + p)) : s / 2 ^ a < 2 ^ p := by
  rw [Nat.div_lt_iff_lt_mul (Nat.two_pow_pos _), Nat.mul_comm, ← Nat.pow_add]
  exact h
theorem byTab_owed {A : List Int} {P : List Tree} {s : Nat} (h : s < 2 ^ (A.length + P.length)) : (byTab A P (2 ^ (A.length + P.length))).getD (s / 2 ^ A.length) [] = nextE A P (A.length + P.length) s := byTab_at (owed_lt h)
/-! ### The automaton, row by row -/
noncomputable def stE (A : List Int) (P : List Tree) (f : Tree) (k : Nat) : List Int := numsF (fun s => holdsT (chE A P s) f) k
noncomputable def nxE (A : List Int) (P : List Tree) (k : Nat) : List (List Int) := (List.range k).map (nextE A P (A.length + P.length))
noncomputable def leE (A : List Int) (is : Bool) (k : Nat) : List Int := (List.range k).map fun s => lettA A s is A.length
theorem stE_succ (A : List Int) (P : List Tree) (f : Tree) (k : Nat) : stE A P f (k + 1) = if holdsT (chE A P k) f = true then stE A P f k ++ [(k : Int)] else stE A P f k := numsF_succ _ _
theorem nxE_succ (A : List Int) (P : List Tree) (k : Nat) : nxE A P (k + 1) = nxE A P k ++ [nextE A P (A.length + P.length) k] := by simp [nxE, List.range_succ]
theorem leE_succ (A : List Int) (is : Bool) (k : Nat) : leE A is (k + 1) = leE A is k ++ [lettA A k is A.length] := by simp [leE, List.range_succ]
@[simp] theorem nxE_len (A : List Int) (P : List Tree) (k : Nat) : (nxE A P k).length = k := by simp [nxE]
@[simp] theorem leE_len (A : List Int) (is : Bool) (k : Nat) : (leE A is k).length = k := by simp [leE]
theorem stE_len (A : List Int) (P : List Tree) (f : Tree) (k : Nat) : (stE A P f k).length ≤ k := numsF_len _ _
theorem tabE_eq (A : List Int) (P : List Tree) (f : Tree) : tabE A P f = ⟨stE A P f (2 ^ (A.length + P.length)), nxE A P (2 ^ (A.length + P.length)), leE A true (2 ^ (A.length + P.length)), leE A false (2 ^ (A.length + P.length)), fairsE A P (A.length + P.length) P.length⟩ := rfl
theorem rowsD_at {A : List Int} {P : List Tree} {k z i : Nat} {R : List Int} (hz : z = i) (hi : i < 2 ^ P.length) (hR : (byTab A P k).getD i [] = R) : ((byTab A P k).map fun l => [dints l])[z]? = some [dints R] := by
  subst hz
  rw [List.getElem?_map, getD_at (L := byTab A P k) (by simpa using hi), hR]
  rfl
theorem deepMLL_snoc {S : Nat → Bool} {H : List AObj} {x y : List D} (h : DeepML S H x y) : ∀ a : List (List D), DeepMLL S H (a ++ [x]) (a ++ [y])
  | [] => .cons _ _ _ _ h (.refl _)
  | z :: a => .cons _ _ _ _ (.refl _) (deepMLL_snoc h a)
theorem deepM_grow {S : Nat → Bool} {H : List AObj} {L : List (List Int)} {c id ver n : Nat} {m : Bool} {R : List Int} (hc : c = L.length) (hn : n = R.length) (hS : S id = true) (hH : H[id]? = some (.vec m ver 1 (i64s R))) :
    DeepMLL S H (List.drop 0 (List.take c (growsI L)) ++ List.drop 0 (List.take 1 [[D.own id ver 0 n]])) (growsI (L ++ [R])) := by
  subst hc hn
  rw [drop_take_all (by simp), show growsI (L ++ [R]) = growsI L ++ [[dints R]] by simp [growsI]]
  exact deepMLL_snoc (.cons _ _ _ _ (.own _ _ _ _ _ _ _ _ hS hH (deepMLL_eq (drop_take_all (by simp [i64s])))) (.refl _)) _
theorem renLL_i64s (ρ : Nat → Nat) (l : List Int) : renLL ρ (i64s l) = i64s l := renLL_pure _ (pureLL_map _ (fun l => by simp [PureL, Pure]) l)
theorem renLL_trows (ρ : Nat → Nat) (l : List Tree) : renLL ρ (trows l) = trows l := renLL_pure _ (pure_trows l)
def u64r (l : List Int) : List (List D) := l.map fun n => [.sc (.int .u64 n)]
@[simp] theorem u64r_len (l : List Int) : (u64r l).length = l.length := List.length_map ..
theorem pure_u64r (l : List Int) : PureLL (u64r l) := pureLL_map _ (fun l => by simp [PureL, Pure]) l
@[simp] theorem underLL_u64r {m : Nat} (l : List Int) : UnderLL m (u64r l) ↔ True := ⟨fun _ => trivial, fun _ => underLL_pure _ (pure_u64r l)⟩
theorem u64r_snoc {l : List Int} {c : Nat} {x : Int} (h : c = l.length) : List.drop 0 (List.take c (u64r l)) ++ [[.sc (.int .u64 x)]] = u64r (l ++ [x]) := by
  subst h
  rw [drop_take_all (by simp)]
  simp [u64r]
end Go.Proofs.Ytihgbinhidppdaa
