/-
  Sp0 Sp1 Sp2 Sp3 Sp4 Sp5 joined. No statement is proved here.
-/
import Derived.Test.YtjnfahdolkgnoaaQPyA
import Derived.DeepKeys4
namespace Go.Proofs.Ytjnfahdolkgnoaa
/-! ### XSp0 -/
section
/-- Where a marking first came from: a marking and a step. -/
abbrev Org := Int × Int
abbrev EdgeD := Int × Int
structure SpR where
  e : Int
  marks : List (List Int)
  org : List Org
  cur : List EdgeD
  last : Org
/-- The place of a marking among some. -/
def idxM (marks : List (List Int)) (m : List Int) : Nat := marks.idxOf m
def overB (m : List Int) (tok : Int) : Bool := m.any fun x => decide (x > tok)
/-- A marking that is come to: what is wrong; the marks behind it; whence. -/
def putE (marks : List (List Int)) (m : List Int) (tok : Int) (st : Nat) : Int := if overB m tok = true then 7 else if m ∈ marks then 0 else if marks.length = st then 8 else 0
def putM (marks : List (List Int)) (m : List Int) (tok : Int) (st : Nat) : List (List Int) := if putE marks m tok st = 0 ∧ ¬ m ∈ marks then marks ++ [m] else marks
def putG (marks : List (List Int)) (org : List Org) (m : List Int) (tok : Int) (st : Nat) (o : Org) : List Org := if putE marks m tok st = 0 ∧ ¬ m ∈ marks then org ++ [o] else org
def putI (marks : List (List Int)) (m : List Int) (tok : Int) (st : Nat) : Int := if putE marks m tok st = 0 then (idxM (putM marks m tok st) m : Int) else 0
namespace ProcD
/-- The edges of marking number n, by the steps that are left. -/
noncomputable def edgesF (P : ProcD) (tok : Int) (st : Nat) (n : Nat) (M : List Int) : List Int → List (List Int) → List Org → List EdgeD → Org → SpR
  | [], marks, org, cur, last => ⟨0, marks, org, cur, last⟩
  | k :: r, marks, org, cur, _ =>
    if P.firE M k ≠ 0 then ⟨P.firE M k, marks, org, cur, ((n : Int), k)⟩
    else if putE marks (P.firL M k) tok st ≠ 0 then ⟨putE marks (P.firL M k) tok st, marks, org, cur, ((n : Int), k)⟩
    else P.edgesF tok st n M r (putM marks (P.firL M k) tok st) (putG marks org (P.firL M k) tok st ((n : Int), k)) (cur ++ [(k, putI marks (P.firL M k) tok st)]) ((n : Int), k)
structure SpF where
  e : Int
  marks : List (List Int)
  org : List Org
  next : List (List EdgeD)
  last : Org
/-- All of them, from number n on. -/
noncomputable def runF (P : ProcD) (tok : Int) (st : Nat) : Nat → Nat → List (List Int) → List Org → List (List EdgeD) → Org → SpF
  | 0, _, marks, org, next, last => ⟨0, marks, org, next, last⟩
  | f + 1, n, marks, org, next, last =>
    if n < marks.length then
      if (P.edgesF tok st n (marks.getD n []) (P.enL (marks.getD n [])) marks org [] last).e ≠ 0 then
        ⟨(P.edgesF tok st n (marks.getD n []) (P.enL (marks.getD n [])) marks org [] last).e, (P.edgesF tok st n (marks.getD n []) (P.enL (marks.getD n [])) marks org [] last).marks,
          (P.edgesF tok st n (marks.getD n []) (P.enL (marks.getD n [])) marks org [] last).org, next, (P.edgesF tok st n (marks.getD n []) (P.enL (marks.getD n [])) marks org [] last).last⟩
      else P.runF tok st f (n + 1) (P.edgesF tok st n (marks.getD n []) (P.enL (marks.getD n [])) marks org [] last).marks (P.edgesF tok st n (marks.getD n []) (P.enL (marks.getD n [])) marks org [] last).org
        (next ++ [(P.edgesF tok st n (marks.getD n []) (P.enL (marks.getD n [])) marks org [] last).cur]) (P.edgesF tok st n (marks.getD n []) (P.enL (marks.getD n [])) marks org [] last).last
    else ⟨0, marks, org, next, last⟩
/-- What is known of the markings while one looks. -/
structure Sp (P : ProcD) (tok : Int) (st : Nat) (marks : List (List Int)) (org : List Org) : Prop where
  one : marks.Nodup
  good : ∀ m ∈ marks, P.markB m = true
  room : marks.length ≤ st
  len : org.length = marks.length
  back : ∀ i, 0 < i → i < org.length → 0 ≤ (org.getD i (0, 0)).1 ∧ (org.getD i (0, 0)).1 < (i : Int)
  root : org.length = 0 ∨ (org.getD 0 (0, 0)) = (-1, -1)
theorem putE_zero {marks : List (List Int)} {m : List Int} {tok : Int} {st : Nat} (h : putE marks m tok st = 0) : overB m tok = false ∧ (m ∈ marks ∨ marks.length ≠ st) := by
  unfold putE at h
  split at h
  · cases h
  · rename_i h1
    refine ⟨by simpa using h1, ?_⟩
    split at h
    · rename_i h2; exact .inl h2
    · split at h
      · cases h
      · rename_i h3; exact .inr h3
theorem Sp.put {P : ProcD} {tok : Int} {st : Nat} {marks : List (List Int)} {org : List Org} (h : Sp P tok st marks org) {m : List Int} (hm : P.markB m = true) {a k : Int} (ha : 0 ≤ a) (hl : a < (marks.length : Int)) : Sp P tok st (putM marks m tok st) (putG marks org m tok st (a, k)) := by
  unfold putM putG
  split
  · rename_i q
    obtain ⟨q1, q2⟩ := q
    have h3 := (putE_zero q1).2.resolve_left q2
    have hr := h.room
    have hlen := h.len
    refine ⟨?_, ?_, by simp; omega, by simp [hlen], ?_, ?_⟩
    · rw [List.nodup_append]
      refine ⟨h.one, by simp, fun x hx y hy => ?_⟩
      rw [List.mem_singleton] at hy
      subst hy
      intro e; subst e; exact q2 hx
    · intro x hx
      rcases List.mem_append.1 hx with hx | hx
      · exact h.good x hx
      · rw [List.mem_singleton] at hx; subst hx; exact hm
    · intro i hi hil
      rw [List.length_append, List.length_singleton] at hil
      by_cases e : i = org.length
      · subst e
        rw [List.getD_eq_getElem?_getD, List.getElem?_append_right (Nat.le_refl _), Nat.sub_self]
        simp
        omega
      · have := h.back i hi (by omega)
        rw [List.getD_eq_getElem?_getD, List.getElem?_append_left (by omega), ← List.getD_eq_getElem?_getD]
        exact this
    · right
      rcases h.root with q | q
      · omega
      · rw [List.getD_eq_getElem?_getD, List.getElem?_append_left (by omega), ← List.getD_eq_getElem?_getD]
        exact q
  · exact h
theorem putM_len {marks : List (List Int)} {m : List Int} {tok : Int} {st : Nat} : marks.length ≤ (putM marks m tok st).length := by
  unfold putM; split <;> simp
theorem putM_old {marks : List (List Int)} {m : List Int} {tok : Int} {st : Nat} {i : Nat} (h : i < marks.length) : (putM marks m tok st).getD i [] = marks.getD i [] := by
  unfold putM
  split
  · rw [List.getD_eq_getElem?_getD, List.getElem?_append_left h, ← List.getD_eq_getElem?_getD]
  · rfl
theorem putM_mem {marks : List (List Int)} {m : List Int} {tok : Int} {st : Nat} (h : putE marks m tok st = 0) : m ∈ putM marks m tok st := by
  unfold putM
  split
  · simp
  · rename_i q
    by_cases e : m ∈ marks
    · exact e
    · exact absurd ⟨h, e⟩ q
theorem mem_getDL {l : List (List Int)} {k : Nat} (h : k < l.length) : l.getD k [] ∈ l := by
  rw [List.getD_eq_getElem?_getD, List.getElem?_eq_getElem h]; exact List.getElem_mem h
/-- What an enabled step does. -/
theorem enL_spec {P : ProcD} {M : List Int} {k : Int} (h : k ∈ P.enL M) : P.markE M = 0 ∧ 0 ≤ k ∧ k.toNat < P.stepsL.length ∧ P.mayB M (P.stepsL.getD k.toNat (0, 0, 0)) = true := by
  unfold enL at h
  split at h
  · rename_i he
    refine ⟨he, ?_⟩
    have key : ∀ n, n ≤ P.stepsL.length → k ∈ P.mayTo M P.stepsL n → 0 ≤ k ∧ k.toNat < n ∧ P.mayB M (P.stepsL.getD k.toNat (0, 0, 0)) = true := by
      intro n
      induction n with
      | zero => intro _ h; simp [mayTo] at h
      | succ n ih =>
        intro hn h
        simp only [mayTo] at h
        split at h
        · rename_i hm
          rcases List.mem_append.1 h with h | h
          · obtain ⟨h1, h2, h3⟩ := ih (by omega) h
            exact ⟨h1, by omega, h3⟩
          · rw [List.mem_singleton] at h; subst h
            refine ⟨by omega, by simp, ?_⟩
            simpa using hm
        · obtain ⟨h1, h2, h3⟩ := ih (by omega) h
          exact ⟨h1, by omega, h3⟩
    obtain ⟨h1, h2, h3⟩ := key _ (Nat.le_refl _) h
    exact ⟨h1, h2, h3⟩
  · simp at h
theorem fire_of {P : ProcD} {M : List Int} {k : Int} (h : k ∈ P.enL M) : P.firE M k = P.fireE M (P.stepsL.getD k.toNat (0, 0, 0)) ∧ P.firL M k = P.fireL M (P.stepsL.getD k.toNat (0, 0, 0)) := by
  obtain ⟨h1, h2, h3, h4⟩ := enL_spec h
  have e : P.firE M k = P.fireE M (P.stepsL.getD k.toNat (0, 0, 0)) := by
    unfold firE
    rw [if_neg (by omega), if_neg (by omega), if_pos h4]
  refine ⟨e, ?_⟩
  unfold firL
  rw [e]
  split
  · rfl
  · rename_i q; exact (fireL_bad q).symm
theorem fire_good {P : ProcD} {M : List Int} (hM : P.markB M = true) {k : Int} (h : k ∈ P.enL M) (he : P.firE M k = 0) : P.markB (P.firL M k) = true := by
  obtain ⟨e1, e2⟩ := fire_of h
  rw [e2]
  exact fire_ok hM (enL_spec h).2.2.2 (by rw [← e1]; exact he)
theorem enL_len (P : ProcD) (M : List Int) : (P.enL M).length ≤ P.stepsL.length := by
  unfold enL
  split
  · exact P.mayTo_len M _ _
  · simp
end ProcD
end

/-! ### XSp1 -/
section
open Go.RowKit
set_option linter.unusedSimpArgs false
set_option linter.unusedVariables false
/-! ### Keys -/
theorem keyOf_arr {P : Program} {k e : TypeId} {q : IntKind} {n : Nat} (hsz : 0 < P.types.size) (hk : P.keyType k = true) (hu : P.underlying k = some (.array n e)) (he : P.underlying e = some (.int q)) (hce : P.cellsOf e = 1) (hck : P.cellsOf k = n) (vs : List Int) (hl : vs.length = n) (hw : ∀ x ∈ vs, (Lit.int q x).wf = true) :
    ∃ l, keyOf P k (.agg (vs.map (Value.int q)).toArray) = some l := by
  obtain ⟨d, hd⟩ : ∃ d, P.types.size = d + 1 := ⟨P.types.size - 1, by omega⟩
  have key : ∀ is : List Nat, (∀ i ∈ is, i < n) → ∃ r, (is.mapM fun i => P.keyLits (d + 1) e (((vs.map (Value.int q)).drop (i * P.cellsOf e)).take (P.cellsOf e))) = some r := by
    intro is
    induction is with
    | nil => intro _; exact ⟨[], rfl⟩
    | cons i is ih =>
      intro h
      obtain ⟨r, hr⟩ := ih fun j hj => h j (by simp [hj])
      have hi := h i (by simp)
      have e1 : ((vs.map (Value.int q)).drop (i * P.cellsOf e)).take (P.cellsOf e) = [.int q (vs[i]'(by omega))] := by
        rw [hce, Nat.mul_one, List.drop_eq_getElem_cons (by simp; omega)]
        simp
      refine ⟨[.int q (vs[i]'(by omega))] :: r, ?_⟩
      rw [List.mapM_cons, hr, e1]
      simp only [Program.keyLits, he]
      rw [if_pos ⟨trivial, hw _ (List.getElem_mem _)⟩]
      rfl
  obtain ⟨r, hr⟩ := key (List.range n) fun i hi => List.mem_range.1 hi
  unfold keyOf
  rw [hu]
  simp only [hk, Value.formed, hu, hck, Bool.true_and]
  rw [if_pos (by simp [hl]), hd]
  show ∃ l, (P.keyLits (d + 1 + 1) k (vs.map (Value.int q)).toArray.toList).map _ = some l
  rw [Program.keyLits]
  simp only [hu]
  rw [if_pos (by simp [hl, hck]), hr]
  · exact ⟨_, rfl⟩
  · exact hu
def keyL (m : List Int) : List Int := (List.range 30).map fun i => m.getD i 0
def keyD (m : List Int) : List D := (keyL m).map fun x => .sc (.int .i8 x)
def keyVal (m : List Int) : Value := .agg ((keyD m).map scV).toArray
theorem keyVal_eq (m : List Int) : keyVal m = .agg ((keyL m).map (Value.int .i8)).toArray := by
  unfold keyVal keyD
  rw [List.map_map]
  rfl
theorem keyVal_inj {m m' : List Int} (hl : m.length = m'.length) (h30 : m.length ≤ 30) (h : keyVal m = keyVal m') : m = m' := by
  rw [keyVal_eq, keyVal_eq] at h
  have h := (Value.agg.injEq _ _).mp h
  have h := congrArg Array.toList h
  simp only [List.toList_toArray] at h
  have h : keyL m = keyL m' := by
    have := congrArg (List.map fun v => match v with | Value.int _ x => x | _ => 0) h
    simpa [List.map_map, Function.comp_def] using this
  apply List.ext_getElem hl
  intro i h1 h2
  have := congrArg (fun l : List Int => l[i]?) h
  simp only [keyL, List.getElem?_map, List.getElem?_range (show i < 30 by omega), Option.map_some, Option.some.injEq] at this
  rw [List.getD_eq_getElem?_getD, List.getD_eq_getElem?_getD, List.getElem?_eq_getElem h1, List.getElem?_eq_getElem h2] at this
  exact this
/-- The table of some markings. -/
noncomputable def fMto (marks : List (List Int)) : Nat → Value → Option Value
  | 0 => fun _ => none
  | k + 1 => putF (fMto marks k) (keyVal (marks.getD k [])) (.int .i64 k)
noncomputable def fM (marks : List (List Int)) : Value → Option Value := fMto marks marks.length
theorem fMto_app {marks : List (List Int)} {m : List Int} : ∀ k, k ≤ marks.length → fMto (marks ++ [m]) k = fMto marks k
  | 0, _ => rfl
  | k + 1, h => by
    simp only [fMto]
    rw [fMto_app k (by omega), List.getD_eq_getElem?_getD, List.getElem?_append_left (by omega), ← List.getD_eq_getElem?_getD]
theorem fM_put (marks : List (List Int)) (m : List Int) : fM (marks ++ [m]) = putF (fM marks) (keyVal m) (.int .i64 marks.length) := by
  unfold fM
  rw [List.length_append, List.length_singleton]
  simp only [fMto]
  rw [fMto_app _ (Nat.le_refl _), List.getD_eq_getElem?_getD, List.getElem?_append_right (Nat.le_refl _), Nat.sub_self]
  rfl
theorem fMto_none {marks : List (List Int)} {m : List Int} (hl : ∀ x ∈ marks, x.length = m.length) (h30 : m.length ≤ 30) (hm : ¬ m ∈ marks) : ∀ k, k ≤ marks.length → fMto marks k (keyVal m) = none
  | 0, _ => rfl
  | k + 1, h => by
    simp only [fMto, putF]
    rw [if_neg ?_, fMto_none hl h30 hm k (by omega)]
    intro e
    have hk := ProcD.mem_getDL (l := marks) (k := k) (by omega)
    have := keyVal_inj (hl _ hk).symm h30 e
    exact hm (this ▸ hk)
theorem fMto_some {marks : List (List Int)} {m : List Int} (hl : ∀ x ∈ marks, x.length = m.length) (h30 : m.length ≤ 30) (hn : marks.Nodup) {i : Nat} (hi : i < marks.length) (hm : marks.getD i [] = m) : ∀ k, i < k → k ≤ marks.length → fMto marks k (keyVal m) = some (.int .i64 i)
  | 0, h, _ => by omega
  | k + 1, h, hk => by
    simp only [fMto, putF]
    by_cases e : i = k
    · subst e
      rw [hm, if_pos rfl]
    · rw [if_neg ?_, fMto_some hl h30 hn hi hm k (by omega) (by omega)]
      intro q
      have hkm := ProcD.mem_getDL (l := marks) (k := k) (by omega)
      have := keyVal_inj (hl _ hkm).symm h30 q
      rw [← hm, List.getD_eq_getElem?_getD, List.getD_eq_getElem?_getD, List.getElem?_eq_getElem hi, List.getElem?_eq_getElem (by omega)] at this
      exact List.pairwise_iff_getElem.1 hn i k hi (by omega) (by omega) this
theorem idxM_spec {marks : List (List Int)} {m : List Int} (h : m ∈ marks) : idxM marks m < marks.length ∧ marks.getD (idxM marks m) [] = m := by
  unfold idxM
  have h1 := List.idxOf_lt_length_of_mem h
  refine ⟨h1, ?_⟩
  rw [List.getD_eq_getElem?_getD, List.getElem?_eq_getElem h1, List.getElem_idxOf h1]
  rfl
theorem fM_some {marks : List (List Int)} {m : List Int} (hl : ∀ x ∈ marks, x.length = m.length) (h30 : m.length ≤ 30) (hn : marks.Nodup) (h : m ∈ marks) : fM marks (keyVal m) = some (.int .i64 (idxM marks m)) := by
  obtain ⟨h1, h2⟩ := idxM_spec h
  exact fMto_some hl h30 hn h1 h2 _ h1 (Nat.le_refl _)
theorem fM_none {marks : List (List Int)} {m : List Int} (hl : ∀ x ∈ marks, x.length = m.length) (h30 : m.length ≤ 30) (h : ¬ m ∈ marks) : fM marks (keyVal m) = none := fMto_none hl h30 h _ (Nat.le_refl _)
/-- A store at one place of a row. -/
theorem put_one {cs : List D} {z k : Nat} {c : D} {K : List D → Prop} (hz : z = k) (h : k < cs.length) (hK : K (cs.set k c)) : putK cs z [c] K := by
  subst hz
  refine (putK_iff _ _ _ _).2 ⟨by simp; omega, ?_⟩
  rw [List.set_eq_take_append_cons_drop, if_pos h] at hK
  rw [List.length_singleton, List.append_assoc, List.singleton_append]
  exact hK
/-! ### The search -/
def dpair (a b : Int) : List D := [.sc (.int .i64 a), .sc (.int .i64 b)]
def prows (l : List (Int × Int)) : List (List D) := l.map fun o => dpair o.1 o.2
def dpairs (l : List (Int × Int)) : D := .lst 2 (prows l)
def erows (L : List (List EdgeD)) : List (List D) := L.map fun l => [dpairs l]
@[simp] theorem prows_len (l : List (Int × Int)) : (prows l).length = l.length := by simp [prows]
@[simp] theorem erows_len (l : List (List EdgeD)) : (erows l).length = l.length := by simp [erows]
theorem pure_prows (l : List (Int × Int)) : PureLL (prows l) := pureLL_map _ (fun l => by simp [dpair, PureL, Pure]) l
theorem pure_dpairs (l : List (Int × Int)) : Pure (dpairs l) := by simp only [dpairs, Pure]; exact pure_prows l
theorem pure_erows (l : List (List EdgeD)) : PureLL (erows l) := pureLL_map _ (fun l => by simp [PureL, pure_dpairs]) l
@[simp] theorem underLL_prows {m : Nat} (l : List (Int × Int)) : UnderLL m (prows l) ↔ True := ⟨fun _ => trivial, fun _ => underLL_pure _ (pure_prows l)⟩
@[simp] theorem underLL_erows {m : Nat} (l : List (List EdgeD)) : UnderLL m (erows l) ↔ True := ⟨fun _ => trivial, fun _ => underLL_pure _ (pure_erows l)⟩
@[simp] theorem under_dpairs {m : Nat} (l : List (Int × Int)) : Under m (dpairs l) ↔ True := ⟨fun _ => trivial, fun _ => under_pure _ (pure_dpairs l)⟩
theorem prows_at {l : List (Int × Int)} {z k : Nat} (hz : z = k) (h : k < l.length) : (prows l)[z]? = some (dpair (l.getD k (0, 0)).1 (l.getD k (0, 0)).2) := by
  subst hz
  unfold prows
  rw [List.getElem?_map, List.getElem?_eq_getElem h, List.getD_eq_getElem?_getD, List.getElem?_eq_getElem h]
  rfl
theorem prows_snoc {l : List (Int × Int)} {c : Nat} {a b : Int} (h : c = l.length) : List.drop 0 (List.take c (prows l)) ++ [dpair a b] = prows (l ++ [(a, b)]) := by
  subst h
  rw [drop_take_all (by simp)]
  simp [prows]
theorem erows_snoc {L : List (List EdgeD)} {c : Nat} {l : List EdgeD} (h : c = L.length) : List.drop 0 (List.take c (erows L)) ++ [[dpairs l]] = erows (L ++ [l]) := by
  subst h
  rw [drop_take_all (by simp)]
  simp [erows]
def sbox (P : ProcD) (tok : Int) (st n no nn : Nat) (last : Org) : List D := [.lst 2 (P.nodes.map nrow), .lst 2 (P.flows.map frow), .sc (.int .i64 tok), .sc (.int .i64 st), .own 2 n 0 n, .own 4 nn 0 nn, .mp 0, .own 3 no 0 no, .sc (.int .i64 last.1), .sc (.int .i64 last.2)]
noncomputable def sheap (P : ProcD) (tok : Int) (st : Nat) (marks : List (List Int)) (org : List Org) (next : List (List EdgeD)) (last : Org) : List AObj :=
  [.mapo true (mapIs Try.prog 166 (fM marks)), .row true (sbox P tok st marks.length org.length next.length last), .vec true marks.length 1 (grows marks), .vec true org.length 2 (prows org), .vec true next.length 1 (erows next)]
set_option maxRecDepth 100000 in
theorem laidOutS : laidOutB Try.prog = true := by kernel_rfl
theorem keyedS : Maps.Keyed Try.prog 166 := Maps.Keyed.of_law (deep_law_laid laidOutS (m := 2) (by omega) (of_decide_eq_true (by kernel_rfl)) (by kernel_rfl) (by rw [Try.underlying166]))
def c106_1 : PC := .seq (.ops [⟨(some 9), .bin .lss (.tmp 8) (.tmp 7), none, 0⟩] false) (.seq (.cond (.tmp 9) (.skip) (.exit 0)) (.seq (.block 1 (.seq (.ops [⟨(some 10), .move (.tmp 8), none, 0⟩,
    ⟨(some 11), .iaddr 1 (.tmp 6) (.tmp 8), none, 0⟩,
    ⟨(some 12), .load1 (.tmp 11), none, 0⟩,
    ⟨(some 4), .move (.tmp 10), none, 0⟩,
    ⟨(some 5), .move (.tmp 12), none, 0⟩] false) (.ops [⟨(some 13), .move (.tmp 4), none, 0⟩,
    ⟨(some 14), .move (.tmp 5), none, 0⟩,
    ⟨(some 15), .conv .i8 (.tmp 14), none, 0⟩,
    ⟨(some 16), .aaddr 30 1 (.tmp 3) (.tmp 13), none, 0⟩,
    ⟨none, .store 1 (.tmp 16) (.tmp 15), none, 0⟩] false))) (.ops [⟨(some 17), .bin .add (.tmp 8) (.const (.int .i64 1)), none, 0⟩,
    ⟨(some 8), .move (.tmp 17), none, 0⟩] false)))
def c106 : PC := .seq (.ops [⟨(some 2), .alloc [(.int .i8 0), (.int .i8 0), (.int .i8 0), (.int .i8 0), (.int .i8 0), (.int .i8 0), (.int .i8 0), (.int .i8 0), (.int .i8 0), (.int .i8 0), (.int .i8 0), (.int .i8 0), (.int .i8 0), (.int .i8 0), (.int .i8 0), (.int .i8 0), (.int .i8 0), (.int .i8 0), (.int .i8 0), (.int .i8 0), (.int .i8 0), (.int .i8 0), (.int .i8 0), (.int .i8 0), (.int .i8 0), (.int .i8 0), (.int .i8 0), (.int .i8 0), (.int .i8 0), (.int .i8 0)], none, 0⟩] false) (.seq (.ops [⟨(some 3), .alloc [(.int .i8 0), (.int .i8 0), (.int .i8 0), (.int .i8 0), (.int .i8 0), (.int .i8 0), (.int .i8 0), (.int .i8 0), (.int .i8 0), (.int .i8 0), (.int .i8 0), (.int .i8 0), (.int .i8 0), (.int .i8 0), (.int .i8 0), (.int .i8 0), (.int .i8 0), (.int .i8 0), (.int .i8 0), (.int .i8 0), (.int .i8 0), (.int .i8 0), (.int .i8 0), (.int .i8 0), (.int .i8 0), (.int .i8 0), (.int .i8 0), (.int .i8 0), (.int .i8 0), (.int .i8 0)], none, 0⟩] false) (.seq (.seq (.ops [⟨(some 6), .move (.tmp 0), none, 0⟩,
    ⟨(some 7), .len (.tmp 6), none, 0⟩,
    ⟨(some 8), .move (.const (.int .i64 0)), none, 0⟩] false) (.block 0 (.loop c106_1))) (.seq (.ops [⟨(some 18), .loadA 30 (.tmp 3), none, 0⟩,
    ⟨none, .store 30 (.tmp 2) (.tmp 18), none, 0⟩] false) (.ret))))
set_option maxRecDepth 100000 in
theorem c106_ok : FunOK Try.prog 106 19 [.agg 2 30] c106 := ⟨⟨Try.f106, Try.func106, rfl, by kernel_rfl, rfl, by kernel_rfl⟩⟩
def c105 : PC := .seq (.ops [⟨(some 3), .move (.const (.bool false)), none, 0⟩] false) (.seq (.ops [⟨(some 4), .move (.tmp 0), none, 0⟩,
    ⟨(some 5), .load1 (.tmp 1), none, 0⟩,
    ⟨(some 6), .nilchk (.tmp 5), none, 0⟩,
    ⟨(some 7), .faddr 2 (.tmp 6), none, 0⟩,
    ⟨(some 8), .load1 (.tmp 7), none, 0⟩,
    ⟨(some 9), .bin .gtr (.tmp 4) (.tmp 8), none, 0⟩,
    ⟨(some 3), .move (.tmp 9), none, 0⟩] false) (.ret))
set_option maxRecDepth 100000 in
theorem c105_ok : FunOK Try.prog 105 10 [.tmp 3] c105 := ⟨⟨Try.f105, Try.func105, rfl, by kernel_rfl, rfl, by kernel_rfl⟩⟩
def keyTo (m : List Int) (k : Nat) : List D := (List.range 30).map fun i => .sc (.int .i8 (if i < k then m.getD i 0 else 0))
theorem keyTo_set {m : List Int} {k : Nat} : (keyTo m k).set k (.sc (.int .i8 (m.getD k 0))) = keyTo m (k + 1) := by
  unfold keyTo
  apply List.ext_getElem?
  intro i
  rw [List.getElem?_set]
  by_cases hi : i < 30
  · by_cases e : k = i
    · subst e
      simp [hi]
    · rw [if_neg e]
      simp only [List.getElem?_map, List.getElem?_range hi, Option.map_some]
      by_cases q : i < k
      · rw [if_pos q, if_pos (by omega)]
      · rw [if_neg q, if_neg (by omega)]
  · rw [List.getElem?_eq_none (l := (List.range 30).map _) (by simp; omega), List.getElem?_eq_none (l := (List.range 30).map _) (by simp; omega)]
    split
    · simp; omega
    · rfl
theorem keyTo_all (m : List Int) : keyTo m m.length = keyD m := by
  unfold keyTo keyD keyL
  rw [List.map_map]
  refine List.map_congr_left fun i _ => ?_
  by_cases h : i < m.length
  · simp [h]
  · simp [h, List.getD_eq_getElem?_getD, List.getElem?_eq_none (Nat.le_of_not_lt h)]
set_option maxRecDepth 100000 in
theorem space_keyOf (m : List Int) (hl : m.length ≤ 30) (hm : ∀ x ∈ m, 0 ≤ x ∧ x ≤ 127) : PCall Try.prog 106 [dints m] (.agg (keyD m)) := by
  refine pcall_intro c106_ok (by simp) (by simp [PureL, Pure, pure_dints]) ?_ (by simp only [Pure, keyD]; generalize keyL m = l; induction l with | nil => simp [PureL] | cons x r ih => simpa [PureL, Pure] using ih)
  (apply rd_sound; focus (repeat' constructor))
  ((conv=>whnf);repeat(refine And.intro rfl ?_;(conv=>whnf)))
  rw [List.length_map]
  refine pwp_for [2, 3, 6, 7] (fun k : Nat => [(8, .sc (.int .i64 k))]) (fun k => [(1, .row true (keyTo m k))]) (fun k => k ≤ m.length) (fun k => m.length - k) 0 ?_
  ((conv=>whnf);repeat(refine And.intro rfl ?_;(conv=>whnf)))
  refine ⟨by omega, by (repeat' (first | exact trivial | refine And.intro rfl ?_)), rfl, ?_⟩
  rintro k hk
  ((conv=>whnf);repeat(refine And.intro rfl ?_;(conv=>whnf)))
  (apply rd_sound; focus (repeat' constructor))
  ((conv=>whnf);repeat(refine And.intro rfl ?_;(conv=>whnf)))
  (refine ifK_split (fun h1 => ?_) (fun h1 => ?_) <;> (rw [h1]; ((conv=>whnf);repeat(refine And.intro rfl ?_;(conv=>whnf)))))
  · have hk' : k < m.length := by ((try simp only [oo, reduceCtorEq] at *) <;> omega)
    refine ⟨by omega, _, intsD_at (l := m) (k := k) (by omega) hk', ?_⟩
    ((conv=>whnf);repeat(refine And.intro rfl ?_;(conv=>whnf)))
    have hx := hm _ (mem_getD hk')
    have hwr : InR .i8 (m.getD k 0) := by
      unfold InR
      generalize m.getD k 0 = x at hx
      simp [IntKind.wrap, IntKind.bits, IntKind.signed]
      omega
    refine .inl ⟨hwr, ?_⟩
    ((conv=>whnf);repeat(refine And.intro rfl ?_;(conv=>whnf)))
    refine ⟨by omega, by omega, ?_⟩
    ((conv=>whnf);repeat(refine And.intro rfl ?_;(conv=>whnf)))
    refine put_one (k := k) (by omega) (by simp [keyTo]; omega) ?_
    ((conv=>whnf);repeat(refine And.intro rfl ?_;(conv=>whnf)))
    (refine .inl ⟨by (unfold InR; rw [IntKind.wrap_i64]; omega), ?_⟩; ((conv=>whnf);repeat(refine And.intro rfl ?_;(conv=>whnf))))
    refine ⟨k + 1, by omega, by dsimp only; omega, ?_⟩
    refine leB_envH (by (repeat' (first | exact trivial | refine And.intro rfl ?_))) ?_
    rw [keyTo_set]
    rfl
  · have hk' : k = m.length := by have : ¬ k < m.length := by ((try simp only [oo, reduceCtorEq] at *) <;> omega)
                                  omega
    refine deep_eq ?_
    show D.agg (keyTo m k) = D.agg (keyD m)
    rw [hk', keyTo_all]
set_option maxRecDepth 100000 in
theorem keyOf_mark (m : List Int) (hm : ∀ x ∈ m, 0 ≤ x ∧ x ≤ 127) : ∃ l, keyOf Try.prog 166 (keyVal m) = some l := by
  rw [keyVal_eq]
  refine keyOf_arr (of_decide_eq_true (by kernel_rfl)) (by kernel_rfl) Try.underlying166 Try.underlying164 (by kernel_rfl) (by kernel_rfl) (keyL m) (by simp [keyL]) fun x hx => ?_
  unfold keyL at hx
  obtain ⟨i, _, rfl⟩ := List.mem_map.1 hx
  have : 0 ≤ m.getD i 0 ∧ m.getD i 0 ≤ 127 := by
    by_cases h : i < m.length
    · exact hm _ (mem_getD h)
    · rw [List.getD_eq_getElem?_getD, List.getElem?_eq_none (by omega)]; simp
  simp only [Lit.wf, Bool.and_eq_true, decide_eq_true_eq]
  have h1 : IntKind.min .i8 = -128 := by decide
  have h2 : IntKind.max .i8 = 127 := by decide
  omega
theorem state_over (x tok : Int) : PCall Try.prog 105 [.sc (.int .i64 x), .ipt [.ipt [.junk, .junk, .sc (.int .i64 tok), .junk, .junk, .junk, .junk, .junk, .junk, .junk]]] (.sc (.bool (decide (x > tok)))) := by
  refine pcall_intro c105_ok (by simp) (by simp [PureL, Pure]) ?_ (by simp [Pure])
  (apply rd_sound; focus (repeat' constructor))
  ((conv=>whnf);repeat(refine And.intro rfl ?_;(conv=>whnf)))
  exact .refl _
def c84 : PC := .seq (.ops [⟨(some 3), .box (.tmp 0), none, 0⟩,
    ⟨(some 5), .box (.tmp 2), none, 0⟩,
    ⟨(some 6), .move (.const (.int .i64 0)), none, 0⟩,
    ⟨(some 7), .move (.const (.int .i64 0)), none, 0⟩] false) (.seq (.ops [⟨(some 11), .load1 (.tmp 3), none, 0⟩,
    ⟨(some 12), .loadA 2 (.tmp 5), none, 0⟩,
    ⟨(some 13), .nilchk (.tmp 11), none, 0⟩,
    ⟨(some 14), .faddr 8 (.tmp 13), none, 0⟩,
    ⟨none, .store 2 (.tmp 14) (.tmp 12), none, 0⟩] false) (.seq (.seq (.ops [⟨(some 15), .move (.tmp 1), none, 0⟩,
    ⟨(some 16), .mkfn (.func 105) [] [(.tmp 3)], none, 0⟩,
    ⟨(some 17), .call 57 [(.tmp 15), (.tmp 16)], none, 0⟩] false) (.cond (.tmp 17) (.seq (.ops [⟨(some 6), .move (.const (.int .i64 0)), none, 0⟩,
    ⟨(some 7), .move (.const (.int .i64 7)), none, 0⟩] false) (.ret)) (.skip))) (.seq (.seq (.ops [⟨(some 19), .load1 (.tmp 3), none, 0⟩,
    ⟨(some 20), .nilchk (.tmp 19), none, 1⟩,
    ⟨(some 21), .faddr 6 (.tmp 20), none, 3⟩,
    ⟨(some 22), .load1 (.tmp 21), none, 7⟩,
    ⟨(some 23), .move (.tmp 1), none, 0⟩,
    ⟨(some 24), .call 106 [(.tmp 23)], none, 16⟩,
    ⟨(some 25), .look 166 (.int .i64 0) (.tmp 22) (.tmp 24), none, 63⟩,
    ⟨(some 18), .move (.tmp 25), none, 127⟩,
    ⟨(some 26), .ext 0 (.tmp 18), none, 255⟩,
    ⟨(some 27), .ext 1 (.tmp 18), none, 255⟩,
    ⟨(some 8), .move (.tmp 26), none, 511⟩,
    ⟨(some 9), .move (.tmp 27), none, 2047⟩] true) (.seq (.ops [⟨(some 28), .move (.tmp 9), none, 0⟩] false) (.cond (.tmp 28) (.seq (.ops [⟨(some 29), .move (.tmp 8), none, 0⟩,
    ⟨(some 6), .move (.tmp 29), none, 0⟩,
    ⟨(some 7), .move (.const (.int .i64 0)), none, 0⟩] false) (.ret)) (.skip)))) (.seq (.ops [⟨(some 30), .load1 (.tmp 3), none, 0⟩,
    ⟨(some 31), .nilchk (.tmp 30), none, 0⟩,
    ⟨(some 32), .faddr 4 (.tmp 31), none, 0⟩,
    ⟨(some 33), .faddr 0 (.tmp 32), none, 0⟩,
    ⟨(some 34), .load1 (.tmp 33), none, 0⟩,
    ⟨(some 35), .len (.tmp 34), none, 0⟩,
    ⟨(some 10), .move (.tmp 35), none, 0⟩] false) (.seq (.seq (.ops [⟨(some 36), .move (.tmp 10), none, 0⟩,
    ⟨(some 37), .load1 (.tmp 3), none, 0⟩,
    ⟨(some 38), .nilchk (.tmp 37), none, 0⟩,
    ⟨(some 39), .faddr 3 (.tmp 38), none, 0⟩,
    ⟨(some 40), .load1 (.tmp 39), none, 0⟩,
    ⟨(some 41), .bin .eql (.tmp 36) (.tmp 40), none, 0⟩] false) (.cond (.tmp 41) (.seq (.ops [⟨(some 6), .move (.const (.int .i64 0)), none, 0⟩,
    ⟨(some 7), .move (.const (.int .i64 8)), none, 0⟩] false) (.ret)) (.skip))) (.seq (.ops [⟨(some 42), .load1 (.tmp 3), none, 0⟩,
    ⟨(some 43), .nilchk (.tmp 42), none, 1⟩,
    ⟨(some 44), .faddr 6 (.tmp 43), none, 3⟩,
    ⟨(some 45), .load1 (.tmp 44), none, 7⟩,
    ⟨(some 46), .move (.tmp 1), none, 0⟩,
    ⟨(some 47), .call 106 [(.tmp 46)], none, 16⟩,
    ⟨(some 48), .move (.tmp 10), none, 0⟩,
    ⟨none, .mput 166 (.tmp 45) (.tmp 47) (.tmp 48), none, 127⟩] true) (.seq (.ops [⟨(some 49), .load1 (.tmp 3), none, 0⟩,
    ⟨(some 50), .load1 (.tmp 3), none, 0⟩,
    ⟨(some 51), .nilchk (.tmp 50), none, 2⟩,
    ⟨(some 52), .faddr 4 (.tmp 51), none, 6⟩,
    ⟨(some 53), .faddr 0 (.tmp 52), none, 14⟩,
    ⟨(some 54), .load1 (.tmp 53), none, 30⟩,
    ⟨(some 55), .move (.tmp 1), none, 0⟩,
    ⟨(some 56), .bslice 1 1 [(.tmp 55)], none, 64⟩,
    ⟨(some 57), .append 1 24 (.tmp 54) (.tmp 56), none, 254⟩,
    ⟨(some 58), .nilchk (.tmp 49), none, 511⟩,
    ⟨(some 59), .faddr 4 (.tmp 58), none, 1023⟩,
    ⟨(some 60), .faddr 0 (.tmp 59), none, 2047⟩,
    ⟨none, .store 1 (.tmp 60) (.tmp 57), none, 4095⟩] true) (.seq (.ops [⟨(some 61), .load1 (.tmp 3), none, 0⟩,
    ⟨(some 62), .load1 (.tmp 3), none, 0⟩,
    ⟨(some 63), .nilchk (.tmp 62), none, 2⟩,
    ⟨(some 64), .faddr 7 (.tmp 63), none, 6⟩,
    ⟨(some 65), .load1 (.tmp 64), none, 14⟩,
    ⟨(some 66), .loadA 2 (.tmp 5), none, 0⟩,
    ⟨(some 67), .bslice 2 1 [(.tmp 66)], none, 32⟩,
    ⟨(some 68), .append 2 16 (.tmp 65) (.tmp 67), none, 126⟩,
    ⟨(some 69), .nilchk (.tmp 61), none, 255⟩,
    ⟨(some 70), .faddr 7 (.tmp 69), none, 511⟩,
    ⟨none, .store 1 (.tmp 70) (.tmp 68), none, 1023⟩] true) (.seq (.ops [⟨(some 71), .move (.tmp 10), none, 0⟩,
    ⟨(some 6), .move (.tmp 71), none, 0⟩,
    ⟨(some 7), .move (.const (.int .i64 0)), none, 0⟩] false) (.ret))))))))))
set_option maxRecDepth 100000 in
theorem c84_ok : FunOK Try.prog 84 72 [.tmp 6, .tmp 7] c84 := ⟨⟨Try.f84, Try.func84, rfl, by kernel_rfl, rfl, by kernel_rfl⟩⟩
theorem any_over (m : List Int) (tok : Int) : (m.any fun x => decide (x > tok)) = overB m tok := rfl
set_option maxRecDepth 100000 in
theorem space_state (P : ProcD) (tok : Int) (st : Nat) (hst : st ≤ 200) (marks : List (List Int)) (org : List Org) (next : List (List EdgeD)) (last : Org) (hS : ProcD.Sp P tok st marks org) (h30 : P.flows.length ≤ 30) (m : List Int) (hm : P.markB m = true) (o : Org) :
    ACall Try.prog 84 [.loc 1 0, dints m, .agg (dpair o.1 o.2)] (sheap P tok st marks org next last) (.tup [.sc (.int .i64 (putI marks m tok st)), .sc (.int .i64 (putE marks m tok st))]) (sheap P tok st (putM marks m tok st) (putG marks org m tok st o) next o) := by
  have hM := ProcD.mark_of hm
  have hml := hM.len
  have hpos : ∀ x ∈ m, 0 ≤ x ∧ x ≤ 9 := fun x hx => by
    unfold ProcD.markB at hm
    rw [Bool.and_eq_true] at hm
    have := inB_mem hm.2 hx
    omega
  have hlen : ∀ x ∈ marks, x.length = m.length := fun x hx => by rw [(ProcD.mark_of (hS.good x hx)).len, hml]
  have hr := hS.room
  have hol := hS.len
  refine acall_intro c84_ok (by simp) (by simp [sheap]) ?_ (by simp [Under, UnderL]) (by
    intro x hx
    simp only [sheap, List.mem_cons, List.not_mem_nil, or_false] at hx
    rcases hx with rfl | rfl | rfl | rfl | rfl <;> simp [AObj.under, sbox, UnderL, Under, sheap])
  unfold sheap sbox dpair
  (apply rd_sound; focus (repeat' constructor))
  ((conv=>whnf);repeat(refine And.intro rfl ?_;(conv=>whnf)))
  refine .inr (.inl ⟨_, _, .cons _ _ _ _ (.refl _) (.cons _ _ _ _ (.fn _ _ _ _ _ .nil (.cons _ _ _ _ (.loc _ _ _ _ _ rfl (.cons _ _ _ _ (.loc _ _ _ _ _ rfl (.cons _ _ _ _ (.junk _) (.cons _ _ _ _ (.junk _) (.cons _ _ _ _ (.refl _) (.cons _ _ _ _ (.junk _) (.cons _ _ _ _ (.junk _) (.cons _ _ _ _ (.junk _) (.cons _ _ _ _ (.junk _) (.cons _ _ _ _ (.junk _) (.cons _ _ _ _ (.junk _) (.cons _ _ _ _ (.junk _) .nil))))))))))) .nil)) .nil)) .nil),
    containsF_int (fun n => .sc (.int .i64 n)) (fun a => by simp [Pure]) m (by omega) (fun x => decide (x > tok)) 105 [.ipt [.ipt [.junk, .junk, .sc (.int .i64 tok), .junk, .junk, .junk, .junk, .junk, .junk, .junk]]] (by simp [PureL, Pure]) (fun a _ => state_over a tok), rfl, ?_⟩)
  rw [any_over]
  have eE : putE marks m tok st = if overB m tok = true then 7 else if m ∈ marks then 0 else if marks.length = st then 8 else 0 := rfl
  ((conv=>whnf);repeat(refine And.intro rfl ?_;(conv=>whnf)))
  have hn0 : ∀ v, putE marks m tok st = v → v ≠ 0 → putM marks m tok st = marks ∧ putG marks org m tok st o = org ∧ putI marks m tok st = 0 := fun v h1 h2 => by
    unfold putM putG putI
    rw [h1, if_neg fun q => h2 q.1, if_neg fun q => h2 q.1, if_neg h2]
    exact ⟨rfl, rfl, rfl⟩
  cases h1 : overB m tok
  · ((conv=>whnf);repeat(refine And.intro rfl ?_;(conv=>whnf)))
    (refine .inl ⟨_, (space_keyOf m (by omega) (fun x hx => by have := hpos x hx; omega)), ?_⟩; ((conv=>whnf);repeat(refine And.intro rfl ?_;(conv=>whnf))))
    have hkey := keyOf_mark m (fun x hx => by have := hpos x hx; omega)
    refine ⟨fM marks, rfl, keyedS, hkey, fun v hv => ?_, fun hv => ?_⟩
    · ((conv=>whnf);repeat(refine And.intro rfl ?_;(conv=>whnf)))
      by_cases h2 : m ∈ marks
      · have hs := fM_some hlen (by omega) hS.one h2
        have hv' : some v = some (Value.int .i64 (idxM marks m)) := hv.symm.trans hs
        cases hv'
        have e0 : putE marks m tok st = 0 := by rw [eE, h1, if_neg (by simp), if_pos h2]
        have eM : putM marks m tok st = marks := by unfold putM; rw [if_neg fun q => q.2 h2]
        have eG : putG marks org m tok st o = org := by unfold putG; rw [if_neg fun q => q.2 h2]
        have eI : putI marks m tok st = (idxM marks m : Int) := by unfold putI; rw [if_pos e0, eM]
        rw [eM, eG, eI, e0]
        exact ⟨rfl, rfl, by simp⟩
      · exfalso
        have := fM_none hlen (by omega) h2
        have hv' : some v = none := hv.symm.trans this
        cases hv'
    · ((conv=>whnf);repeat(refine And.intro rfl ?_;(conv=>whnf)))
      have h2 : ¬ m ∈ marks := fun h2 => by
        have hs := fM_some hlen (by omega) hS.one h2
        have hv' : (none : Option Value) = some (Value.int .i64 (idxM marks m)) := hv.symm.trans hs
        cases hv'
      (refine ifK_split (fun h3 => ?_) (fun h3 => ?_) <;> (rw [h3]; ((conv=>whnf);repeat(refine And.intro rfl ?_;(conv=>whnf)))))
      · have h3 : marks.length = st := by ((try simp only [oo, reduceCtorEq] at *) <;> omega)
        have e8 : putE marks m tok st = 8 := by rw [eE, h1, if_neg (by simp), if_neg h2, if_pos h3]
        obtain ⟨eM, eG, eI⟩ := hn0 8 e8 (by decide)
        rw [eM, eG, eI, e8]
        exact ⟨rfl, rfl, by simp⟩
      · have h3 : marks.length ≠ st := by ((try simp only [oo, reduceCtorEq] at *) <;> omega)
        have e0 : putE marks m tok st = 0 := by rw [eE, h1, if_neg (by simp), if_neg h2, if_neg h3]
        have eM : putM marks m tok st = marks ++ [m] := by unfold putM; rw [if_pos ⟨e0, h2⟩]
        have eG : putG marks org m tok st o = org ++ [o] := by unfold putG; rw [if_pos ⟨e0, h2⟩]
        have eI : putI marks m tok st = (marks.length : Int) := by
          unfold putI
          rw [if_pos e0, eM]
          congr 1
          unfold idxM
          rw [List.idxOf_append, if_neg h2]
          simp
        (refine .inl ⟨_, (space_keyOf m (by omega) (fun x hx => by have := hpos x hx; omega)), ?_⟩; ((conv=>whnf);repeat(refine And.intro rfl ?_;(conv=>whnf))))
        refine ⟨fM marks, rfl, keyedS, hkey, hv, ?_⟩
        ((conv=>whnf);repeat(refine And.intro rfl ?_;(conv=>whnf)))
        refine ⟨(by unfold sliceAppend; simp only [ll]; omega), ?_⟩
        ((conv=>whnf);repeat(refine And.intro rfl ?_;(conv=>whnf)))
        refine ⟨(by unfold sliceAppend; simp only [ll]; omega), ?_⟩
        ((conv=>whnf);repeat(refine And.intro rfl ?_;(conv=>whnf)))
        rw [eM, eG, eI, e0]
        refine ⟨rfl, ?_, by simp⟩
        rw [fM_put, List.length_append, List.length_append, List.length_singleton, List.length_singleton]
        have g1 := grows_snoc (L := marks) (c := marks.length) (x := m) rfl
        have g2 := prows_snoc (l := org) (c := org.length) (a := o.1) (b := o.2) rfl
        rw [← g1, ← g2]
        rfl
  · have e7 : putE marks m tok st = 7 := by rw [eE, if_pos h1]
    obtain ⟨eM, eG, eI⟩ := hn0 7 e7 (by decide)
    ((conv=>whnf);repeat(refine And.intro rfl ?_;(conv=>whnf)))
    rw [eM, eG, eI, e7]
    exact ⟨rfl, rfl, by simp⟩
end

/-! ### XSp2 -/
section
open Go.RowKit
set_option linter.unusedSimpArgs false
set_option linter.unusedVariables false
def curR (R : SpR) : List EdgeD := if R.e = 0 then R.cur else []
namespace ProcD
theorem edgesF_cons {P : ProcD} {tok : Int} {st n : Nat} {M : List Int} {k : Int} {r : List Int} {marks : List (List Int)} {org : List Org} {cur : List EdgeD} {last : Org} :
    P.edgesF tok st n M (k :: r) marks org cur last = if P.firE M k ≠ 0 then ⟨P.firE M k, marks, org, cur, ((n : Int), k)⟩
    else if putE marks (P.firL M k) tok st ≠ 0 then ⟨putE marks (P.firL M k) tok st, marks, org, cur, ((n : Int), k)⟩
    else P.edgesF tok st n M r (putM marks (P.firL M k) tok st) (putG marks org (P.firL M k) tok st ((n : Int), k)) (cur ++ [(k, putI marks (P.firL M k) tok st)]) ((n : Int), k) := rfl
theorem drop_cons' {l : List Int} {k : Nat} (h : k < l.length) : l.drop k = l.getD k 0 :: l.drop (k + 1) := by
  rw [List.drop_eq_getElem_cons h, List.getD_eq_getElem?_getD, List.getElem?_eq_getElem h]
  rfl
end ProcD
theorem under_sheap {P : ProcD} {tok : Int} {st : Nat} {marks : List (List Int)} {org : List Org} {next : List (List EdgeD)} {last : Org} : UnderO 5 (sheap P tok st marks org next last) := by
  simp [sheap, UnderO, AObj.under, sbox, UnderL, Under]
theorem close_sheap {P : ProcD} {tok : Int} {st : Nat} {marks : List (List Int)} {org : List Org} {next : List (List EdgeD)} {last : Org} {G R : List AObj} : closeH 5 G (sheap P tok st marks org next last ++ R) (sheap P tok st marks org next last) :=
  closeH_same _ _ fun o ho => underO_mem under_sheap o ho
def c85_1 : PC := .seq (.ops [⟨(some 33), .bin .lss (.tmp 32) (.tmp 31), none, 0⟩] false) (.seq (.cond (.tmp 33) (.skip) (.exit 0)) (.seq (.block 1 (.seq (.ops [⟨(some 34), .iaddr 1 (.tmp 30) (.tmp 32), none, 0⟩,
    ⟨(some 35), .load1 (.tmp 34), none, 0⟩,
    ⟨(some 10), .move (.tmp 35), none, 0⟩] false) (.seq (.ops [⟨(some 36), .move (.tmp 0), none, 0⟩,
    ⟨(some 37), .move (.tmp 1), none, 0⟩,
    ⟨(some 38), .move (.tmp 10), none, 0⟩,
    ⟨(some 39), .build [(.int .i64 0), (.int .i64 0)] [(0, 1, (.tmp 37)), (1, 1, (.tmp 38))], none, 0⟩,
    ⟨(some 40), .nilchk (.tmp 36), none, 0⟩,
    ⟨(some 41), .faddr 8 (.tmp 40), none, 0⟩,
    ⟨none, .store 2 (.tmp 41) (.tmp 39), none, 0⟩] false) (.seq (.ops [⟨(some 43), .move (.tmp 0), none, 0⟩,
    ⟨(some 44), .nilchk (.tmp 43), none, 1⟩,
    ⟨(some 45), .faddr 0 (.tmp 44), none, 3⟩,
    ⟨(some 46), .loadA 2 (.tmp 45), none, 7⟩,
    ⟨(some 47), .move (.tmp 0), none, 0⟩,
    ⟨(some 48), .nilchk (.tmp 47), none, 16⟩,
    ⟨(some 49), .faddr 4 (.tmp 48), none, 48⟩,
    ⟨(some 50), .faddr 0 (.tmp 49), none, 112⟩,
    ⟨(some 51), .load1 (.tmp 50), none, 240⟩,
    ⟨(some 52), .move (.tmp 1), none, 0⟩,
    ⟨(some 53), .iaddr 1 (.tmp 51) (.tmp 52), none, 1008⟩,
    ⟨(some 54), .load1 (.tmp 53), none, 2032⟩,
    ⟨(some 55), .move (.tmp 10), none, 0⟩,
    ⟨(some 56), .call 99 [(.tmp 46), (.tmp 54), (.tmp 55)], none, 8191⟩,
    ⟨(some 42), .move (.tmp 56), none, 16383⟩,
    ⟨(some 57), .ext 0 (.tmp 42), none, 32767⟩,
    ⟨(some 58), .ext 1 (.tmp 42), none, 32767⟩,
    ⟨(some 11), .move (.tmp 57), none, 65535⟩,
    ⟨(some 12), .move (.tmp 58), none, 262143⟩] true) (.seq (.seq (.ops [⟨(some 59), .move (.tmp 12), none, 0⟩,
    ⟨(some 60), .bin .neq (.tmp 59) (.const (.int .i64 0)), none, 0⟩] false) (.cond (.tmp 60) (.seq (.ops [⟨(some 61), .move (.tmp 12), none, 0⟩,
    ⟨(some 4), .move (.const (.slice none 0 0)), none, 0⟩,
    ⟨(some 5), .move (.tmp 61), none, 0⟩] false) (.ret)) (.skip))) (.seq (.ops [⟨(some 63), .move (.tmp 0), none, 0⟩,
    ⟨(some 64), .move (.tmp 11), none, 0⟩,
    ⟨(some 65), .move (.tmp 1), none, 0⟩,
    ⟨(some 66), .move (.tmp 10), none, 0⟩,
    ⟨(some 67), .build [(.int .i64 0), (.int .i64 0)] [(0, 1, (.tmp 65)), (1, 1, (.tmp 66))], none, 0⟩,
    ⟨(some 68), .call 84 [(.tmp 63), (.tmp 64), (.tmp 67)], none, 0⟩,
    ⟨(some 62), .move (.tmp 68), none, 0⟩,
    ⟨(some 69), .ext 0 (.tmp 62), none, 0⟩,
    ⟨(some 70), .ext 1 (.tmp 62), none, 0⟩,
    ⟨(some 13), .move (.tmp 69), none, 0⟩,
    ⟨(some 12), .move (.tmp 70), none, 0⟩] false) (.seq (.seq (.ops [⟨(some 71), .move (.tmp 12), none, 0⟩,
    ⟨(some 72), .bin .neq (.tmp 71) (.const (.int .i64 0)), none, 0⟩] false) (.cond (.tmp 72) (.seq (.ops [⟨(some 73), .move (.tmp 12), none, 0⟩,
    ⟨(some 4), .move (.const (.slice none 0 0)), none, 0⟩,
    ⟨(some 5), .move (.tmp 73), none, 0⟩] false) (.ret)) (.skip))) (.ops [⟨(some 74), .move (.tmp 6), none, 0⟩,
    ⟨(some 75), .move (.tmp 10), none, 0⟩,
    ⟨(some 76), .move (.tmp 13), none, 0⟩,
    ⟨(some 77), .build [(.int .i64 0), (.int .i64 0)] [(0, 1, (.tmp 75)), (1, 1, (.tmp 76))], none, 0⟩,
    ⟨(some 78), .bslice 2 1 [(.tmp 77)], none, 0⟩,
    ⟨(some 79), .append 2 16 (.tmp 74) (.tmp 78), none, 0⟩,
    ⟨(some 6), .move (.tmp 79), none, 0⟩] false)))))))) (.ops [⟨(some 80), .bin .add (.tmp 32) (.const (.int .i64 1)), none, 0⟩,
    ⟨(some 32), .move (.tmp 80), none, 0⟩] false)))
def c85 : PC := .seq (.ops [⟨(some 4), .move (.const (.slice none 0 0)), none, 0⟩,
    ⟨(some 5), .move (.const (.int .i64 0)), none, 0⟩] false) (.seq (.ops [⟨(some 6), .move (.const (.slice none 0 0)), none, 0⟩] false) (.seq (.ops [⟨(some 15), .move (.tmp 0), none, 0⟩,
    ⟨(some 16), .nilchk (.tmp 15), none, 1⟩,
    ⟨(some 17), .faddr 0 (.tmp 16), none, 3⟩,
    ⟨(some 18), .loadA 2 (.tmp 17), none, 7⟩,
    ⟨(some 19), .move (.tmp 0), none, 0⟩,
    ⟨(some 20), .nilchk (.tmp 19), none, 16⟩,
    ⟨(some 21), .faddr 4 (.tmp 20), none, 48⟩,
    ⟨(some 22), .faddr 0 (.tmp 21), none, 112⟩,
    ⟨(some 23), .load1 (.tmp 22), none, 240⟩,
    ⟨(some 24), .move (.tmp 1), none, 0⟩,
    ⟨(some 25), .iaddr 1 (.tmp 23) (.tmp 24), none, 1008⟩,
    ⟨(some 26), .load1 (.tmp 25), none, 2032⟩,
    ⟨(some 27), .call 76 [(.tmp 18), (.tmp 26)], none, 4095⟩,
    ⟨(some 14), .move (.tmp 27), none, 8191⟩,
    ⟨(some 28), .ext 0 (.tmp 14), none, 16383⟩,
    ⟨(some 29), .ext 1 (.tmp 14), none, 16383⟩,
    ⟨(some 7), .move (.tmp 28), none, 32767⟩,
    ⟨(some 8), .move (.tmp 29), none, 131071⟩] true) (.seq (.seq (.ops [⟨(some 30), .move (.tmp 7), none, 0⟩,
    ⟨(some 31), .len (.tmp 30), none, 0⟩,
    ⟨(some 32), .move (.const (.int .i64 0)), none, 0⟩] false) (.block 0 (.loop c85_1))) (.seq (.ops [⟨(some 81), .move (.tmp 6), none, 0⟩,
    ⟨(some 4), .move (.tmp 81), none, 0⟩,
    ⟨(some 5), .move (.const (.int .i64 0)), none, 0⟩] false) (.ret)))))
set_option maxRecDepth 100000 in
theorem c85_ok : FunOK Try.prog 85 82 [.tmp 4, .tmp 5] c85 := ⟨⟨Try.f85, Try.func85, rfl, by kernel_rfl, rfl, by kernel_rfl⟩⟩
set_option maxRecDepth 100000 in
theorem space_edges (P : ProcD) (hP : P.Fits) (h1 : P.stepsE = 0) (tok : Int) (st : Nat) (hst : st ≤ 200) (marks : List (List Int)) (org : List Org) (next : List (List EdgeD)) (last : Org) (hS : ProcD.Sp P tok st marks org) (n : Nat) (hn : n < marks.length) :
    ACall Try.prog 85 [.loc 1 0, .sc (.int .i64 n)] (sheap P tok st marks org next last)
      (.tup [dpairs (curR (P.edgesF tok st n (marks.getD n []) (P.enL (marks.getD n [])) marks org [] last)), .sc (.int .i64 (P.edgesF tok st n (marks.getD n []) (P.enL (marks.getD n [])) marks org [] last).e)])
      (sheap P tok st (P.edgesF tok st n (marks.getD n []) (P.enL (marks.getD n [])) marks org [] last).marks (P.edgesF tok st n (marks.getD n []) (P.enL (marks.getD n [])) marks org [] last).org next (P.edgesF tok st n (marks.getD n []) (P.enL (marks.getD n [])) marks org [] last).last) := by
  obtain ⟨h0, _, h60⟩ := ProcD.stepsE_zero h1
  have h30 := (chk_small h0).2
  have hol := hS.len
  refine acall_introD c85_ok (by simp) (by simp [sheap]) ?_ (by simp [Under, UnderL])
  have hMg := hS.good _ (ProcD.mem_getDL hn)
  have hr := hS.room
  generalize hM : marks.getD n [] = M at hMg
  have hML := (ProcD.mark_of hMg).len
  generalize hR : P.edgesF tok st n M (P.enL M) marks org [] last = R
  have eM : P.markE M = 0 := by unfold ProcD.markE; rw [if_neg (by omega), if_pos hMg]
  have hLl := P.enL_len M
  have hLs : ∀ k ∈ P.enL M, k ∈ P.enL M := fun _ h => h
  generalize hL : P.enL M = L at hR hLl
  unfold sheap sbox
  (apply rd_sound; focus (repeat' constructor))
  ((conv=>whnf);repeat(refine And.intro rfl ?_;(conv=>whnf)))
  (refine ⟨by omega, (by first | omega | (simp; done) | (simp; omega) | (simp only [ll]; omega)), ?_⟩; ((conv=>whnf);repeat(refine And.intro rfl ?_;(conv=>whnf))))
  refine ⟨_, grows_at (k := n) (by omega) hn, ?_⟩
  ((conv=>whnf);repeat(refine And.intro rfl ?_;(conv=>whnf)))
  rw [hM]
  (refine .inl ⟨_, (game_Enabled P hP M (by omega)), ?_⟩; ((conv=>whnf);repeat(refine And.intro rfl ?_;(conv=>whnf))))
  rw [hL, List.length_map]
  refine pwp_ghostB (leB_nil 6 2 (by simp) rfl) ?_
  refine pwp_forH [0, 1, 30, 31] (fun ((mk, og, cur, la, k) : List (List Int) × List Org × List EdgeD × Org × Nat) => [(6, .own 5 cur.length 0 cur.length), (32, .sc (.int .i64 k))]) (fun (mk, og, cur, la, k) => sheap P tok st mk og next la ++ [.vec true cur.length 2 (prows cur)])
    (fun (mk, og, cur, la, k) => k ≤ L.length ∧ ProcD.Sp P tok st mk og ∧ n < mk.length ∧ mk.getD n [] = M ∧ cur.length = k ∧ P.edgesF tok st n M (L.drop k) mk og cur la = R) (fun (mk, og, cur, la, k) => L.length - k) (marks, org, [], last, 0) ?_
  ((conv=>whnf);repeat(refine And.intro rfl ?_;(conv=>whnf)))
  refine ⟨⟨by omega, hS, hn, hM, rfl, hR⟩, by (repeat' (first | exact trivial | refine And.intro rfl ?_)), rfl, ?_⟩
  rintro ⟨mk, og, cur, la, k⟩ ⟨hk, hS', hn', hM', hc, hF⟩
  have hr' := hS'.room
  have hol' := hS'.len
  unfold sheap sbox
  ((conv=>whnf);repeat(refine And.intro rfl ?_;(conv=>whnf)))
  (apply rd_sound; focus (repeat' constructor))
  ((conv=>whnf);repeat(refine And.intro rfl ?_;(conv=>whnf)))
  (refine ifK_split (fun h2 => ?_) (fun h2 => ?_) <;> (rw [h2]; ((conv=>whnf);repeat(refine And.intro rfl ?_;(conv=>whnf)))))
  · have hk' : k < L.length := by ((try simp only [oo, reduceCtorEq] at *) <;> omega)
    rw [ProcD.drop_cons' hk', ProcD.edgesF_cons] at hF
    have hxm : L.getD k 0 ∈ P.enL M := by rw [hL]; exact mem_getD hk'
    refine ⟨by omega, _, intsD_at (l := L) (k := k) (by omega) hk', ?_⟩
    ((conv=>whnf);repeat(refine And.intro rfl ?_;(conv=>whnf)))
    generalize L.getD k 0 = x at hF hxm
    (refine ⟨by omega, (by first | omega | (simp; done) | (simp; omega) | (simp only [ll]; omega)), ?_⟩; ((conv=>whnf);repeat(refine And.intro rfl ?_;(conv=>whnf))))
    refine ⟨_, grows_at (k := n) (by omega) hn', ?_⟩
    ((conv=>whnf);repeat(refine And.intro rfl ?_;(conv=>whnf)))
    rw [hM']
    (refine .inl ⟨_, (game_Fire P hP M (by omega) x), ?_⟩; ((conv=>whnf);repeat(refine And.intro rfl ?_;(conv=>whnf))))
    (refine ifK_split (fun h3 => ?_) (fun h3 => ?_) <;> (rw [h3]; ((conv=>whnf);repeat(refine And.intro rfl ?_;(conv=>whnf)))))
    · have h3 : P.firE M x ≠ 0 := by ((try simp only [oo, reduceCtorEq] at *) <;> omega)
      rw [if_pos h3] at hF
      subst hF
      have hcur : curR ⟨P.firE M x, mk, og, cur, ((n : Int), x)⟩ = [] := if_neg h3
      rw [hcur]
      exact ⟨.tup _ _ (.cons _ _ _ _ (.none _) (.refl _)), close_sheap (P := P) (tok := tok) (st := st) (marks := mk) (org := og) (next := next) (last := ((n : Int), x)) (R := [_])⟩
    · have h3 : P.firE M x = 0 := by ((try simp only [oo, reduceCtorEq] at *) <;> omega)
      rw [if_neg fun q => q h3] at hF
      have hmg := ProcD.fire_good hMg hxm h3
      generalize P.firL M x = m at hF hmg
      (refine .inr (.inr (.inl ⟨rfl, _, _, (acall_pre (space_state P tok st hst mk og next ((n : Int), x) hS' h30 m hmg ((n : Int), x)) [.vec true cur.length 2 (prows cur)] rfl (by simp [UnderL, Under, dpair, sheap]) under_sheap), ?_⟩)); ((conv=>whnf);repeat(refine And.intro rfl ?_;(conv=>whnf))))
      (refine ifK_split (fun h4 => ?_) (fun h4 => ?_) <;> (rw [h4]; ((conv=>whnf);repeat(refine And.intro rfl ?_;(conv=>whnf)))))
      · have h4 : putE mk m tok st ≠ 0 := by ((try simp only [oo, reduceCtorEq] at *) <;> omega)
        rw [if_pos h4] at hF
        have hM1 : putM mk m tok st = mk := by unfold putM; rw [if_neg fun q => h4 q.1]
        have hG1 : putG mk og m tok st ((n : Int), x) = og := by unfold putG; rw [if_neg fun q => h4 q.1]
        subst hF
        have hcur : curR ⟨putE mk m tok st, mk, og, cur, ((n : Int), x)⟩ = [] := if_neg h4
        rw [hcur]
        refine ⟨.tup _ _ (.cons _ _ _ _ (.none _) (.refl _)), ?_⟩
        rw [hM1, hG1]
        exact close_sheap (P := P) (tok := tok) (st := st) (marks := mk) (org := og) (next := next) (last := ((n : Int), x)) (R := [_])
      · have h4 : putE mk m tok st = 0 := by ((try simp only [oo, reduceCtorEq] at *) <;> omega)
        rw [if_neg fun q => q h4] at hF
        refine ⟨(by unfold sliceAppend; simp only [ll]; omega), ?_⟩
        ((conv=>whnf);repeat(refine And.intro rfl ?_;(conv=>whnf)))
        (refine .inl ⟨by (unfold InR; rw [IntKind.wrap_i64]; omega), ?_⟩; ((conv=>whnf);repeat(refine And.intro rfl ?_;(conv=>whnf))))
        refine ⟨(putM mk m tok st, putG mk og m tok st ((n : Int), x), cur ++ [(x, putI mk m tok st)], ((n : Int), x), k + 1), ⟨by omega, hS'.put hmg (by omega) (by omega), Nat.lt_of_lt_of_le hn' ProcD.putM_len, by rw [ProcD.putM_old hn', hM'], by simp [hc], hF⟩, by dsimp only; omega, ?_⟩
        dsimp only
        rw [show (cur ++ [(x, putI mk m tok st)]).length = cur.length + 1 by simp]
        (refine leB_close 6 (by simp) rfl ?_ ?_ <;> (repeat' (first | exact trivial | exact rfl | exact DeepM.refl _ | exact DeepML.refl _ | exact DeepMLL.refl _ | refine And.intro ?_ ?_ | (simp [Under, UnderL, UnderLL, -List.map_take, -List.map_drop]; done))))
        exact deepMLL_eq (prows_snoc rfl)
  · have hk' : k = L.length := by have : ¬ k < L.length := by ((try simp only [oo, reduceCtorEq] at *) <;> omega)
                                  omega
    rw [hk', List.drop_length] at hF
    have hF' : R = ⟨0, mk, og, cur, la⟩ := hF.symm
    subst hF'
    have hcur : curR ⟨0, mk, og, cur, la⟩ = cur := if_pos rfl
    rw [hcur]
    refine ⟨.tup _ _ (.cons _ _ _ _ (.own _ _ _ _ _ _ _ _ rfl rfl ?_) (.refl _)), close_sheap (P := P) (tok := tok) (st := st) (marks := mk) (org := og) (next := next) (last := la) (R := [_])⟩
    rw [drop_take_all (by simp)]
    exact .refl _
end

/-! ### XSp3 -/
section
open Go.RowKit
set_option linter.unusedSimpArgs false
set_option linter.unusedVariables false
namespace ProcD
noncomputable def exF (P : ProcD) (tok : Int) (st : Nat) : SpF := P.runF tok st 201 0 [P.beginL] [(-1, -1)] [] (-1, -1)
theorem Sp.nil (P : ProcD) (tok : Int) (st : Nat) : Sp P tok st [] [] := ⟨by simp, by simp, by simp, rfl, fun i h1 h2 => by simp at h2, .inl rfl⟩
theorem begin_over {P : ProcD} (h : P.stepsE = 0) {tok : Int} (ht : 1 ≤ tok) : overB P.beginL tok = false := by
  unfold overB beginL
  rw [if_pos h, List.any_eq_false]
  intro x hx
  unfold gl at hx
  obtain ⟨i, _, rfl⟩ := List.mem_map.1 hx
  unfold begG
  split <;> simp <;> omega
theorem begin_put {P : ProcD} (h : P.stepsE = 0) {tok : Int} (ht : 1 ≤ tok) {st : Nat} (hs : 1 ≤ st) : putE [] P.beginL tok st = 0 ∧ putM [] P.beginL tok st = [P.beginL] ∧ putG [] [] P.beginL tok st (-1, -1) = [(-1, -1)] := by
  have e0 : putE [] P.beginL tok st = 0 := by
    unfold putE
    rw [begin_over h ht]
    simp
    omega
  refine ⟨e0, ?_, ?_⟩
  · unfold putM; rw [if_pos ⟨e0, by simp⟩]; rfl
  · unfold putG; rw [if_pos ⟨e0, by simp⟩]; rfl
theorem Sp.start {P : ProcD} (h : P.stepsE = 0) {tok : Int} {st : Nat} (hs : 1 ≤ st) : Sp P tok st [P.beginL] [(-1, -1)] :=
  ⟨by simp, fun m hm => by rw [List.mem_singleton] at hm; subst hm; exact begin_ok h, by simpa using hs, rfl, fun i h1 h2 => by simp at h2; omega, .inr rfl⟩
/-- The edges of a marking keep what is known. -/
theorem edgesF_ok {P : ProcD} {tok : Int} {st n : Nat} {M : List Int} (hM : P.markB M = true) : ∀ (L : List Int) (marks : List (List Int)) (org : List Org) (cur : List EdgeD) (last : Org), (∀ k ∈ L, k ∈ P.enL M) → Sp P tok st marks org → n < marks.length →
    Sp P tok st (P.edgesF tok st n M L marks org cur last).marks (P.edgesF tok st n M L marks org cur last).org ∧ marks.length ≤ (P.edgesF tok st n M L marks org cur last).marks.length ∧
      (∀ i, i < marks.length → (P.edgesF tok st n M L marks org cur last).marks.getD i [] = marks.getD i [])
  | [], marks, org, cur, last, _, hS, _ => ⟨hS, Nat.le_refl _, fun _ _ => rfl⟩
  | k :: r, marks, org, cur, last, hL, hS, hn => by
    rw [edgesF_cons]
    split
    · exact ⟨hS, Nat.le_refl _, fun _ _ => rfl⟩
    · split
      · exact ⟨hS, Nat.le_refl _, fun _ _ => rfl⟩
      · rename_i h1 h2
        have hg := fire_good hM (hL k (by simp)) (by omega)
        have hl := putM_len (marks := marks) (m := P.firL M k) (tok := tok) (st := st)
        have hn' : n < (putM marks (P.firL M k) tok st).length := Nat.lt_of_lt_of_le hn hl
        have hS' := hS.put hg (a := (n : Int)) (k := k) (by omega) (by omega)
        obtain ⟨g1, g2, g3⟩ := edgesF_ok hM r (putM marks (P.firL M k) tok st) (putG marks org (P.firL M k) tok st ((n : Int), k)) (cur ++ [(k, putI marks (P.firL M k) tok st)]) ((n : Int), k) (fun j hj => hL j (by simp [hj])) hS' hn'
        exact ⟨g1, Nat.le_trans hl g2, fun i hi => by rw [g3 i (Nat.lt_of_lt_of_le hi hl), putM_old hi]⟩
end ProcD
def sbox1 (P : ProcD) (tok : Int) (st n no nn : Nat) (last : Org) : List D := [.lst 2 (P.nodes.map nrow), .lst 2 (P.flows.map frow), .sc (.int .i64 tok), .sc (.int .i64 st), .own 3 n 0 n, .own 5 nn 0 nn, .mp 1, .own 4 no 0 no, .sc (.int .i64 last.1), .sc (.int .i64 last.2)]
noncomputable def sheap1 (P : ProcD) (tok : Int) (st : Nat) (marks : List (List Int)) (org : List Org) (next : List (List EdgeD)) (last : Org) : List AObj :=
  [.row true [.lst 2 (P.nodes.map nrow), .lst 2 (P.flows.map frow)], .mapo true (mapIs Try.prog 166 (fM marks)), .row true (sbox1 P tok st marks.length org.length next.length last), .vec true marks.length 1 (grows marks), .vec true org.length 2 (prows org), .vec true next.length 1 (erows next)]
theorem ren_pcell {ρ : Nat → Nat} (P : ProcD) : D.ren ρ (.lst 2 (P.nodes.map nrow)) = .lst 2 (P.nodes.map nrow) ∧ D.ren ρ (.lst 2 (P.flows.map frow)) = .lst 2 (P.flows.map frow) := by
  have h := pure_dproc P
  simp only [dproc, ProcD.cells, Pure, PureL] at h
  exact ⟨ren_pure _ (by simpa only [Pure] using h.1), ren_pure _ (by simpa only [Pure] using h.2.1)⟩
theorem sheap_ren (P : ProcD) (tok : Int) (st : Nat) (marks : List (List Int)) (org : List Org) (next : List (List EdgeD)) (last : Org) :
    [AObj.row true [.lst 2 (P.nodes.map nrow), .lst 2 (P.flows.map frow)]] ++ ((sheap P tok st marks org next last).map (AObj.ren fun i => [AObj.row true [.lst 2 (P.nodes.map nrow), .lst 2 (P.flows.map frow)]].length + i) ++ []) = sheap1 P tok st marks org next last := by
  have h1 := fun ρ => (ren_pcell (ρ := ρ) P).1
  have h2 := fun ρ => (ren_pcell (ρ := ρ) P).2
  have h3 := fun ρ => renLL_pure (ρ := ρ) _ (pure_grows marks)
  have h4 := fun ρ => renLL_pure (ρ := ρ) _ (pure_prows org)
  have h5 := fun ρ => renLL_pure (ρ := ρ) _ (pure_erows next)
  simp only [sheap, sheap1, sbox, sbox1, List.map_cons, List.map_nil, AObj.ren, renL, h1, h2, h3, h4, h5, List.append_nil, List.length_cons, List.length_nil, List.cons_append, List.nil_append]
  simp only [D.ren]
theorem under_sheap1 {P : ProcD} {tok : Int} {st : Nat} {marks : List (List Int)} {org : List Org} {next : List (List EdgeD)} {last : Org} : ∀ o ∈ sheap1 P tok st marks org next last, o.under 6 := by
  intro o ho
  simp only [sheap1, List.mem_cons, List.not_mem_nil, or_false] at ho
  rcases ho with rfl | rfl | rfl | rfl | rfl | rfl <;> simp [AObj.under, sbox1, UnderL, Under]
theorem ren_res {ρ : Nat → Nat} (l : List (Int × Int)) (v : Value) : D.ren ρ (.tup [dpairs l, .sc v]) = .tup [dpairs l, .sc v] := by
  simp only [D.ren, renL, ren_pure _ (pure_dpairs l)]
theorem ren_two {ρ : Nat → Nat} (u v : Value) : D.ren ρ (.tup [.sc u, .sc v]) = .tup [.sc u, .sc v] := by
  simp only [D.ren, renL]
theorem run_state {P : ProcD} {f : FuncId} {tok : Int} {st : Nat} {marks marks' : List (List Int)} {org org' : List Org} {next : List (List EdgeD)} {last last' : Org} {args args' : List D} {d d' : D}
    (hA : ACall Try.prog f args (sheap P tok st marks org next last) d (sheap P tok st marks' org' next last')) (hu : UnderL 5 args) (e1 : renL (fun i => 1 + i) args = args') (e2 : D.ren (fun i => 1 + i) d = d') :
    ACall Try.prog f args' (sheap1 P tok st marks org next last) d' (sheap1 P tok st marks' org' next last') :=
  acall_mid hA [.row true [.lst 2 (P.nodes.map nrow), .lst 2 (P.flows.map frow)]] [] rfl hu under_sheap e1 e2 (sheap_ren ..) (sheap_ren ..)
def c56_1 : PC := .seq (.seq (.ops [⟨(some 62), .move (.tmp 15), none, 0⟩,
    ⟨(some 63), .move (.tmp 10), none, 0⟩,
    ⟨(some 64), .nilchk (.tmp 63), none, 0⟩,
    ⟨(some 65), .faddr 4 (.tmp 64), none, 0⟩,
    ⟨(some 66), .faddr 0 (.tmp 65), none, 0⟩,
    ⟨(some 67), .load1 (.tmp 66), none, 0⟩,
    ⟨(some 68), .len (.tmp 67), none, 0⟩,
    ⟨(some 69), .bin .lss (.tmp 62) (.tmp 68), none, 0⟩] false) (.cond (.tmp 69) (.skip) (.exit 0))) (.seq (.block 1 (.seq (.ops [⟨(some 73), .move (.tmp 10), none, 0⟩,
    ⟨(some 74), .move (.tmp 15), none, 0⟩,
    ⟨(some 75), .call 85 [(.tmp 73), (.tmp 74)], none, 0⟩,
    ⟨(some 72), .move (.tmp 75), none, 0⟩,
    ⟨(some 76), .ext 0 (.tmp 72), none, 0⟩,
    ⟨(some 77), .ext 1 (.tmp 72), none, 0⟩,
    ⟨(some 16), .move (.tmp 76), none, 0⟩,
    ⟨(some 17), .move (.tmp 77), none, 0⟩] false) (.seq (.seq (.ops [⟨(some 78), .move (.tmp 17), none, 0⟩,
    ⟨(some 79), .bin .neq (.tmp 78) (.const (.int .i64 0)), none, 0⟩] false) (.cond (.tmp 79) (.seq (.ops [⟨(some 80), .move (.tmp 10), none, 0⟩,
    ⟨(some 81), .move (.tmp 17), none, 0⟩,
    ⟨(some 6), .move (.tmp 80), none, 0⟩,
    ⟨(some 7), .move (.tmp 81), none, 0⟩] false) (.ret)) (.skip))) (.ops [⟨(some 82), .move (.tmp 10), none, 0⟩,
    ⟨(some 83), .move (.tmp 10), none, 0⟩,
    ⟨(some 84), .nilchk (.tmp 83), none, 0⟩,
    ⟨(some 85), .faddr 4 (.tmp 84), none, 0⟩,
    ⟨(some 86), .faddr 1 (.tmp 85), none, 0⟩,
    ⟨(some 87), .load1 (.tmp 86), none, 0⟩,
    ⟨(some 88), .move (.tmp 16), none, 0⟩,
    ⟨(some 89), .bslice 1 1 [(.tmp 88)], none, 0⟩,
    ⟨(some 90), .append 1 24 (.tmp 87) (.tmp 89), none, 0⟩,
    ⟨(some 91), .nilchk (.tmp 82), none, 0⟩,
    ⟨(some 92), .faddr 4 (.tmp 91), none, 0⟩,
    ⟨(some 93), .faddr 1 (.tmp 92), none, 0⟩,
    ⟨none, .store 1 (.tmp 93) (.tmp 90), none, 0⟩] false)))) (.ops [⟨(some 70), .move (.tmp 15), none, 0⟩,
    ⟨(some 71), .bin .add (.tmp 70) (.const (.int .i64 1)), none, 0⟩,
    ⟨(some 15), .move (.tmp 71), none, 0⟩] false))
def c56 : PC := .seq (.ops [⟨(some 3), .box (.tmp 0), none, 0⟩,
    ⟨(some 6), .move (.const (.pointer none)), none, 0⟩,
    ⟨(some 7), .move (.const (.int .i64 0)), none, 0⟩] false) (.seq (.seq (.ops [⟨(some 19), .loadA 2 (.tmp 3), none, 0⟩,
    ⟨(some 20), .call 34 [(.tmp 19)], none, 0⟩,
    ⟨(some 18), .move (.tmp 20), none, 0⟩,
    ⟨(some 21), .ext 0 (.tmp 18), none, 0⟩,
    ⟨(some 22), .ext 1 (.tmp 18), none, 0⟩,
    ⟨(some 8), .move (.tmp 21), none, 0⟩,
    ⟨(some 9), .move (.tmp 22), none, 0⟩] false) (.seq (.ops [⟨(some 23), .move (.tmp 9), none, 0⟩,
    ⟨(some 24), .bin .neq (.tmp 23) (.const (.int .i64 0)), none, 0⟩] false) (.cond (.tmp 24) (.seq (.ops [⟨(some 25), .move (.tmp 9), none, 0⟩,
    ⟨(some 6), .move (.const (.pointer none)), none, 0⟩,
    ⟨(some 7), .move (.tmp 25), none, 0⟩] false) (.ret)) (.skip)))) (.seq (.seq (.ops [⟨(some 26), .move (.tmp 1), none, 0⟩,
    ⟨(some 27), .bin .lss (.tmp 26) (.const (.int .i64 1)), none, 0⟩,
    ⟨(some 28), .move (.tmp 27), none, 0⟩,
    ⟨(some 29), .move (.tmp 1), (some (28, false)), 0⟩,
    ⟨(some 30), .bin .gtr (.tmp 29) (.const (.int .i64 9)), (some (28, false)), 0⟩,
    ⟨(some 31), .pick (.tmp 28) (.const (.bool true)) (.tmp 30), none, 0⟩,
    ⟨(some 32), .move (.tmp 31), none, 0⟩,
    ⟨(some 33), .move (.tmp 2), (some (32, false)), 0⟩,
    ⟨(some 34), .bin .lss (.tmp 33) (.const (.int .i64 1)), (some (32, false)), 0⟩,
    ⟨(some 35), .pick (.tmp 32) (.const (.bool true)) (.tmp 34), none, 0⟩,
    ⟨(some 36), .move (.tmp 35), none, 0⟩,
    ⟨(some 37), .move (.tmp 2), (some (36, false)), 0⟩,
    ⟨(some 38), .bin .gtr (.tmp 37) (.const (.int .i64 200)), (some (36, false)), 0⟩,
    ⟨(some 39), .pick (.tmp 36) (.const (.bool true)) (.tmp 38), none, 0⟩] false) (.cond (.tmp 39) (.seq (.ops [⟨(some 6), .move (.const (.pointer none)), none, 0⟩,
    ⟨(some 7), .move (.const (.int .i64 1)), none, 0⟩] false) (.ret)) (.skip))) (.seq (.ops [⟨(some 40), .loadA 2 (.tmp 3), none, 0⟩,
    ⟨(some 41), .move (.tmp 1), none, 0⟩,
    ⟨(some 42), .move (.tmp 2), none, 0⟩,
    ⟨(some 43), .mkmap 166, none, 0⟩,
    ⟨(some 44), .build [(.slice none 0 0), (.slice none 0 0), (.int .i64 0), (.int .i64 0), (.slice none 0 0), (.slice none 0 0), (.map none), (.slice none 0 0), (.int .i64 0), (.int .i64 0)] [(0, 2, (.tmp 40)), (2, 1, (.tmp 41)), (3, 1, (.tmp 42)), (6, 1, (.tmp 43))], none, 0⟩,
    ⟨(some 45), .box (.tmp 44), none, 0⟩,
    ⟨(some 10), .move (.tmp 45), none, 0⟩] false) (.seq (.ops [⟨(some 47), .loadA 2 (.tmp 3), none, 0⟩,
    ⟨(some 48), .call 73 [(.tmp 47)], none, 0⟩,
    ⟨(some 46), .move (.tmp 48), none, 0⟩,
    ⟨(some 49), .ext 0 (.tmp 46), none, 0⟩,
    ⟨(some 50), .ext 1 (.tmp 46), none, 0⟩,
    ⟨(some 11), .move (.tmp 49), none, 0⟩,
    ⟨(some 12), .move (.tmp 50), none, 0⟩] false) (.seq (.seq (.stop (.ops [⟨(some 52), .move (.tmp 10), none, 0⟩,
    ⟨(some 53), .move (.tmp 11), none, 0⟩,
    ⟨(some 54), .build [(.int .i64 0), (.int .i64 0)] [(0, 1, (.const (.int .i64 (-1)))), (1, 1, (.const (.int .i64 (-1))))], none, 0⟩,
    ⟨(some 55), .call 84 [(.tmp 52), (.tmp 53), (.tmp 54)], none, 0⟩,
    ⟨(some 51), .move (.tmp 55), none, 0⟩,
    ⟨(some 56), .ext 0 (.tmp 51), none, 0⟩,
    ⟨(some 57), .ext 1 (.tmp 51), none, 0⟩,
    ⟨(some 13), .move (.tmp 56), none, 0⟩,
    ⟨(some 14), .move (.tmp 57), none, 0⟩] false)) (.seq (.ops [⟨(some 58), .move (.tmp 14), none, 0⟩,
    ⟨(some 59), .bin .neq (.tmp 58) (.const (.int .i64 0)), none, 0⟩] false) (.cond (.tmp 59) (.seq (.ops [⟨(some 60), .move (.tmp 10), none, 0⟩,
    ⟨(some 61), .move (.tmp 14), none, 0⟩,
    ⟨(some 6), .move (.tmp 60), none, 0⟩,
    ⟨(some 7), .move (.tmp 61), none, 0⟩] false) (.ret)) (.skip)))) (.seq (.seq (.ops [⟨(some 15), .move (.const (.int .i64 0)), none, 0⟩] false) (.block 0 (.loop c56_1))) (.seq (.ops [⟨(some 94), .move (.tmp 10), none, 0⟩,
    ⟨(some 6), .move (.tmp 94), none, 0⟩,
    ⟨(some 7), .move (.const (.int .i64 0)), none, 0⟩] false) (.ret))))))))
set_option maxRecDepth 100000 in
theorem c56_ok : FunOK Try.prog 56 95 [.tmp 6, .tmp 7] c56 := ⟨⟨Try.f56, Try.func56, rfl, by kernel_rfl, rfl, by kernel_rfl⟩⟩
theorem space_run_bad (P : ProcD) (hP : P.Fits) (h1 : P.stepsE ≠ 0) (tok st : Int) : ACall Try.prog 56 [dproc P, .sc (.int .i64 tok), .sc (.int .i64 st)] [] (.tup [.sc (.pointer none), .sc (.int .i64 P.stepsE)]) [] := by
  refine acall_intro c56_ok (by simp) (by simp) ?_ (by simp [Under, UnderL]) (by simp)
  unfold dproc ProcD.cells
  (apply rd_sound; focus (repeat' constructor))
  ((conv=>whnf);repeat(refine And.intro rfl ?_;(conv=>whnf)))
  (refine .inl ⟨_, (steps_Of P hP), ?_⟩; ((conv=>whnf);repeat(refine And.intro rfl ?_;(conv=>whnf))))
  (refine ifK_split (fun h2 => ?_) (fun h2 => ?_) <;> (rw [h2]; ((conv=>whnf);repeat(refine And.intro rfl ?_;(conv=>whnf)))))
  · exact Nat.zero_le _
  · exfalso; ((try simp only [oo, reduceCtorEq] at *) <;> omega)
theorem space_run_arg (P : ProcD) (hP : P.Fits) (h1 : P.stepsE = 0) (tok st : Int) (hb : tok < 1 ∨ 9 < tok ∨ st < 1 ∨ 200 < st) : ACall Try.prog 56 [dproc P, .sc (.int .i64 tok), .sc (.int .i64 st)] [] (.tup [.sc (.pointer none), .sc (.int .i64 1)]) [] := by
  refine acall_intro c56_ok (by simp) (by simp) ?_ (by simp [Under, UnderL]) (by simp)
  unfold dproc ProcD.cells
  (apply rd_sound; focus (repeat' constructor))
  ((conv=>whnf);repeat(refine And.intro rfl ?_;(conv=>whnf)))
  (refine .inl ⟨_, (steps_Of P hP), ?_⟩; ((conv=>whnf);repeat(refine And.intro rfl ?_;(conv=>whnf))))
  (refine ifK_split (fun h2 => ?_) (fun h2 => ?_) <;> (rw [h2]; ((conv=>whnf);repeat(refine And.intro rfl ?_;(conv=>whnf)))))
  · exfalso; ((try simp only [oo, reduceCtorEq] at *) <;> omega)
  (refine ifK_split (fun h3 => ?_) (fun h3 => ?_) <;> (rw [h3]; ((conv=>whnf);repeat(refine And.intro rfl ?_;(conv=>whnf)))))
  · ((conv=>whnf);repeat(refine And.intro rfl ?_;(conv=>whnf)))
    exact Nat.zero_le _
  (refine ifK_split (fun h4 => ?_) (fun h4 => ?_) <;> (rw [h4]; ((conv=>whnf);repeat(refine And.intro rfl ?_;(conv=>whnf)))))
  · ((conv=>whnf);repeat(refine And.intro rfl ?_;(conv=>whnf)))
    exact Nat.zero_le _
  (refine ifK_split (fun h5 => ?_) (fun h5 => ?_) <;> (rw [h5]; ((conv=>whnf);repeat(refine And.intro rfl ?_;(conv=>whnf)))))
  · ((conv=>whnf);repeat(refine And.intro rfl ?_;(conv=>whnf)))
    exact Nat.zero_le _
  (refine ifK_split (fun h6 => ?_) (fun h6 => ?_) <;> (rw [h6]; ((conv=>whnf);repeat(refine And.intro rfl ?_;(conv=>whnf)))))
  · exact Nat.zero_le _
  · exfalso; ((try simp only [oo, reduceCtorEq] at *) <;> omega)
set_option maxRecDepth 100000 in
theorem space_run (P : ProcD) (hP : P.Fits) (h1 : P.stepsE = 0) (tok : Int) (ht : 1 ≤ tok) (ht' : tok ≤ 9) (st : Nat) (hs : 1 ≤ st) (hs' : st ≤ 200) :
    ACall Try.prog 56 [dproc P, .sc (.int .i64 tok), .sc (.int .i64 st)] [] (.tup [.loc 2 0, .sc (.int .i64 (P.exF tok st).e)]) (sheap1 P tok st (P.exF tok st).marks (P.exF tok st).org (P.exF tok st).next (P.exF tok st).last) := by
  obtain ⟨h0, _, h60⟩ := ProcD.stepsE_zero h1
  have h30 := (chk_small h0).2
  refine acall_intro c56_ok (by simp) (by simp) ?_ (by simp [Under, UnderL, sheap1]) under_sheap1
  have hB := ProcD.begin_ok h1
  obtain ⟨p1, p2, p3⟩ := ProcD.begin_put h1 ht hs
  unfold dproc ProcD.cells
  (apply rd_sound; focus (repeat' constructor))
  ((conv=>whnf);repeat(refine And.intro rfl ?_;(conv=>whnf)))
  (refine .inl ⟨_, (steps_Of P hP), ?_⟩; ((conv=>whnf);repeat(refine And.intro rfl ?_;(conv=>whnf))))
  (refine ifK_split (fun h2 => ?_) (fun h2 => ?_) <;> (rw [h2]; ((conv=>whnf);repeat(refine And.intro rfl ?_;(conv=>whnf)))))
  · exfalso; ((try simp only [oo, reduceCtorEq] at *) <;> omega)
  (refine ifK_split (fun h3 => ?_) (fun h3 => ?_) <;> (rw [h3]; ((conv=>whnf);repeat(refine And.intro rfl ?_;(conv=>whnf)))))
  · exfalso; ((try simp only [oo, reduceCtorEq] at *) <;> omega)
  (refine ifK_split (fun h4 => ?_) (fun h4 => ?_) <;> (rw [h4]; ((conv=>whnf);repeat(refine And.intro rfl ?_;(conv=>whnf)))))
  · exfalso; ((try simp only [oo, reduceCtorEq] at *) <;> omega)
  (refine ifK_split (fun h5 => ?_) (fun h5 => ?_) <;> (rw [h5]; ((conv=>whnf);repeat(refine And.intro rfl ?_;(conv=>whnf)))))
  · exfalso; ((try simp only [oo, reduceCtorEq] at *) <;> omega)
  (refine ifK_split (fun h6 => ?_) (fun h6 => ?_) <;> (rw [h6]; ((conv=>whnf);repeat(refine And.intro rfl ?_;(conv=>whnf)))))
  · exfalso; ((try simp only [oo, reduceCtorEq] at *) <;> omega)
  (refine .inl ⟨_, (game_Begin P hP), ?_⟩; ((conv=>whnf);repeat(refine And.intro rfl ?_;(conv=>whnf))))
  refine pwp_ghostB (leB_nilc 2 4 1 (by simp) rfl rfl) ?_
  refine pwp_ghostB (leB_nilc 2 7 2 (by simp) rfl rfl) ?_
  refine pwp_ghostB (leB_nilc 2 5 1 (by simp) rfl rfl) ?_
  (apply rd_sound; focus (repeat' constructor))
  ((conv=>whnf);repeat(refine And.intro rfl ?_;(conv=>whnf)))
  (refine .inr (.inr (.inl ⟨rfl, _, _, (run_state (space_state P tok st hs' [] [] [] (0, 0) (ProcD.Sp.nil P tok st) h30 P.beginL hB (-1, -1)) (by simp [UnderL, Under, dpair]) (by simp only [renL, D.ren, dpair, ren_pure _ (pure_dints _)]) (ren_two _ _)), ?_⟩)); ((conv=>whnf);repeat(refine And.intro rfl ?_;(conv=>whnf))))
  rw [p1, p2, p3]
  ((conv=>whnf);repeat(refine And.intro rfl ?_;(conv=>whnf)))
  have eF : P.exF tok st = P.runF tok st 201 0 [P.beginL] [(-1, -1)] [] (-1, -1) := rfl
  generalize P.exF tok st = F at eF
  refine pwp_forH [10] (fun ((mk, og, nx, la, n) : List (List Int) × List Org × List (List EdgeD) × Org × Nat) => [(15, .sc (.int .i64 n))]) (fun (mk, og, nx, la, n) => sheap1 P tok st mk og nx la)
    (fun (mk, og, nx, la, n) => n ≤ mk.length ∧ ProcD.Sp P tok st mk og ∧ nx.length = n ∧ P.runF tok st (201 - n) n mk og nx la = F) (fun (mk, og, nx, la, n) => 201 - n) ([P.beginL], [(-1, -1)], [], (-1, -1), 0) ?_
  ((conv=>whnf);repeat(refine And.intro rfl ?_;(conv=>whnf)))
  refine ⟨⟨by simp, ProcD.Sp.start h1 hs, rfl, eF.symm⟩, by (repeat' (first | exact trivial | refine And.intro rfl ?_)), rfl, ?_⟩
  rintro ⟨mk, og, nx, la, n⟩ ⟨hn, hS, hnx, hF⟩
  have hr := hS.room
  obtain ⟨f, ef⟩ : ∃ f, 201 - n = f + 1 := ⟨200 - n, by omega⟩
  rw [ef] at hF
  simp only [ProcD.runF] at hF
  unfold sheap1 sbox1
  ((conv=>whnf);repeat(refine And.intro rfl ?_;(conv=>whnf)))
  (apply rd_sound; focus (repeat' constructor))
  ((conv=>whnf);repeat(refine And.intro rfl ?_;(conv=>whnf)))
  (refine ifK_split (fun h7 => ?_) (fun h7 => ?_) <;> (rw [h7]; ((conv=>whnf);repeat(refine And.intro rfl ?_;(conv=>whnf)))))
  · have hn' : n < mk.length := by ((try simp only [oo, reduceCtorEq] at *) <;> omega)
    rw [if_pos hn'] at hF
    have hok := ProcD.edgesF_ok (tok := tok) (st := st) (n := n) (hS.good _ (ProcD.mem_getDL hn')) (P.enL (mk.getD n [])) mk og [] la (fun _ h => h) hS hn'
    (refine .inr (.inr (.inl ⟨rfl, _, _, (run_state (space_edges P hP h1 tok st hs' mk og nx la hS n hn') (by simp [UnderL, Under]) (by simp only [renL, D.ren]) (ren_res _ _)), ?_⟩)); ((conv=>whnf);repeat(refine And.intro rfl ?_;(conv=>whnf))))
    generalize P.edgesF tok st n (mk.getD n []) (P.enL (mk.getD n [])) mk og [] la = R at hF hok
    (refine ifK_split (fun h8 => ?_) (fun h8 => ?_) <;> (rw [h8]; ((conv=>whnf);repeat(refine And.intro rfl ?_;(conv=>whnf)))))
    · have h8 : R.e ≠ 0 := by ((try simp only [oo, reduceCtorEq] at *) <;> omega)
      rw [if_pos h8] at hF
      rw [← hF]
      exact ⟨rfl, rfl, Nat.le_refl _⟩
    · have h8 : R.e = 0 := by ((try simp only [oo, reduceCtorEq] at *) <;> omega)
      rw [if_neg fun q => q h8] at hF
      have hcur : curR R = R.cur := if_pos h8
      rw [hcur]
      refine ⟨(by unfold sliceAppend; simp only [ll]; omega), ?_⟩
      ((conv=>whnf);repeat(refine And.intro rfl ?_;(conv=>whnf)))
      (refine .inl ⟨by (unfold InR; rw [IntKind.wrap_i64]; omega), ?_⟩; ((conv=>whnf);repeat(refine And.intro rfl ?_;(conv=>whnf))))
      refine ⟨(R.marks, R.org, nx ++ [R.cur], R.last, n + 1), ⟨by omega, hok.1, by simp [hnx], by rw [show 201 - (n + 1) = f by omega]; exact hF⟩, by dsimp only; omega, ?_⟩
      dsimp only
      rw [show (nx ++ [R.cur]).length = nx.length + 1 by simp]
      (refine leB_close 6 (by simp) rfl ?_ ?_ <;> (repeat' (first | exact trivial | exact rfl | exact DeepM.refl _ | exact DeepML.refl _ | exact DeepMLL.refl _ | refine And.intro ?_ ?_ | (simp [Under, UnderL, UnderLL, -List.map_take, -List.map_drop]; done))))
      exact deepMLL_eq (erows_snoc rfl)
  · have hn' : ¬ n < mk.length := by ((try simp only [oo, reduceCtorEq] at *) <;> omega)
    rw [if_neg hn'] at hF
    rw [← hF]
    exact ⟨rfl, rfl, Nat.le_refl _⟩
end

/-! ### XSp4 -/
section
open Go.RowKit
set_option linter.unusedSimpArgs false
set_option linter.unusedVariables false
/-! ### Routes -/
def rt (org : List Org) : Nat → Org → List Int
  | 0, _ => []
  | f + 1, o => if o.1 < 0 then [] else rt org f (org.getD o.1.toNat (0, 0)) ++ [o.2]
def rtC (org : List Org) (o : Org) : List Int := rt org (o.1 + 1).toNat o
/-- Each came from an earlier one. -/
def Back (org : List Org) : Prop := (∀ i, 0 < i → i < org.length → 0 ≤ (org.getD i (0, 0)).1 ∧ (org.getD i (0, 0)).1 < (i : Int)) ∧ (org.length = 0 ∨ org.getD 0 (0, 0) = (-1, -1))
theorem Back.at {org : List Org} (h : Back org) {i : Nat} (hi : i < org.length) : -1 ≤ (org.getD i (0, 0)).1 ∧ (org.getD i (0, 0)).1 < (i : Int) := by
  by_cases e : i = 0
  · subst e
    rcases h.2 with q | q
    · omega
    · rw [q]; simp
  · have := h.1 i (by omega) hi
    omega
theorem rt_fuel {org : List Org} (h : Back org) : ∀ (f g : Nat) (o : Org), o.1 < (org.length : Int) → o.1 < (f : Int) → o.1 < (g : Int) → rt org f o = rt org g o := by
  intro f
  induction f with
  | zero =>
    intro g o h1 h2 h3
    cases g with
    | zero => rfl
    | succ g => simp only [rt]; rw [if_pos (by omega)]
  | succ f ih =>
    intro g o h1 h2 h3
    cases g with
    | zero => simp only [rt]; rw [if_pos (by omega)]
    | succ g =>
      simp only [rt]
      split
      · rfl
      · have hb := h.at (i := o.1.toNat) (by omega)
        rw [ih g _ (by omega) (by omega) (by omega)]
theorem rtC_of {org : List Org} (h : Back org) {f : Nat} {o : Org} (h1 : o.1 < (org.length : Int)) (h2 : o.1 < (f : Int)) : rt org f o = rtC org o := rt_fuel h _ _ o h1 h2 (by omega)
theorem rtC_step {org : List Org} (h : Back org) {a k : Int} (h0 : 0 ≤ a) (h1 : a < (org.length : Int)) : rtC org (a, k) = rtC org (org.getD a.toNat (0, 0)) ++ [k] := by
  unfold rtC
  rw [show ((a, k) : Org).1 = a from rfl, show (a + 1).toNat = a.toNat + 1 by omega]
  simp only [rt]
  rw [if_neg (by omega)]
  have hb := h.at (i := a.toNat) (by omega)
  rw [rtC_of h (by omega) (by omega)]
  rfl
theorem rt_app {org : List Org} {x : Org} (h : Back org) : ∀ (f : Nat) (o : Org), o.1 < (org.length : Int) → rt (org ++ [x]) f o = rt org f o
  | 0, _, _ => rfl
  | f + 1, o, h1 => by
    simp only [rt]
    split
    · rfl
    · have hb := h.at (i := o.1.toNat) (by omega)
      have e : (org ++ [x]).getD o.1.toNat (0, 0) = org.getD o.1.toNat (0, 0) := by
        rw [List.getD_eq_getElem?_getD, List.getElem?_append_left (by omega), ← List.getD_eq_getElem?_getD]
      rw [e, rt_app h f _ (by omega)]
theorem rtC_app {org : List Org} {x : Org} (h : Back org) {o : Org} (h1 : o.1 < (org.length : Int)) : rtC (org ++ [x]) o = rtC org o := rt_app h _ o h1
theorem rt_len (org : List Org) : ∀ (f : Nat) (o : Org), (rt org f o).length ≤ f
  | 0, _ => by simp [rt]
  | f + 1, o => by
    simp only [rt]
    split
    · simp
    · have := rt_len org f (org.getD o.1.toNat (0, 0))
      rw [List.length_append, List.length_singleton]
      omega
namespace ProcD
theorem Sp.bk {P : ProcD} {tok : Int} {st : Nat} {marks : List (List Int)} {org : List Org} (h : Sp P tok st marks org) : Back org := ⟨h.back, h.root⟩
theorem edgesF_last {P : ProcD} {tok : Int} {st n : Nat} {M : List Int} : ∀ (L : List Int) (marks : List (List Int)) (org : List Org) (cur : List EdgeD) (last : Org), last.1 = (n : Int) ∨ L ≠ [] ∨ last.1 = -1 →
    (P.edgesF tok st n M L marks org cur last).last.1 = (n : Int) ∨ (P.edgesF tok st n M L marks org cur last).last = last
  | [], marks, org, cur, last, _ => .inr rfl
  | k :: r, marks, org, cur, last, _ => by
    rw [edgesF_cons]
    split
    · exact .inl rfl
    · split
      · exact .inl rfl
      · rcases edgesF_last r (putM marks (P.firL M k) tok st) (putG marks org (P.firL M k) tok st ((n : Int), k)) (cur ++ [(k, putI marks (P.firL M k) tok st)]) ((n : Int), k) (.inl rfl) with h | h
        · exact .inl h
        · rw [h]; exact .inl rfl
theorem runF_ok {P : ProcD} {tok : Int} {st : Nat} : ∀ (f n : Nat) (marks : List (List Int)) (org : List Org) (next : List (List EdgeD)) (last : Org), Sp P tok st marks org → last.1 < (marks.length : Int) →
    Sp P tok st (P.runF tok st f n marks org next last).marks (P.runF tok st f n marks org next last).org ∧ (P.runF tok st f n marks org next last).last.1 < ((P.runF tok st f n marks org next last).marks.length : Int)
  | 0, n, marks, org, next, last, hS, hl => ⟨hS, hl⟩
  | f + 1, n, marks, org, next, last, hS, hl => by
    simp only [runF]
    split
    · rename_i hn
      obtain ⟨g1, g2, _⟩ := edgesF_ok (tok := tok) (st := st) (n := n) (hS.good _ (mem_getDL hn)) (P.enL (marks.getD n [])) marks org [] last (fun _ h => h) hS hn
      have g3 : (P.edgesF tok st n (marks.getD n []) (P.enL (marks.getD n [])) marks org [] last).last.1 = (n : Int) ∨ (P.edgesF tok st n (marks.getD n []) (P.enL (marks.getD n [])) marks org [] last).last = last := by
        generalize P.enL (marks.getD n []) = L
        cases L with
        | nil => exact .inr rfl
        | cons k r => exact edgesF_last _ _ _ _ _ (.inr (.inl (by simp)))
      generalize P.edgesF tok st n (marks.getD n []) (P.enL (marks.getD n [])) marks org [] last = R at g1 g2 g3
      have g4 : R.last.1 < (R.marks.length : Int) := by
        rcases g3 with g3 | g3
        · omega
        · rw [g3]; omega
      split
      · exact ⟨g1, g4⟩
      · exact runF_ok f (n + 1) _ _ _ _ g1 g4
    · exact ⟨hS, hl⟩
theorem exF_ok {P : ProcD} (h : P.stepsE = 0) {tok : Int} {st : Nat} (hs : 1 ≤ st) : Sp P tok st (P.exF tok st).marks (P.exF tok st).org ∧ (P.exF tok st).last.1 < ((P.exF tok st).marks.length : Int) :=
  runF_ok _ _ _ _ _ _ (Sp.start h hs) (by simp)
/-- What is answered. -/
def badTS (tok st : Int) : Prop := tok < 1 ∨ 9 < tok ∨ st < 1 ∨ 200 < st
instance (tok st : Int) : Decidable (badTS tok st) := by unfold badTS; infer_instance
noncomputable def exE (P : ProcD) (tok st : Int) : Int := if P.stepsE ≠ 0 then P.stepsE else if badTS tok st then 1 else (P.exF tok st.toNat).e
noncomputable def exM (P : ProcD) (tok st : Int) : List (List Int) := if P.exE tok st = 0 then (P.exF tok st.toNat).marks else []
noncomputable def exN (P : ProcD) (tok st : Int) : List (List EdgeD) := if P.exE tok st = 0 then (P.exF tok st.toNat).next else []
noncomputable def exW (P : ProcD) (tok st : Int) : List Int := if P.stepsE ≠ 0 ∨ badTS tok st ∨ (P.exF tok st.toNat).e = 0 then [] else rtC (P.exF tok st.toNat).org (P.exF tok st.toNat).last
end ProcD
/-! ### Turning a list round -/
end

/-! ### XSp5 -/
section
open Go.RowKit
set_option linter.unusedSimpArgs false
set_option linter.unusedVariables false
theorem pure_i64s (l : List Int) : PureLL (i64s l) := by simp [i64s, PureL, Pure]
theorem renLL_i64s {ρ : Nat → Nat} (l : List Int) : renLL ρ (i64s l) = i64s l := renLL_pure _ (pure_i64s l)
def dspace (M : List (List Int)) (N : List (List EdgeD)) : D := .agg [dgrid M, .lst 1 (erows N)]
theorem pure_dspace (M : List (List Int)) (N : List (List EdgeD)) : Pure (dspace M N) := by simp [dspace, Pure, PureL, pure_dgrid, pure_erows]
theorem deep_erows {H : List AObj} {id v n : Nat} {q : Bool} {L : List (List EdgeD)} (hn : n = L.length) (h : H[id]? = some (.vec q v 1 (erows L))) : Deep H (.own id v 0 n) (.lst 1 (erows L)) := by
  subst hn
  exact .own _ _ _ _ _ _ _ _ h (by rw [drop_take_all (by simp)]; exact deepLL_refl _)
def sboxN (b : Nat) (P : ProcD) (tok : Int) (st n no nn : Nat) (last : Org) : List D := [.lst 2 (P.nodes.map nrow), .lst 2 (P.flows.map frow), .sc (.int .i64 tok), .sc (.int .i64 st), .own (b + 2) n 0 n, .own (b + 4) nn 0 nn, .mp b, .own (b + 3) no 0 no, .sc (.int .i64 last.1), .sc (.int .i64 last.2)]
noncomputable def sheapN (b : Nat) (P : ProcD) (tok : Int) (st : Nat) (marks : List (List Int)) (org : List Org) (next : List (List EdgeD)) (last : Org) : List AObj :=
  [.row true [.lst 2 (P.nodes.map nrow), .lst 2 (P.flows.map frow)], .mapo true (mapIs Try.prog 166 (fM marks)), .row true (sboxN b P tok st marks.length org.length next.length last), .vec true marks.length 1 (grows marks), .vec true org.length 2 (prows org), .vec true next.length 1 (erows next)]
theorem sheap1_ren (b : Nat) (P : ProcD) (tok : Int) (st : Nat) (marks : List (List Int)) (org : List Org) (next : List (List EdgeD)) (last : Org) :
    (sheap1 P tok st marks org next last).map (AObj.ren fun i => [b, b + 1, b + 2, b + 3, b + 4, b + 5].getD i 0) = sheapN (b + 1) P tok st marks org next last := by
  have h1 := fun ρ => (ren_pcell (ρ := ρ) P).1
  have h2 := fun ρ => (ren_pcell (ρ := ρ) P).2
  have h3 := fun ρ => renLL_pure (ρ := ρ) _ (pure_grows marks)
  have h4 := fun ρ => renLL_pure (ρ := ρ) _ (pure_prows org)
  have h5 := fun ρ => renLL_pure (ρ := ρ) _ (pure_erows next)
  simp only [sheapN, sheap1, sboxN, sbox1, List.map_cons, List.map_nil, AObj.ren, renL, h1, h2, h3, h4, h5]
  simp only [D.ren]
  rfl
theorem search_run {P : ProcD} {tok : Int} {st : Nat} {marks : List (List Int)} {org : List Org} {next : List (List EdgeD)} {last : Org} {args : List D} {e : Int} (hA : ACall Try.prog 56 args [] (.tup [.loc 2 0, .sc (.int .i64 e)]) (sheap1 P tok st marks org next last)) (hp : PureL args)
    {H : List AObj} {b : Nat} (hb : H.length = b) : ACallAt Try.prog 56 args H (.tup [.loc (b + 2) 0, .sc (.int .i64 e)]) (H ++ sheapN (b + 1) P tok st marks org next last) [b, b + 1, b + 2, b + 3, b + 4, b + 5] :=
  acallAt_new hA hp _ (by rw [hb]; rfl) (by simp only [D.ren, renL]; rfl) (by rw [sheap1_ren])
theorem search_bad {args : List D} {e : Int} (hA : ACall Try.prog 56 args [] (.tup [.sc (.pointer none), .sc (.int .i64 e)]) []) (hp : PureL args)
    {H : List AObj} : ACallAt Try.prog 56 args H (.tup [.sc (.pointer none), .sc (.int .i64 e)]) H [] :=
  acallAt_new hA hp [] rfl (by simp only [D.ren, renL]) (by simp)
def c18 : PC := .seq (.ops [⟨(some 3), .box (.tmp 0), none, 0⟩,
    ⟨(some 6), .alloc [(.slice none 0 0), (.slice none 0 0)], none, 0⟩,
    ⟨(some 7), .move (.const (.int .i64 0)), none, 0⟩] false) (.seq (.ops [⟨(some 11), .loadA 2 (.tmp 3), none, 0⟩,
    ⟨(some 12), .move (.tmp 1), none, 0⟩,
    ⟨(some 13), .move (.tmp 2), none, 0⟩,
    ⟨(some 14), .call 56 [(.tmp 11), (.tmp 12), (.tmp 13)], none, 0⟩,
    ⟨(some 10), .move (.tmp 14), none, 0⟩,
    ⟨(some 15), .ext 0 (.tmp 10), none, 0⟩,
    ⟨(some 16), .ext 1 (.tmp 10), none, 0⟩,
    ⟨(some 8), .move (.tmp 15), none, 0⟩,
    ⟨(some 9), .move (.tmp 16), none, 0⟩] false) (.seq (.seq (.ops [⟨(some 17), .move (.tmp 9), none, 0⟩,
    ⟨(some 18), .bin .neq (.tmp 17) (.const (.int .i64 0)), none, 0⟩] false) (.cond (.tmp 18) (.seq (.ops [⟨(some 19), .build [(.slice none 0 0), (.slice none 0 0)] [], none, 0⟩,
    ⟨(some 20), .move (.tmp 9), none, 0⟩,
    ⟨none, .store 2 (.tmp 6) (.tmp 19), none, 0⟩,
    ⟨(some 7), .move (.tmp 20), none, 0⟩] false) (.ret)) (.skip))) (.seq (.ops [⟨(some 21), .move (.tmp 8), none, 0⟩,
    ⟨(some 22), .nilchk (.tmp 21), none, 0⟩,
    ⟨(some 23), .faddr 4 (.tmp 22), none, 0⟩,
    ⟨(some 24), .loadA 2 (.tmp 23), none, 0⟩,
    ⟨none, .store 2 (.tmp 6) (.tmp 24), none, 0⟩,
    ⟨(some 7), .move (.const (.int .i64 0)), none, 0⟩] false) (.ret))))
set_option maxRecDepth 100000 in
theorem c18_ok : FunOK Try.prog 18 25 [.agg 6 2, .tmp 7] c18 := ⟨⟨Try.f18, Try.func18, rfl, by kernel_rfl, rfl, by kernel_rfl⟩⟩
set_option maxRecDepth 100000 in
theorem space_Explore (P : ProcD) (hP : P.Fits) (tok st : Int) : PCall Try.prog 18 [dproc P, .sc (.int .i64 tok), .sc (.int .i64 st)] (.tup [dspace (P.exM tok st) (P.exN tok st), .sc (.int .i64 (P.exE tok st))]) := by
  refine pcall_intro c18_ok (by simp) (by simp [PureL, Pure, pure_dproc]) ?_ (by simp [Pure, PureL, pure_dspace])
  have hpa : PureL [dproc P, .sc (.int .i64 tok), .sc (.int .i64 st)] := by simp [PureL, Pure, pure_dproc]
  unfold dproc ProcD.cells
  (apply rd_sound; focus (repeat' constructor))
  ((conv=>whnf);repeat(refine And.intro rfl ?_;(conv=>whnf)))
  have bad : ∀ e, e ≠ 0 → P.exE tok st = e → P.exM tok st = [] ∧ P.exN tok st = [] := fun e h1 h2 => by
    unfold ProcD.exM ProcD.exN
    rw [h2, if_neg h1, if_neg h1]
    exact ⟨rfl, rfl⟩
  by_cases h1 : P.stepsE = 0
  · by_cases h2 : ProcD.badTS tok st
    · have e1 : P.exE tok st = 1 := by unfold ProcD.exE; rw [if_neg (by omega), if_pos h2]
      obtain ⟨eM, eN⟩ := bad 1 (by decide) e1
      (refine .inr (.inr (.inr (.inr (.inl ⟨_, _, _, (search_bad (space_run_arg P hP h1 tok st h2) hpa), ?_⟩)))); ((conv=>whnf);repeat(refine And.intro rfl ?_;(conv=>whnf))))
      rw [eM, eN, e1]
      exact .tup _ _ (.cons _ _ _ _ (.agg _ _ (.cons _ _ _ _ (.none _) (.cons _ _ _ _ (.none _) .nil))) (deepL_refl _))
    · have h2' := h2
      unfold ProcD.badTS at h2'
      obtain ⟨s, rfl⟩ : ∃ s : Nat, st = s := ⟨st.toNat, by omega⟩
      have e1 : P.exE tok s = (P.exF tok s).e := by unfold ProcD.exE; rw [if_neg (by omega), if_neg h2, Int.toNat_natCast]
      have hA := search_run (space_run P hP h1 tok (by omega) (by omega) s (by omega) (by omega)) hpa (H := [.row true [.lst 2 (P.nodes.map nrow), .lst 2 (P.flows.map frow)], .row true [.sc (.slice none 0 0), .sc (.slice none 0 0)]]) (b := 2) rfl
      (refine .inr (.inr (.inr (.inr (.inl ⟨_, _, _, (hA), ?_⟩)))); ((conv=>whnf);repeat(refine And.intro rfl ?_;(conv=>whnf))))
      (refine ifK_split (fun h3 => ?_) (fun h3 => ?_) <;> (rw [h3]; ((conv=>whnf);repeat(refine And.intro rfl ?_;(conv=>whnf)))))
      · have h3 : P.exE tok s ≠ 0 := by rw [e1]; ((try simp only [oo, reduceCtorEq] at *) <;> omega)
        obtain ⟨eM, eN⟩ := bad _ h3 rfl
        rw [eM, eN, e1]
        exact .tup _ _ (.cons _ _ _ _ (.agg _ _ (.cons _ _ _ _ (.none _) (.cons _ _ _ _ (.none _) .nil))) (deepL_refl _))
      · have h3 : P.exE tok s = 0 := by rw [e1]; ((try simp only [oo, reduceCtorEq] at *) <;> omega)
        unfold ProcD.exM ProcD.exN
        rw [if_pos h3, if_pos h3, h3, Int.toNat_natCast]
        exact .tup _ _ (.cons _ _ _ _ (.agg _ _ (.cons _ _ _ _ (deep_grows rfl rfl) (.cons _ _ _ _ (deep_erows rfl rfl) .nil))) (deepL_refl _))
  · have e1 : P.exE tok st = P.stepsE := by unfold ProcD.exE; rw [if_pos h1]
    obtain ⟨eM, eN⟩ := bad _ h1 e1
    (refine .inr (.inr (.inr (.inr (.inl ⟨_, _, _, (search_bad (space_run_bad P hP h1 tok st) hpa), ?_⟩)))); ((conv=>whnf);repeat(refine And.intro rfl ?_;(conv=>whnf))))
    have hb : (P.stepsE != 0) = true := by simp [h1]
    rw [hb]
    ((conv=>whnf);repeat(refine And.intro rfl ?_;(conv=>whnf)))
    rw [eM, eN, e1]
    exact .tup _ _ (.cons _ _ _ _ (.agg _ _ (.cons _ _ _ _ (.none _) (.cons _ _ _ _ (.none _) .nil))) (deepL_refl _))
end

end Go.Proofs.Ytjnfahdolkgnoaa
