/-
  A maker of an automaton of pairs: its memory; one more pair (add), over deep values. No statement is proved here.
-/
import Derived.Test.YtfaekhadjlgbbaaQNb0
import Derived.Test.YtfaekhadjlgbbaaQAu0
import Derived.Test.YtfaekhadjlgbbaaQDl
import Derived.Test.YtfaekhadjlgbbaaQOg
import Derived.DeepKeys4
namespace Go.Proofs.Ytfaekhadjlgbbaa
open Go.RowKit
set_option linter.unusedSimpArgs false
set_option linter.unusedVariables false
def dpair (a b : Int) : List D := [.sc (.int .i64 a), .sc (.int .i64 b)]
def prows (l : List Pr) : List (List D) := l.map fun o => dpair o.1 o.2
def dpairs (l : List Pr) : D := .lst 2 (prows l)
@[simp] theorem prows_len (l : List Pr) : (prows l).length = l.length := by simp [prows]
theorem pure_prows (l : List Pr) : PureLL (prows l) := pureLL_map _ (fun l => by simp [dpair, PureL, Pure]) l
theorem pure_dpairs (l : List Pr) : Pure (dpairs l) := by simp only [dpairs, Pure]; exact pure_prows l
@[simp] theorem underLL_prows {m : Nat} (l : List Pr) : UnderLL m (prows l) ↔ True := ⟨fun _ => trivial, fun _ => underLL_pure _ (pure_prows l)⟩
@[simp] theorem under_dpairs {m : Nat} (l : List Pr) : Under m (dpairs l) ↔ True := ⟨fun _ => trivial, fun _ => under_pure _ (pure_dpairs l)⟩
theorem prows_at {l : List Pr} {z k : Nat} (hz : z = k) (h : k < l.length) : (prows l)[z]? = some (dpair (l.getD k (0, 0)).1 (l.getD k (0, 0)).2) := by
  subst hz
  unfold prows
  rw [List.getElem?_map, List.getElem?_eq_getElem h, List.getD_eq_getElem?_getD, List.getElem?_eq_getElem h]
  rfl
theorem prows_snoc {l : List Pr} {c : Nat} {a b : Int} (h : c = l.length) : List.drop 0 (List.take c (prows l)) ++ [dpair a b] = prows (l ++ [(a, b)]) := by
  subst h
  rw [drop_take_all (by simp)]
  simp [prows]
def growsI (L : List (List Int)) : List (List D) := L.map fun l => [dints l]
@[simp] theorem growsI_len (L : List (List Int)) : (growsI L).length = L.length := by simp [growsI]
theorem pure_growsI (L : List (List Int)) : PureLL (growsI L) := pureLL_map _ (fun l => by simp [PureL, pure_dints]) L
@[simp] theorem underLL_growsI {m : Nat} (l : List (List Int)) : UnderLL m (growsI l) ↔ True := ⟨fun _ => trivial, fun _ => underLL_pure _ (pure_growsI l)⟩
theorem growsI_snoc {L : List (List Int)} {c : Nat} {l : List Int} (h : c = L.length) : List.drop 0 (List.take c (growsI L)) ++ [[dints l]] = growsI (L ++ [l]) := by
  subst h
  rw [drop_take_all (by simp)]
  simp [growsI]
theorem i64s_snoc (l : List Int) (x : Int) : List.drop 0 (List.take l.length (i64s l)) ++ List.drop 0 (List.take 1 [[D.sc (.int .i64 x)]]) = i64s (l ++ [x]) := by
  rw [drop_take_all (by simp [i64s])]
  simp [i64s]
theorem prows_snocP (L : List Pr) (p : Pr) : List.drop 0 (List.take L.length (prows L)) ++ List.drop 0 (List.take 1 [[D.sc (.int .i64 p.1), D.sc (.int .i64 p.2)]]) = prows (L ++ [p]) := by
  rw [drop_take_all (by simp)]
  simp [prows, dpair]
/-! ### Keys -/
theorem keyOf_two {P : Program} {k e : TypeId} {f0 f1 : Field} (hsz : 0 < P.types.size) (hk : P.keyType k = true) (hu : P.underlying k = some (.struct #[f0, f1])) (h0 : f0.type = e) (h1 : f1.type = e) (o0 : f0.offset = 0) (o1 : f1.offset = 1) (n0 : (f0.name != "_") = true) (n1 : (f1.name != "_") = true) (he : P.underlying e = some (.int .i64)) (hce : P.cellsOf e = 1) (hck : P.cellsOf k = 2) (a b : Int) (ha : (Lit.int .i64 a).wf = true) (hb : (Lit.int .i64 b).wf = true) :
    ∃ l, keyOf P k (.agg #[.int .i64 a, .int .i64 b]) = some l := by
  obtain ⟨d, hd⟩ : ∃ d, P.types.size = d + 1 := ⟨P.types.size - 1, by omega⟩
  unfold keyOf
  rw [hu]
  simp only [hk, Value.formed, hu, hck, Bool.true_and]
  rw [if_pos (by simp), hd]
  show ∃ l, (P.keyLits (d + 1 + 1) k [.int .i64 a, .int .i64 b]).map _ = some l
  rw [Program.keyLits.eq_def]
  simp only [hu]
  rw [if_pos ⟨by simp [hck], by simp [n0, n1]⟩]
  simp [List.mapM_cons, h0, h1, o0, o1, hce, Program.keyLits, he, ha, hb]
def keyP (p : Pr) : Value := .agg #[.int .i64 p.1, .int .i64 p.2]
theorem keyP_inj {p q : Pr} (h : keyP p = keyP q) : p = q := by
  unfold keyP at h
  have h := (Value.agg.injEq _ _).mp h
  have h := congrArg Array.toList h
  simp at h
  exact Prod.ext h.1 h.2
/-- The table of some pairs. -/
noncomputable def fPto (L : List Pr) : Nat → Value → Option Value
  | 0 => fun _ => none
  | k + 1 => putF (fPto L k) (keyP (L.getD k (0, 0))) (.int .i64 k)
noncomputable def fP (L : List Pr) : Value → Option Value := fPto L L.length
theorem fPto_app {L : List Pr} {m : Pr} : ∀ k, k ≤ L.length → fPto (L ++ [m]) k = fPto L k
  | 0, _ => rfl
  | k + 1, h => by
    simp only [fPto]
    rw [fPto_app k (by omega), List.getD_eq_getElem?_getD, List.getElem?_append_left (by omega), ← List.getD_eq_getElem?_getD]
theorem fP_put (L : List Pr) (m : Pr) : fP (L ++ [m]) = putF (fP L) (keyP m) (.int .i64 L.length) := by
  unfold fP
  rw [List.length_append, List.length_singleton]
  simp only [fPto]
  rw [fPto_app _ (Nat.le_refl _), List.getD_eq_getElem?_getD, List.getElem?_append_right (Nat.le_refl _), Nat.sub_self]
  rfl
theorem mem_getDP {l : List Pr} {k : Nat} (h : k < l.length) : l.getD k (0, 0) ∈ l := by
  rw [List.getD_eq_getElem?_getD, List.getElem?_eq_getElem h]; simp
theorem fPto_none {L : List Pr} {m : Pr} (hm : ¬ m ∈ L) : ∀ k, k ≤ L.length → fPto L k (keyP m) = none
  | 0, _ => rfl
  | k + 1, h => by
    simp only [fPto, putF]
    rw [if_neg ?_, fPto_none hm k (by omega)]
    intro e
    exact hm (keyP_inj e ▸ mem_getDP (by omega))
theorem fPto_some {L : List Pr} {m : Pr} (hn : L.Nodup) {i : Nat} (hi : i < L.length) (hm : L.getD i (0, 0) = m) : ∀ k, i < k → k ≤ L.length → fPto L k (keyP m) = some (.int .i64 i)
  | 0, h, _ => by omega
  | k + 1, h, hk => by
    simp only [fPto, putF]
    by_cases e : i = k
    · subst e
      rw [hm, if_pos rfl]
    · rw [if_neg ?_, fPto_some hn hi hm k (by omega) (by omega)]
      intro q
      have := keyP_inj q
      rw [← hm, List.getD_eq_getElem?_getD, List.getD_eq_getElem?_getD, List.getElem?_eq_getElem hi, List.getElem?_eq_getElem (by omega)] at this
      exact List.pairwise_iff_getElem.1 hn i k hi (by omega) (by omega) this
theorem idxP_spec {L : List Pr} {m : Pr} (h : m ∈ L) : idxP L m < L.length ∧ L.getD (idxP L m) (0, 0) = m := by
  have h1 := idx_lt h
  refine ⟨h1, ?_⟩
  unfold idxP at h1 ⊢
  rw [List.getD_eq_getElem?_getD, List.getElem?_eq_getElem h1, List.getElem_idxOf h1]
  rfl
theorem fP_some {L : List Pr} {m : Pr} (hn : L.Nodup) (h : m ∈ L) : fP L (keyP m) = some (.int .i64 (idxP L m)) := by
  obtain ⟨h1, h2⟩ := idxP_spec h
  exact fPto_some hn h1 h2 _ h1 (Nat.le_refl _)
theorem fP_none {L : List Pr} {m : Pr} (h : ¬ m ∈ L) : fP L (keyP m) = none := fPto_none h _ (Nat.le_refl _)
def WfP (p : Pr) : Prop := (Lit.int .i64 p.1).wf = true ∧ (Lit.int .i64 p.2).wf = true
theorem wfP_of {p : Pr} (h : 0 ≤ p.1 ∧ p.1 ≤ 1000000000 ∧ 0 ≤ p.2 ∧ p.2 ≤ 1000000000) : WfP p := by
  have h1 : IntKind.min .i64 = -9223372036854775808 := by decide
  have h2 : IntKind.max .i64 = 9223372036854775807 := by decide
  constructor
  · simp only [Lit.wf, Bool.and_eq_true, decide_eq_true_eq]; omega
  · simp only [Lit.wf, Bool.and_eq_true, decide_eq_true_eq]; omega
theorem onceA_len (l : List Int) (n : Int) : l.length ≤ (onceA l n).length ∧ (onceA l n).length ≤ l.length + 1 := by unfold onceA; split <;> simp
/-! ### The maker -/
def nilV : D := .sc (.slice none 0 0)
@[simp] theorem under_nilV {m : Nat} : Under m nilV ↔ True := ⟨fun _ => trivial, fun _ => trivial⟩
@[simp] theorem ren_nilV {ρ : Nat → Nat} : D.ren ρ nilV = nilV := rfl
@[simp] theorem pure_nilV : Pure nilV := trivial
def mbox (n t : Nat) (S : D) : List D := [.mp 0, .own 2 n 0 n, S, .own 3 t 0 t, nilV, nilV, nilV]
noncomputable def mheap (L : List Pr) (S : D) (T : List (List Int)) : List AObj :=
  [.mapo true (mapIs Try.prog 69 (fP L)), .row true (mbox L.length T.length S), .vec true L.length 2 (prows L), .vec true T.length 1 (growsI T)]
theorem under_mheap {L : List Pr} {S : D} (hS : Pure S) {T : List (List Int)} {m : Nat} (hm : 4 ≤ m) : ∀ o ∈ mheap L S T, o.under m := by
  have := under_pure (m := m) S hS
  intro o ho
  simp only [mheap, List.mem_cons, List.not_mem_nil, or_false] at ho
  rcases ho with rfl | rfl | rfl | rfl <;> simp [AObj.under, mbox, nilV, UnderL, Under, this] <;> omega
set_option maxRecDepth 100000 in
theorem laidOutM : laidOutB Try.prog = true := by kernel_rfl
theorem keyedP : Maps.Keyed Try.prog 69 := Maps.Keyed.of_law (deep_law_laid laidOutM (m := 2) (by omega) (of_decide_eq_true (by kernel_rfl)) (by kernel_rfl) (by rw [Try.underlying69]))
set_option maxRecDepth 100000 in
theorem keyOf_pair {p : Pr} (hp : WfP p) : ∃ l, keyOf Try.prog 69 (keyP p) = some l :=
  keyOf_two (of_decide_eq_true (by kernel_rfl)) (by kernel_rfl) Try.underlying69 rfl rfl rfl rfl (by decide) (by decide) Try.underlying3 (by kernel_rfl) (by kernel_rfl) _ _ hp.1 hp.2
def c97 : PC := .seq (.ops [⟨some 5,.box (.tmp 2),none,0⟩,
 ⟨some 6,.move (.const (.slice none 0 0)),none,0⟩,
 ⟨some 7,.move (.const (.bool false)),none,0⟩] false) (.seq (.ops [⟨some 11,.move (.tmp 0),none,0⟩,
 ⟨some 12,.nilchk (.tmp 11),none,1⟩,
 ⟨some 13,.faddr 0 (.tmp 12),none,3⟩,
 ⟨some 14,.load1 (.tmp 13),none,7⟩,
 ⟨some 15,.loadA 2 (.tmp 5),none,0⟩,
 ⟨some 16,.look 69 (.int .i64 0) (.tmp 14) (.tmp 15),none,31⟩,
 ⟨some 10,.move (.tmp 16),none,63⟩,
 ⟨some 17,.ext 0 (.tmp 10),none,127⟩,
 ⟨some 18,.ext 1 (.tmp 10),none,127⟩,
 ⟨some 8,.move (.tmp 17),none,255⟩,
 ⟨some 9,.move (.tmp 18),none,1023⟩] true) (.seq (.seq (.ops [⟨some 19,.move (.tmp 9),none,0⟩,
 ⟨some 20,.un .not (.tmp 19),none,0⟩] false) (.cond (.tmp 20) (.seq (.ops [⟨some 21,.move (.tmp 0),none,0⟩,
 ⟨some 22,.nilchk (.tmp 21),none,0⟩,
 ⟨some 23,.faddr 1 (.tmp 22),none,0⟩,
 ⟨some 24,.load1 (.tmp 23),none,0⟩,
 ⟨some 25,.len (.tmp 24),none,0⟩,
 ⟨some 8,.move (.tmp 25),none,0⟩] false) (.seq (.ops [⟨some 26,.move (.tmp 0),none,0⟩,
 ⟨some 27,.nilchk (.tmp 26),none,1⟩,
 ⟨some 28,.faddr 0 (.tmp 27),none,3⟩,
 ⟨some 29,.load1 (.tmp 28),none,7⟩,
 ⟨some 30,.loadA 2 (.tmp 5),none,0⟩,
 ⟨some 31,.move (.tmp 8),none,0⟩,
 ⟨none,.mput 69 (.tmp 29) (.tmp 30) (.tmp 31),none,63⟩] true) (.ops [⟨some 32,.move (.tmp 0),none,0⟩,
 ⟨some 33,.move (.tmp 0),none,0⟩,
 ⟨some 34,.nilchk (.tmp 33),none,2⟩,
 ⟨some 35,.faddr 1 (.tmp 34),none,6⟩,
 ⟨some 36,.load1 (.tmp 35),none,14⟩,
 ⟨some 37,.loadA 2 (.tmp 5),none,0⟩,
 ⟨some 38,.bslice 2 1 [(.tmp 37)],none,32⟩,
 ⟨some 39,.append 2 16 (.tmp 36) (.tmp 38),none,126⟩,
 ⟨some 40,.nilchk (.tmp 32),none,255⟩,
 ⟨some 41,.faddr 1 (.tmp 40),none,511⟩,
 ⟨none,.store 1 (.tmp 41) (.tmp 39),none,1023⟩] true))) (.skip))) (.seq (.seq (.ops [⟨some 42,.move (.tmp 1),none,0⟩,
 ⟨some 43,.move (.tmp 8),none,0⟩,
 ⟨some 44,.call 46 [(.tmp 42), (.tmp 43)],none,0⟩,
 ⟨some 45,.un .not (.tmp 44),none,0⟩] false) (.cond (.tmp 45) (.ops [⟨some 46,.move (.tmp 1),none,0⟩,
 ⟨some 47,.move (.tmp 8),none,0⟩,
 ⟨some 48,.bslice 1 1 [(.tmp 47)],none,0⟩,
 ⟨some 49,.append 1 8 (.tmp 46) (.tmp 48),none,0⟩,
 ⟨some 1,.move (.tmp 49),none,0⟩] false) (.skip))) (.seq (.ops [⟨some 50,.move (.tmp 1),none,0⟩,
 ⟨some 51,.move (.tmp 0),none,0⟩,
 ⟨some 52,.nilchk (.tmp 51),none,2⟩,
 ⟨some 53,.faddr 1 (.tmp 52),none,6⟩,
 ⟨some 54,.load1 (.tmp 53),none,14⟩,
 ⟨some 55,.len (.tmp 54),none,30⟩,
 ⟨some 56,.bin .leq (.tmp 55) (.const (.int .i64 2048)),none,62⟩,
 ⟨some 6,.move (.tmp 50),none,1⟩,
 ⟨some 7,.move (.tmp 56),none,255⟩] true) (.ret)))))
set_option maxRecDepth 100000 in
theorem c97_ok : FunOK Try.prog 97 57 [.tmp 6, .tmp 7] c97 := ⟨⟨Try.f97, Try.func97, rfl, by kernel_rfl, rfl, by kernel_rfl⟩⟩
set_option maxRecDepth 100000 in
theorem au_add (L : List Pr) (hnd : L.Nodup) (hL : L.length ≤ 1000000) (S : D) (hS : Pure S) (T : List (List Int)) (l : List Int) (hl : l.length ≤ 4000000000000) (p : Pr) (hp : WfP p) :
    ACall Try.prog 97 [.loc 1 0, .own 4 l.length 0 l.length, .agg (dpair p.1 p.2)] (mheap L S T ++ [.vec true l.length 1 (i64s l)])
      (.tup [.own 4 (onceA l (idxP (addP L p) p)).length 0 (onceA l (idxP (addP L p) p)).length, .sc (.bool (decide ((addP L p).length ≤ 2048)))])
      (mheap (addP L p) S T ++ [.vec true (onceA l (idxP (addP L p) p)).length 1 (i64s (onceA l (idxP (addP L p) p)))]) := by
  have hcon : ∀ n : Int, PCall Try.prog 46 [.lst 1 (List.drop 0 (List.take l.length (i64s l))), .sc (.int .i64 n)] (.sc (.bool (l.contains n))) := fun n => by
    rw [drop_take_all (by simp [i64s])]
    exact contains_int l (by omega) n
  have hkey := keyOf_pair hp
  refine acall_intro c97_ok (by simp) (by simp [mheap]) ?_ (by simp [Under, UnderL, mheap]) (by
    intro x hx
    rcases List.mem_append.1 hx with hx | hx
    · exact under_mheap hS (by simp [mheap]) x hx
    · rw [List.mem_singleton] at hx; subst hx; exact underLL_pure _ (pureLL_map _ (fun _ => by simp [PureL, Pure]) _))
  unfold mheap mbox dpair
  (apply rd_sound; focus (repeat' constructor))
  ((conv=>whnf);repeat(refine .intro rfl ?_;conv=>whnf))
  refine ⟨fP L, rfl, keyedP, hkey, fun v hv => ?_, fun hv => ?_⟩
  · by_cases h2 : p ∈ L
    · have hs := fP_some hnd h2
      have hv' : some v = some (Value.int .i64 (idxP L p)) := hv.symm.trans hs
      cases hv'
      have eA : addP L p = L := if_pos h2
      have eI : idxP (addP L p) p = idxP L p := by rw [eA]
      rw [eI, eA]
      ((conv=>whnf);repeat(refine .intro rfl ?_;conv=>whnf))
      have hc := hcon (idxP L p)
      have eO : onceA l (idxP L p) = if l.contains (idxP L p : Int) = true then l else l ++ [(idxP L p : Int)] := by
        unfold onceA
        by_cases q : (idxP L p : Int) ∈ l
        · rw [if_pos q, if_pos (List.contains_iff_mem.2 q)]
        · rw [if_neg q, if_neg fun z => q (List.contains_iff_mem.1 z)]
      generalize (idxP L p : Int) = n at *
      (refine .inr (.inl ⟨_, _, (by (repeat' (first | exact Deep.refl _ | exact Deep.none _ | exact deep_row _ | exact DeepL.nil | exact DeepLL.nil | refine Deep.agg _ _ ?_ | refine Deep.tup _ _ ?_ | refine Deep.own _ _ _ _ _ _ _ _ rfl ?_ | refine Deep.loc _ _ _ _ _ rfl ?_ | refine Deep.ifc _ _ _ ?_ | refine Deep.fn _ _ _ _ _ ?_ ?_ | refine DeepL.cons _ _ _ _ ?_ ?_ | refine DeepLL.cons _ _ _ _ ?_ ?_ | exact deepLL_refl _))), hc, rfl, ?_⟩); ((conv=>whnf);repeat(refine .intro rfl ?_;conv=>whnf)))
      cases r : l.contains n
      · rw [r, if_neg (by decide)] at eO
        rw [eO]
        ((conv=>whnf);repeat(refine .intro rfl ?_;conv=>whnf))
        refine ⟨(by unfold sliceAppend; simp only [ll]; omega), ?_⟩
        ((conv=>whnf);repeat(refine .intro rfl ?_;conv=>whnf))
        refine ⟨by simp; omega, ?_, by simp⟩
        rw [show (l ++ [n]).length = l.length + 1 by simp, ← i64s_snoc]
        rfl
      · rw [r, if_pos rfl] at eO
        rw [eO]
        ((conv=>whnf);repeat(refine .intro rfl ?_;conv=>whnf))
        exact ⟨by simp; omega, rfl, by simp⟩
    · exfalso
      have hv' : some v = none := hv.symm.trans (fP_none h2)
      cases hv'
  · have h2 : ¬ p ∈ L := fun h2 => by
      have hv' : (none : Option Value) = some (Value.int .i64 (idxP L p)) := hv.symm.trans (fP_some hnd h2)
      cases hv'
    have eA : addP L p = L ++ [p] := if_neg h2
    have eI : idxP (addP L p) p = L.length := by rw [idx_addP, if_neg h2]
    rw [eI, eA]
    ((conv=>whnf);repeat(refine .intro rfl ?_;conv=>whnf))
    refine ⟨fP L, rfl, keyedP, hkey, hv, ?_⟩
    ((conv=>whnf);repeat(refine .intro rfl ?_;conv=>whnf))
    refine ⟨(by unfold sliceAppend; simp only [ll]; omega), ?_⟩
    ((conv=>whnf);repeat(refine .intro rfl ?_;conv=>whnf))
    have hc := hcon L.length
    have eO : onceA l L.length = if l.contains (L.length : Int) = true then l else l ++ [(L.length : Int)] := by
      unfold onceA
      by_cases q : (L.length : Int) ∈ l
      · rw [if_pos q, if_pos (List.contains_iff_mem.2 q)]
      · rw [if_neg q, if_neg fun z => q (List.contains_iff_mem.1 z)]
    rw [show L.length - 0 = L.length from rfl]
    (refine .inr (.inl ⟨_, _, (by (repeat' (first | exact Deep.refl _ | exact Deep.none _ | exact deep_row _ | exact DeepL.nil | exact DeepLL.nil | refine Deep.agg _ _ ?_ | refine Deep.tup _ _ ?_ | refine Deep.own _ _ _ _ _ _ _ _ rfl ?_ | refine Deep.loc _ _ _ _ _ rfl ?_ | refine Deep.ifc _ _ _ ?_ | refine Deep.fn _ _ _ _ _ ?_ ?_ | refine DeepL.cons _ _ _ _ ?_ ?_ | refine DeepLL.cons _ _ _ _ ?_ ?_ | exact deepLL_refl _))), hc, rfl, ?_⟩); ((conv=>whnf);repeat(refine .intro rfl ?_;conv=>whnf)))
    cases r : l.contains (L.length : Int)
    · rw [r, if_neg (by decide)] at eO
      rw [eO]
      ((conv=>whnf);repeat(refine .intro rfl ?_;conv=>whnf))
      refine ⟨(by unfold sliceAppend; simp only [ll]; omega), ?_⟩
      ((conv=>whnf);repeat(refine .intro rfl ?_;conv=>whnf))
      refine ⟨by simp; omega, ?_, by simp⟩
      rw [fP_put, show (l ++ [(L.length : Int)]).length = l.length + 1 by simp, show (L ++ [p]).length = L.length + 1 by simp, ← i64s_snoc, ← prows_snocP]
      rfl
    · rw [r, if_pos rfl] at eO
      rw [eO]
      ((conv=>whnf);repeat(refine .intro rfl ?_;conv=>whnf))
      refine ⟨by simp; omega, ?_, by simp⟩
      rw [fP_put, show (L ++ [p]).length = L.length + 1 by simp, ← prows_snocP]
      rfl
end Go.Proofs.Ytfaekhadjlgbbaa
