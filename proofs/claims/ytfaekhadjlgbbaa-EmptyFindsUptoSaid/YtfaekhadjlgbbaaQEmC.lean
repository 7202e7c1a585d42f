/-
  Em9 Ema Emb Emc joined. No statement is proved here.
-/
import Derived.Test.YtfaekhadjlgbbaaQEmB
import Derived.Test.YtfaekhadjlgbbaaQWj
import Derived.Test.YtfaekhadjlgbbaaQOg
import Derived.Test.YtfaekhadjlgbbaaQFz
namespace Go.Proofs.Ytfaekhadjlgbbaa
/-! ### XEm9 -/
section
open Go.RowKit
set_option linter.unusedSimpArgs false
set_option linter.unusedVariables false
def codeE (m : Nat) (p : Pr) : Nat := p.1.toNat * m + p.2.toNat
def prE (m c : Nat) : Pr := (((c / m : Nat) : Int), ((c % m : Nat) : Int))
def rowC (W : WorldD) (A : AutoD) (c : Nat) : List Int := (nxE W A (prE A.next.length c)).map fun q => (codeE A.next.length q : Int)
section
variable {W : WorldD} {A : AutoD}
theorem code_lt {p : Pr} (h : GoodE W A p) : codeE A.next.length p < W.next.length * A.next.length := by
  obtain ⟨⟨a, b⟩, c, d⟩ := h
  have : (p.1.toNat + 1) * A.next.length ≤ W.next.length * A.next.length := Nat.mul_le_mul_right _ (by omega)
  rw [Nat.add_mul, Nat.one_mul] at this
  unfold codeE; omega
theorem code_div {p : Pr} (h : GoodE W A p) : codeE A.next.length p / A.next.length = p.1.toNat ∧ codeE A.next.length p % A.next.length = p.2.toNat := by
  obtain ⟨⟨a, b⟩, c, d⟩ := h
  unfold codeE
  constructor
  · rw [Nat.mul_comm, Nat.mul_add_div (by omega), Nat.div_eq_of_lt (by omega)]; rfl
  · rw [Nat.mul_comm, Nat.mul_add_mod, Nat.mod_eq_of_lt (by omega)]
theorem pr_code {p : Pr} (h : GoodE W A p) : prE A.next.length (codeE A.next.length p) = p := by
  obtain ⟨h1, h2⟩ := code_div h
  obtain ⟨⟨a, b⟩, c, d⟩ := h
  unfold prE
  rw [h1, h2]
  exact Prod.ext (by dsimp only; omega) (by dsimp only; omega)
theorem pr_good {c : Nat} (h : c < W.next.length * A.next.length) : GoodE W A (prE A.next.length c) ∧ codeE A.next.length (prE A.next.length c) = c := by
  have hm : 0 < A.next.length := by
    rcases Nat.eq_zero_or_pos A.next.length with e | e
    · rw [e, Nat.mul_zero] at h; omega
    · exact e
  have h1 : c / A.next.length < W.next.length := Nat.div_lt_of_lt_mul (by rw [Nat.mul_comm]; exact h)
  have h2 := Nat.mod_lt c hm
  unfold prE codeE GoodE
  dsimp only
  refine ⟨⟨⟨Int.natCast_nonneg _, Int.ofNat_lt.2 h1⟩, Int.natCast_nonneg _, Int.ofNat_lt.2 h2⟩, ?_⟩
  rw [Int.toNat_natCast, Int.toNat_natCast, Nat.mul_comm]
  exact Nat.div_add_mod c A.next.length
/-- What holds of the search: who is seen, what has been written, who waits; row p is at o. -/
structure ThI (W : WorldD) (A : AutoD) (S : Nat → Bool) (R : List (List Int)) (Tq : List Int) (p : Nat) (o : List Int) : Prop where
  len : R.length = W.next.length * A.next.length
  rng : ∀ c, S c = true → c < W.next.length * A.next.length
  tq : ∀ x ∈ Tq, 0 ≤ x ∧ S x.toNat = true
  nd : Tq.Nodup
  cur : p < W.next.length * A.next.length → R.getD p [] = o ∧ S p = true ∧ ¬ (p : Int) ∈ Tq
  dn : ∀ c, S c = true → ¬ (c : Int) ∈ Tq → c ≠ p → R.getD c [] = rowC W A c ∧ ∀ y ∈ rowC W A c, S y.toNat = true
  un : ∀ c, c ≠ p → (S c = false ∨ (c : Int) ∈ Tq) → R.getD c [] = []
variable {S : Nat → Bool} {R : List (List Int)} {Tq : List Int} {p : Nat} {o : List Int}
theorem ThI.begin : ThI W A (fun _ => false) (List.replicate (W.next.length * A.next.length) []) [] (W.next.length * A.next.length) [] where
  len := by simp
  rng c h := by cases h
  tq x h := by cases h
  nd := .nil
  cur h := by omega
  dn c h := by cases h
  un c _ _ := by
    rw [List.getD_eq_getElem?_getD, List.getElem?_replicate]
    split <;> rfl
theorem markE_iff {s : Nat → Bool} {c v : Nat} : mark s c v = true ↔ s v = true ∨ v = c := by
  unfold mark
  by_cases e : v = c
  · simp [e]
  · simp [e]
theorem ThI.add (h : ThI W A S R Tq p o) {c : Nat} (hc : S c = false) (hl : c < W.next.length * A.next.length) : ThI W A (mark S c) R (Tq ++ [(c : Int)]) p o where
  len := h.len
  rng v hv := (markE_iff.1 hv).elim (h.rng v) (fun e => e ▸ hl)
  tq x hx := by
    rcases List.mem_append.1 hx with q | q
    · exact ⟨(h.tq x q).1, markE_iff.2 (.inl (h.tq x q).2)⟩
    · rw [List.mem_singleton] at q; subst q
      exact ⟨by omega, markE_iff.2 (.inr (by omega))⟩
  nd := by
    rw [List.nodup_append]
    refine ⟨h.nd, by simp, fun a ha b hb => ?_⟩
    rw [List.mem_singleton] at hb; subst hb
    intro e; subst e
    have := (h.tq _ ha).2
    rw [Int.toNat_natCast, hc] at this; cases this
  cur hp := by
    obtain ⟨a, b, d⟩ := h.cur hp
    refine ⟨a, markE_iff.2 (.inl b), fun q => ?_⟩
    rcases List.mem_append.1 q with q | q
    · exact d q
    · rw [List.mem_singleton] at q
      have : p = c := by omega
      subst this; rw [hc] at b; cases b
  dn v hv hn hp := by
    rcases markE_iff.1 hv with q | q
    · obtain ⟨a, b⟩ := h.dn v q (fun z => hn (List.mem_append.2 (.inl z))) hp
      exact ⟨a, fun y hy => markE_iff.2 (.inl (b y hy))⟩
    · subst q; exact absurd (List.mem_append.2 (.inr (by simp))) hn
  un v hp hv := by
    by_cases e : v = c
    · subst e; exact h.un v hp (.inl hc)
    · refine h.un v hp ?_
      rcases hv with q | q
      · left
        cases z : S v
        · rfl
        · rw [markE_iff.2 (.inl z)] at q; cases q
      · rcases List.mem_append.1 q with q | q
        · exact .inr q
        · rw [List.mem_singleton] at q; omega
theorem ThI.pop {x : Int} (h : ThI W A S R (x :: Tq) (W.next.length * A.next.length) []) : ThI W A S R Tq x.toNat [] ∧ 0 ≤ x ∧ x.toNat < W.next.length * A.next.length := by
  have hx := h.tq x (by simp)
  have hl := h.rng _ hx.2
  have hnd := List.nodup_cons.1 h.nd
  refine ⟨⟨h.len, h.rng, fun y hy => h.tq y (by simp [hy]), hnd.2, fun _ => ⟨h.un _ (by omega) (.inr (by rw [show ((x.toNat : Nat) : Int) = x by omega]; simp)), hx.2, by rw [show ((x.toNat : Nat) : Int) = x by omega]; exact hnd.1⟩, fun c hc hn hp => ?_, fun c hp hc => ?_⟩, hx.1, hl⟩
  · refine h.dn c hc (fun q => ?_) (by have := h.rng c hc; omega)
    rcases List.mem_cons.1 q with q | q
    · omega
    · exact hn q
  · by_cases e : c = W.next.length * A.next.length
    · rw [List.getD_eq_getElem?_getD, List.getElem?_eq_none (by rw [h.len]; omega)]; rfl
    · exact h.un c e (hc.imp_right fun q => by simp [q])
theorem ThI.put (h : ThI W A S R Tq p o) (hp : p < W.next.length * A.next.length) (o' : List Int) : ThI W A S (R.set p o') Tq p o' := by
  have hg : ∀ c, c ≠ p → (R.set p o').getD c [] = R.getD c [] := fun c e => by rw [ogD_set (by rw [h.len]; exact hp), if_neg e]
  refine ⟨by rw [List.length_set]; exact h.len, h.rng, h.tq, h.nd, fun _ => ⟨by rw [ogD_set (by rw [h.len]; exact hp), if_pos rfl], (h.cur hp).2⟩, fun c hc hn e => ?_, fun c e hc => ?_⟩
  · rw [hg c e]; exact h.dn c hc hn e
  · rw [hg c e]; exact h.un c e hc
theorem ThI.fin (h : ThI W A S R Tq p (rowC W A p)) (hp : p < W.next.length * A.next.length) (hs : ∀ y ∈ rowC W A p, S y.toNat = true) : ThI W A S R Tq (W.next.length * A.next.length) [] where
  len := h.len
  rng := h.rng
  tq := h.tq
  nd := h.nd
  cur q := by omega
  dn c hc hn _ := by
    by_cases e : c = p
    · subst e; exact ⟨(h.cur hp).1, hs⟩
    · exact h.dn c hc hn e
  un c e hc := by
    by_cases e2 : c = p
    · subst e2
      obtain ⟨_, a, b⟩ := h.cur hp
      rcases hc with q | q
      · rw [a] at q; cases q
      · exact absurd q b
    · exact h.un c e2 hc
/-- At the end. -/
theorem ThI.rows {start : List Pr} {L : List Pr} {G : List (List Int)} (hN : NumF start (nxE W A) L G) (hg : ∀ q ∈ L, GoodE W A q) (hst : ∀ q ∈ start, S (codeE A.next.length q) = true) (h : ThI W A S R [] (W.next.length * A.next.length) []) :
    ∀ q ∈ L, R.getD (codeE A.next.length q) [] = (nxE W A q).map fun z => (codeE A.next.length z : Int) := by
  have key : ∀ j, j < L.length → S (codeE A.next.length (L.getD j (0, 0))) = true := by
    intro j
    induction j using Nat.strongRecOn with
    | ind j ih =>
      intro hj
      rcases hN.fr j hj with k | ⟨i, k1, k2⟩
      · exact hst _ k
      · have h1 := ih i k1 (by omega)
        have hgi := hg _ (getD_memP (show i < L.length by omega))
        have h2 := (h.dn _ h1 (by simp) (by have := code_lt hgi; omega)).2 (codeE A.next.length (L.getD j (0, 0)) : Int) (by
          unfold rowC; rw [pr_code hgi]; exact List.mem_map.2 ⟨_, k2, rfl⟩)
        simpa using h2
  intro q hq
  obtain ⟨i, hi, rfl⟩ := List.mem_iff_getElem.1 hq
  have := key i hi
  rw [List.getD_eq_getElem?_getD, List.getElem?_eq_getElem hi] at this
  have hgi := hg _ hq
  have h2 := (h.dn _ this (by simp) (by have := code_lt hgi; simp only [Option.getD_some]; omega)).1
  simp only [Option.getD_some] at h2
  rw [h2]
  unfold rowC
  rw [pr_code hgi]
theorem rowC_in (hb : BigW W A) (c : Nat) : ∀ y ∈ rowC W A c, 0 ≤ y ∧ y < ((W.next.length * A.next.length : Nat) : Int) := fun y hy => by
  obtain ⟨q, hq, rfl⟩ := List.mem_map.1 hy
  have := code_lt ((hb.next _).1 q hq)
  omega
theorem ThI.inR (hb : BigW W A) (h : ThI W A S R [] (W.next.length * A.next.length) []) : (∀ l ∈ R, inB l R.length = true) ∧ FitsG R ∨ 17592186043904 < R.length := by
  rcases Nat.lt_or_ge 17592186043904 R.length with q | q
  · exact .inr q
  left
  have hrow : ∀ c, R.getD c [] = rowC W A c ∨ R.getD c [] = [] := fun c => by
    by_cases e : c = W.next.length * A.next.length
    · right; rw [List.getD_eq_getElem?_getD, List.getElem?_eq_none (by rw [h.len]; omega)]; rfl
    · cases z : S c
      · exact .inr (h.un c e (.inl z))
      · exact .inl (h.dn c z (by simp) e).1
  have hmem : ∀ l ∈ R, ∃ c, R.getD c [] = l := fun l hl => by
    obtain ⟨i, hi, rfl⟩ := List.mem_iff_getElem.1 hl
    exact ⟨i, by rw [List.getD_eq_getElem?_getD, List.getElem?_eq_getElem hi]; rfl⟩
  refine ⟨fun l hl => ?_, q, fun l hl => ?_⟩
  · obtain ⟨c, rfl⟩ := hmem l hl
    rcases hrow c with e | e
    · rw [e]; exact inB_of fun y hy => by rw [h.len]; exact rowC_in hb c y hy
    · rw [e]; rfl
  · obtain ⟨c, rfl⟩ := hmem l hl
    rcases hrow c with e | e
    · rw [e]; unfold rowC; rw [List.length_map]; have := (hb.next (prE A.next.length c)).2; omega
    · rw [e]; simp
end
end

/-! ### XEma -/
section
open Go.RowKit
set_option linter.unusedSimpArgs false
set_option linter.unusedVariables false
abbrev TQ := (Nat → Bool) × List Int × Nat × Nat × Nat
def tAdd (fit : Bool) (c : Nat) (q : TQ) : TQ := if (fit && !(q.1 c)) = true then (mark q.1 c, (q.2.1.take q.2.2.2.1).drop q.2.2.1 ++ [(c : Int)], 0, q.2.2.2.1 - q.2.2.1 + 1, q.2.2.2.2 + 1) else q
def thHeap (W : WorldD) (A : AutoD) (q : TQ) : List AObj :=
  [.row true A.cells, .row true W.cells, .row true [.own 4 0 0 (W.next.length * A.next.length)], .row true [.sc (.int .i64 A.next.length)], .vec true 0 1 (rbl (W.next.length * A.next.length) q.1), .row true [.own 6 q.2.2.2.2 q.2.2.1 q.2.2.2.1], .vec true q.2.2.2.2 1 (i64s q.2.1)]
theorem under_thHeap {W : WorldD} {A : AutoD} {q : TQ} : ∀ o ∈ thHeap W A q, o.under 7 := by
  intro o ho
  simp only [thHeap, List.mem_cons, List.not_mem_nil, or_false] at ho
  rcases ho with rfl | rfl | rfl | rfl | rfl | rfl | rfl
  · exact underL_pure _ (pure_aucells A)
  · exact underL_pure _ (pure_wocells W)
  · simp [AObj.under, UnderL, Under]
  · simp [AObj.under, UnderL, Under]
  · exact underLL_pure _ (pure_rbl _ _)
  · simp [AObj.under, UnderL, Under]
  · exact underLL_pure _ (pureLL_map _ (fun _ => by simp [PureL, Pure]) _)
def c63 : PC := .seq (.ops [⟨some 9,.loadA 5 (.tmp 2),none,0⟩,
 ⟨some 10,.move (.tmp 1),none,0⟩,
 ⟨some 11,.faddr 2 (.tmp 3),none,0⟩,
 ⟨some 12,.load1 (.tmp 11),none,4⟩,
 ⟨some 13,.move (.tmp 0),none,0⟩,
 ⟨some 14,.iaddr 1 (.tmp 12) (.tmp 13),none,28⟩,
 ⟨some 15,.load1 (.tmp 14),none,60⟩,
 ⟨some 16,.call 33 [(.tmp 9), (.tmp 10), (.tmp 15)],none,127⟩,
 ⟨some 17,.move (.tmp 16),none,255⟩,
 ⟨some 18,.load1 (.tmp 4),some (17,true),511⟩,
 ⟨some 19,.move (.tmp 0),some (17,true),511⟩,
 ⟨some 20,.load1 (.tmp 5),some (17,true),511⟩,
 ⟨some 21,.bin .mul (.tmp 19) (.tmp 20),some (17,true),3583⟩,
 ⟨some 22,.move (.tmp 1),some (17,true),511⟩,
 ⟨some 23,.bin .add (.tmp 21) (.tmp 22),some (17,true),15871⟩,
 ⟨some 24,.iaddr 1 (.tmp 18) (.tmp 23),some (17,true),32767⟩,
 ⟨some 25,.load1 (.tmp 24),some (17,true),65535⟩,
 ⟨some 26,.un .not (.tmp 25),some (17,true),131071⟩,
 ⟨some 27,.pick (.tmp 17) (.tmp 26) (.const (.bool false)),none,262143⟩] true) (.cond (.tmp 27) (.seq (.ops [⟨some 28,.load1 (.tmp 4),none,0⟩,
 ⟨some 29,.move (.tmp 0),none,0⟩,
 ⟨some 30,.load1 (.tmp 5),none,0⟩,
 ⟨some 31,.bin .mul (.tmp 29) (.tmp 30),none,0⟩,
 ⟨some 32,.move (.tmp 1),none,0⟩,
 ⟨some 33,.bin .add (.tmp 31) (.tmp 32),none,0⟩,
 ⟨some 34,.iaddr 1 (.tmp 28) (.tmp 33),none,0⟩,
 ⟨none,.store 1 (.tmp 34) (.const (.bool true)),none,0⟩] false) (.ops [⟨some 35,.load1 (.tmp 6),none,0⟩,
 ⟨some 36,.move (.tmp 0),none,0⟩,
 ⟨some 37,.load1 (.tmp 5),none,0⟩,
 ⟨some 38,.bin .mul (.tmp 36) (.tmp 37),none,0⟩,
 ⟨some 39,.move (.tmp 1),none,0⟩,
 ⟨some 40,.bin .add (.tmp 38) (.tmp 39),none,0⟩,
 ⟨some 41,.bslice 1 1 [(.tmp 40)],none,0⟩,
 ⟨some 42,.append 1 8 (.tmp 35) (.tmp 41),none,0⟩,
 ⟨none,.store 1 (.tmp 6) (.tmp 42),none,0⟩] false)) (.skip))
set_option maxRecDepth 100000 in
theorem c63_ok : FunOK Try.prog 63 43 [] c63 := ⟨⟨Try.f63, Try.func63, rfl, by kernel_rfl, rfl, by kernel_rfl⟩⟩
set_option maxRecDepth 100000 in
theorem em_tadd {W : WorldD} {A : AutoD} (hWA : TwoW W A) (hNM : W.next.length * A.next.length ≤ 4000) (hM : Lett A.must) (x y : Int) (hg : GoodE W A (x, y)) (q : TQ) (h1 : q.2.2.1 ≤ q.2.2.2.1) (h2 : q.2.2.2.1 ≤ q.2.1.length) (h3 : q.2.1.length ≤ 1000000000) :
    ACall Try.prog 63 [.sc (.int .i64 x), .sc (.int .i64 y), .loc 0 0, .loc 1 0, .loc 2 0, .loc 3 0, .loc 5 0] (thHeap W A q) (.tup []) (thHeap W A (tAdd (fitE W A (x, y)) (codeE A.next.length (x, y)) q)) := by
  generalize hQ : tAdd (fitE W A (x, y)) (codeE A.next.length (x, y)) q = Q
  obtain ⟨S, Z, lo, hi, ver⟩ := q
  dsimp only at h1 h2 h3
  have hcl := code_lt hg
  obtain ⟨⟨g1, g2⟩, g3, g4⟩ := hg
  dsimp only at g1 g2 g3 g4
  obtain ⟨hlab, _⟩ := chk_world W hWA.cw
  obtain ⟨hm, hn, _⟩ := chk_auto A hWA.ca
  have hL := ref_Letter A hm hn hM y.toNat (by omega) (W.label.getD x.toNat 0)
  rw [show ((y.toNat : Nat) : Int) = y by omega] at hL
  refine acall_intro c63_ok (by simp) (by simp [thHeap]) ?_ (by simp [Under, UnderL]) under_thHeap
  have ef : fitE W A (x, y) = fitsV A y.toNat (W.label.getD x.toNat 0) := rfl
  rw [← ef] at hL
  have ec : codeE A.next.length (x, y) = x.toNat * A.next.length + y.toNat := rfl
  have emul : x * (A.next.length : Int) = ((x.toNat * A.next.length : Nat) : Int) := by rw [Int.natCast_mul, Int.toNat_of_nonneg g1]
  generalize codeE A.next.length (x, y) = c at *
  generalize fitE W A (x, y) = fit at *
  generalize hk : x.toNat * A.next.length = k at *
  unfold thHeap WorldD.cells AutoD.cells
  unfold dauto AutoD.cells at hL
  generalize W.next.length * A.next.length = NM at *
  unfold tAdd at hQ
  dsimp only at hQ ⊢
  (apply rd_sound; focus (repeat' constructor))
  ((conv=>whnf);repeat(refine .intro rfl ?_;conv=>whnf))
  refine ⟨by omega, _, u64a_at (l := W.label) (k := x.toNat) (by omega) (by omega), ?_⟩
  ((conv=>whnf);repeat(refine .intro rfl ?_;conv=>whnf))
  (refine .inl ⟨_, hL, ?_⟩; ((conv=>whnf);repeat(refine .intro rfl ?_;conv=>whnf)))
  cases fit
  · rw [if_neg (by simp)] at hQ
    subst hQ
    ((conv=>whnf);repeat(refine .intro rfl ?_;conv=>whnf))
    simp
  ((conv=>whnf);repeat(refine .intro rfl ?_;conv=>whnf))
  rw [emul]
  (refine .inl ⟨by (unfold InR; rw [IntKind.wrap_i64]; omega), ?_⟩; ((conv=>whnf);repeat(refine .intro rfl ?_;conv=>whnf)))
  (refine .inl ⟨by (unfold InR; rw [IntKind.wrap_i64]; omega), ?_⟩; ((conv=>whnf);repeat(refine .intro rfl ?_;conv=>whnf)))
  (refine ⟨by omega, (by first | omega | (simp; done) | (simp; omega) | (simp only [ll]; omega)), ?_⟩; ((conv=>whnf);repeat(refine .intro rfl ?_;conv=>whnf)))
  refine ⟨_, rbl_atN c (by omega) (by omega), ?_⟩
  ((conv=>whnf);repeat(refine .intro rfl ?_;conv=>whnf))
  cases r : S c
  · rw [if_pos (by rw [r]; rfl)] at hQ
    subst hQ
    ((conv=>whnf);repeat(refine .intro rfl ?_;conv=>whnf))
    rw [emul]
    (refine .inl ⟨by (unfold InR; rw [IntKind.wrap_i64]; omega), ?_⟩; ((conv=>whnf);repeat(refine .intro rfl ?_;conv=>whnf)))
    (refine .inl ⟨by (unfold InR; rw [IntKind.wrap_i64]; omega), ?_⟩; ((conv=>whnf);repeat(refine .intro rfl ?_;conv=>whnf)))
    (refine ⟨by omega, (by first | omega | (simp; done) | (simp; omega) | (simp only [ll]; omega)), ?_⟩; ((conv=>whnf);repeat(refine .intro rfl ?_;conv=>whnf)))
    refine ⟨_, rbl_atN c (by omega) (by omega), ?_⟩
    ((conv=>whnf);repeat(refine .intro rfl ?_;conv=>whnf))
    (refine .inl ⟨by (unfold InR; rw [IntKind.wrap_i64]; omega), ?_⟩; ((conv=>whnf);repeat(refine .intro rfl ?_;conv=>whnf)))
    (refine .inl ⟨by (unfold InR; rw [IntKind.wrap_i64]; omega), ?_⟩; ((conv=>whnf);repeat(refine .intro rfl ?_;conv=>whnf)))
    refine ⟨(by unfold sliceAppend; simp only [ll]; omega), ?_⟩
    ((conv=>whnf);repeat(refine .intro rfl ?_;conv=>whnf))
    refine ⟨?_, by simp⟩
    rw [show x * (A.next.length : Int) + y = (c : Int) by rw [emul]; omega, show 0 + ((k : Int) + y).toNat = c by omega, rbl_mark (v := c) rfl, ← i64s_queueW (Z := Z) (lo := lo) (hi := hi) (k := (c : Int))]
    rfl
  · rw [if_neg (by rw [r]; decide)] at hQ
    subst hQ
    ((conv=>whnf);repeat(refine .intro rfl ?_;conv=>whnf))
    simp
def c65 : PC := .seq (.ops [⟨some 3,.move (.const (.int .i64 0)),none,0⟩] false) (.seq (.ops [⟨some 4,.move (.tmp 0),none,0⟩,
 ⟨some 5,.load1 (.tmp 1),none,0⟩,
 ⟨some 6,.bin .quo (.tmp 4) (.tmp 5),none,0⟩,
 ⟨some 3,.move (.tmp 6),none,0⟩] false) (.ret))
set_option maxRecDepth 100000 in
theorem c65_ok : FunOK Try.prog 65 7 [.tmp 3] c65 := ⟨⟨Try.f65, Try.func65, rfl, by kernel_rfl, rfl, by kernel_rfl⟩⟩
def c66 : PC := .seq (.ops [⟨some 3,.move (.const (.int .i64 0)),none,0⟩] false) (.seq (.ops [⟨some 4,.move (.tmp 0),none,0⟩,
 ⟨some 5,.load1 (.tmp 1),none,0⟩,
 ⟨some 6,.bin .rem (.tmp 4) (.tmp 5),none,0⟩,
 ⟨some 3,.move (.tmp 6),none,0⟩] false) (.ret))
set_option maxRecDepth 100000 in
theorem c66_ok : FunOK Try.prog 66 7 [.tmp 3] c66 := ⟨⟨Try.f66, Try.func66, rfl, by kernel_rfl, rfl, by kernel_rfl⟩⟩
theorem em_quo (m : Nat) (hm : 0 < m) (c : Nat) (hc : c ≤ 1000000) : PCall Try.prog 65 [.sc (.int .i64 c), .ipt [.sc (.int .i64 m)]] (.sc (.int .i64 ((c / m : Nat) : Int))) := by
  refine pcall_intro c65_ok (by simp) (by simp [PureL, Pure]) ?_ (by simp [Pure])
  (apply rd_sound; focus (repeat' constructor))
  ((conv=>whnf);repeat(refine .intro rfl ?_;conv=>whnf))
  refine ⟨by omega, ?_⟩
  rw [← Int.ofNat_tdiv]
  have := Nat.div_le_self c m
  generalize c / m = k at *
  (refine .inl ⟨by (unfold InR; rw [IntKind.wrap_i64]; omega), ?_⟩; ((conv=>whnf);repeat(refine .intro rfl ?_;conv=>whnf)))
  exact .refl _
theorem em_rem (m : Nat) (hm : 0 < m) (c : Nat) (hc : c ≤ 1000000) : PCall Try.prog 66 [.sc (.int .i64 c), .ipt [.sc (.int .i64 m)]] (.sc (.int .i64 ((c % m : Nat) : Int))) := by
  refine pcall_intro c66_ok (by simp) (by simp [PureL, Pure]) ?_ (by simp [Pure])
  (apply rd_sound; focus (repeat' constructor))
  ((conv=>whnf);repeat(refine .intro rfl ?_;conv=>whnf))
  refine ⟨by omega, ?_⟩
  rw [← Int.ofNat_tmod]
  ((conv=>whnf);repeat(refine .intro rfl ?_;conv=>whnf))
  exact .refl _
def c64_1 : PC := .seq (.seq (.ops [⟨some 19,.move (.tmp 11),none,0⟩,
 ⟨some 20,.load1 (.tmp 3),none,0⟩,
 ⟨some 21,.load1 (.tmp 4),none,0⟩,
 ⟨some 22,.bin .mul (.tmp 20) (.tmp 21),none,0⟩,
 ⟨some 23,.bin .lss (.tmp 19) (.tmp 22),none,0⟩] false) (.cond (.tmp 23) (.skip) (.exit 0))) (.seq (.block 1 (.ops [⟨some 26,.move (.tmp 10),none,0⟩,
 ⟨some 27,.move (.tmp 11),none,0⟩,
 ⟨some 28,.move (.tmp 9),none,0⟩,
 ⟨some 29,.move (.tmp 2),none,0⟩,
 ⟨some 30,.move (.tmp 11),none,0⟩,
 ⟨some 31,.callv (.tmp 29) [(.tmp 30)],none,0⟩,
 ⟨some 32,.iaddr 1 (.tmp 28) (.tmp 31),none,0⟩,
 ⟨some 33,.load1 (.tmp 32),none,0⟩,
 ⟨some 34,.iaddr 1 (.tmp 26) (.tmp 27),none,0⟩,
 ⟨none,.store 1 (.tmp 34) (.tmp 33),none,0⟩] false)) (.ops [⟨some 24,.move (.tmp 11),none,0⟩,
 ⟨some 25,.bin .add (.tmp 24) (.const (.int .i64 1)),none,0⟩,
 ⟨some 11,.move (.tmp 25),none,0⟩] false))
def c64 : PC := .seq (.ops [⟨some 12,.move (.tmp 0),none,0⟩,
 ⟨some 13,.move (.tmp 1),none,0⟩,
 ⟨some 14,.call 35 [(.tmp 12), (.tmp 13)],none,0⟩,
 ⟨some 9,.move (.tmp 14),none,0⟩] false) (.seq (.ops [⟨some 15,.load1 (.tmp 3),none,0⟩,
 ⟨some 16,.load1 (.tmp 4),none,0⟩,
 ⟨some 17,.bin .mul (.tmp 15) (.tmp 16),none,0⟩,
 ⟨some 18,.mslice 1 1 [(.bool false)] (.tmp 17) (.tmp 17),none,0⟩,
 ⟨some 10,.move (.tmp 18),none,0⟩] false) (.seq (.seq (.ops [⟨some 11,.move (.const (.int .i64 0)),none,0⟩] false) (.block 0 (.loop c64_1))) (.ops [⟨some 35,.load1 (.tmp 5),none,0⟩,
 ⟨some 36,.move (.tmp 10),none,0⟩,
 ⟨some 37,.bslice 1 1 [(.tmp 36)],none,0⟩,
 ⟨some 38,.append 1 24 (.tmp 35) (.tmp 37),none,0⟩,
 ⟨none,.store 1 (.tmp 5) (.tmp 38),none,0⟩] false)))
set_option maxRecDepth 100000 in
theorem c64_ok : FunOK Try.prog 64 39 [] c64 := ⟨⟨Try.f64, Try.func64, rfl, by kernel_rfl, rfl, by kernel_rfl⟩⟩
set_option maxRecDepth 100000 in
theorem em_both (NM n m : Nat) (hNM : NM ≤ 4000) (hnm : n * m = NM) (g : FuncId) (sel : Nat → Nat) (size : Nat) (hsz : size ≤ 2048) (hsel : ∀ c, c < NM → PCall Try.prog g [.sc (.int .i64 c), .ipt [.sc (.int .i64 m)]] (.sc (.int .i64 (sel c)))) (hin : ∀ c, c < NM → sel c < size)
    (l : List Int) (hl : l.length ≤ 17592186043904) (hli : inB l size = true) (F : List (Nat → Bool)) (hF : F.length ≤ 1000) :
    ACall Try.prog 64 [dints l, .sc (.int .i64 size), .fn (.func g) [] [.loc 1 0], .loc 0 0, .loc 1 0, .loc 2 0] [.row true [.sc (.int .i64 n)], .row true [.sc (.int .i64 m)], .row true [.own 3 F.length 0 F.length], .vec true F.length 1 (brows NM F)]
      (.tup []) [.row true [.sc (.int .i64 n)], .row true [.sc (.int .i64 m)], .row true [.own 3 (F.length + 1) 0 (F.length + 1)], .vec true (F.length + 1) 1 (brows NM (F ++ [fun c => setB l (sel c)]))] := by
  have hMk := ref_Marked l size (by omega) hl hli
  have emul : (n : Int) * (m : Int) = (NM : Int) := by rw [← hnm]; rfl
  refine acall_introD c64_ok (by simp) (by simp) ?_ (by simp [Under, UnderL])
  (apply rd_sound; focus (repeat' constructor))
  ((conv=>whnf);repeat(refine .intro rfl ?_;conv=>whnf))
  (refine .inl ⟨_, hMk, ?_⟩; ((conv=>whnf);repeat(refine .intro rfl ?_;conv=>whnf)))
  rw [emul]
  (refine .inl ⟨by (unfold InR; rw [IntKind.wrap_i64]; omega), ?_⟩; ((conv=>whnf);repeat(refine .intro rfl ?_;conv=>whnf)))
  refine ⟨by omega, by omega, by omega, ?_⟩
  rw [Int.toNat_natCast, show List.map D.sc [Value.bool false] = [D.sc (.bool false)] from rfl, rbl_rep]
  ((conv=>whnf);repeat(refine .intro rfl ?_;conv=>whnf))
  refine pwp_for [2, 3, 4, 5, 9, 10] (fun k : Nat => [(11, .sc (.int .i64 k))]) (fun k => [(4, .vec true 0 1 (rbl NM fun v => decide (v < k) && setB l (sel v)))]) (fun k => k ≤ NM) (fun k => NM - k) 0 ?_
  ((conv=>whnf);repeat(refine .intro rfl ?_;conv=>whnf))
  refine ⟨by omega, by (repeat' (first | exact trivial | refine And.intro rfl ?_)), by rw [show (fun v => decide (v < 0) && setB l (sel v)) = fun _ => false from funext fun v => by simp]; rfl, ?_⟩
  rintro k hk
  ((conv=>whnf);repeat(refine .intro rfl ?_;conv=>whnf))
  (apply rd_sound; focus (repeat' constructor))
  ((conv=>whnf);repeat(refine .intro rfl ?_;conv=>whnf))
  rw [emul]
  (refine .inl ⟨by (unfold InR; rw [IntKind.wrap_i64]; omega), ?_⟩; ((conv=>whnf);repeat(refine .intro rfl ?_;conv=>whnf)))
  (refine ifK_split (fun q0 => ?_) (fun q0 => ?_) <;> (rw [q0]; ((conv=>whnf);repeat(refine .intro rfl ?_;conv=>whnf))))
  · have q0 : k < NM := by ((try simp only[oo,reduceCtorEq]at*)<;>omega)
    have hse := hsel k q0
    have hii := hin k q0
    (refine .inr (.inl ⟨_, _, (by (repeat' (first | exact Deep.refl _ | exact Deep.none _ | exact deep_row _ | exact DeepL.nil | exact DeepLL.nil | refine Deep.agg _ _ ?_ | refine Deep.tup _ _ ?_ | refine Deep.own _ _ _ _ _ _ _ _ rfl ?_ | refine Deep.loc _ _ _ _ _ rfl ?_ | refine Deep.ifc _ _ _ ?_ | refine Deep.fn _ _ _ _ _ ?_ ?_ | refine DeepL.cons _ _ _ _ ?_ ?_ | refine DeepLL.cons _ _ _ _ ?_ ?_ | exact deepLL_refl _))), hse, rfl, ?_⟩); ((conv=>whnf);repeat(refine .intro rfl ?_;conv=>whnf)))
    generalize hx : sel k = x at *
    refine ⟨by omega, _, rbl_atN x (by omega) (by omega), ?_⟩
    ((conv=>whnf);repeat(refine .intro rfl ?_;conv=>whnf))
    (refine ⟨by omega, (by first | omega | (simp; done) | (simp; omega) | (simp only [ll]; omega)), ?_⟩; ((conv=>whnf);repeat(refine .intro rfl ?_;conv=>whnf)))
    refine ⟨_, rbl_atN k (by omega) q0, ?_⟩
    ((conv=>whnf);repeat(refine .intro rfl ?_;conv=>whnf))
    (refine .inl ⟨by (unfold InR; rw [IntKind.wrap_i64]; omega), ?_⟩; ((conv=>whnf);repeat(refine .intro rfl ?_;conv=>whnf)))
    refine ⟨k + 1, by omega, by dsimp only; omega, ?_⟩
    rw [rbl_put (i := k) (f' := fun v => decide (v < k + 1) && setB l (sel v)) (by omega) fun v _ => by
      by_cases e : v = k
      · subst e; rw [if_pos rfl, hx]; simp
      · rw [if_neg e]
        by_cases e2 : v < k
        · rw [decide_eq_true e2, decide_eq_true (show v < k + 1 by omega)]
        · rw [decide_eq_false e2, decide_eq_false (show ¬ v < k + 1 by omega)]]
    (refine leB_close 5 (by simp) rfl ?_ ?_ <;> (repeat' (first | exact trivial | exact rfl | exact DeepM.refl _ | exact DeepML.refl _ | exact DeepMLL.refl _ | refine And.intro ?_ ?_ | (simp [Under, UnderL, UnderLL, -List.map_take, -List.map_drop]; done))))
  have q0 : k = NM := by have : ¬ k < NM := by ((try simp only[oo,reduceCtorEq]at*)<;>omega)
                         omega
  subst q0
  refine ⟨(by unfold sliceAppend; simp only [ll]; omega), ?_⟩
  ((conv=>whnf);repeat(refine .intro rfl ?_;conv=>whnf))
  refine ⟨.refl _, ⟨rfl, .refl _, by simp [UnderL, Under]⟩, ⟨rfl, .refl _, by simp [UnderL, Under]⟩, ⟨rfl, .refl _, by simp [UnderL, Under]⟩, ⟨rfl, rfl, rfl, ?_, underLL_pure _ (pure_brows _ _)⟩, trivial⟩
  rw [show brows k (F ++ [fun c => setB l (sel c)]) = brows k F ++ [[dbl k fun c => setB l (sel c)]] by simp [brows]]
  exact .append _ _ _ _ (deepMLL_eq (drop_take_all (by simp))) (.cons _ _ _ _ (.cons _ _ _ _ (.own _ _ _ _ _ _ _ _ rfl rfl (deepMLL_eq (by rw [drop_take_all (by simp)]; exact rbl_congr fun v hv => by rw [decide_eq_true hv]; simp))) (.refl _)) (.refl _))
end

/-! ### XEmb -/
section
open Go.RowKit
set_option linter.unusedSimpArgs false
set_option linter.unusedVariables false
section
variable {W : WorldD} {A : AutoD}
def TQ.lst (q : TQ) : List Int := (q.2.1.take q.2.2.2.1).drop q.2.2.1
structure QI (W : WorldD) (A : AutoD) (q : TQ) (R : List (List Int)) (p : Nat) (o : List Int) : Prop where
  th : ThI W A q.1 R q.lst p o
  lo : q.2.2.1 ≤ q.2.2.2.1
  hi : q.2.2.2.1 ≤ q.2.1.length
  len : q.2.1.length ≤ W.next.length * A.next.length
  fit : ∀ v, q.1 v = true → fitE W A (prE A.next.length v) = true
def TQ.mu (W : WorldD) (A : AutoD) (q : TQ) : Nat := unseen q.1 (W.next.length * A.next.length) + (q.2.2.2.1 - q.2.2.1)
theorem nodup_len {l : List Int} {n : Nat} (hn : l.Nodup) (h : ∀ x ∈ l, 0 ≤ x ∧ x.toNat < n) : l.length ≤ n := by
  refine pigeon n l.length (fun i => (l.getD i 0).toNat) (fun i hi => ?_) fun i j hi hj he => ?_
  · exact (h _ (by rw [List.getD_eq_getElem?_getD, List.getElem?_eq_getElem hi]; simp)).2
  · have hi' := h (l.getD i 0) (by rw [List.getD_eq_getElem?_getD, List.getElem?_eq_getElem hi]; simp)
    have hj' := h (l.getD j 0) (by rw [List.getD_eq_getElem?_getD, List.getElem?_eq_getElem hj]; simp)
    have hx : l.getD i 0 = l.getD j 0 := by omega
    rw [List.getD_eq_getElem?_getD, List.getD_eq_getElem?_getD, List.getElem?_eq_getElem hi, List.getElem?_eq_getElem hj] at hx
    simp only [Option.getD_some] at hx
    rcases Nat.lt_trichotomy i j with q | q | q
    · exact absurd hx (List.pairwise_iff_getElem.1 hn i j hi hj q)
    · exact q
    · exact absurd hx.symm (List.pairwise_iff_getElem.1 hn j i hj hi q)
theorem tAdd_ok {q : TQ} {R : List (List Int)} {p : Nat} {o : List Int} (h : QI W A q R p o) {x y : Int} (hg : GoodE W A (x, y)) :
    QI W A (tAdd (fitE W A (x, y)) (codeE A.next.length (x, y)) q) R p o ∧ (∀ v, q.1 v = true → (tAdd (fitE W A (x, y)) (codeE A.next.length (x, y)) q).1 v = true) ∧
      (tAdd (fitE W A (x, y)) (codeE A.next.length (x, y)) q).1 (codeE A.next.length (x, y)) = fitE W A (x, y) ∧ (tAdd (fitE W A (x, y)) (codeE A.next.length (x, y)) q).mu W A ≤ q.mu W A := by
  have hcl := code_lt hg
  have hpr := pr_code hg
  generalize codeE A.next.length (x, y) = c at *
  unfold tAdd
  by_cases hc : (fitE W A (x, y) && !(q.1 c)) = true
  · rw [if_pos hc]
    rw [Bool.and_eq_true, Bool.not_eq_true'] at hc
    have hT := h.th.add hc.2 hcl
    have hL : (q.lst ++ [(c : Int)]).length ≤ W.next.length * A.next.length := nodup_len hT.nd fun z hz => ⟨(hT.tq z hz).1, hT.rng _ (hT.tq z hz).2⟩
    have hl : q.lst.length = q.2.2.2.1 - q.2.2.1 := by
      unfold TQ.lst
      rw [List.length_drop, List.length_take]
      have := h.hi; omega
    have h1 := h.lo
    have h2 := h.hi
    have e : TQ.lst (mark q.1 c, q.lst ++ [(c : Int)], 0, q.2.2.2.1 - q.2.2.1 + 1, q.2.2.2.2 + 1) = q.lst ++ [(c : Int)] := by
      show List.drop 0 (List.take _ _) = _
      rw [List.drop_zero, List.take_of_length_le (by rw [List.length_append, hl]; exact Nat.le_refl _)]
    refine ⟨⟨by rw [show ((mark q.1 c, List.drop q.2.2.1 (List.take q.2.2.2.1 q.2.1) ++ [(c : Int)], 0, q.2.2.2.1 - q.2.2.1 + 1, q.2.2.2.2 + 1) : TQ) = (mark q.1 c, q.lst ++ [(c : Int)], 0, q.2.2.2.1 - q.2.2.1 + 1, q.2.2.2.2 + 1) from rfl, e]; exact hT, Nat.zero_le _, by show _ ≤ (q.lst ++ [(c : Int)]).length; rw [List.length_append, hl]; exact Nat.le_refl _, hL, fun v hv => ?_⟩, fun v hv => markE_iff.2 (.inl hv), (markE_iff.2 (.inr rfl)).trans hc.1.symm, ?_⟩
    · rcases markE_iff.1 hv with k | k
      · exact h.fit v k
      · subst k; rw [hpr]; exact hc.1
    · have := unseen_lt (s := q.1) (s' := mark q.1 c) hcl (fun j _ hj => markE_iff.2 (.inl hj)) hc.2 (markE_iff.2 (.inr rfl))
      unfold TQ.mu
      dsimp only
      omega
  · rw [if_neg hc]
    refine ⟨h, fun v hv => hv, ?_, Nat.le_refl _⟩
    cases hf : fitE W A (x, y)
    · cases hs : q.1 c
      · rfl
      · have := h.fit c hs
        rw [hpr, hf] at this; cases this
    · rw [hf, Bool.true_and] at hc
      simpa using hc
theorem QI.begin : QI W A ((fun _ => false), [], 0, 0, 0) (List.replicate (W.next.length * A.next.length) []) (W.next.length * A.next.length) [] :=
  ⟨ThI.begin, Nat.le_refl _, Nat.le_refl _, Nat.zero_le _, fun v hv => by cases hv⟩
theorem QI.pop {S : Nat → Bool} {Z : List Int} {lo hi ver : Nat} {R : List (List Int)} (h : QI W A (S, Z, lo, hi, ver) R (W.next.length * A.next.length) []) (hl : lo < hi) :
    QI W A (S, Z, lo + 1, hi, ver) R (Z.getD lo 0).toNat [] ∧ 0 ≤ Z.getD lo 0 ∧ (Z.getD lo 0).toNat < W.next.length * A.next.length ∧ TQ.mu W A (S, Z, lo + 1, hi, ver) < TQ.mu W A (S, Z, lo, hi, ver) := by
  have hT := h.th
  have hh : hi ≤ Z.length := h.hi
  have e : TQ.lst (S, Z, lo, hi, ver) = Z.getD lo 0 :: TQ.lst (S, Z, lo + 1, hi, ver) := headQ hl hh
  rw [e] at hT
  obtain ⟨h1, h2, h3⟩ := hT.pop
  refine ⟨⟨h1, hl, hh, h.len, h.fit⟩, h2, h3, ?_⟩
  unfold TQ.mu
  dsimp only
  omega
open Classical in
/-- What There answers. -/
noncomputable def ansE (W : WorldD) (A : AutoD) : Bool := decide (∃ v, v < (finE W A).2.length ∧ Fw (finE W A).2 (setsE W A (finE W A).1) v)
def setsR (W : WorldD) (A : AutoD) : List (Nat → Bool) := (W.fair.map fun l c => setB l (c / A.next.length)) ++ A.fair.map fun l c => setB l (c % A.next.length)
theorem ans_iff (hb : BigW W A) (hm : 0 < A.next.length) {q : TQ} {R : List (List Int)} (h : QI W A q R (W.next.length * A.next.length) []) (hq : q.lst = []) (hst : ∀ p ∈ crossE W A W.start A.start, q.1 (codeE A.next.length p) = true) :
    ansE W A = true ↔ ∃ x ∈ (crossE W A W.start A.start).map (fun p => (codeE A.next.length p : Int)), Fw R (setsR W A) x.toNat := by
  obtain ⟨hN, hg⟩ := finE_ok hb
  have hT := h.th
  rw [hq] at hT
  have hR := hT.rows hN hg hst
  have hF := hN.fair (code := codeE A.next.length) hR (setsR W A)
  have hsets : (setsR W A).map (fun S v => S (codeE A.next.length ((finE W A).1.getD v (0, 0)))) = setsE W A (finE W A).1 := by
    have hdm : ∀ v, codeE A.next.length ((finE W A).1.getD v (0, 0)) / A.next.length = ((finE W A).1.getD v (0, 0)).1.toNat ∧ codeE A.next.length ((finE W A).1.getD v (0, 0)) % A.next.length = ((finE W A).1.getD v (0, 0)).2.toNat := fun v => by
      rcases Nat.lt_or_ge v (finE W A).1.length with k | k
      · exact code_div (hg _ (getD_memP k))
      · rw [List.getD_eq_getElem?_getD, List.getElem?_eq_none k]
        simp [codeE]
    unfold setsR setsE selL selS
    rw [List.map_append, List.map_map, List.map_map, List.take_length, List.take_length]
    congr 1
    · refine List.map_congr_left fun l _ => funext fun v => ?_
      show setB l _ = setB l _
      rw [(hdm v).1]
    · refine List.map_congr_left fun l _ => funext fun v => ?_
      show setB l _ = setB l _
      rw [(hdm v).2]
  rw [hsets] at hF
  have hA : ansE W A = true ↔ ∃ v, v < (finE W A).2.length ∧ Fw (finE W A).2 (setsE W A (finE W A).1) v := by unfold ansE; simp only [decide_eq_true_eq]
  rw [hA, hF]
  constructor
  · rintro ⟨p, hp, k⟩
    exact ⟨_, List.mem_map.2 ⟨p, hp, rfl⟩, by rw [Int.toNat_natCast]; exact k⟩
  · rintro ⟨x, hx, k⟩
    obtain ⟨p, hp, rfl⟩ := List.mem_map.1 hx
    rw [Int.toNat_natCast] at k
    exact ⟨p, hp, k⟩
end
end

/-! ### XEmc -/
section
open Go.RowKit
set_option linter.unusedSimpArgs false
set_option linter.unusedVariables false
def codesE (m : Nat) (l : List Pr) : List Int := l.map fun p => (codeE m p : Int)
theorem codesE_app (m : Nat) (a b : List Pr) : codesE m (a ++ b) = codesE m a ++ codesE m b := by simp [codesE]
def hd10 (W : WorldD) (A : AutoD) (q : TQ) (g : List (List D)) (f : List Int) : List AObj :=
  [.row true W.cells, .row true A.cells, .row true [.sc (.int .i64 W.next.length)], .row true [.sc (.int .i64 A.next.length)], .vec true 0 1 g, .vec true 0 1 (rbl (W.next.length * A.next.length) q.1), .row true [.own 5 0 0 (W.next.length * A.next.length)], .row true [.own 8 q.2.2.2.2 q.2.2.1 q.2.2.2.1], .vec true q.2.2.2.2 1 (i64s q.2.1), .vec true f.length 1 (i64s f)]
def hdX (W : WorldD) (A : AutoD) (S : Nat → Bool) (Z : List Int) (lo hi ver : Nat) (g : List (List D)) (f : List Int) : List AObj :=
  [.row true W.cells, .row true A.cells, .row true [.sc (.int .i64 W.next.length)], .row true [.sc (.int .i64 A.next.length)], .vec true 0 1 g, .vec true 0 1 (rbl (W.next.length * A.next.length) S), .row true [.own 5 0 0 (W.next.length * A.next.length)], .row true [.own 8 ver lo hi], .vec true ver 1 (i64s Z), .vec true f.length 1 (i64s f)]
theorem em_tadd_at {W : WorldD} {A : AutoD} (hWA : TwoW W A) (hNM : W.next.length * A.next.length ≤ 4000) (hM : Lett A.must) (x y : Int) (hg : GoodE W A (x, y)) (q : TQ) (h1 : q.2.2.1 ≤ q.2.2.2.1) (h2 : q.2.2.2.1 ≤ q.2.1.length) (h3 : q.2.1.length ≤ 1000000000) (g : List (List D)) (f : List Int) (T : List AObj) :
    ACallAt Try.prog 63 [.sc (.int .i64 x), .sc (.int .i64 y), .loc 1 0, .loc 0 0, .loc 6 0, .loc 3 0, .loc 7 0] (hd10 W A q g f ++ T) (.tup []) (hd10 W A (tAdd (fitE W A (x, y)) (codeE A.next.length (x, y)) q) g f ++ T) [1, 0, 6, 3, 5, 7, 8] := by
  have hA := em_tadd hWA hNM hM x y hg q h1 h2 h3
  generalize tAdd (fitE W A (x, y)) (codeE A.next.length (x, y)) q = Q at *
  have hrn : ∀ q : TQ, (thHeap W A q).map (AObj.ren fun i => [1, 0, 6, 3, 5, 7, 8].getD i 0) = [.row true A.cells, .row true W.cells, .row true [.own 5 0 0 (W.next.length * A.next.length)], .row true [.sc (.int .i64 A.next.length)], .vec true 0 1 (rbl (W.next.length * A.next.length) q.1), .row true [.own 8 q.2.2.2.2 q.2.2.1 q.2.2.2.1], .vec true q.2.2.2.2 1 (i64s q.2.1)] := fun q => by
    simp only [thHeap, List.map_cons, List.map_nil, AObj.ren, renL_pure _ (pure_wocells W), renL_pure _ (pure_aucells A), renLL_pure _ (pure_rbl _ _), renLL_i64e, renL, D.ren]
    rfl
  have hAt := acallAt_of (H := hd10 W A q g f ++ T) hA rfl [1, 0, 6, 3, 5, 7, 8] rfl (by decide) (by simp [UnderL, Under, thHeap]) (by
    have := @under_thHeap W A q
    unfold thHeap at *
    exact ⟨this _ (by simp), this _ (by simp), this _ (by simp), this _ (by simp), this _ (by simp), this _ (by simp), this _ (by simp), trivial⟩) (args := [.sc (.int .i64 x), .sc (.int .i64 y), .loc 1 0, .loc 0 0, .loc 6 0, .loc 3 0, .loc 7 0]) (d := .tup []) rfl (by simp only [D.ren, renL]) (fun i o ho => by
      have h := congrArg (fun z => z[i]?) (hrn q)
      simp only [List.getElem?_map, ho, Option.map_some] at h
      rcases i with _ | _ | _ | _ | _ | _ | _ | i
      · exact h.symm
      · exact h.symm
      · exact h.symm
      · exact h.symm
      · exact h.symm
      · exact h.symm
      · exact h.symm
      · simp [thHeap] at ho)
  rw [hrn Q] at hAt
  exact hAt
theorem em_both_at {W : WorldD} {A : AutoD} (hNM : W.next.length * A.next.length ≤ 4000) (g : FuncId) (sel : Nat → Nat) (size : Nat) (hsz : size ≤ 2048) (hsel : ∀ c, c < W.next.length * A.next.length → PCall Try.prog g [.sc (.int .i64 c), .ipt [.sc (.int .i64 A.next.length)]] (.sc (.int .i64 (sel c)))) (hin : ∀ c, c < W.next.length * A.next.length → sel c < size)
    (l : List Int) (hl : l.length ≤ 17592186043904) (hli : inB l size = true) (F : List (Nat → Bool)) (hF : F.length ≤ 1000) (q : TQ) (G : List (List D)) (f : List Int) :
    ACallAt Try.prog 64 [dints l, .sc (.int .i64 size), .fn (.func g) [] [.loc 3 0], .loc 2 0, .loc 3 0, .loc 10 0] (hd10 W A q G f ++ [.row true [.own 11 F.length 0 F.length], .vec true F.length 1 (brows (W.next.length * A.next.length) F)])
      (.tup []) (hd10 W A q G f ++ [.row true [.own 11 (F.length + 1) 0 (F.length + 1)], .vec true (F.length + 1) 1 (brows (W.next.length * A.next.length) (F ++ [fun c => setB l (sel c)]))]) [2, 3, 10, 11] := by
  have hA := em_both (W.next.length * A.next.length) W.next.length A.next.length hNM rfl g sel size hsz hsel hin l hl hli F hF
  have hAt := acallAt_of (H := hd10 W A q G f ++ [.row true [.own 11 F.length 0 F.length], .vec true F.length 1 (brows (W.next.length * A.next.length) F)]) hA rfl [2, 3, 10, 11] rfl (by decide) (by simp [UnderL, Under]) ⟨by simp [AObj.under, UnderL, Under], by simp [AObj.under, UnderL, Under], by simp [AObj.under, UnderL, Under], underLL_pure _ (pure_brows _ _), trivial⟩
    (args := [dints l, .sc (.int .i64 size), .fn (.func g) [] [.loc 3 0], .loc 2 0, .loc 3 0, .loc 10 0]) (d := .tup []) (by simp only [renL, D.ren, ren_dints]; rfl) (by simp only [D.ren, renL]) (fun i o ho => by
      rcases i with _ | _ | _ | _ | i
      · simp at ho; subst ho; rfl
      · simp at ho; subst ho; rfl
      · simp at ho; subst ho; rfl
      · simp at ho; subst ho; simp only [AObj.ren, renLL_pure _ (pure_brows _ _)]; rfl
      · simp at ho)
  simp only [List.map_cons, List.map_nil, AObj.ren, renLL_pure _ (pure_brows _ _), renL, D.ren] at hAt
  exact hAt
def mapT (h : List Int → Nat → Bool) (G : List (List Int)) (k : Nat) : List (Nat → Bool) := (G.take k).map h
theorem mapT_succ {h : List Int → Nat → Bool} {G : List (List Int)} {k : Nat} (hk : k < G.length) : mapT h G (k + 1) = mapT h G k ++ [h (G.getD k [])] := by
  unfold mapT
  rw [List.take_add_one, List.getElem?_eq_getElem hk, List.map_append, List.getD_eq_getElem?_getD, List.getElem?_eq_getElem hk]
  rfl
theorem mapT_len {h : List Int → Nat → Bool} {G : List (List Int)} {k : Nat} (hk : k ≤ G.length) : (mapT h G k).length = k := by simp [mapT]; omega
theorem pure_nilrows : ∀ k, PureLL (List.replicate k (List.map D.sc [Value.slice none 0 0]))
  | 0 => trivial
  | k + 1 => ⟨⟨trivial, trivial⟩, pure_nilrows k⟩
theorem getD_rowE {W : WorldD} {A : AutoD} {x : Int} {k : List Int} {j : Nat} (h : j < k.length) : rowE W A x (k.drop j) = (if fitE W A (x, k.getD j 0) = true then [(x, k.getD j 0)] else []) ++ rowE W A x (k.drop (j + 1)) := by
  rw [getD_drop h, rowE_cons]
  split <;> simp
theorem crossE_drop {W : WorldD} {A : AutoD} {l k : List Int} {i : Nat} (h : i < l.length) : crossE W A (l.drop i) k = rowE W A (l.getD i 0) k ++ crossE W A (l.drop (i + 1)) k := by
  rw [getD_drop h, crossE, List.flatMap_cons]; rfl
def c20_2 : PC := .seq (.seq (.ops [⟨some 49,.move (.tmp 13),none,0⟩,
 ⟨some 50,.faddr 0 (.tmp 3),none,0⟩,
 ⟨some 51,.load1 (.tmp 50),none,0⟩,
 ⟨some 52,.len (.tmp 51),none,0⟩,
 ⟨some 53,.bin .lss (.tmp 49) (.tmp 52),none,0⟩] false) (.cond (.tmp 53) (.skip) (.exit 2))) (.seq (.block 3 (.seq (.ops [⟨some 56,.move (.tmp 10),none,0⟩,
 ⟨some 57,.faddr 0 (.tmp 2),none,0⟩,
 ⟨some 58,.load1 (.tmp 57),none,2⟩,
 ⟨some 59,.move (.tmp 12),none,0⟩,
 ⟨some 60,.iaddr 1 (.tmp 58) (.tmp 59),none,14⟩,
 ⟨some 61,.load1 (.tmp 60),none,30⟩,
 ⟨some 62,.faddr 0 (.tmp 3),none,0⟩,
 ⟨some 63,.load1 (.tmp 62),none,64⟩,
 ⟨some 64,.move (.tmp 13),none,0⟩,
 ⟨some 65,.iaddr 1 (.tmp 63) (.tmp 64),none,448⟩,
 ⟨some 66,.load1 (.tmp 65),none,960⟩,
 ⟨some 67,.callv (.tmp 56) [(.tmp 61), (.tmp 66)],none,2047⟩] true) (.seq (.ops [⟨some 68,.loadA 5 (.tmp 3),none,0⟩,
 ⟨some 69,.faddr 0 (.tmp 3),none,0⟩,
 ⟨some 70,.load1 (.tmp 69),none,2⟩,
 ⟨some 71,.move (.tmp 13),none,0⟩,
 ⟨some 72,.iaddr 1 (.tmp 70) (.tmp 71),none,14⟩,
 ⟨some 73,.load1 (.tmp 72),none,30⟩,
 ⟨some 74,.faddr 2 (.tmp 2),none,0⟩,
 ⟨some 75,.load1 (.tmp 74),none,64⟩,
 ⟨some 76,.faddr 0 (.tmp 2),none,0⟩,
 ⟨some 77,.load1 (.tmp 76),none,256⟩,
 ⟨some 78,.move (.tmp 12),none,0⟩,
 ⟨some 79,.iaddr 1 (.tmp 77) (.tmp 78),none,1792⟩,
 ⟨some 80,.load1 (.tmp 79),none,3840⟩,
 ⟨some 81,.iaddr 1 (.tmp 75) (.tmp 80),none,8128⟩,
 ⟨some 82,.load1 (.tmp 81),none,16320⟩,
 ⟨some 83,.call 33 [(.tmp 68), (.tmp 73), (.tmp 82)],none,32767⟩] true) (.cond (.tmp 83) (.ops [⟨some 84,.move (.tmp 11),none,0⟩,
 ⟨some 85,.faddr 0 (.tmp 2),none,0⟩,
 ⟨some 86,.load1 (.tmp 85),none,2⟩,
 ⟨some 87,.move (.tmp 12),none,0⟩,
 ⟨some 88,.iaddr 1 (.tmp 86) (.tmp 87),none,14⟩,
 ⟨some 89,.load1 (.tmp 88),none,30⟩,
 ⟨some 90,.load1 (.tmp 6),none,0⟩,
 ⟨some 91,.bin .mul (.tmp 89) (.tmp 90),none,126⟩,
 ⟨some 92,.faddr 0 (.tmp 3),none,0⟩,
 ⟨some 93,.load1 (.tmp 92),none,256⟩,
 ⟨some 94,.move (.tmp 13),none,0⟩,
 ⟨some 95,.iaddr 1 (.tmp 93) (.tmp 94),none,1792⟩,
 ⟨some 96,.load1 (.tmp 95),none,3840⟩,
 ⟨some 97,.bin .add (.tmp 91) (.tmp 96),none,8190⟩,
 ⟨some 98,.bslice 1 1 [(.tmp 97)],none,16382⟩,
 ⟨some 99,.append 1 8 (.tmp 84) (.tmp 98),none,32767⟩,
 ⟨some 11,.move (.tmp 99),none,65535⟩] true) (.skip))))) (.ops [⟨some 54,.move (.tmp 13),none,0⟩,
 ⟨some 55,.bin .add (.tmp 54) (.const (.int .i64 1)),none,0⟩,
 ⟨some 13,.move (.tmp 55),none,0⟩] false))
def c20_1 : PC := .seq (.seq (.ops [⟨some 42,.move (.tmp 12),none,0⟩,
 ⟨some 43,.faddr 0 (.tmp 2),none,0⟩,
 ⟨some 44,.load1 (.tmp 43),none,0⟩,
 ⟨some 45,.len (.tmp 44),none,0⟩,
 ⟨some 46,.bin .lss (.tmp 42) (.tmp 45),none,0⟩] false) (.cond (.tmp 46) (.skip) (.exit 0))) (.seq (.block 1 (.seq (.ops [⟨some 13,.move (.const (.int .i64 0)),none,0⟩] false) (.block 2 (.loop c20_2)))) (.ops [⟨some 47,.move (.tmp 12),none,0⟩,
 ⟨some 48,.bin .add (.tmp 47) (.const (.int .i64 1)),none,0⟩,
 ⟨some 12,.move (.tmp 48),none,0⟩] false))
def c20_5 : PC := .seq (.seq (.ops [⟨some 120,.move (.tmp 16),none,0⟩,
 ⟨some 121,.faddr 1 (.tmp 3),none,0⟩,
 ⟨some 122,.load1 (.tmp 121),none,2⟩,
 ⟨some 123,.move (.tmp 14),none,0⟩,
 ⟨some 124,.load1 (.tmp 6),none,0⟩,
 ⟨some 125,.bin .rem (.tmp 123) (.tmp 124),none,24⟩,
 ⟨some 126,.iaddr 1 (.tmp 122) (.tmp 125),none,62⟩,
 ⟨some 127,.load1 (.tmp 126),none,126⟩,
 ⟨some 128,.len (.tmp 127),none,254⟩,
 ⟨some 129,.bin .lss (.tmp 120) (.tmp 128),none,511⟩] true) (.cond (.tmp 129) (.skip) (.exit 8))) (.seq (.block 9 (.seq (.ops [⟨some 132,.faddr 1 (.tmp 2),none,0⟩,
 ⟨some 133,.load1 (.tmp 132),none,1⟩,
 ⟨some 134,.move (.tmp 14),none,0⟩,
 ⟨some 135,.load1 (.tmp 6),none,0⟩,
 ⟨some 136,.bin .quo (.tmp 134) (.tmp 135),none,12⟩,
 ⟨some 137,.iaddr 1 (.tmp 133) (.tmp 136),none,31⟩,
 ⟨some 138,.load1 (.tmp 137),none,63⟩,
 ⟨some 139,.move (.tmp 15),none,0⟩,
 ⟨some 140,.iaddr 1 (.tmp 138) (.tmp 139),none,255⟩,
 ⟨some 141,.load1 (.tmp 140),none,511⟩,
 ⟨some 142,.faddr 1 (.tmp 3),none,0⟩,
 ⟨some 143,.load1 (.tmp 142),none,1024⟩,
 ⟨some 144,.move (.tmp 14),none,0⟩,
 ⟨some 145,.load1 (.tmp 6),none,0⟩,
 ⟨some 146,.bin .rem (.tmp 144) (.tmp 145),none,12288⟩,
 ⟨some 147,.iaddr 1 (.tmp 143) (.tmp 146),none,31744⟩,
 ⟨some 148,.load1 (.tmp 147),none,64512⟩,
 ⟨some 149,.move (.tmp 16),none,0⟩,
 ⟨some 150,.iaddr 1 (.tmp 148) (.tmp 149),none,261120⟩,
 ⟨some 151,.load1 (.tmp 150),none,523264⟩,
 ⟨some 17,.move (.tmp 141),none,1023⟩,
 ⟨some 18,.move (.tmp 151),none,2097151⟩] true) (.seq (.ops [⟨some 152,.move (.tmp 10),none,0⟩,
 ⟨some 153,.move (.tmp 17),none,0⟩,
 ⟨some 154,.move (.tmp 18),none,0⟩,
 ⟨some 155,.callv (.tmp 152) [(.tmp 153), (.tmp 154)],none,0⟩] false) (.seq (.ops [⟨some 156,.load1 (.tmp 8),none,0⟩,
 ⟨some 157,.move (.tmp 17),none,0⟩,
 ⟨some 158,.load1 (.tmp 6),none,0⟩,
 ⟨some 159,.bin .mul (.tmp 157) (.tmp 158),none,0⟩,
 ⟨some 160,.move (.tmp 18),none,0⟩,
 ⟨some 161,.bin .add (.tmp 159) (.tmp 160),none,0⟩,
 ⟨some 162,.iaddr 1 (.tmp 156) (.tmp 161),none,0⟩,
 ⟨some 163,.load1 (.tmp 162),none,0⟩] false) (.cond (.tmp 163) (.ops [⟨some 164,.move (.tmp 7),none,0⟩,
 ⟨some 165,.move (.tmp 14),none,0⟩,
 ⟨some 166,.move (.tmp 7),none,0⟩,
 ⟨some 167,.move (.tmp 14),none,0⟩,
 ⟨some 168,.iaddr 1 (.tmp 166) (.tmp 167),none,12⟩,
 ⟨some 169,.load1 (.tmp 168),none,28⟩,
 ⟨some 170,.move (.tmp 17),none,0⟩,
 ⟨some 171,.load1 (.tmp 6),none,0⟩,
 ⟨some 172,.bin .mul (.tmp 170) (.tmp 171),none,192⟩,
 ⟨some 173,.move (.tmp 18),none,0⟩,
 ⟨some 174,.bin .add (.tmp 172) (.tmp 173),none,960⟩,
 ⟨some 175,.bslice 1 1 [(.tmp 174)],none,1984⟩,
 ⟨some 176,.append 1 8 (.tmp 169) (.tmp 175),none,4092⟩,
 ⟨some 177,.iaddr 1 (.tmp 164) (.tmp 165),none,8191⟩,
 ⟨none,.store 1 (.tmp 177) (.tmp 176),none,16383⟩] true) (.skip)))))) (.ops [⟨some 130,.move (.tmp 16),none,0⟩,
 ⟨some 131,.bin .add (.tmp 130) (.const (.int .i64 1)),none,0⟩,
 ⟨some 16,.move (.tmp 131),none,0⟩] false))
def c20_4 : PC := .seq (.seq (.ops [⟨some 108,.move (.tmp 15),none,0⟩,
 ⟨some 109,.faddr 1 (.tmp 2),none,0⟩,
 ⟨some 110,.load1 (.tmp 109),none,2⟩,
 ⟨some 111,.move (.tmp 14),none,0⟩,
 ⟨some 112,.load1 (.tmp 6),none,0⟩,
 ⟨some 113,.bin .quo (.tmp 111) (.tmp 112),none,24⟩,
 ⟨some 114,.iaddr 1 (.tmp 110) (.tmp 113),none,62⟩,
 ⟨some 115,.load1 (.tmp 114),none,126⟩,
 ⟨some 116,.len (.tmp 115),none,254⟩,
 ⟨some 117,.bin .lss (.tmp 108) (.tmp 116),none,511⟩] true) (.cond (.tmp 117) (.skip) (.exit 6))) (.seq (.block 7 (.seq (.ops [⟨some 16,.move (.const (.int .i64 0)),none,0⟩] false) (.block 8 (.loop c20_5)))) (.ops [⟨some 118,.move (.tmp 15),none,0⟩,
 ⟨some 119,.bin .add (.tmp 118) (.const (.int .i64 1)),none,0⟩,
 ⟨some 15,.move (.tmp 119),none,0⟩] false))
def c20_3 : PC := .seq (.seq (.ops [⟨some 100,.load1 (.tmp 9),none,0⟩,
 ⟨some 101,.len (.tmp 100),none,0⟩,
 ⟨some 102,.bin .gtr (.tmp 101) (.const (.int .i64 0)),none,0⟩] false) (.cond (.tmp 102) (.skip) (.exit 4))) (.block 5 (.seq (.ops [⟨some 103,.load1 (.tmp 9),none,0⟩,
 ⟨some 104,.iaddr 1 (.tmp 103) (.const (.int .i64 0)),none,0⟩,
 ⟨some 105,.load1 (.tmp 104),none,0⟩,
 ⟨some 14,.move (.tmp 105),none,0⟩] false) (.seq (.ops [⟨some 106,.load1 (.tmp 9),none,0⟩,
 ⟨some 107,.slc 1 (.tmp 106) (some (.const (.int .i64 1))) none none,none,0⟩,
 ⟨none,.store 1 (.tmp 9) (.tmp 107),none,0⟩] false) (.seq (.ops [⟨some 15,.move (.const (.int .i64 0)),none,0⟩] false) (.block 6 (.loop c20_4))))))
def c20_6 : PC := .seq (.seq (.ops [⟨some 179,.move (.tmp 21),none,0⟩,
 ⟨some 180,.faddr 3 (.tmp 2),none,0⟩,
 ⟨some 181,.load1 (.tmp 180),none,0⟩,
 ⟨some 182,.len (.tmp 181),none,0⟩,
 ⟨some 183,.bin .lss (.tmp 179) (.tmp 182),none,0⟩] false) (.cond (.tmp 183) (.skip) (.exit 10))) (.seq (.block 11 (.ops [⟨some 186,.move (.tmp 20),none,0⟩,
 ⟨some 187,.faddr 3 (.tmp 2),none,0⟩,
 ⟨some 188,.load1 (.tmp 187),none,2⟩,
 ⟨some 189,.move (.tmp 21),none,0⟩,
 ⟨some 190,.iaddr 1 (.tmp 188) (.tmp 189),none,14⟩,
 ⟨some 191,.load1 (.tmp 190),none,30⟩,
 ⟨some 192,.load1 (.tmp 5),none,0⟩,
 ⟨some 193,.mkfn (.func 65) [] [(.tmp 6)],none,0⟩,
 ⟨some 194,.callv (.tmp 186) [(.tmp 191), (.tmp 192), (.tmp 193)],none,255⟩] true)) (.ops [⟨some 184,.move (.tmp 21),none,0⟩,
 ⟨some 185,.bin .add (.tmp 184) (.const (.int .i64 1)),none,0⟩,
 ⟨some 21,.move (.tmp 185),none,0⟩] false))
def c20_7 : PC := .seq (.seq (.ops [⟨some 195,.move (.tmp 22),none,0⟩,
 ⟨some 196,.faddr 4 (.tmp 3),none,0⟩,
 ⟨some 197,.load1 (.tmp 196),none,0⟩,
 ⟨some 198,.len (.tmp 197),none,0⟩,
 ⟨some 199,.bin .lss (.tmp 195) (.tmp 198),none,0⟩] false) (.cond (.tmp 199) (.skip) (.exit 12))) (.seq (.block 13 (.ops [⟨some 202,.move (.tmp 20),none,0⟩,
 ⟨some 203,.faddr 4 (.tmp 3),none,0⟩,
 ⟨some 204,.load1 (.tmp 203),none,2⟩,
 ⟨some 205,.move (.tmp 22),none,0⟩,
 ⟨some 206,.iaddr 1 (.tmp 204) (.tmp 205),none,14⟩,
 ⟨some 207,.load1 (.tmp 206),none,30⟩,
 ⟨some 208,.load1 (.tmp 6),none,0⟩,
 ⟨some 209,.mkfn (.func 66) [] [(.tmp 6)],none,0⟩,
 ⟨some 210,.callv (.tmp 202) [(.tmp 207), (.tmp 208), (.tmp 209)],none,255⟩] true)) (.ops [⟨some 200,.move (.tmp 22),none,0⟩,
 ⟨some 201,.bin .add (.tmp 200) (.const (.int .i64 1)),none,0⟩,
 ⟨some 22,.move (.tmp 201),none,0⟩] false))
def c20_8 : PC := .seq (.seq (.ops [⟨some 214,.move (.tmp 24),none,0⟩,
 ⟨some 215,.move (.tmp 11),none,0⟩,
 ⟨some 216,.len (.tmp 215),none,0⟩,
 ⟨some 217,.bin .lss (.tmp 214) (.tmp 216),none,0⟩] false) (.cond (.tmp 217) (.skip) (.exit 14))) (.seq (.block 15 (.seq (.ops [⟨some 220,.move (.tmp 23),none,0⟩,
 ⟨some 221,.move (.tmp 11),none,0⟩,
 ⟨some 222,.move (.tmp 24),none,0⟩,
 ⟨some 223,.iaddr 1 (.tmp 221) (.tmp 222),none,0⟩,
 ⟨some 224,.load1 (.tmp 223),none,0⟩,
 ⟨some 225,.iaddr 1 (.tmp 220) (.tmp 224),none,0⟩,
 ⟨some 226,.load1 (.tmp 225),none,0⟩] false) (.cond (.tmp 226) (.seq (.ops [⟨some 4,.move (.const (.bool true)),none,0⟩] false) (.ret)) (.skip)))) (.ops [⟨some 218,.move (.tmp 24),none,0⟩,
 ⟨some 219,.bin .add (.tmp 218) (.const (.int .i64 1)),none,0⟩,
 ⟨some 24,.move (.tmp 219),none,0⟩] false))
def c20 : PC := .seq (.ops [⟨some 2,.box (.tmp 0),none,0⟩,
 ⟨some 3,.box (.tmp 1),none,0⟩,
 ⟨some 4,.move (.const (.bool false)),none,0⟩] false) (.seq (.ops [⟨some 25,.faddr 1 (.tmp 2),none,0⟩,
 ⟨some 26,.load1 (.tmp 25),none,1⟩,
 ⟨some 27,.len (.tmp 26),none,3⟩,
 ⟨some 28,.faddr 1 (.tmp 3),none,0⟩,
 ⟨some 29,.load1 (.tmp 28),none,8⟩,
 ⟨some 30,.len (.tmp 29),none,24⟩,
 ⟨some 5,.alloc [(.int .i64 0)],none,0⟩,
 ⟨some 6,.alloc [(.int .i64 0)],none,0⟩,
 ⟨none,.store 1 (.tmp 5) (.tmp 27),none,199⟩,
 ⟨none,.store 1 (.tmp 6) (.tmp 30),none,511⟩] true) (.seq (.seq (.ops [⟨some 31,.load1 (.tmp 6),none,0⟩,
 ⟨some 32,.bin .eql (.tmp 31) (.const (.int .i64 0)),none,0⟩] false) (.cond (.tmp 32) (.seq (.ops [⟨some 4,.move (.const (.bool false)),none,0⟩] false) (.ret)) (.skip))) (.seq (.ops [⟨some 33,.load1 (.tmp 5),none,0⟩,
 ⟨some 34,.load1 (.tmp 6),none,0⟩,
 ⟨some 35,.bin .mul (.tmp 33) (.tmp 34),none,0⟩,
 ⟨some 36,.mslice 1 24 [(.slice none 0 0)] (.tmp 35) (.tmp 35),none,0⟩,
 ⟨some 7,.move (.tmp 36),none,0⟩] false) (.seq (.ops [⟨some 37,.load1 (.tmp 5),none,0⟩,
 ⟨some 38,.load1 (.tmp 6),none,0⟩,
 ⟨some 39,.bin .mul (.tmp 37) (.tmp 38),none,0⟩,
 ⟨some 40,.mslice 1 1 [(.bool false)] (.tmp 39) (.tmp 39),none,0⟩,
 ⟨some 8,.alloc [(.slice none 0 0)],none,0⟩,
 ⟨none,.store 1 (.tmp 8) (.tmp 40),none,0⟩] false) (.seq (.ops [⟨some 9,.alloc [(.slice none 0 0)],none,0⟩] false) (.seq (.ops [⟨some 41,.mkfn (.func 63) [] [(.tmp 3), (.tmp 2), (.tmp 8), (.tmp 6), (.tmp 9)],none,0⟩,
 ⟨some 10,.move (.tmp 41),none,0⟩] false) (.seq (.ops [⟨some 11,.move (.const (.slice none 0 0)),none,0⟩] false) (.seq (.seq (.ops [⟨some 12,.move (.const (.int .i64 0)),none,0⟩] false) (.block 0 (.loop c20_1))) (.seq (.stop (.block 4 (.loop c20_3))) (.seq (.ops [⟨some 19,.alloc [(.slice none 0 0)],none,0⟩] false) (.seq (.ops [⟨some 178,.mkfn (.func 64) [] [(.tmp 5), (.tmp 6), (.tmp 19)],none,0⟩,
 ⟨some 20,.move (.tmp 178),none,0⟩] false) (.seq (.seq (.ops [⟨some 21,.move (.const (.int .i64 0)),none,0⟩] false) (.block 10 (.loop c20_6))) (.seq (.seq (.ops [⟨some 22,.move (.const (.int .i64 0)),none,0⟩] false) (.block 12 (.loop c20_7))) (.seq (.ops [⟨some 211,.move (.tmp 7),none,0⟩,
 ⟨some 212,.load1 (.tmp 19),none,0⟩,
 ⟨some 213,.call 36 [(.tmp 211), (.tmp 212)],none,0⟩,
 ⟨some 23,.move (.tmp 213),none,0⟩] false) (.seq (.seq (.ops [⟨some 24,.move (.const (.int .i64 0)),none,0⟩] false) (.block 14 (.loop c20_8))) (.seq (.ops [⟨some 4,.move (.const (.bool false)),none,0⟩] false) (.ret)))))))))))))))))
set_option maxRecDepth 100000 in
theorem c20_ok : FunOK Try.prog 20 227 [.tmp 4] c20 := ⟨⟨Try.f20, Try.func20, rfl, by kernel_rfl, rfl, by kernel_rfl⟩⟩
set_option maxRecDepth 100000 in
theorem em_There {W : WorldD} {A : AutoD} (hb : BigW W A) (hNM : W.next.length * A.next.length ≤ 4000) (hM : Lett A.must) (hm : 0 < A.next.length) : PCall Try.prog 20 [dworld W, dauto A] (.sc (.bool (ansE W A))) := by
  have hWA := hb.two
  obtain ⟨w1, w2, w3, w4, w5, w6⟩ := chk_world W hWA.cw
  obtain ⟨a1, a2, a3, a4, a5, a6, a7⟩ := chk_auto A hWA.ca
  have hLe := fun s hs x => ref_Letter A a1 a2 hM s hs x
  have hpW := pure_wocells W
  have hpA := pure_aucells A
  have emul : (W.next.length : Int) * (A.next.length : Int) = ((W.next.length * A.next.length : Nat) : Int) := by rw [Int.natCast_mul]
  have hbl := hb.begin.2
  have hsa := hb.sa
  have hsw := hb.sw
  have hAdd := fun x y hg q h1 h2 h3 g f T => em_tadd_at hWA hNM hM x y hg q h1 h2 h3 g f T
  have hans := fun q R (h : QI W A q R (W.next.length * A.next.length) []) hq hst => ans_iff hb hm h hq hst
  have hF0l : (codesE A.next.length (crossE W A W.start A.start)).length ≤ 1099511627776 := by unfold codesE; rw [List.length_map]; exact hbl
  have hF0i : ∀ y ∈ codesE A.next.length (crossE W A W.start A.start), 0 ≤ y ∧ y.toNat < W.next.length * A.next.length := fun y hy => by
    obtain ⟨p, hp, rfl⟩ := List.mem_map.1 hy
    have := code_lt (hb.begin.1 p hp)
    omega
  rw [show (crossE W A W.start A.start).map (fun p => (codeE A.next.length p : Int)) = codesE A.next.length (crossE W A W.start A.start) from rfl] at hans
  have hst0 : ∀ q : TQ, (∀ y ∈ codesE A.next.length (crossE W A W.start A.start), q.1 y.toNat = true) → ∀ p ∈ crossE W A W.start A.start, q.1 (codeE A.next.length p) = true := fun q h p hp => by
    have := h _ (List.mem_map.2 ⟨p, hp, rfl⟩)
    simpa using this
  refine pcall_intro c20_ok (by simp) (by simp [PureL, pure_dworld, pure_dauto]) ?_ (by simp [Pure])
  generalize hans0 : ansE W A = ans at *
  obtain ⟨F0, hF0⟩ : ∃ F0, F0 = codesE A.next.length (crossE W A W.start A.start) := ⟨_, rfl⟩
  rw [← hF0] at hF0l hF0i hans hst0
  unfold dworld dauto at *
  unfold hd10 at hAdd
  unfold WorldD.cells AutoD.cells at *
  (apply rd_sound; focus (repeat' constructor))
  ((conv=>whnf);repeat(refine .intro rfl ?_;conv=>whnf))
  rw [List.length_map, List.length_map]
  (refine ifK_split (fun q0 => ?_) (fun q0 => ?_) <;> (rw [q0]; ((conv=>whnf);repeat(refine .intro rfl ?_;conv=>whnf))))
  · rw [beq_iff_eq] at q0; omega
  rw [emul]
  (refine .inl ⟨by (unfold InR; rw [IntKind.wrap_i64]; omega), ?_⟩; ((conv=>whnf);repeat(refine .intro rfl ?_;conv=>whnf)))
  refine ⟨by omega, by omega, by omega, ?_⟩
  rw [Int.toNat_natCast]
  ((conv=>whnf);repeat(refine .intro rfl ?_;conv=>whnf))
  rw [emul]
  (refine .inl ⟨by (unfold InR; rw [IntKind.wrap_i64]; omega), ?_⟩; ((conv=>whnf);repeat(refine .intro rfl ?_;conv=>whnf)))
  refine ⟨by omega, by omega, by omega, ?_⟩
  rw [Int.toNat_natCast, show List.map D.sc [Value.bool false] = [D.sc (.bool false)] from rfl, rbl_rep]
  ((conv=>whnf);repeat(refine .intro rfl ?_;conv=>whnf))
  have hb0 := QI.begin (W := W) (A := A)
  generalize hN0 : List.replicate (W.next.length * A.next.length) ([] : List Int) = R0 at *
  refine pwp_ghostB (leB_trans (leB_nilc 7 0 1 (by simp) rfl rfl) (leB_nil 11 1 (by simp) rfl)) ?_
  refine pwp_forH [2, 3, 5, 6, 7, 8, 9, 10] (fun ((i, q, f) : Nat × TQ × List Int) => [(11, .own 9 f.length 0 f.length), (12, .sc (.int .i64 i))]) (fun (i, q, f) => hd10 W A q (List.replicate (W.next.length * A.next.length) (List.map D.sc [Value.slice none 0 0])) f)
    (fun (i, q, f) => i ≤ W.start.length ∧ QI W A q R0 (W.next.length * A.next.length) [] ∧ (∀ y ∈ f, q.1 y.toNat = true) ∧ f ++ codesE A.next.length (crossE W A (W.start.drop i) A.start) = F0) (fun (i, q, f) => W.start.length - i) (0, ((fun _ => false), [], 0, 0, 0), []) ?_
  ((conv=>whnf);repeat(refine .intro rfl ?_;conv=>whnf))
  refine ⟨⟨by omega, hb0, by simp, by rw [List.drop_zero, List.nil_append]; exact hF0.symm⟩, by (repeat' (first | exact trivial | refine And.intro rfl ?_)), rfl, ?_⟩
  rintro ⟨i, q, f⟩ ⟨hi, hQ, hfs, hF⟩
  unfold hd10
  ((conv=>whnf);repeat(refine .intro rfl ?_;conv=>whnf))
  (apply rd_sound; focus (repeat' constructor))
  ((conv=>whnf);repeat(refine .intro rfl ?_;conv=>whnf))
  rw [List.length_map]
  (refine ifK_split (fun q0 => ?_) (fun q0 => ?_) <;> (rw [q0]; ((conv=>whnf);repeat(refine .intro rfl ?_;conv=>whnf))))
  · have q0 : i < W.start.length := by ((try simp only[oo,reduceCtorEq]at*)<;>omega)
    have hx := inB_mem w4 (mem_getD q0)
    rw [crossE_drop q0, codesE_app] at hF
    generalize hxe : W.start.getD i 0 = x at *
    refine pwp_forH [2, 3, 5, 6, 7, 8, 9, 10, 12] (fun ((k, q, f) : Nat × TQ × List Int) => [(11, .own 9 f.length 0 f.length), (13, .sc (.int .i64 k))]) (fun (k, q, f) => hd10 W A q (List.replicate (W.next.length * A.next.length) (List.map D.sc [Value.slice none 0 0])) f)
      (fun (k, q, f) => k ≤ A.start.length ∧ QI W A q R0 (W.next.length * A.next.length) [] ∧ (∀ y ∈ f, q.1 y.toNat = true) ∧ f ++ (codesE A.next.length (rowE W A x (A.start.drop k)) ++ codesE A.next.length (crossE W A (W.start.drop (i + 1)) A.start)) = F0) (fun (k, q, f) => A.start.length - k) (0, q, f) ?_
    ((conv=>whnf);repeat(refine .intro rfl ?_;conv=>whnf))
    refine ⟨⟨by omega, hQ, hfs, by rw [List.drop_zero]; exact hF⟩, by (repeat' (first | exact trivial | refine And.intro rfl ?_)), rfl, ?_⟩
    rintro ⟨k, q, f⟩ ⟨hk, hQ, hfs, hF⟩
    unfold hd10
    ((conv=>whnf);repeat(refine .intro rfl ?_;conv=>whnf))
    (apply rd_sound; focus (repeat' constructor))
    ((conv=>whnf);repeat(refine .intro rfl ?_;conv=>whnf))
    rw [List.length_map]
    (refine ifK_split (fun q1 => ?_) (fun q1 => ?_) <;> (rw [q1]; ((conv=>whnf);repeat(refine .intro rfl ?_;conv=>whnf))))
    · have q1 : k < A.start.length := by ((try simp only[oo,reduceCtorEq]at*)<;>omega)
      have hy := inB_mem a5 (mem_getD q1)
      have hfl : f.length ≤ F0.length := by rw [← hF, List.length_append]; omega
      rw [getD_rowE q1, codesE_app] at hF
      generalize hye : A.start.getD k 0 = y at *
      have hgp : GoodE W A (x, y) := ⟨hx, hy⟩
      obtain ⟨t1, t2, t3, t4⟩ := tAdd_ok hQ hgp
      have hA := hAdd x y hgp q hQ.lo hQ.hi (by have := hQ.len; omega) (List.replicate (W.next.length * A.next.length) (List.map D.sc [Value.slice none 0 0])) f []
      refine ⟨by omega, _, by rw [intsD_at (l := W.start) (k := i) (by omega) q0, hxe], ?_⟩
      ((conv=>whnf);repeat(refine .intro rfl ?_;conv=>whnf))
      refine ⟨by omega, _, by rw [intsD_at (l := A.start) (k := k) (by omega) q1, hye], ?_⟩
      ((conv=>whnf);repeat(refine .intro rfl ?_;conv=>whnf))
      (refine .inr (.inr (.inr (.inr (.inl ⟨_, _, _, hA, ?_⟩)))); ((conv=>whnf);repeat(refine .intro rfl ?_;conv=>whnf)))
      have ec : codeE A.next.length (x, y) = x.toNat * A.next.length + y.toNat := rfl
      have emx : x * (A.next.length : Int) = ((x.toNat * A.next.length : Nat) : Int) := by rw [Int.natCast_mul, Int.toNat_of_nonneg hx.1]
      have hcl := code_lt hgp
      generalize hq2 : tAdd (fitE W A (x, y)) (codeE A.next.length (x, y)) q = q2 at *
      generalize hk2 : x.toNat * A.next.length = xm at *
      generalize hce : codeE A.next.length (x, y) = c at *
      refine ⟨by omega, _, by rw [intsD_at (l := A.start) (k := k) (by omega) q1, hye], ?_⟩
      ((conv=>whnf);repeat(refine .intro rfl ?_;conv=>whnf))
      refine ⟨by omega, _, by rw [intsD_at (l := W.start) (k := i) (by omega) q0, hxe], ?_⟩
      ((conv=>whnf);repeat(refine .intro rfl ?_;conv=>whnf))
      refine ⟨by omega, _, u64a_at (l := W.label) (k := x.toNat) (by omega) (by omega), ?_⟩
      ((conv=>whnf);repeat(refine .intro rfl ?_;conv=>whnf))
      have hLx := hLe y.toNat (by omega) (W.label.getD x.toNat 0)
      rw [show ((y.toNat : Nat) : Int) = y by omega, show fitsV A y.toNat (W.label.getD x.toNat 0) = fitE W A (x, y) from rfl] at hLx
      (refine .inl ⟨_, hLx, ?_⟩; ((conv=>whnf);repeat(refine .intro rfl ?_;conv=>whnf)))
      cases r : fitE W A (x, y)
      · rw [r, if_neg (by decide)] at hF
        ((conv=>whnf);repeat(refine .intro rfl ?_;conv=>whnf))
        (refine .inl ⟨by (unfold InR; rw [IntKind.wrap_i64]; omega), ?_⟩; ((conv=>whnf);repeat(refine .intro rfl ?_;conv=>whnf)))
        refine ⟨(k + 1, q2, f), ⟨by omega, t1, fun z hz => t2 _ (hfs z hz), hF⟩, by dsimp only; omega, ?_⟩
        exact leB_envH (by (repeat' (first | exact trivial | refine And.intro rfl ?_))) rfl
      · rw [r, if_pos rfl] at hF
        rw [r] at t3
        ((conv=>whnf);repeat(refine .intro rfl ?_;conv=>whnf))
        refine ⟨by omega, _, by rw [intsD_at (l := W.start) (k := i) (by omega) q0, hxe], ?_⟩
        ((conv=>whnf);repeat(refine .intro rfl ?_;conv=>whnf))
        rw [emx]
        (refine .inl ⟨by (unfold InR; rw [IntKind.wrap_i64]; omega), ?_⟩; ((conv=>whnf);repeat(refine .intro rfl ?_;conv=>whnf)))
        refine ⟨by omega, _, by rw [intsD_at (l := A.start) (k := k) (by omega) q1, hye], ?_⟩
        ((conv=>whnf);repeat(refine .intro rfl ?_;conv=>whnf))
        (refine .inl ⟨by (unfold InR; rw [IntKind.wrap_i64]; omega), ?_⟩; ((conv=>whnf);repeat(refine .intro rfl ?_;conv=>whnf)))
        refine ⟨(by unfold sliceAppend; simp only [ll]; omega), ?_⟩
        ((conv=>whnf);repeat(refine .intro rfl ?_;conv=>whnf))
        (refine .inl ⟨by (unfold InR; rw [IntKind.wrap_i64]; omega), ?_⟩; ((conv=>whnf);repeat(refine .intro rfl ?_;conv=>whnf)))
        refine ⟨(k + 1, q2, f ++ [(c : Int)]), ⟨by omega, t1, fun z hz => ?_, ?_⟩, by dsimp only; omega, ?_⟩
        · rcases List.mem_append.1 hz with q | q
          · exact t2 _ (hfs z q)
          · rw [List.mem_singleton] at q; subst q; rw [Int.toNat_natCast]; exact t3
        · rw [show (c : Int) = (codeE A.next.length (x, y) : Int) by rw [hce]]
          rw [List.append_assoc]
          exact hF
        · dsimp only
          rw [show (f ++ [(c : Int)]).length = f.length + 1 by simp, show ((xm : Nat) : Int) + y = (c : Int) by omega]
          (refine leB_close 10 (by simp) rfl ?_ ?_ <;> (repeat' (first | exact trivial | exact rfl | exact DeepM.refl _ | exact DeepML.refl _ | exact DeepMLL.refl _ | refine And.intro ?_ ?_ | (simp [Under, UnderL, UnderLL, -List.map_take, -List.map_drop]; done))))
          all_goals first | exact underL_pure _ hpW | exact underL_pure _ hpA | exact deepMLL_eq (i64s_snoc f _) | exact underLL_pure _ (pure_nilrows _) | skip
    · have q1 : k = A.start.length := by have : ¬ k < A.start.length := by ((try simp only[oo,reduceCtorEq]at*)<;>omega)
                                         omega
      subst q1
      rw [List.drop_length] at hF
      (refine .inl ⟨by (unfold InR; rw [IntKind.wrap_i64]; omega), ?_⟩; ((conv=>whnf);repeat(refine .intro rfl ?_;conv=>whnf)))
      refine ⟨(i + 1, q, f), ⟨by omega, hQ, hfs, hF⟩, by dsimp only; omega, ?_⟩
      exact leB_envH (by (repeat' (first | exact trivial | refine And.intro rfl ?_))) rfl
  have q0 : i = W.start.length := by have : ¬ i < W.start.length := by ((try simp only[oo,reduceCtorEq]at*)<;>omega)
                                     omega
  subst q0
  rw [List.drop_length, show codesE A.next.length (crossE W A [] A.start) = [] from rfl, List.append_nil] at hF
  subst hF
  refine pwp_cut (fun ((q, R) : TQ × List (List Int)) => [(2, .loc 0 0), (3, .loc 1 0), (5, .loc 2 0), (6, .loc 3 0), (7, .own 4 0 0 (W.next.length * A.next.length)), (11, .own 9 f.length 0 f.length)]) (fun (q, R) => hd10 W A q (growsI R) f) (fun (q, R) => QI W A q R (W.next.length * A.next.length) [] ∧ q.lst = [] ∧ ∀ y ∈ f, q.1 y.toNat = true) ?_ ?_
  · (apply rd_sound; focus (repeat' constructor))
    ((conv=>whnf);repeat(refine .intro rfl ?_;conv=>whnf))
    refine pwp_ghostB (leB_nils 4 1 (W.next.length * A.next.length) 0 (by simp) rfl) ?_
    refine pwp_forH [2, 3, 5, 6, 7, 8, 9, 10, 11] (fun (((S, Z, lo, hi, ver), R) : TQ × List (List Int)) => []) (fun ((S, Z, lo, hi, ver), R) => hdX W A S Z lo hi ver (ogRows 10 R) f ++ ogObjs 1 ncell R) (fun (q, R) => QI W A q R (W.next.length * A.next.length) [] ∧ ∀ y ∈ f, q.1 y.toNat = true) (fun (q, R) => TQ.mu W A q) (q, R0) ?_
    ((conv=>whnf);repeat(refine .intro rfl ?_;conv=>whnf))
    refine ⟨⟨hQ, hfs⟩, by (repeat' (first | exact trivial | refine And.intro rfl ?_)), ?_, ?_⟩
    · rw [ogObjs_nils 1 _ ncell]
      dsimp only
      rw [← hN0, ← ogRows_nils (α := Int) 10 (W.next.length * A.next.length)]
      rfl
    clear hQ hfs
    rintro ⟨⟨S, Z, lo, hi, ver⟩, R⟩ ⟨hQ, hfs⟩
    unfold hdX
    ((conv=>whnf);repeat(refine .intro rfl ?_;conv=>whnf))
    (apply rd_sound; focus (repeat' constructor))
    ((conv=>whnf);repeat(refine .intro rfl ?_;conv=>whnf))
    have h1 : lo ≤ hi := hQ.lo
    have h2 : hi ≤ Z.length := hQ.hi
    have h3 := hQ.len
    have hRl := hQ.th.len
    dsimp only at h3 hfs
    (refine ifK_split (fun q0 => ?_) (fun q0 => ?_) <;> (rw [q0]; ((conv=>whnf);repeat(refine .intro rfl ?_;conv=>whnf))))
    · have q0 : lo < hi := by ((try simp only[oo,reduceCtorEq]at*)<;>omega)
      obtain ⟨p1, p2, p3, p4⟩ := hQ.pop q0
      (refine ⟨by omega, (by first | omega | (simp; done) | (simp; omega) | (simp only [ll]; omega)), ?_⟩; ((conv=>whnf);repeat(refine .intro rfl ?_;conv=>whnf)))
      refine ⟨_, intsD_at (l := Z) (k := lo) (by omega) (by omega), ?_⟩
      ((conv=>whnf);repeat(refine .intro rfl ?_;conv=>whnf))
      generalize Z.getD lo 0 = p at *
      refine ⟨by omega, by omega, by omega, ?_⟩
      ((conv=>whnf);repeat(refine .intro rfl ?_;conv=>whnf))
      rw [show lo + (hi - lo) = hi by omega]
      obtain ⟨g1, g2⟩ := pr_good p3
      obtain ⟨⟨g3, g4⟩, g5, g6⟩ := g1
      have hrC : rowC W A p.toNat = codesE A.next.length (crossE W A (W.next.getD (p.toNat / A.next.length) []) (A.next.getD (p.toNat % A.next.length) [])) := by
        unfold rowC nxE prE codesE
        dsimp only
        rw [Int.toNat_natCast, Int.toNat_natCast]
      have hrin := rowC_in hb p.toNat
      have hrowl : (rowC W A p.toNat).length ≤ 1099511627776 := by unfold rowC; rw [List.length_map]; exact (hb.next _).2
      have hql : p.tdiv (A.next.length : Int) = ((p.toNat / A.next.length : Nat) : Int) := by rw [Int.ofNat_tdiv, Int.toNat_of_nonneg p2]
      have hrl : p.tmod (A.next.length : Int) = ((p.toNat % A.next.length : Nat) : Int) := by rw [Int.ofNat_tmod, Int.toNat_of_nonneg p2]
      unfold prE at g3 g4 g5 g6
      dsimp only at g3 g4 g5 g6
      have hu : p.toNat / A.next.length < W.next.length := Int.ofNat_lt.1 g4
      have hv : p.toNat % A.next.length < A.next.length := Int.ofNat_lt.1 g6
      clear g2 g3 g4 g5 g6
      generalize p.toNat / A.next.length = u at *
      generalize p.toNat % A.next.length = v at *
      have hwl := row_leE hb.rw_ u
      have hal := row_leE hb.ra v
      have hwi := inB_row w5 u
      have hai := inB_row a6 v
      have hpc : ((p.toNat : Nat) : Int) = p := Int.toNat_of_nonneg p2
      generalize hM1 : TQ.mu W A (S, Z, lo + 1, hi, ver) = M1 at *
      refine pwp_forH [2, 3, 5, 6, 7, 8, 9, 10, 11, 14] (fun ((i, (S, Z, lo, hi, ver), R, o) : Nat × TQ × List (List Int) × List Int) => [(15, .sc (.int .i64 i))]) (fun (i, (S, Z, lo, hi, ver), R, o) => hdX W A S Z lo hi ver (ogRows 10 R) f ++ ogObjs 1 ncell R)
        (fun (i, q, R, o) => i ≤ (W.next.getD u []).length ∧ QI W A q R p.toNat o ∧ (∀ y ∈ f, q.1 y.toNat = true) ∧ (∀ y ∈ o, q.1 y.toNat = true) ∧ o ++ codesE A.next.length (crossE W A ((W.next.getD u []).drop i) (A.next.getD v [])) = rowC W A p.toNat ∧ TQ.mu W A q ≤ M1) (fun (i, q, R, o) => (W.next.getD u []).length - i) (0, (S, Z, lo + 1, hi, ver), R, []) ?_
      ((conv=>whnf);repeat(refine .intro rfl ?_;conv=>whnf))
      refine ⟨⟨by omega, p1, hfs, by simp, by rw [hrC]; rfl, by rw [hM1]; exact Nat.le_refl _⟩, by (repeat' (first | exact trivial | refine And.intro rfl ?_)), rfl, ?_⟩
      rintro ⟨i, ⟨S, Z, lo, hi, ver⟩, R, o⟩ ⟨hi4, hQ, hfs, hos, hC4, hmu⟩
      unfold hdX
      ((conv=>whnf);repeat(refine .intro rfl ?_;conv=>whnf))
      (apply rd_sound; focus (repeat' constructor))
      ((conv=>whnf);repeat(refine .intro rfl ?_;conv=>whnf))
      refine ⟨by omega, ?_⟩
      rw [hql]
      (refine .inl ⟨by (unfold InR; rw [IntKind.wrap_i64]; omega), ?_⟩; ((conv=>whnf);repeat(refine .intro rfl ?_;conv=>whnf)))
      refine ⟨by omega, _, gridD_at (g := W.next) (k := u) (by omega) hu, ?_⟩
      ((conv=>whnf);repeat(refine .intro rfl ?_;conv=>whnf))
      rw [List.length_map]
      (refine ifK_split (fun q4 => ?_) (fun q4 => ?_) <;> (rw [q4]; ((conv=>whnf);repeat(refine .intro rfl ?_;conv=>whnf))))
      · have q4 : i < (W.next.getD u []).length := by ((try simp only[oo,reduceCtorEq]at*)<;>omega)
        have hx := inB_mem hwi (mem_getD q4)
        rw [crossE_drop q4, codesE_app] at hC4
        generalize hxe : (W.next.getD u []).getD i 0 = x at *
        refine pwp_forH [2, 3, 5, 6, 7, 8, 9, 10, 11, 14, 15] (fun ((k, (S, Z, lo, hi, ver), R, o) : Nat × TQ × List (List Int) × List Int) => [(16, .sc (.int .i64 k))]) (fun (k, (S, Z, lo, hi, ver), R, o) => hdX W A S Z lo hi ver (ogRows 10 R) f ++ ogObjs 1 ncell R)
          (fun (k, q, R, o) => k ≤ (A.next.getD v []).length ∧ QI W A q R p.toNat o ∧ (∀ y ∈ f, q.1 y.toNat = true) ∧ (∀ y ∈ o, q.1 y.toNat = true) ∧ o ++ (codesE A.next.length (rowE W A x ((A.next.getD v []).drop k)) ++ codesE A.next.length (crossE W A ((W.next.getD u []).drop (i + 1)) (A.next.getD v []))) = rowC W A p.toNat ∧ TQ.mu W A q ≤ M1) (fun (k, q, R, o) => (A.next.getD v []).length - k) (0, (S, Z, lo, hi, ver), R, o) ?_
        ((conv=>whnf);repeat(refine .intro rfl ?_;conv=>whnf))
        refine ⟨⟨by omega, hQ, hfs, hos, by rw [List.drop_zero]; exact hC4, hmu⟩, by (repeat' (first | exact trivial | refine And.intro rfl ?_)), rfl, ?_⟩
        have hRl4 := hQ.th.len
        clear hQ hfs hos hC4 hmu
        rintro ⟨k, ⟨S, Z, lo, hi, ver⟩, R, o⟩ ⟨hk, hQ, hfs, hos, hC5, hmu⟩
        have h1 : lo ≤ hi := hQ.lo
        have h2 : hi ≤ Z.length := hQ.hi
        have h3 : Z.length ≤ W.next.length * A.next.length := hQ.len
        have hRl := hQ.th.len
        unfold hdX
        ((conv=>whnf);repeat(refine .intro rfl ?_;conv=>whnf))
        (apply rd_sound; focus (repeat' constructor))
        ((conv=>whnf);repeat(refine .intro rfl ?_;conv=>whnf))
        refine ⟨by omega, ?_⟩
        rw [hrl]
        ((conv=>whnf);repeat(refine .intro rfl ?_;conv=>whnf))
        refine ⟨by omega, _, gridD_at (g := A.next) (k := v) (by omega) hv, ?_⟩
        ((conv=>whnf);repeat(refine .intro rfl ?_;conv=>whnf))
        rw [List.length_map]
        (refine ifK_split (fun q5 => ?_) (fun q5 => ?_) <;> (rw [q5]; ((conv=>whnf);repeat(refine .intro rfl ?_;conv=>whnf))))
        · have q5 : k < (A.next.getD v []).length := by ((try simp only[oo,reduceCtorEq]at*)<;>omega)
          have hy := inB_mem hai (mem_getD q5)
          rw [getD_rowE q5, codesE_app] at hC5
          generalize hye : (A.next.getD v []).getD k 0 = y at *
          have hgp : GoodE W A (x, y) := ⟨hx, hy⟩
          obtain ⟨t1, t2, t3, t4⟩ := tAdd_ok hQ hgp
          have hA := em_tadd_at hWA hNM hM x y hgp (S, Z, lo, hi, ver) h1 h2 (by dsimp only; omega) (ogRows 10 R) f (ogObjs 1 ncell R)
          have ec : codeE A.next.length (x, y) = x.toNat * A.next.length + y.toNat := rfl
          have emx : x * (A.next.length : Int) = ((x.toNat * A.next.length : Nat) : Int) := by rw [Int.natCast_mul, Int.toNat_of_nonneg hx.1]
          have hcl := code_lt hgp
          refine ⟨by omega, ?_⟩
          rw [hql]
          (refine .inl ⟨by (unfold InR; rw [IntKind.wrap_i64]; omega), ?_⟩; ((conv=>whnf);repeat(refine .intro rfl ?_;conv=>whnf)))
          refine ⟨by omega, _, gridD_at (g := W.next) (k := u) (by omega) hu, ?_⟩
          ((conv=>whnf);repeat(refine .intro rfl ?_;conv=>whnf))
          refine ⟨by omega, _, by rw [intsD_at (l := W.next.getD u []) (k := i) (by omega) q4, hxe], ?_⟩
          ((conv=>whnf);repeat(refine .intro rfl ?_;conv=>whnf))
          refine ⟨by omega, ?_⟩
          rw [hrl]
          ((conv=>whnf);repeat(refine .intro rfl ?_;conv=>whnf))
          refine ⟨by omega, _, gridD_at (g := A.next) (k := v) (by omega) hv, ?_⟩
          ((conv=>whnf);repeat(refine .intro rfl ?_;conv=>whnf))
          refine ⟨by omega, _, by rw [intsD_at (l := A.next.getD v []) (k := k) (by omega) q5, hye], ?_⟩
          ((conv=>whnf);repeat(refine .intro rfl ?_;conv=>whnf))
          generalize hq2 : tAdd (fitE W A (x, y)) (codeE A.next.length (x, y)) (S, Z, lo, hi, ver) = q2 at *
          obtain ⟨S2, Z2, lo2, hi2, ver2⟩ := q2
          dsimp only at t2 t3
          unfold hd10 at hA
          dsimp only at hA
          generalize x.toNat * A.next.length = xm at *
          generalize hce : codeE A.next.length (x, y) = c2 at *
          (refine .inr (.inr (.inr (.inr (.inl ⟨_, _, _, hA, ?_⟩)))); ((conv=>whnf);repeat(refine .intro rfl ?_;conv=>whnf)))
          rw [emx]
          (refine .inl ⟨by (unfold InR; rw [IntKind.wrap_i64]; omega), ?_⟩; ((conv=>whnf);repeat(refine .intro rfl ?_;conv=>whnf)))
          (refine .inl ⟨by (unfold InR; rw [IntKind.wrap_i64]; omega), ?_⟩; ((conv=>whnf);repeat(refine .intro rfl ?_;conv=>whnf)))
          (refine ⟨by omega, (by first | omega | (simp; done) | (simp; omega) | (simp only [ll]; omega)), ?_⟩; ((conv=>whnf);repeat(refine .intro rfl ?_;conv=>whnf)))
          refine ⟨_, rbl_atN c2 (by omega) (by omega), ?_⟩
          ((conv=>whnf);repeat(refine .intro rfl ?_;conv=>whnf))
          rw [t3]
          have hol : o.length ≤ (rowC W A p.toNat).length := by rw [← hC5, List.length_append]; omega
          cases r : fitE W A (x, y)
          · rw [r, if_neg (by decide)] at hC5
            ((conv=>whnf);repeat(refine .intro rfl ?_;conv=>whnf))
            (refine .inl ⟨by (unfold InR; rw [IntKind.wrap_i64]; omega), ?_⟩; ((conv=>whnf);repeat(refine .intro rfl ?_;conv=>whnf)))
            refine ⟨(k + 1, (S2, Z2, lo2, hi2, ver2), R, o), ⟨by omega, t1, fun z hz => t2 _ (hfs z hz), fun z hz => t2 _ (hos z hz), hC5, Nat.le_trans t4 hmu⟩, by dsimp only; omega, ?_⟩
            exact leB_envH (by (repeat' (first | exact trivial | refine And.intro rfl ?_))) rfl
          · rw [r, if_pos rfl, show codesE A.next.length [(x, y)] = [(c2 : Int)] by unfold codesE; rw [List.map_singleton, hce]] at hC5
            rw [r] at t3
            have hcur := (t1.th.cur p3).1
            have hR2 := t1.th.len
            have hne : p.toNat ≠ R.length := by omega
            ((conv=>whnf);repeat(refine .intro rfl ?_;conv=>whnf))
            (refine ⟨by omega, (by first | omega | (simp; done) | (simp; omega) | (simp only [ll]; omega)), ?_⟩; ((conv=>whnf);repeat(refine .intro rfl ?_;conv=>whnf)))
            refine ⟨_, ogRows_at (i := p.toNat) (by omega) (by omega), ?_⟩
            ((conv=>whnf);repeat(refine .intro rfl ?_;conv=>whnf))
            rw [emx]
            (refine .inl ⟨by (unfold InR; rw [IntKind.wrap_i64]; omega), ?_⟩; ((conv=>whnf);repeat(refine .intro rfl ?_;conv=>whnf)))
            (refine .inl ⟨by (unfold InR; rw [IntKind.wrap_i64]; omega), ?_⟩; ((conv=>whnf);repeat(refine .intro rfl ?_;conv=>whnf)))
            rw [hcur]
            refine og_push ?_
            ((conv=>whnf);repeat(refine .intro rfl ?_;conv=>whnf))
            (repeat (first | (refine og_getE 0 rfl ?_; ((conv=>whnf);repeat(refine .intro rfl ?_;conv=>whnf))) | (refine og_putE 0 rfl ?_; ((conv=>whnf);repeat(refine .intro rfl ?_;conv=>whnf))) | (refine og_getE 1 rfl ?_; ((conv=>whnf);repeat(refine .intro rfl ?_;conv=>whnf))) | (refine og_putE 1 rfl ?_; ((conv=>whnf);repeat(refine .intro rfl ?_;conv=>whnf)))))
            refine og_getT (by omega) ?_
            ((conv=>whnf);repeat(refine .intro rfl ?_;conv=>whnf))
            rw [hcur]
            ((conv=>whnf);repeat(refine .intro rfl ?_;conv=>whnf))
            refine ⟨by unfold sliceAppend; simp only [List.length_drop, List.length_take, List.length_cons, List.length_nil]; omega, ?_⟩
            ((conv=>whnf);repeat(refine .intro rfl ?_;conv=>whnf))
            refine og_putT (o ++ [((xm : Nat) : Int) + y]) (by omega) ?_ ?_
            · exact og_app
            ((conv=>whnf);repeat(refine .intro rfl ?_;conv=>whnf))
            (refine ⟨by omega, (by first | omega | (simp; done) | (simp; omega) | (simp only [ll]; omega)), ?_⟩; ((conv=>whnf);repeat(refine .intro rfl ?_;conv=>whnf)))
            refine ⟨_, ogRows_at (i := p.toNat) (by omega) (by omega), ?_⟩
            ((conv=>whnf);repeat(refine .intro rfl ?_;conv=>whnf))
            (refine .inl ⟨by (unfold InR; rw [IntKind.wrap_i64]; omega), ?_⟩; ((conv=>whnf);repeat(refine .intro rfl ?_;conv=>whnf)))
            have hQ2 : QI W A (S2, Z2, lo2, hi2, ver2) (R.set p.toNat (o ++ [(c2 : Int)])) p.toNat (o ++ [(c2 : Int)]) := ⟨t1.th.put p3 _, t1.lo, t1.hi, t1.len, t1.fit⟩
            refine ⟨(k + 1, (S2, Z2, lo2, hi2, ver2), R.set p.toNat (o ++ [(c2 : Int)]), o ++ [(c2 : Int)]), ⟨by omega, hQ2, fun z hz => t2 _ (hfs z hz), fun z hz => ?_, by rw [List.append_assoc]; exact hC5, Nat.le_trans t4 hmu⟩, by dsimp only; omega, ?_⟩
            · rcases List.mem_append.1 hz with q | q
              · exact t2 _ (hos z q)
              · rw [List.mem_singleton] at q; subst q; rw [Int.toNat_natCast]; exact t3
            · dsimp only
              rw [show ((xm : Nat) : Int) + y = (c2 : Int) by omega]
              refine leB_close (R.length + 10) (by simp; omega) (by simp) (by (repeat' (first | exact trivial | exact rfl | exact DeepM.refl _ | exact DeepML.refl _ | exact DeepMLL.refl _ | refine And.intro ?_ ?_ | (simp [Under, UnderL, UnderLL, -List.map_take, -List.map_drop]; done)))) ⟨⟨rfl, .refl _, underL_pure _ hpW⟩, ⟨rfl, .refl _, underL_pure _ hpA⟩, ⟨rfl, .refl _, by simp [UnderL, Under]⟩, ⟨rfl, .refl _, by simp [UnderL, Under]⟩, ⟨rfl, rfl, rfl, deepMLL_eq ?_, underLL_ogRows (by simp; omega)⟩, ⟨rfl, rfl, rfl, .refl _, underLL_pure _ (pure_rbl _ _)⟩, ⟨rfl, .refl _, by simp [UnderL, Under]⟩, ⟨rfl, .refl _, by simp [UnderL, Under]⟩, ⟨rfl, rfl, rfl, .refl _, underLL_pure _ (pure_i64s' _)⟩, ⟨rfl, rfl, rfl, .refl _, underLL_pure _ (pure_i64s' _)⟩, closeH_og under_ncell⟩
              exact ogRows_set (by omega) (by omega) (o ++ [(c2 : Int)]) (by simp)
        · have q5 : k = (A.next.getD v []).length := by have : ¬ k < (A.next.getD v []).length := by ((try simp only[oo,reduceCtorEq]at*)<;>omega)
                                                        omega
          subst q5
          rw [List.drop_length] at hC5
          (refine .inl ⟨by (unfold InR; rw [IntKind.wrap_i64]; omega), ?_⟩; ((conv=>whnf);repeat(refine .intro rfl ?_;conv=>whnf)))
          refine ⟨(i + 1, (S, Z, lo, hi, ver), R, o), ⟨by omega, hQ, hfs, hos, hC5, hmu⟩, by dsimp only; omega, ?_⟩
          exact leB_envH (by (repeat' (first | exact trivial | refine And.intro rfl ?_))) rfl
      · have q4 : i = (W.next.getD u []).length := by have : ¬ i < (W.next.getD u []).length := by ((try simp only[oo,reduceCtorEq]at*)<;>omega)
                                                      omega
        subst q4
        rw [List.drop_length, show codesE A.next.length (crossE W A [] (A.next.getD v [])) = [] from rfl, List.append_nil] at hC4
        have hQ3 : QI W A (S, Z, lo, hi, ver) R (W.next.length * A.next.length) [] := by
          subst hC4
          exact ⟨hQ.th.fin p3 hos, hQ.lo, hQ.hi, hQ.len, hQ.fit⟩
        refine ⟨((S, Z, lo, hi, ver), R), ⟨hQ3, hfs⟩, by dsimp only; omega, ?_⟩
        exact leB_envH (by (repeat' (first | exact trivial | refine And.intro rfl ?_))) rfl
    · have q0 : lo = hi := by have : ¬ lo < hi := by ((try simp only[oo,reduceCtorEq]at*)<;>omega)
                              omega
      subst q0
      have hl : TQ.lst (S, Z, lo, lo, ver) = [] := by
        unfold TQ.lst
        dsimp only
        rw [List.drop_eq_nil_of_le (by rw [List.length_take]; omega)]
      refine ⟨((S, Z, lo, lo, ver), R), ⟨hQ, hl, hfs⟩, leB_close 10 (by simp) rfl (by (repeat' (first | exact trivial | exact rfl | exact DeepM.refl _ | exact DeepML.refl _ | exact DeepMLL.refl _ | refine And.intro ?_ ?_ | (simp [Under, UnderL, UnderLL, -List.map_take, -List.map_drop]; done)))) ⟨⟨rfl, .refl _, underL_pure _ hpW⟩, ⟨rfl, .refl _, underL_pure _ hpA⟩, ⟨rfl, .refl _, by simp [UnderL, Under]⟩, ⟨rfl, .refl _, by simp [UnderL, Under]⟩, ⟨rfl, rfl, rfl, deepM_ogRows (c := ncell) (fun i hi => by simp [fromN]) (fun i hi => ?_), underLL_pure _ (pure_growsI _)⟩, ⟨rfl, rfl, rfl, .refl _, underLL_pure _ (pure_rbl _ _)⟩, ⟨rfl, .refl _, by simp [UnderL, Under]⟩, ⟨rfl, .refl _, by simp [UnderL, Under]⟩, ⟨rfl, rfl, rfl, .refl _, underLL_pure _ (pure_i64s' _)⟩, ⟨rfl, rfl, rfl, .refl _, underLL_pure _ (pure_i64s' _)⟩, closeH_nil _⟩⟩
      show (ogObjs 1 ncell R)[i]? = _
      exact ogObjs_at hi
  rintro ⟨q, R⟩ ⟨hQ, hql, hfs⟩
  have hA := hans q R hQ hql (hst0 q hfs)
  have hRl := hQ.th.len
  have hT := hQ.th
  rw [hql] at hT
  obtain ⟨hin, hFR⟩ := (hT.inR hb).resolve_right (by omega)
  have hB1 := fun k (hk : k < W.fair.length) F hF => em_both_at (W := W) (A := A) hNM 65 (fun c => c / A.next.length) W.next.length (by omega) (fun c hc => em_quo A.next.length hm c (by omega)) (fun c hc => Nat.div_lt_of_lt_mul (by rw [Nat.mul_comm]; exact hc)) (W.fair.getD k []) (row_leE hWA.fw.fairEach k) (inB_row w6 k) F hF q (growsI R) f
  have hB2 := fun k (hk : k < A.fair.length) F hF => em_both_at (W := W) (A := A) hNM 66 (fun c => c % A.next.length) A.next.length (by omega) (fun c hc => em_rem A.next.length hm c (by omega)) (fun c hc => Nat.mod_lt _ hm) (A.fair.getD k []) (row_leE hWA.fa.fairEach k) (inB_row a7 k) F hF q (growsI R) f
  unfold hd10 at hB1 hB2 ⊢
  unfold WorldD.cells AutoD.cells at hB1 hB2 ⊢
  ((conv=>whnf);repeat(refine .intro rfl ?_;conv=>whnf))
  refine pwp_ghostB (leB_nilc 10 0 1 (by simp) rfl rfl) ?_
  generalize hF1 : mapT (fun l c => setB l (c / A.next.length)) W.fair = F1
  refine pwp_forH [2, 3, 5, 6, 7, 11, 19, 20] (fun k : Nat => [(21, .sc (.int .i64 k))]) (fun k => hd10 W A q (growsI R) f ++ [.row true [.own 11 (F1 k).length 0 (F1 k).length], .vec true (F1 k).length 1 (brows (W.next.length * A.next.length) (F1 k))]) (fun k => k ≤ W.fair.length) (fun k => W.fair.length - k) 0 ?_
  ((conv=>whnf);repeat(refine .intro rfl ?_;conv=>whnf))
  refine ⟨by omega, by (repeat' (first | exact trivial | refine And.intro rfl ?_)), by rw [← hF1]; rfl, ?_⟩
  rintro k hk
  have eL : (F1 k).length = k := by rw [← hF1]; exact mapT_len hk
  unfold hd10
  ((conv=>whnf);repeat(refine .intro rfl ?_;conv=>whnf))
  (apply rd_sound; focus (repeat' constructor))
  ((conv=>whnf);repeat(refine .intro rfl ?_;conv=>whnf))
  rw [List.length_map]
  (refine ifK_split (fun q0 => ?_) (fun q0 => ?_) <;> (rw [q0]; ((conv=>whnf);repeat(refine .intro rfl ?_;conv=>whnf))))
  · have q0 : k < W.fair.length := by ((try simp only[oo,reduceCtorEq]at*)<;>omega)
    have hB := hB1 k q0 (F1 k) (by omega)
    have eS : F1 (k + 1) = F1 k ++ [fun c => setB (W.fair.getD k []) (c / A.next.length)] := by rw [← hF1]; exact mapT_succ q0
    have eL2 : (F1 (k + 1)).length = (F1 k).length + 1 := by rw [eS, List.length_append]; rfl
    rw [← eS] at hB
    refine ⟨by omega, _, gridD_at (g := W.fair) (k := k) (by omega) q0, ?_⟩
    ((conv=>whnf);repeat(refine .intro rfl ?_;conv=>whnf))
    (refine .inr (.inr (.inr (.inr (.inl ⟨_, _, _, hB, ?_⟩)))); ((conv=>whnf);repeat(refine .intro rfl ?_;conv=>whnf)))
    (refine .inl ⟨by (unfold InR; rw [IntKind.wrap_i64]; omega), ?_⟩; ((conv=>whnf);repeat(refine .intro rfl ?_;conv=>whnf)))
    refine ⟨k + 1, by omega, by dsimp only; omega, ?_⟩
    dsimp only
    rw [eL2]
    exact leB_envH (by (repeat' (first | exact trivial | refine And.intro rfl ?_))) rfl
  have q0 : k = W.fair.length := by have : ¬ k < W.fair.length := by ((try simp only[oo,reduceCtorEq]at*)<;>omega)
                                    omega
  subst q0
  generalize hG1 : F1 W.fair.length = G1 at *
  generalize hF2 : (fun k => G1 ++ mapT (fun l c => setB l (c % A.next.length)) A.fair k) = F2
  refine pwp_forH [3, 6, 7, 11, 19, 20] (fun k : Nat => [(22, .sc (.int .i64 k))]) (fun k => hd10 W A q (growsI R) f ++ [.row true [.own 11 (F2 k).length 0 (F2 k).length], .vec true (F2 k).length 1 (brows (W.next.length * A.next.length) (F2 k))]) (fun k => k ≤ A.fair.length) (fun k => A.fair.length - k) 0 ?_
  ((conv=>whnf);repeat(refine .intro rfl ?_;conv=>whnf))
  refine ⟨by omega, by (repeat' (first | exact trivial | refine And.intro rfl ?_)), by rw [← hF2]; simp [mapT, hG1]; rfl, ?_⟩
  rintro k hk
  have eL' : (F2 k).length = W.fair.length + k := by rw [← hF2]; dsimp only; rw [List.length_append, eL, mapT_len hk]
  unfold hd10
  ((conv=>whnf);repeat(refine .intro rfl ?_;conv=>whnf))
  (apply rd_sound; focus (repeat' constructor))
  ((conv=>whnf);repeat(refine .intro rfl ?_;conv=>whnf))
  rw [List.length_map]
  (refine ifK_split (fun q0 => ?_) (fun q0 => ?_) <;> (rw [q0]; ((conv=>whnf);repeat(refine .intro rfl ?_;conv=>whnf))))
  · have q0 : k < A.fair.length := by ((try simp only[oo,reduceCtorEq]at*)<;>omega)
    have hB := hB2 k q0 (F2 k) (by omega)
    have eS : F2 (k + 1) = F2 k ++ [fun c => setB (A.fair.getD k []) (c % A.next.length)] := by rw [← hF2]; dsimp only; rw [mapT_succ q0, List.append_assoc]
    have eL2 : (F2 (k + 1)).length = (F2 k).length + 1 := by rw [eS, List.length_append]; rfl
    rw [← eS] at hB
    refine ⟨by omega, _, gridD_at (g := A.fair) (k := k) (by omega) q0, ?_⟩
    ((conv=>whnf);repeat(refine .intro rfl ?_;conv=>whnf))
    (refine .inr (.inr (.inr (.inr (.inl ⟨_, _, _, hB, ?_⟩)))); ((conv=>whnf);repeat(refine .intro rfl ?_;conv=>whnf)))
    (refine .inl ⟨by (unfold InR; rw [IntKind.wrap_i64]; omega), ?_⟩; ((conv=>whnf);repeat(refine .intro rfl ?_;conv=>whnf)))
    refine ⟨k + 1, by omega, by dsimp only; omega, ?_⟩
    dsimp only
    rw [eL2]
    exact leB_envH (by (repeat' (first | exact trivial | refine And.intro rfl ?_))) rfl
  have q0 : k = A.fair.length := by have : ¬ k < A.fair.length := by ((try simp only[oo,reduceCtorEq]at*)<;>omega)
                                    omega
  subst q0
  have hset : F2 A.fair.length = setsR W A := by
    rw [← hF2]
    dsimp only
    rw [← hG1, ← hF1]
    unfold mapT setsR
    rw [List.take_length, List.take_length]
  rw [hset] at eL' ⊢
  have hWa := ref_WaysG R (by omega) hin hFR (setsR W A) (by omega)
  rw [hRl] at hWa
  have hdl : dbls (W.next.length * A.next.length) (setsR W A) = D.lst 1 (List.drop 0 (List.take (setsR W A).length (brows (W.next.length * A.next.length) (setsR W A)))) := by rw [drop_take_all (by simp)]; rfl
  have hgl : dgrid R = D.lst 1 (List.drop 0 (List.take (W.next.length * A.next.length) (growsI R))) := by rw [drop_take_all (by simp; omega)]; rfl
  rw [hdl, hgl] at hWa
  (refine .inr (.inr (.inr (.inr (.inr (.inl ⟨rfl, _, _, (by (repeat' (first | exact Deep.refl _ | exact Deep.none _ | exact deep_row _ | exact DeepL.nil | exact DeepLL.nil | refine Deep.agg _ _ ?_ | refine Deep.tup _ _ ?_ | refine Deep.own _ _ _ _ _ _ _ _ rfl ?_ | refine Deep.loc _ _ _ _ _ rfl ?_ | refine Deep.ifc _ _ _ ?_ | refine Deep.fn _ _ _ _ _ ?_ ?_ | refine DeepL.cons _ _ _ _ ?_ ?_ | refine DeepLL.cons _ _ _ _ ?_ ?_ | exact deepLL_refl _))), hWa, ?_⟩))))); ((conv=>whnf);repeat(refine .intro rfl ?_;conv=>whnf)))
  refine pwp_for [11, 23] (fun k : Nat => [(24, .sc (.int .i64 k))]) (fun k => []) (fun k => k ≤ f.length ∧ ∀ i, i < k → fwB R (setsR W A) (f.getD i 0).toNat = false) (fun k => f.length - k) 0 ?_
  ((conv=>whnf);repeat(refine .intro rfl ?_;conv=>whnf))
  refine ⟨⟨by omega, fun i hi => by omega⟩, by (repeat' (first | exact trivial | refine And.intro rfl ?_)), rfl, ?_⟩
  rintro k ⟨hk, hno⟩
  ((conv=>whnf);repeat(refine .intro rfl ?_;conv=>whnf))
  (apply rd_sound; focus (repeat' constructor))
  ((conv=>whnf);repeat(refine .intro rfl ?_;conv=>whnf))
  (refine ifK_split (fun q0 => ?_) (fun q0 => ?_) <;> (rw [q0]; ((conv=>whnf);repeat(refine .intro rfl ?_;conv=>whnf))))
  · have q0 : k < f.length := by ((try simp only[oo,reduceCtorEq]at*)<;>omega)
    have hxm := mem_getD q0
    have hx := hF0i _ hxm
    have hn2 := fun i hi => hno i hi
    (refine ⟨by omega, (by first | omega | (simp; done) | (simp; omega) | (simp only [ll]; omega)), ?_⟩; ((conv=>whnf);repeat(refine .intro rfl ?_;conv=>whnf)))
    refine ⟨_, intsD_at (l := f) (k := k) (by omega) q0, ?_⟩
    ((conv=>whnf);repeat(refine .intro rfl ?_;conv=>whnf))
    generalize hxe : f.getD k 0 = x at *
    refine ⟨by omega, _, rbl_atN x.toNat (by omega) (by omega), ?_⟩
    ((conv=>whnf);repeat(refine .intro rfl ?_;conv=>whnf))
    cases r : fwB R (setsR W A) x.toNat
    · ((conv=>whnf);repeat(refine .intro rfl ?_;conv=>whnf))
      (refine .inl ⟨by (unfold InR; rw [IntKind.wrap_i64]; omega), ?_⟩; ((conv=>whnf);repeat(refine .intro rfl ?_;conv=>whnf)))
      refine ⟨k + 1, ⟨by omega, fun i hi => ?_⟩, by dsimp only; omega, leB_envH (by (repeat' (first | exact trivial | refine And.intro rfl ?_))) rfl⟩
      by_cases e : i = k
      · subst e; rw [hxe]; exact r
      · exact hno i (by omega)
    · ((conv=>whnf);repeat(refine .intro rfl ?_;conv=>whnf))
      exact deep_eq (by rw [hA.2 ⟨x, hxm, fwB_iff.1 r⟩])
  · have q0 : k = f.length := by have : ¬ k < f.length := by ((try simp only[oo,reduceCtorEq]at*)<;>omega)
                                 omega
    subst q0
    refine deep_eq ?_
    cases ha : ans
    · rfl
    · exfalso
      obtain ⟨x, hx, hFw⟩ := hA.1 ha
      obtain ⟨i, hi, rfl⟩ := List.mem_iff_getElem.1 hx
      have := hno i hi
      rw [List.getD_eq_getElem?_getD, List.getElem?_eq_getElem hi, Option.getD_some, fwB_iff.2 hFw] at this
      cases this
end

end Go.Proofs.Ytfaekhadjlgbbaa
