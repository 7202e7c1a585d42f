/-
  Rp0 Rp1 Rp2 Rp3 joined. No statement is proved here.
-/
import Derived.Test.YtjnfahdolkgnoaaRyA
import Derived.Test.YtjnfahdolkgnoaaLt
import Derived.Test.YtjnfahdolkgnoaaGl
import Derived.Test.YtjnfahdolkgnoaaLhA
import Derived.Test.YtjnfahdolkgnoaaLr
import Derived.Test.YtjnfahdolkgnoaaRl
namespace Go.Proofs.Ytjnfahdolkgnoaa
/-! ### XRp0 -/
section
/-! ### Truths along a word, by rounds -/
/-- What a formula is at a place, if it is so at the next one. -/
def atF (k num x : Int) (a b c later : Bool) : Bool :=
  if k = 1 then true else if k = 3 then bitB x num else if k = 4 then !a else if k = 5 then a && b else if k = 6 then a || b else if k = 7 then c
  else if k = 10 then a || later else if k = 11 then a && later else if k = 8 then b || (a && later) else if k = 9 then b && (a || later) else false
/-- One round from behind. -/
def rg (st : Nat → Bool → Bool) (e : Bool) : Nat → Nat → Bool
  | _, 0 => e
  | j, f + 1 => st j (rg st e (j + 1) f)
/-- What stands after so many rounds. -/
def oldg (n s : Nat) (st : Nat → Bool → Bool) (g0 : Bool) : Nat → Nat → Bool
  | 0 => fun _ => g0
  | r + 1 => fun i => rg st (oldg n s st g0 r s) i (n - i)
theorem rg_rr {st : Nat → Bool → Bool} {a b : Nat → Bool} (h : ∀ i q, st i q = (b i || (a i && q))) (e : Bool) : ∀ f j, rg st e j f = rr a b e j f
  | 0, _ => rfl
  | f + 1, j => by simp only [rg, rr]; rw [h, rg_rr h e f (j + 1)]
theorem rg_not {st : Nat → Bool → Bool} {a b : Nat → Bool} (h : ∀ i q, st i q = !(b i || (a i && !q))) (e : Bool) : ∀ f j, rg st e j f = !(rr a b (!e) j f)
  | 0, _ => by simp [rg, rr]
  | f + 1, j => by simp only [rg, rr]; rw [h, rg_not h e f (j + 1), Bool.not_not]
theorem rg_flat {st : Nat → Bool → Bool} {v : Nat → Bool} (h : ∀ i q, st i q = v i) (e : Bool) {f j : Nat} (hf : 1 ≤ f) : rg st e j f = v j := by
  obtain ⟨f, rfl⟩ : ∃ k, f = k + 1 := ⟨f - 1, by omega⟩
  simp only [rg]
  rw [h]
theorem oldg_flat {n s : Nat} {st : Nat → Bool → Bool} {v : Nat → Bool} (h : ∀ i q, st i q = v i) {g0 : Bool} {i : Nat} (hi : i < n) : oldg n s st g0 2 i = v i := by
  simp only [oldg]
  exact rg_flat h _ (by omega)
theorem oldg_until {n m s : Nat} (hn : n = s + m) {st : Nat → Bool → Bool} {a b : Nat → Bool} (h : ∀ i q, st i q = (b i || (a i && q))) {i : Nat} (hi : i < n) : oldg n s st false 2 i = untilF n m a b i := by
  rw [until_rounds hn (by omega)]
  simp only [oldg]
  rw [rg_rr h, rg_rr h, show n - s = m by omega]
theorem oldg_release {n m s : Nat} (hn : n = s + m) {st : Nat → Bool → Bool} {a b : Nat → Bool} (h : ∀ i q, st i q = !(b i || (a i && !q))) {i : Nat} (hi : i < n) : oldg n s st true 2 i = !(untilF n m a b i) := by
  rw [until_rounds hn (by omega)]
  simp only [oldg]
  rw [rg_not h, rg_not h, show n - s = m by omega]
  simp
section
variable (s l : List Int)
/-- A formula's step at a place. -/
def stF (k num : Int) (a b : Nat → Bool) (i : Nat) (q : Bool) : Bool := atF k num (atW s l i) (a i) (b i) (a (wr (s.length + l.length) l.length (i + 1))) q
def upB (k : Int) : Bool := k == 9 || k == 11
theorem two_rounds (k num : Int) (a b : Nat → Bool) {i : Nat} (hi : i < s.length + l.length) : oldg (s.length + l.length) s.length (stF s l k num a b) (upB k) 2 i = trF s l k num a b i := by
  unfold trF
  by_cases h1 : k = 1
  · subst h1; rw [if_pos rfl]; exact oldg_flat (v := fun _ => true) (fun i q => rfl) hi
  rw [if_neg h1]
  by_cases h3 : k = 3
  · subst h3; rw [if_pos rfl]; exact oldg_flat (v := fun i => bitB (atW s l i) num) (fun i q => rfl) hi
  rw [if_neg h3]
  by_cases h4 : k = 4
  · subst h4; rw [if_pos rfl]; exact oldg_flat (v := fun i => !(a i)) (fun i q => rfl) hi
  rw [if_neg h4]
  by_cases h5 : k = 5
  · subst h5; rw [if_pos rfl]; exact oldg_flat (v := fun i => a i && b i) (fun i q => rfl) hi
  rw [if_neg h5]
  by_cases h6 : k = 6
  · subst h6; rw [if_pos rfl]; exact oldg_flat (v := fun i => a i || b i) (fun i q => rfl) hi
  rw [if_neg h6]
  by_cases h7 : k = 7
  · subst h7; rw [if_pos rfl]; exact oldg_flat (v := fun i => a (wr (s.length + l.length) l.length (i + 1))) (fun i q => rfl) hi
  rw [if_neg h7]
  by_cases h8 : k = 8
  · subst h8; rw [if_pos rfl]; exact oldg_until rfl (fun i q => rfl) hi
  rw [if_neg h8]
  by_cases h9 : k = 9
  · subst h9; rw [if_pos rfl]; exact oldg_release rfl (fun i q => by show (b i && (a i || q)) = _; cases b i <;> cases a i <;> cases q <;> rfl) hi
  rw [if_neg h9]
  by_cases h10 : k = 10
  · subst h10; rw [if_pos rfl]; exact oldg_until rfl (fun i q => by show (a i || q) = _; simp) hi
  rw [if_neg h10]
  by_cases h11 : k = 11
  · subst h11; rw [if_pos rfl]; exact oldg_release rfl (fun i q => by show (a i && q) = _; cases a i <;> cases q <;> rfl) hi
  rw [if_neg h11]
  refine oldg_flat (v := fun _ => false) (fun i q => ?_) hi
  unfold stF atF
  rw [if_neg h1, if_neg h3, if_neg h4, if_neg h5, if_neg h6, if_neg h7, if_neg h10, if_neg h11, if_neg h8, if_neg h9]
end
/-! ### Letters -/
/-- The letter of an element. -/
def lett1 (L : List StepD) (k : Int) : Int := if k < 0 then 9223372036854775808 else 2 ^ (L.getD k.toNat (0, 0, 0)).1.toNat
def lettL (L : List StepD) (l : List Int) : List Int := l.map (lett1 L)
@[simp] theorem lettL_len (L : List StepD) (l : List Int) : (lettL L l).length = l.length := by simp [lettL]
theorem lettL_lett {L : List StepD} {l : List Int} (h : ∀ k, (L.getD k (0, 0, 0)).1.toNat ≤ 63) : ∀ x ∈ lettL L l, 0 ≤ x ∧ x < 18446744073709551616 := by
  intro x hx
  unfold lettL at hx
  obtain ⟨k, _, rfl⟩ := List.mem_map.1 hx
  unfold lett1
  split
  · omega
  · have h1 := h k.toNat
    have h2 := pow_pos' (L.getD k.toNat (0, 0, 0)).1.toNat
    have h3 := pow_le h1
    have : (2 : Int) ^ 63 = 9223372036854775808 := by decide
    omega
/-! ### Fairness -/
/-- Counted up at some places. -/
def addTo (l : List Int) (g : Nat → Int) : Nat → Nat → Int
  | 0 => g
  | j + 1 => putA (addTo l g j) (l.getD j 0).toNat (addTo l g j (l.getD j 0).toNat + 1)
theorem addTo_le {l : List Int} {g : Nat → Int} {c : Int} (hg : ∀ k, 0 ≤ g k ∧ g k ≤ c) : ∀ j k, 0 ≤ addTo l g j k ∧ addTo l g j k ≤ c + j
  | 0, k => by have := hg k; simp only [addTo]; omega
  | j + 1, k => by
    have h1 := addTo_le (l := l) hg j k
    have h2 := addTo_le (l := l) hg j (l.getD j 0).toNat
    simp only [addTo]
    by_cases e : k = (l.getD j 0).toNat
    · rw [← e, putA_self]; rw [← e] at h2; omega
    · rw [putA_ne e]; omega
namespace ProcD
theorem addTo_may {P : ProcD} {M : List Int} {L : List StepD} {g : Nat → Int} {l : List Int} : ∀ n, (∀ j, j < (P.mayTo M L n).length → l.getD j 0 = (P.mayTo M L n).getD j 0) →
    ∀ k, addTo l g (P.mayTo M L n).length k = g k + if k < n ∧ P.mayB M (L.getD k (0, 0, 0)) = true then 1 else 0
  | 0, _, k => by simp [mayTo, addTo]
  | n + 1, h, k => by
    by_cases q : P.mayB M (L.getD n (0, 0, 0)) = true
    · have e : P.mayTo M L (n + 1) = P.mayTo M L n ++ [(n : Int)] := by simp only [mayTo]; rw [if_pos q]
      have ih := addTo_may (P := P) (M := M) (L := L) (g := g) (l := l) n fun j hj => by
        rw [h j (by rw [e]; simp; omega), e, List.getD_eq_getElem?_getD, List.getElem?_append_left hj, ← List.getD_eq_getElem?_getD]
      have hl : l.getD (P.mayTo M L n).length 0 = (n : Int) := by
        rw [h _ (by rw [e]; simp), e, List.getD_eq_getElem?_getD, List.getElem?_append_right (Nat.le_refl _), Nat.sub_self]
        rfl
      rw [e, List.length_append, List.length_singleton]
      simp only [addTo]
      rw [hl, Int.toNat_natCast]
      by_cases w : k = n
      · subst w
        rw [putA_self, ih, if_neg (by omega), if_pos ⟨by omega, q⟩]
        omega
      · rw [putA_ne w, ih]
        by_cases r : k < n ∧ P.mayB M (L.getD k (0, 0, 0)) = true
        · rw [if_pos r, if_pos ⟨by omega, r.2⟩]
        · rw [if_neg r, if_neg fun r' => r ⟨by omega, r'.2⟩]
    · have e : P.mayTo M L (n + 1) = P.mayTo M L n := by simp only [mayTo]; rw [if_neg q]
      rw [e] at h ⊢
      rw [addTo_may n h]
      by_cases r : k < n ∧ P.mayB M (L.getD k (0, 0, 0)) = true
      · rw [if_pos r, if_pos ⟨by omega, r.2⟩]
      · rw [if_neg r, if_neg]
        rintro ⟨r1, r2⟩
        by_cases w : k = n
        · subst w; exact q r2
        · exact r ⟨by omega, r2⟩
theorem mayTo_rng {P : ProcD} {M : List Int} {L : List StepD} : ∀ n, ∀ x ∈ P.mayTo M L n, 0 ≤ x ∧ x.toNat < n
  | 0, x, h => by simp [mayTo] at h
  | n + 1, x, h => by
    simp only [mayTo] at h
    split at h
    · rcases List.mem_append.1 h with h | h
      · have := mayTo_rng n x h; omega
      · rw [List.mem_singleton] at h; subst h; omega
    · have := mayTo_rng n x h; omega
/-- How often a step may be taken, in the first places of the loop. -/
noncomputable def cntTo (P : ProcD) (L : List StepD) (fr : Nat → List Int) : Nat → Nat → Int
  | 0 => fun _ => 0
  | i + 1 => fun k => P.cntTo L fr i k + if k < L.length ∧ P.mayB (fr i) (L.getD k (0, 0, 0)) = true then 1 else 0
theorem cntTo_le (P : ProcD) (L : List StepD) (fr : Nat → List Int) : ∀ i k, 0 ≤ P.cntTo L fr i k ∧ P.cntTo L fr i k ≤ i
  | 0, k => by simp [cntTo]
  | i + 1, k => by
    have := cntTo_le P L fr i k
    simp only [cntTo]
    split <;> omega
theorem cntTo_all {P : ProcD} {L : List StepD} {fr : Nat → List Int} {k : Nat} (hk : k < L.length) : ∀ i, P.cntTo L fr i k = i ↔ ∀ j, j < i → P.mayB (fr j) (L.getD k (0, 0, 0)) = true
  | 0 => by simp [cntTo]
  | i + 1 => by
    have h1 := cntTo_le P L fr i k
    have ih := cntTo_all (P := P) (fr := fr) hk i
    simp only [cntTo]
    by_cases q : P.mayB (fr i) (L.getD k (0, 0, 0)) = true
    · rw [if_pos ⟨hk, q⟩]
      constructor
      · intro h j hj
        by_cases e : j = i
        · subst e; exact q
        · exact ih.1 (by omega) j (by omega)
      · intro h
        have := ih.2 fun j hj => h j (by omega)
        omega
    · rw [if_neg fun r => q r.2]
      constructor
      · intro h; omega
      · intro h; exact absurd (h i (by omega)) q
open Classical in
/-- Is each step not enabled somewhere in the loop, or done? -/
noncomputable def fairB (P : ProcD) (L : List StepD) (loop : List Int) (fr : Nat → List Int) : Bool :=
  decide (∀ k : Nat, k < L.length → (k : Int) ∈ loop ∨ ∃ j, j < loop.length ∧ P.mayB (fr j) (L.getD k (0, 0, 0)) = false)
theorem fairB_no {P : ProcD} {L : List StepD} {loop : List Int} {fr : Nat → List Int} {k : Nat} (hk : k < L.length) (h1 : (k : Int) ∉ loop) (h2 : ∀ j, j < loop.length → P.mayB (fr j) (L.getD k (0, 0, 0)) = true) : P.fairB L loop fr = false := by
  unfold fairB
  refine decide_eq_false fun h => ?_
  rcases h k hk with q | ⟨j, hj, q⟩
  · exact h1 q
  · rw [h2 j hj] at q; cases q
theorem fairB_yes {P : ProcD} {L : List StepD} {loop : List Int} {fr : Nat → List Int} (h : ∀ k : Nat, k < L.length → (k : Int) ∈ loop ∨ ∃ j, j < loop.length ∧ P.mayB (fr j) (L.getD k (0, 0, 0)) = false) : P.fairB L loop fr = true := by
  unfold fairB
  exact decide_eq_true h
end ProcD
end

/-! ### XRp1 -/
section
open Go.RowKit
set_option linter.unusedSimpArgs false
set_option linter.unusedVariables false
theorem atW_app {s l : List Int} {i : Nat} (h : i < s.length + l.length) : (s ++ l).getD i 0 = atW s l i := by
  unfold atW
  split
  · rw [List.getD_eq_getElem?_getD, List.getElem?_append_left (by omega), ← List.getD_eq_getElem?_getD]
  · rw [List.getD_eq_getElem?_getD, List.getElem?_append_right (by omega), ← List.getD_eq_getElem?_getD, Nat.mod_eq_of_lt (by omega)]
@[simp] theorem under_dlet {m : Nat} (l : List Int) : Under m (dlet l) ↔ True := ⟨fun _ => trivial, fun _ => under_pure _ (pure_dlet l)⟩
def c78 : PC := .seq (.ops [⟨(some 4), .move (.const (.int .i64 0)), none, 0⟩] false) (.seq (.seq (.ops [⟨(some 5), .move (.tmp 0), none, 0⟩,
    ⟨(some 6), .bin .add (.tmp 5) (.const (.int .i64 1)), none, 0⟩,
    ⟨(some 7), .load1 (.tmp 1), none, 0⟩,
    ⟨(some 8), .bin .eql (.tmp 6) (.tmp 7), none, 0⟩] false) (.cond (.tmp 8) (.seq (.ops [⟨(some 9), .load1 (.tmp 2), none, 0⟩,
    ⟨(some 10), .len (.tmp 9), none, 0⟩,
    ⟨(some 4), .move (.tmp 10), none, 0⟩] false) (.ret)) (.skip))) (.seq (.ops [⟨(some 11), .move (.tmp 0), none, 0⟩,
    ⟨(some 12), .bin .add (.tmp 11) (.const (.int .i64 1)), none, 0⟩,
    ⟨(some 4), .move (.tmp 12), none, 0⟩] false) (.ret)))
set_option maxRecDepth 100000 in
theorem c78_ok : FunOK Try.prog 78 13 [.tmp 4] c78 := ⟨⟨Try.f78, Try.func78, rfl, by kernel_rfl, rfl, by kernel_rfl⟩⟩
theorem rep_next (s : List Int) (n m : Nat) (hn : n = s.length + m) (hm : 1 ≤ m) (h1 : n ≤ 60) (i : Nat) (hi : i < n) : PCall Try.prog 78 [.sc (.int .i64 i), .ipt [.sc (.int .i64 n)], .ipt [dlet s]] (.sc (.int .i64 (wr n m (i + 1) : Nat))) := by
  refine pcall_intro c78_ok (by simp) (by simp [PureL, Pure, pure_dlet]) ?_ (by simp [Pure])
  unfold dlet
  (apply red_sound; focus (repeat' (first | exact Red.skip | exact Red.ret | exact RedO.nil | exact RedD.nil | exact Red.exit _ | exact Red.loop _ | exact Red.stop _ | apply Red.ops | apply Red.draw | apply Red.seq | apply Red.cond | apply Red.block | apply RedO.cons | apply RedD.cons | exact (0 : Nat))))
  ((conv => whnf); repeat (refine And.intro rfl ?_; (conv => whnf)))
  (refine .inl ⟨by (unfold InR; rw [IntKind.wrap_i64]; omega), ?_⟩; ((conv => whnf); repeat (refine And.intro rfl ?_; (conv => whnf))))
  have fin : ∀ {H : List AObj} {z : Int}, z = (wr n m (i + 1) : Nat) → Deep H (.sc (.int .i64 z)) (.sc (.int .i64 (wr n m (i + 1) : Nat))) := fun h => h ▸ .refl _
  (refine ifK_split (fun g => ?_) (fun g => ?_) <;> (rw [g]; ((conv => whnf); repeat (refine And.intro rfl ?_; (conv => whnf)))))
  · rw [List.length_map]
    exact fin (by have : i + 1 = n := by ((try simp only [oo, reduceCtorEq] at *) <;> omega)
                  unfold wr; rw [if_neg (by omega)]; omega)
  · (refine .inl ⟨by (unfold InR; rw [IntKind.wrap_i64]; omega), ?_⟩; ((conv => whnf); repeat (refine And.intro rfl ?_; (conv => whnf))))
    exact fin (by have : ¬ i + 1 = n := by ((try simp only [oo, reduceCtorEq] at *) <;> omega)
                  unfold wr; rw [if_pos (by omega)]; omega)
def c79 : PC := .seq (.ops [⟨(some 6), .box (.tmp 0), none, 0⟩,
    ⟨(some 12), .move (.const (.bool false)), none, 0⟩] false) (.seq (.seq (.ops [⟨(some 13), .faddr 0 (.tmp 6), none, 0⟩,
    ⟨(some 14), .load1 (.tmp 13), none, 0⟩] false) (.block 0 (.seq (.ops [⟨(some 16), .bin .eql (.tmp 14) (.const (.int .i64 1)), none, 0⟩,
    ⟨(some 15), .move (.tmp 16), none, 0⟩] false) (.cond (.tmp 15) (.seq (.ops [⟨(some 12), .move (.const (.bool true)), none, 0⟩] false) (.ret)) (.seq (.ops [⟨(some 18), .bin .eql (.tmp 14) (.const (.int .i64 3)), none, 0⟩,
    ⟨(some 17), .move (.tmp 18), none, 0⟩] false) (.cond (.tmp 17) (.seq (.ops [⟨(some 19), .move (.tmp 3), none, 0⟩,
    ⟨(some 20), .faddr 1 (.tmp 6), none, 0⟩,
    ⟨(some 21), .load1 (.tmp 20), none, 0⟩,
    ⟨(some 22), .bin .shr (.tmp 19) (.tmp 21), none, 0⟩,
    ⟨(some 23), .bin .and (.tmp 22) (.const (.int .u64 1)), none, 0⟩,
    ⟨(some 24), .bin .eql (.tmp 23) (.const (.int .u64 1)), none, 0⟩,
    ⟨(some 12), .move (.tmp 24), none, 0⟩] false) (.ret)) (.seq (.ops [⟨(some 26), .bin .eql (.tmp 14) (.const (.int .i64 4)), none, 0⟩,
    ⟨(some 25), .move (.tmp 26), none, 0⟩] false) (.cond (.tmp 25) (.seq (.ops [⟨(some 27), .move (.tmp 1), none, 0⟩,
    ⟨(some 28), .iaddr 1 (.tmp 27) (.const (.int .i64 0)), none, 0⟩,
    ⟨(some 29), .load1 (.tmp 28), none, 0⟩,
    ⟨(some 30), .move (.tmp 2), none, 0⟩,
    ⟨(some 31), .iaddr 1 (.tmp 29) (.tmp 30), none, 0⟩,
    ⟨(some 32), .load1 (.tmp 31), none, 0⟩,
    ⟨(some 33), .un .not (.tmp 32), none, 0⟩,
    ⟨(some 12), .move (.tmp 33), none, 0⟩] false) (.ret)) (.seq (.ops [⟨(some 35), .bin .eql (.tmp 14) (.const (.int .i64 5)), none, 0⟩,
    ⟨(some 34), .move (.tmp 35), none, 0⟩] false) (.cond (.tmp 34) (.seq (.ops [⟨(some 36), .move (.tmp 1), none, 0⟩,
    ⟨(some 37), .iaddr 1 (.tmp 36) (.const (.int .i64 0)), none, 0⟩,
    ⟨(some 38), .load1 (.tmp 37), none, 0⟩,
    ⟨(some 39), .move (.tmp 2), none, 0⟩,
    ⟨(some 40), .iaddr 1 (.tmp 38) (.tmp 39), none, 0⟩,
    ⟨(some 41), .load1 (.tmp 40), none, 0⟩,
    ⟨(some 42), .move (.tmp 41), none, 0⟩,
    ⟨(some 43), .move (.tmp 1), (some (42, true)), 0⟩,
    ⟨(some 44), .iaddr 1 (.tmp 43) (.const (.int .i64 1)), (some (42, true)), 0⟩,
    ⟨(some 45), .load1 (.tmp 44), (some (42, true)), 0⟩,
    ⟨(some 46), .move (.tmp 2), (some (42, true)), 0⟩,
    ⟨(some 47), .iaddr 1 (.tmp 45) (.tmp 46), (some (42, true)), 0⟩,
    ⟨(some 48), .load1 (.tmp 47), (some (42, true)), 0⟩,
    ⟨(some 49), .pick (.tmp 42) (.tmp 48) (.const (.bool false)), none, 0⟩,
    ⟨(some 12), .move (.tmp 49), none, 0⟩] false) (.ret)) (.seq (.ops [⟨(some 51), .bin .eql (.tmp 14) (.const (.int .i64 6)), none, 0⟩,
    ⟨(some 50), .move (.tmp 51), none, 0⟩] false) (.cond (.tmp 50) (.seq (.ops [⟨(some 52), .move (.tmp 1), none, 0⟩,
    ⟨(some 53), .iaddr 1 (.tmp 52) (.const (.int .i64 0)), none, 0⟩,
    ⟨(some 54), .load1 (.tmp 53), none, 0⟩,
    ⟨(some 55), .move (.tmp 2), none, 0⟩,
    ⟨(some 56), .iaddr 1 (.tmp 54) (.tmp 55), none, 0⟩,
    ⟨(some 57), .load1 (.tmp 56), none, 0⟩,
    ⟨(some 58), .move (.tmp 57), none, 0⟩,
    ⟨(some 59), .move (.tmp 1), (some (58, false)), 0⟩,
    ⟨(some 60), .iaddr 1 (.tmp 59) (.const (.int .i64 1)), (some (58, false)), 0⟩,
    ⟨(some 61), .load1 (.tmp 60), (some (58, false)), 0⟩,
    ⟨(some 62), .move (.tmp 2), (some (58, false)), 0⟩,
    ⟨(some 63), .iaddr 1 (.tmp 61) (.tmp 62), (some (58, false)), 0⟩,
    ⟨(some 64), .load1 (.tmp 63), (some (58, false)), 0⟩,
    ⟨(some 65), .pick (.tmp 58) (.const (.bool true)) (.tmp 64), none, 0⟩,
    ⟨(some 12), .move (.tmp 65), none, 0⟩] false) (.ret)) (.seq (.ops [⟨(some 67), .bin .eql (.tmp 14) (.const (.int .i64 7)), none, 0⟩,
    ⟨(some 66), .move (.tmp 67), none, 0⟩] false) (.cond (.tmp 66) (.seq (.ops [⟨(some 68), .move (.tmp 1), none, 0⟩,
    ⟨(some 69), .iaddr 1 (.tmp 68) (.const (.int .i64 0)), none, 0⟩,
    ⟨(some 70), .load1 (.tmp 69), none, 0⟩,
    ⟨(some 71), .move (.tmp 5), none, 0⟩,
    ⟨(some 72), .iaddr 1 (.tmp 70) (.tmp 71), none, 0⟩,
    ⟨(some 73), .load1 (.tmp 72), none, 0⟩,
    ⟨(some 12), .move (.tmp 73), none, 0⟩] false) (.ret)) (.seq (.ops [⟨(some 75), .bin .eql (.tmp 14) (.const (.int .i64 10)), none, 0⟩,
    ⟨(some 74), .move (.tmp 75), none, 0⟩] false) (.cond (.tmp 74) (.seq (.ops [⟨(some 76), .move (.tmp 1), none, 0⟩,
    ⟨(some 77), .iaddr 1 (.tmp 76) (.const (.int .i64 0)), none, 0⟩,
    ⟨(some 78), .load1 (.tmp 77), none, 0⟩,
    ⟨(some 79), .move (.tmp 2), none, 0⟩,
    ⟨(some 80), .iaddr 1 (.tmp 78) (.tmp 79), none, 0⟩,
    ⟨(some 81), .load1 (.tmp 80), none, 0⟩,
    ⟨(some 82), .move (.tmp 81), none, 0⟩,
    ⟨(some 83), .move (.tmp 4), (some (82, false)), 0⟩,
    ⟨(some 84), .pick (.tmp 82) (.const (.bool true)) (.tmp 83), none, 0⟩,
    ⟨(some 12), .move (.tmp 84), none, 0⟩] false) (.ret)) (.seq (.ops [⟨(some 86), .bin .eql (.tmp 14) (.const (.int .i64 11)), none, 0⟩,
    ⟨(some 85), .move (.tmp 86), none, 0⟩] false) (.cond (.tmp 85) (.seq (.ops [⟨(some 87), .move (.tmp 1), none, 0⟩,
    ⟨(some 88), .iaddr 1 (.tmp 87) (.const (.int .i64 0)), none, 0⟩,
    ⟨(some 89), .load1 (.tmp 88), none, 0⟩,
    ⟨(some 90), .move (.tmp 2), none, 0⟩,
    ⟨(some 91), .iaddr 1 (.tmp 89) (.tmp 90), none, 0⟩,
    ⟨(some 92), .load1 (.tmp 91), none, 0⟩,
    ⟨(some 93), .move (.tmp 92), none, 0⟩,
    ⟨(some 94), .move (.tmp 4), (some (93, true)), 0⟩,
    ⟨(some 95), .pick (.tmp 93) (.tmp 94) (.const (.bool false)), none, 0⟩,
    ⟨(some 12), .move (.tmp 95), none, 0⟩] false) (.ret)) (.seq (.ops [⟨(some 97), .bin .eql (.tmp 14) (.const (.int .i64 8)), none, 0⟩,
    ⟨(some 96), .move (.tmp 97), none, 0⟩] false) (.cond (.tmp 96) (.seq (.ops [⟨(some 98), .move (.tmp 1), none, 0⟩,
    ⟨(some 99), .iaddr 1 (.tmp 98) (.const (.int .i64 1)), none, 0⟩,
    ⟨(some 100), .load1 (.tmp 99), none, 0⟩,
    ⟨(some 101), .move (.tmp 2), none, 0⟩,
    ⟨(some 102), .iaddr 1 (.tmp 100) (.tmp 101), none, 0⟩,
    ⟨(some 103), .load1 (.tmp 102), none, 0⟩,
    ⟨(some 104), .move (.tmp 103), none, 0⟩,
    ⟨(some 105), .move (.tmp 1), (some (104, false)), 0⟩,
    ⟨(some 106), .iaddr 1 (.tmp 105) (.const (.int .i64 0)), (some (104, false)), 0⟩,
    ⟨(some 107), .load1 (.tmp 106), (some (104, false)), 0⟩,
    ⟨(some 108), .move (.tmp 2), (some (104, false)), 0⟩,
    ⟨(some 109), .iaddr 1 (.tmp 107) (.tmp 108), (some (104, false)), 0⟩,
    ⟨(some 110), .load1 (.tmp 109), (some (104, false)), 0⟩,
    ⟨(some 111), .move (.tmp 110), (some (104, false)), 0⟩,
    ⟨(some 112), .move (.tmp 4), (some (111, true)), 0⟩,
    ⟨(some 113), .pick (.tmp 111) (.tmp 112) (.const (.bool false)), (some (104, false)), 0⟩,
    ⟨(some 114), .pick (.tmp 104) (.const (.bool true)) (.tmp 113), none, 0⟩,
    ⟨(some 12), .move (.tmp 114), none, 0⟩] false) (.ret)) (.seq (.ops [⟨(some 116), .bin .eql (.tmp 14) (.const (.int .i64 9)), none, 0⟩,
    ⟨(some 115), .move (.tmp 116), none, 0⟩] false) (.cond (.tmp 115) (.seq (.ops [⟨(some 117), .move (.tmp 1), none, 0⟩,
    ⟨(some 118), .iaddr 1 (.tmp 117) (.const (.int .i64 1)), none, 0⟩,
    ⟨(some 119), .load1 (.tmp 118), none, 0⟩,
    ⟨(some 120), .move (.tmp 2), none, 0⟩,
    ⟨(some 121), .iaddr 1 (.tmp 119) (.tmp 120), none, 0⟩,
    ⟨(some 122), .load1 (.tmp 121), none, 0⟩,
    ⟨(some 123), .move (.tmp 122), none, 0⟩,
    ⟨(some 124), .move (.tmp 1), (some (123, true)), 0⟩,
    ⟨(some 125), .iaddr 1 (.tmp 124) (.const (.int .i64 0)), (some (123, true)), 0⟩,
    ⟨(some 126), .load1 (.tmp 125), (some (123, true)), 0⟩,
    ⟨(some 127), .move (.tmp 2), (some (123, true)), 0⟩,
    ⟨(some 128), .iaddr 1 (.tmp 126) (.tmp 127), (some (123, true)), 0⟩,
    ⟨(some 129), .load1 (.tmp 128), (some (123, true)), 0⟩,
    ⟨(some 130), .move (.tmp 129), (some (123, true)), 0⟩,
    ⟨(some 131), .move (.tmp 4), (some (130, false)), 0⟩,
    ⟨(some 132), .pick (.tmp 130) (.const (.bool true)) (.tmp 131), (some (123, true)), 0⟩,
    ⟨(some 133), .pick (.tmp 123) (.tmp 132) (.const (.bool false)), none, 0⟩,
    ⟨(some 12), .move (.tmp 133), none, 0⟩] false) (.ret)) (.skip))))))))))))))))))))))) (.seq (.ops [⟨(some 12), .move (.const (.bool false)), none, 0⟩] false) (.ret)))
set_option maxRecDepth 100000 in
theorem c79_ok : FunOK Try.prog 79 134 [.tmp 12] c79 := ⟨⟨Try.f79, Try.func79, rfl, by kernel_rfl, rfl, by kernel_rfl⟩⟩
theorem rep_at (s l : List Int) (hw : s.length + l.length ≤ 60 ∧ 1 ≤ l.length) (hls : Lett s) (hll : Lett l) (t : Tree) (hwf : t.wf lKids) (n : Nat) (hn : n = s.length + l.length) (i : Nat) (hi : i < n) (q : Bool) :
    PCall Try.prog 79 [dtree t, .lst 1 (kidsV s l t t.width), .sc (.int .i64 i), .sc (.int .u64 (atW s l i)), .sc (.bool q), .sc (.int .i64 (wr n l.length (i + 1) : Nat))]
      (.sc (.bool (stF s l t.kind t.num (kidT s l t 0) (kidT s l t 1) i q))) := by
  have hs := wf_small t hwf
  have hwd := hs.width
  have har := node_arity ((wf_iff _ _).1 hwf).1
  have hnum : 0 ≤ t.num := by have := ((wf_iff _ _).1 hwf).1; unfold oddNode at this; omega
  have kid0 : 1 ≤ t.width → kidT s l t 0 = trT s l (t.kid 0) := fun h => kidT_eq s l (by omega)
  have kid1 : 2 ≤ t.width → kidT s l t 1 = trT s l (t.kid 1) := fun h => kidT_eq s l (by omega)
  have ka0 : ∀ {z : Nat}, z = 0 → 1 ≤ t.width → (kidsV s l t t.width)[z]? = some [dbl n (trT s l (t.kid 0))] := fun h h1 => by subst h; rw [hn]; exact kidsV_at (by omega)
  have ka1 : ∀ {z : Nat}, z = 1 → 2 ≤ t.width → (kidsV s l t t.width)[z]? = some [dbl n (trT s l (t.kid 1))] := fun h h1 => by subst h; rw [hn]; exact kidsV_at (by omega)
  have kat : ∀ g : Nat → Bool, 0 ≤ (i : Int) ∧ (rbl n g)[(i : Int).toNat]? = some [.sc (.bool (g i))] := fun g => rbl_atZ i rfl hi
  have hwr : wr n l.length (i + 1) < n := by unfold wr; split <;> omega
  have est : stF s l t.kind t.num (kidT s l t 0) (kidT s l t 1) i q = atF t.kind t.num (atW s l i) (kidT s l t 0 i) (kidT s l t 1 i) (kidT s l t 0 (wr n l.length (i + 1))) q := by unfold stF; rw [hn]
  rw [est]
  refine pcall_intro c79_ok (by simp) (by simp [PureL, Pure, pure_dtree, pure_kidsV]) ?_ (by simp [Pure])
  (apply red_sound; focus (repeat' (first | exact Red.skip | exact Red.ret | exact RedO.nil | exact RedD.nil | exact Red.exit _ | exact Red.loop _ | exact Red.stop _ | apply Red.ops | apply Red.draw | apply Red.seq | apply Red.cond | apply Red.block | apply RedO.cons | apply RedD.cons | exact (0 : Nat))))
  ((conv => whnf); repeat (refine And.intro rfl ?_; (conv => whnf)))
  (refine ifK_split (fun h1 => ?_) (fun h1 => ?_) <;> (rw [h1]; ((conv => whnf); repeat (refine And.intro rfl ?_; (conv => whnf)))))
  · have hk1 : t.kind = 1 := by ((try simp only [oo, reduceCtorEq] at *) <;> omega)
    exact deep_eq (by rw [hk1]; rfl)
  (refine ifK_split (fun h3 => ?_) (fun h3 => ?_) <;> (rw [h3]; ((conv => whnf); repeat (refine And.intro rfl ?_; (conv => whnf)))))
  · have hk1 : t.kind = 3 := by ((try simp only [oo, reduceCtorEq] at *) <;> omega)
    refine ⟨hnum, ?_⟩
    ((conv => whnf); repeat (refine And.intro rfl ?_; (conv => whnf)))
    refine deep_eq ?_
    rw [hk1]
    have ha := lett_at hls hll i
    have hr := fdiv_range ha.1 ha.2 (min t.num.toNat 64)
    have := and_one hr.1 hr.2
    show D.sc (.bool (bitsV .and .u64 ((atW s l i).fdiv (2 ^ min t.num.toNat 64)) 1 == 1)) = .sc (.bool (bitB (atW s l i) t.num))
    rw [this]
    rfl
  (refine ifK_split (fun h4 => ?_) (fun h4 => ?_) <;> (rw [h4]; ((conv => whnf); repeat (refine And.intro rfl ?_; (conv => whnf)))))
  · have hk1 : t.kind = 4 := by ((try simp only [oo, reduceCtorEq] at *) <;> omega)
    refine ⟨by omega, _, ka0 rfl (by omega), ?_⟩
    ((conv => whnf); repeat (refine And.intro rfl ?_; (conv => whnf)))
    refine ⟨by omega, _, (kat _).2, ?_⟩
    ((conv => whnf); repeat (refine And.intro rfl ?_; (conv => whnf)))
    exact deep_eq (by rw [hk1, kid0 (by omega)]; rfl)
  (refine ifK_split (fun h5 => ?_) (fun h5 => ?_) <;> (rw [h5]; ((conv => whnf); repeat (refine And.intro rfl ?_; (conv => whnf)))))
  · have hk1 : t.kind = 5 := by ((try simp only [oo, reduceCtorEq] at *) <;> omega)
    have e0 := kid0 (by omega)
    have e1 := kid1 (by omega)
    refine ⟨by omega, _, ka0 rfl (by omega), ?_⟩
    ((conv => whnf); repeat (refine And.intro rfl ?_; (conv => whnf)))
    refine ⟨by omega, _, (kat _).2, ?_⟩
    ((conv => whnf); repeat (refine And.intro rfl ?_; (conv => whnf)))
    rw [hk1, e0, e1]
    cases c0 : trT s l (t.kid 0) i
    · ((conv => whnf); repeat (refine And.intro rfl ?_; (conv => whnf)))
      exact deep_eq (by simp [atF])
    · ((conv => whnf); repeat (refine And.intro rfl ?_; (conv => whnf)))
      refine ⟨by omega, _, ka1 rfl (by omega), ?_⟩
      ((conv => whnf); repeat (refine And.intro rfl ?_; (conv => whnf)))
      refine ⟨by omega, _, (kat _).2, ?_⟩
      ((conv => whnf); repeat (refine And.intro rfl ?_; (conv => whnf)))
      exact deep_eq (by simp [atF])
  (refine ifK_split (fun h6 => ?_) (fun h6 => ?_) <;> (rw [h6]; ((conv => whnf); repeat (refine And.intro rfl ?_; (conv => whnf)))))
  · have hk1 : t.kind = 6 := by ((try simp only [oo, reduceCtorEq] at *) <;> omega)
    have e0 := kid0 (by omega)
    have e1 := kid1 (by omega)
    refine ⟨by omega, _, ka0 rfl (by omega), ?_⟩
    ((conv => whnf); repeat (refine And.intro rfl ?_; (conv => whnf)))
    refine ⟨by omega, _, (kat _).2, ?_⟩
    ((conv => whnf); repeat (refine And.intro rfl ?_; (conv => whnf)))
    rw [hk1, e0, e1]
    cases c0 : trT s l (t.kid 0) i
    · ((conv => whnf); repeat (refine And.intro rfl ?_; (conv => whnf)))
      refine ⟨by omega, _, ka1 rfl (by omega), ?_⟩
      ((conv => whnf); repeat (refine And.intro rfl ?_; (conv => whnf)))
      refine ⟨by omega, _, (kat _).2, ?_⟩
      ((conv => whnf); repeat (refine And.intro rfl ?_; (conv => whnf)))
      exact deep_eq (by simp [atF])
    · ((conv => whnf); repeat (refine And.intro rfl ?_; (conv => whnf)))
      exact deep_eq (by simp [atF])
  (refine ifK_split (fun h7 => ?_) (fun h7 => ?_) <;> (rw [h7]; ((conv => whnf); repeat (refine And.intro rfl ?_; (conv => whnf)))))
  · have hk1 : t.kind = 7 := by ((try simp only [oo, reduceCtorEq] at *) <;> omega)
    have e0 := kid0 (by omega)
    refine ⟨by omega, _, ka0 rfl (by omega), ?_⟩
    ((conv => whnf); repeat (refine And.intro rfl ?_; (conv => whnf)))
    refine ⟨by omega, _, rbl_at (i := wr n l.length (i + 1)) hwr, ?_⟩
    ((conv => whnf); repeat (refine And.intro rfl ?_; (conv => whnf)))
    exact deep_eq (by rw [hk1, e0]; rfl)
  (refine ifK_split (fun h10 => ?_) (fun h10 => ?_) <;> (rw [h10]; ((conv => whnf); repeat (refine And.intro rfl ?_; (conv => whnf)))))
  · have hk1 : t.kind = 10 := by ((try simp only [oo, reduceCtorEq] at *) <;> omega)
    have e0 := kid0 (by omega)
    refine ⟨by omega, _, ka0 rfl (by omega), ?_⟩
    ((conv => whnf); repeat (refine And.intro rfl ?_; (conv => whnf)))
    refine ⟨by omega, _, (kat _).2, ?_⟩
    ((conv => whnf); repeat (refine And.intro rfl ?_; (conv => whnf)))
    rw [hk1, e0]
    cases c0 : trT s l (t.kid 0) i
    · ((conv => whnf); repeat (refine And.intro rfl ?_; (conv => whnf)))
      exact deep_eq (by simp [atF])
    · ((conv => whnf); repeat (refine And.intro rfl ?_; (conv => whnf)))
      exact deep_eq (by simp [atF])
  (refine ifK_split (fun h11 => ?_) (fun h11 => ?_) <;> (rw [h11]; ((conv => whnf); repeat (refine And.intro rfl ?_; (conv => whnf)))))
  · have hk1 : t.kind = 11 := by ((try simp only [oo, reduceCtorEq] at *) <;> omega)
    have e0 := kid0 (by omega)
    refine ⟨by omega, _, ka0 rfl (by omega), ?_⟩
    ((conv => whnf); repeat (refine And.intro rfl ?_; (conv => whnf)))
    refine ⟨by omega, _, (kat _).2, ?_⟩
    ((conv => whnf); repeat (refine And.intro rfl ?_; (conv => whnf)))
    rw [hk1, e0]
    cases c0 : trT s l (t.kid 0) i
    · ((conv => whnf); repeat (refine And.intro rfl ?_; (conv => whnf)))
      exact deep_eq (by simp [atF])
    · ((conv => whnf); repeat (refine And.intro rfl ?_; (conv => whnf)))
      exact deep_eq (by simp [atF])
  (refine ifK_split (fun h8 => ?_) (fun h8 => ?_) <;> (rw [h8]; ((conv => whnf); repeat (refine And.intro rfl ?_; (conv => whnf)))))
  · have hk1 : t.kind = 8 := by ((try simp only [oo, reduceCtorEq] at *) <;> omega)
    have e0 := kid0 (by omega)
    have e1 := kid1 (by omega)
    refine ⟨by omega, _, ka1 rfl (by omega), ?_⟩
    ((conv => whnf); repeat (refine And.intro rfl ?_; (conv => whnf)))
    refine ⟨by omega, _, (kat _).2, ?_⟩
    ((conv => whnf); repeat (refine And.intro rfl ?_; (conv => whnf)))
    rw [hk1, e0, e1]
    cases c1 : trT s l (t.kid 1) i
    · ((conv => whnf); repeat (refine And.intro rfl ?_; (conv => whnf)))
      refine ⟨by omega, _, ka0 rfl (by omega), ?_⟩
      ((conv => whnf); repeat (refine And.intro rfl ?_; (conv => whnf)))
      refine ⟨by omega, _, (kat _).2, ?_⟩
      ((conv => whnf); repeat (refine And.intro rfl ?_; (conv => whnf)))
      cases c0 : trT s l (t.kid 0) i
      · ((conv => whnf); repeat (refine And.intro rfl ?_; (conv => whnf)))
        exact deep_eq (by simp [atF])
      · ((conv => whnf); repeat (refine And.intro rfl ?_; (conv => whnf)))
        exact deep_eq (by simp [atF])
    · ((conv => whnf); repeat (refine And.intro rfl ?_; (conv => whnf)))
      exact deep_eq (by simp [atF])
  (refine ifK_split (fun h9 => ?_) (fun h9 => ?_) <;> (rw [h9]; ((conv => whnf); repeat (refine And.intro rfl ?_; (conv => whnf)))))
  · have hk1 : t.kind = 9 := by ((try simp only [oo, reduceCtorEq] at *) <;> omega)
    have e0 := kid0 (by omega)
    have e1 := kid1 (by omega)
    refine ⟨by omega, _, ka1 rfl (by omega), ?_⟩
    ((conv => whnf); repeat (refine And.intro rfl ?_; (conv => whnf)))
    refine ⟨by omega, _, (kat _).2, ?_⟩
    ((conv => whnf); repeat (refine And.intro rfl ?_; (conv => whnf)))
    rw [hk1, e0, e1]
    cases c1 : trT s l (t.kid 1) i
    · ((conv => whnf); repeat (refine And.intro rfl ?_; (conv => whnf)))
      exact deep_eq (by simp [atF])
    · ((conv => whnf); repeat (refine And.intro rfl ?_; (conv => whnf)))
      refine ⟨by omega, _, ka0 rfl (by omega), ?_⟩
      ((conv => whnf); repeat (refine And.intro rfl ?_; (conv => whnf)))
      refine ⟨by omega, _, (kat _).2, ?_⟩
      ((conv => whnf); repeat (refine And.intro rfl ?_; (conv => whnf)))
      cases c0 : trT s l (t.kid 0) i
      · ((conv => whnf); repeat (refine And.intro rfl ?_; (conv => whnf)))
        exact deep_eq (by simp [atF])
      · ((conv => whnf); repeat (refine And.intro rfl ?_; (conv => whnf)))
        exact deep_eq (by simp [atF])
  · have hk1 : t.kind = 2 := by ((try simp only [oo, reduceCtorEq] at *) <;> omega)
    exact deep_eq (by rw [hk1]; rfl)
def c48_1 : PC := .seq (.ops [⟨(some 28), .bin .lss (.tmp 27) (.tmp 26), none, 0⟩] false) (.seq (.cond (.tmp 28) (.skip) (.exit 0)) (.seq (.block 1 (.seq (.ops [⟨(some 29), .iaddr 3 (.tmp 25) (.tmp 27), none, 0⟩,
    ⟨(some 30), .loadA 3 (.tmp 29), none, 0⟩,
    ⟨(some 12), .alloc [(.int .i64 0), (.int .i64 0), (.slice none 0 0)], none, 0⟩,
    ⟨none, .store 3 (.tmp 12) (.tmp 30), none, 0⟩] false) (.ops [⟨(some 31), .move (.tmp 10), none, 0⟩,
    ⟨(some 32), .loadA 3 (.tmp 12), none, 0⟩,
    ⟨(some 33), .load1 (.tmp 4), none, 0⟩,
    ⟨(some 34), .move (.tmp 2), none, 0⟩,
    ⟨(some 35), .call 48 [(.tmp 32), (.tmp 33), (.tmp 34)], none, 0⟩,
    ⟨(some 36), .bslice 1 1 [(.tmp 35)], none, 0⟩,
    ⟨(some 37), .append 1 24 (.tmp 31) (.tmp 36), none, 0⟩,
    ⟨(some 10), .move (.tmp 37), none, 0⟩] false))) (.ops [⟨(some 38), .bin .add (.tmp 27) (.const (.int .i64 1)), none, 0⟩,
    ⟨(some 27), .move (.tmp 38), none, 0⟩] false)))
def c48_2 : PC := .seq (.ops [⟨(some 52), .bin .lss (.tmp 51) (.tmp 50), none, 0⟩] false) (.seq (.cond (.tmp 52) (.skip) (.exit 2)) (.seq (.block 3 (.seq (.ops [⟨(some 53), .move (.tmp 51), none, 0⟩,
    ⟨(some 15), .move (.tmp 53), none, 0⟩] false) (.ops [⟨(some 54), .move (.tmp 13), none, 0⟩,
    ⟨(some 55), .move (.tmp 15), none, 0⟩,
    ⟨(some 56), .move (.tmp 14), none, 0⟩,
    ⟨(some 57), .iaddr 1 (.tmp 54) (.tmp 55), none, 0⟩,
    ⟨none, .store 1 (.tmp 57) (.tmp 56), none, 0⟩] false))) (.ops [⟨(some 58), .bin .add (.tmp 51) (.const (.int .i64 1)), none, 0⟩,
    ⟨(some 51), .move (.tmp 58), none, 0⟩] false)))
def c48_4 : PC := .seq (.seq (.ops [⟨(some 63), .move (.tmp 16), none, 0⟩,
    ⟨(some 64), .bin .geq (.tmp 63) (.const (.int .i64 0)), none, 0⟩] false) (.cond (.tmp 64) (.skip) (.exit 6))) (.seq (.block 7 (.ops [⟨(some 67), .move (.tmp 13), none, 0⟩,
    ⟨(some 68), .move (.tmp 16), none, 0⟩,
    ⟨(some 69), .loadA 3 (.tmp 3), none, 0⟩,
    ⟨(some 70), .move (.tmp 10), none, 0⟩,
    ⟨(some 71), .move (.tmp 16), none, 0⟩,
    ⟨(some 72), .move (.tmp 7), none, 0⟩,
    ⟨(some 73), .move (.tmp 16), none, 0⟩,
    ⟨(some 74), .iaddr 1 (.tmp 72) (.tmp 73), none, 96⟩,
    ⟨(some 75), .load1 (.tmp 74), none, 224⟩,
    ⟨(some 76), .move (.tmp 13), none, 0⟩,
    ⟨(some 77), .move (.tmp 9), none, 0⟩,
    ⟨(some 78), .move (.tmp 16), none, 0⟩,
    ⟨(some 79), .callv (.tmp 77) [(.tmp 78)], none, 3072⟩,
    ⟨(some 80), .iaddr 1 (.tmp 76) (.tmp 79), none, 7680⟩,
    ⟨(some 81), .load1 (.tmp 80), none, 15872⟩,
    ⟨(some 82), .move (.tmp 9), none, 0⟩,
    ⟨(some 83), .move (.tmp 16), none, 0⟩,
    ⟨(some 84), .callv (.tmp 82) [(.tmp 83)], none, 105472⟩,
    ⟨(some 85), .call 79 [(.tmp 69), (.tmp 70), (.tmp 71), (.tmp 75), (.tmp 81), (.tmp 84)], none, 262140⟩,
    ⟨(some 86), .iaddr 1 (.tmp 67) (.tmp 68), none, 524287⟩,
    ⟨none, .store 1 (.tmp 86) (.tmp 85), none, 1048575⟩] true)) (.ops [⟨(some 65), .move (.tmp 16), none, 0⟩,
    ⟨(some 66), .bin .sub (.tmp 65) (.const (.int .i64 1)), none, 0⟩,
    ⟨(some 16), .move (.tmp 66), none, 0⟩] false))
def c48_3 : PC := .seq (.ops [⟨(some 60), .bin .lss (.tmp 59) (.const (.int .i64 2)), none, 0⟩] false) (.seq (.cond (.tmp 60) (.skip) (.exit 4)) (.seq (.block 5 (.seq (.ops [⟨(some 61), .load1 (.tmp 8), none, 0⟩,
    ⟨(some 62), .bin .sub (.tmp 61) (.const (.int .i64 1)), none, 0⟩,
    ⟨(some 16), .move (.tmp 62), none, 0⟩] false) (.block 6 (.loop c48_4)))) (.ops [⟨(some 87), .bin .add (.tmp 59) (.const (.int .i64 1)), none, 0⟩,
    ⟨(some 59), .move (.tmp 87), none, 0⟩] false)))
def c48 : PC := .seq (.ops [⟨(some 3), .box (.tmp 0), none, 0⟩,
    ⟨(some 4), .box (.tmp 1), none, 0⟩,
    ⟨(some 6), .move (.const (.slice none 0 0)), none, 0⟩] false) (.seq (.ops [⟨(some 17), .load1 (.tmp 4), none, 0⟩,
    ⟨(some 18), .call 77 [(.tmp 17)], none, 0⟩,
    ⟨(some 19), .move (.tmp 2), none, 0⟩,
    ⟨(some 20), .append 1 8 (.tmp 18) (.tmp 19), none, 0⟩,
    ⟨(some 7), .move (.tmp 20), none, 0⟩] false) (.seq (.ops [⟨(some 21), .move (.tmp 7), none, 0⟩,
    ⟨(some 22), .len (.tmp 21), none, 0⟩,
    ⟨(some 8), .alloc [(.int .i64 0)], none, 0⟩,
    ⟨none, .store 1 (.tmp 8) (.tmp 22), none, 0⟩] false) (.seq (.ops [⟨(some 23), .mkfn (.func 78) [] [(.tmp 8), (.tmp 4)], none, 0⟩,
    ⟨(some 9), .move (.tmp 23), none, 0⟩] false) (.seq (.ops [⟨(some 10), .move (.const (.slice none 0 0)), none, 0⟩] false) (.seq (.seq (.ops [⟨(some 24), .faddr 2 (.tmp 3), none, 0⟩,
    ⟨(some 25), .load1 (.tmp 24), none, 0⟩,
    ⟨(some 26), .len (.tmp 25), none, 0⟩,
    ⟨(some 27), .move (.const (.int .i64 0)), none, 0⟩] false) (.block 0 (.loop c48_1))) (.seq (.stop (.ops [⟨(some 39), .load1 (.tmp 8), none, 0⟩,
    ⟨(some 40), .mslice 1 1 [(.bool false)] (.tmp 39) (.tmp 39), none, 0⟩,
    ⟨(some 13), .move (.tmp 40), none, 0⟩] false)) (.seq (.stop (.ops [⟨(some 41), .faddr 0 (.tmp 3), none, 0⟩,
    ⟨(some 42), .load1 (.tmp 41), none, 0⟩,
    ⟨(some 43), .bin .eql (.tmp 42) (.const (.int .i64 9)), none, 0⟩,
    ⟨(some 44), .move (.tmp 43), none, 0⟩,
    ⟨(some 45), .faddr 0 (.tmp 3), (some (44, false)), 0⟩,
    ⟨(some 46), .load1 (.tmp 45), (some (44, false)), 0⟩,
    ⟨(some 47), .bin .eql (.tmp 46) (.const (.int .i64 11)), (some (44, false)), 0⟩,
    ⟨(some 48), .pick (.tmp 44) (.const (.bool true)) (.tmp 47), none, 0⟩,
    ⟨(some 14), .move (.tmp 48), none, 0⟩] false)) (.seq (.seq (.ops [⟨(some 49), .move (.tmp 13), none, 0⟩,
    ⟨(some 50), .len (.tmp 49), none, 0⟩,
    ⟨(some 51), .move (.const (.int .i64 0)), none, 0⟩] false) (.block 2 (.loop c48_2))) (.seq (.seq (.ops [⟨(some 59), .move (.const (.int .i64 0)), none, 0⟩] false) (.block 4 (.loop c48_3))) (.seq (.ops [⟨(some 88), .move (.tmp 13), none, 0⟩,
    ⟨(some 6), .move (.tmp 88), none, 0⟩] false) (.ret)))))))))))
set_option maxRecDepth 100000 in
theorem c48_ok : FunOK Try.prog 48 89 [.tmp 6] c48 := ⟨⟨Try.f48, Try.func48, rfl, by kernel_rfl, rfl, by kernel_rfl⟩⟩
theorem rbl_repb (n : Nat) : List.replicate n [D.sc (.bool false)] = rbl n (fun _ => false) := rbl_rep n
set_option maxRecDepth 100000 in
theorem rep_holds (s l : List Int) (hw : s.length + l.length ≤ 60 ∧ 1 ≤ l.length) (hls : Lett s) (hll : Lett l) : ∀ t : Tree, t.wf lKids → PCall Try.prog 48 [dtree t, dlet s, dlet l] (dbl (s.length + l.length) (trT s l t)) := by
  intro t
  induction t using Tree.ind with
  | h t ih =>
    intro hwf
    have hs := wf_small t hwf
    have hwd := hs.width
    obtain ⟨n, hn⟩ : ∃ n, n = s.length + l.length := ⟨_, rfl⟩
    have hA := fun i hi q => rep_at s l hw hls hll t hwf n hn i hi q
    have hN := fun i hi => rep_next s n l.length hn hw.2 (by omega) i hi
    have h2 : ∀ i, i < n → oldg n s.length (stF s l t.kind t.num (kidT s l t 0) (kidT s l t 1)) (upB t.kind) 2 i = trT s l t i := fun i hi => by
      rw [trT_eq, hn]; exact two_rounds s l _ _ _ _ (by omega)
    generalize stF s l t.kind t.num (kidT s l t 0) (kidT s l t 1) = st at hA h2
    refine pcall_intro c48_ok (by simp) (by simp [PureL, pure_dtree, pure_dlet]) ?_ (pure_dbl _ _)
    (apply red_sound; focus (repeat' (first | exact Red.skip | exact Red.ret | exact RedO.nil | exact RedD.nil | exact Red.exit _ | exact Red.loop _ | exact Red.stop _ | apply Red.ops | apply Red.draw | apply Red.seq | apply Red.cond | apply Red.block | apply RedO.cons | apply RedD.cons | exact (0 : Nat))))
    ((conv => whnf); repeat (refine And.intro rfl ?_; (conv => whnf)))
    have hC := cloneO_u64 s (by omega)
    (refine .inr (.inr (.inr (.inr (.inl ⟨_, _, _, (acallAt_new hC (by simp [PureL, Pure]) [2] rfl rfl (by simp [AObj.ren, renL, D.ren]; rfl)), ?_⟩)))); ((conv => whnf); repeat (refine And.intro rfl ?_; (conv => whnf))))
    refine ⟨(by unfold sliceAppend; simp only [ll]; omega), ?_⟩
    ((conv => whnf); repeat (refine And.intro rfl ?_; (conv => whnf)))
    have har := node_arity ((wf_iff _ _).1 hwf).1
    have hw2 : t.width ≤ 1000000 := by unfold Tree.width at *; omega
    have eall : List.drop 0 (List.take s.length (s.map fun n => [D.sc (.int .u64 n)])) ++ (l.map fun n => [D.sc (.int .u64 n)]) = (s ++ l).map fun n => [D.sc (.int .u64 n)] := by
      rw [List.drop_zero, List.take_of_length_le (by simp), List.map_append]
    have elen : s.length - 0 + (l.map fun n => [D.sc (.int .u64 n)]).length - 0 = n := by rw [List.length_map]; omega
    rw [eall, elen]
    refine pwp_ghostB (leB_nil 10 1 (by simp) rfl) ?_
    refine pwp_for [2, 3, 4, 7, 8, 9, 25, 26] (fun k : Nat => [(10, .own 4 k 0 k), (27, .sc (.int .i64 k))]) (fun k => [(4, .vec true k 1 (kidsV s l t k))]) (fun k => k ≤ t.width) (fun k => t.width - k) 0 ?_
    ((conv => whnf); repeat (refine And.intro rfl ?_; (conv => whnf)))
    refine ⟨by omega, by (repeat' (first | exact trivial | refine And.intro rfl ?_)), rfl, ?_⟩
    rintro k hk
    ((conv => whnf); repeat (refine And.intro rfl ?_; (conv => whnf)))
    (apply red_sound; focus (repeat' (first | exact Red.skip | exact Red.ret | exact RedO.nil | exact RedD.nil | exact Red.exit _ | exact Red.loop _ | exact Red.stop _ | apply Red.ops | apply Red.draw | apply Red.seq | apply Red.cond | apply Red.block | apply RedO.cons | apply RedD.cons | exact (0 : Nat))))
    ((conv => whnf); repeat (refine And.intro rfl ?_; (conv => whnf)))
    rw [List.length_map]
    (refine ifK_split (fun h1 => ?_) (fun h1 => ?_) <;> (rw [h1]; ((conv => whnf); repeat (refine And.intro rfl ?_; (conv => whnf)))))
    · have hk' : k < t.width := by simpa [Tree.width] using h1
      refine ⟨by omega, _, kid_at hk', ?_⟩
      ((conv => whnf); repeat (refine And.intro rfl ?_; (conv => whnf)))
      (refine .inl ⟨_, (ih k hk' (wf_kid hwf hk')), ?_⟩; ((conv => whnf); repeat (refine And.intro rfl ?_; (conv => whnf))))
      refine ⟨(by unfold sliceAppend; simp only [ll]; omega), ?_⟩
      ((conv => whnf); repeat (refine And.intro rfl ?_; (conv => whnf)))
      (refine .inl ⟨by (unfold InR; rw [IntKind.wrap_i64]; omega), ?_⟩; ((conv => whnf); repeat (refine And.intro rfl ?_; (conv => whnf))))
      refine ⟨k + 1, by omega, by dsimp only; omega, ?_⟩
      (refine leB_close 5 (by simp) rfl ?_ ?_ <;> (repeat' (first | exact trivial | exact rfl | exact DeepM.refl _ | exact DeepML.refl _ | exact DeepMLL.refl _ | refine And.intro ?_ ?_ | (simp [Under, UnderL, UnderLL, -List.map_take, -List.map_drop]; done))))
      all_goals first | exact deepMLL_eq (kidsV_succ s l t k) | exact underLL_pure _ (pure_kidsV _ _ _ _) | exact (underLL_map _ _).2 fun _ _ => by simp [UnderL, Under]
    have hkw : k = t.width := by have : ¬ k < t.width := by simpa [Tree.width] using h1
                                 omega
    subst hkw
    clear h1 hk
    have hdep : ∀ {H : List AObj}, H[4]? = some (.vec true t.width 1 (kidsV s l t t.width)) → DeepM (fromN 0) H (.own 4 t.width 0 t.width) (.lst 1 (kidsV s l t t.width)) := fun h => .own _ _ _ _ _ _ _ _ rfl h (deepMLL_eq (by rw [List.drop_zero, List.take_of_length_le (by simp)]))
    have hall : ∀ {H : List AObj} {v e : Nat}, e = n → H[2]? = some (.vec true v 1 ((s ++ l).map fun n => [D.sc (.int .u64 n)])) → DeepM (fromN 0) H (.own 2 v 0 e) (dlet (s ++ l)) := fun he h => .own _ _ _ _ _ _ _ _ rfl h (deepMLL_eq (by rw [List.drop_zero, List.take_of_length_le (by simp; omega)]))
    refine pwp_ghostB (leB_freeze (fromN 0) (env' := [(3, .ipt (drow t)), (7, dlet (s ++ l)), (8, .ipt [.sc (.int .i64 n)]), (9, .fn (.func 78) [] [.ipt [.sc (.int .i64 n)], .ipt [dlet s]]), (10, .lst 1 (kidsV s l t t.width))])
      (H' := [.row false (drow t), .row false [dlet s], .vec false 2 1 ((s ++ l).map fun n => [D.sc (.int .u64 n)]), .row false [.sc (.int .i64 n)], .vec false t.width 1 (kidsV s l t t.width)])
      ⟨.loc _ _ _ _ _ rfl rfl (.refl _), hall (by rw [List.length_map]; omega) rfl, .loc _ _ _ _ _ rfl rfl (.refl _), .fn _ _ _ _ _ (.refl _) (.cons _ _ _ _ (.loc _ _ _ _ _ rfl rfl (.refl _)) (.cons _ _ _ _ (.loc _ _ _ _ _ rfl rfl (.refl _)) (.refl _))), hdep rfl, trivial⟩
      ⟨⟨.inr ⟨rfl, rfl⟩, fun _ => rfl, .refl _⟩, ⟨.inr ⟨rfl, rfl⟩, fun _ => rfl, .refl _⟩, ⟨.inr ⟨rfl, rfl⟩, fun _ => rfl, rfl, rfl, .refl _⟩, ⟨.inr ⟨rfl, rfl⟩, fun _ => rfl, .refl _⟩, ⟨.inr ⟨rfl, rfl⟩, fun _ => rfl, rfl, rfl, .refl _⟩, trivial⟩) ?_
    (apply red_sound; focus (repeat' (first | exact Red.skip | exact Red.ret | exact RedO.nil | exact RedD.nil | exact Red.exit _ | exact Red.loop _ | exact Red.stop _ | apply Red.ops | apply Red.draw | apply Red.seq | apply Red.cond | apply Red.block | apply RedO.cons | apply RedD.cons | exact (0 : Nat))))
    ((conv => whnf); repeat (refine And.intro rfl ?_; (conv => whnf)))
    refine ⟨by omega, by omega, by omega, ?_⟩
    rw [Int.toNat_natCast]
    ((conv => whnf); repeat (refine And.intro rfl ?_; (conv => whnf)))
    rw [show List.map D.sc [Value.bool false] = [D.sc (.bool false)] from rfl, rbl_rep]
    refine pwp_cut (fun _ : Unit => [(3, .ipt (drow t)), (7, dlet (s ++ l)), (8, .ipt [.sc (.int .i64 n)]), (9, .fn (.func 78) [] [.ipt [.sc (.int .i64 n)], .ipt [dlet s]]), (10, .lst 1 (kidsV s l t t.width)), (13, .own 5 0 0 n), (14, .sc (.bool (upB t.kind)))])
      (fun _ => [.row false (drow t), .row false [dlet s], .vec false 2 1 ((s ++ l).map fun n => [D.sc (.int .u64 n)]), .row false [.sc (.int .i64 n)], .vec false t.width 1 (kidsV s l t t.width), .vec true 0 1 (rbl n fun _ => false)]) (fun _ => True) ?_ ?_
    · (apply red_sound; focus (repeat' (first | exact Red.skip | exact Red.ret | exact RedO.nil | exact RedD.nil | exact Red.exit _ | exact Red.loop _ | exact Red.stop _ | apply Red.ops | apply Red.draw | apply Red.seq | apply Red.cond | apply Red.block | apply RedO.cons | apply RedD.cons | exact (0 : Nat))))
      ((conv => whnf); repeat (refine And.intro rfl ?_; (conv => whnf)))
      cases h9 : t.kind == 9
      · ((conv => whnf); repeat (refine And.intro rfl ?_; (conv => whnf)))
        exact ⟨(), trivial, leB_env ⟨rfl, rfl, rfl, rfl, rfl, rfl, by unfold upB; rw [h9]; rfl, trivial⟩⟩
      · ((conv => whnf); repeat (refine And.intro rfl ?_; (conv => whnf)))
        exact ⟨(), trivial, leB_env ⟨rfl, rfl, rfl, rfl, rfl, rfl, by unfold upB; rw [h9]; rfl, trivial⟩⟩
    rintro _ _
    generalize upB t.kind = up at h2
    ((conv => whnf); repeat (refine And.intro rfl ?_; (conv => whnf)))
    refine pwp_for [3, 7, 8, 9, 10, 13, 14, 50] (fun k : Nat => [(51, .sc (.int .i64 k))]) (fun k => [(5, .vec true 0 1 (rbl n fun i => if i < k then up else false))]) (fun k => k ≤ n) (fun k => n - k) 0 ?_
    ((conv => whnf); repeat (refine And.intro rfl ?_; (conv => whnf)))
    refine ⟨by omega, by (repeat' (first | exact trivial | refine And.intro rfl ?_)), rfl, ?_⟩
    rintro k hk
    ((conv => whnf); repeat (refine And.intro rfl ?_; (conv => whnf)))
    (apply red_sound; focus (repeat' (first | exact Red.skip | exact Red.ret | exact RedO.nil | exact RedD.nil | exact Red.exit _ | exact Red.loop _ | exact Red.stop _ | apply Red.ops | apply Red.draw | apply Red.seq | apply Red.cond | apply Red.block | apply RedO.cons | apply RedD.cons | exact (0 : Nat))))
    ((conv => whnf); repeat (refine And.intro rfl ?_; (conv => whnf)))
    (refine ifK_split (fun h1 => ?_) (fun h1 => ?_) <;> (rw [h1]; ((conv => whnf); repeat (refine And.intro rfl ?_; (conv => whnf)))))
    · have hk' : k < n := by ((try simp only [oo, reduceCtorEq] at *) <;> omega)
      (refine ⟨by omega, (by first | omega | (simp; done) | (simp; omega) | (simp only [ll]; omega)), ?_⟩; ((conv => whnf); repeat (refine And.intro rfl ?_; (conv => whnf))))
      refine ⟨_, rbl_atN k (by omega) hk', ?_⟩
      ((conv => whnf); repeat (refine And.intro rfl ?_; (conv => whnf)))
      (refine .inl ⟨by (unfold InR; rw [IntKind.wrap_i64]; omega), ?_⟩; ((conv => whnf); repeat (refine And.intro rfl ?_; (conv => whnf))))
      have put : (rbl n fun i => if i < k then up else false).set (0 + (k : Int).toNat) [.sc (.bool up)] = rbl n fun i => if i < k + 1 then up else false := by
        rw [show 0 + (k : Int).toNat = k by omega, rbl_set]
        refine rbl_congr fun i hi => ?_
        by_cases e : i = k
        · subst e; simp
        · rw [if_neg e]
          by_cases e2 : i < k
          · rw [if_pos e2, if_pos (by omega)]
          · rw [if_neg e2, if_neg (by omega)]
      exact ⟨k + 1, by omega, by dsimp only; omega, leB_envH (by (repeat' (first | exact trivial | refine And.intro rfl ?_))) (by rw [put]; rfl)⟩
    have hkn : k = n := by have : ¬ k < n := by ((try simp only [oo, reduceCtorEq] at *) <;> omega)
                           omega
    subst hkn
    rw [rbl_congr (g := fun i => if i < k then up else false) (g' := oldg k s.length st up 0) fun i hi => if_pos hi]
    refine pwp_for [3, 7, 8, 9, 10, 13] (fun r : Nat => [(59, .sc (.int .i64 r))]) (fun r => [(5, .vec true 0 1 (rbl k (oldg k s.length st up r)))]) (fun r => r ≤ 2) (fun r => 2 - r) 0 ?_
    ((conv => whnf); repeat (refine And.intro rfl ?_; (conv => whnf)))
    refine ⟨by omega, by (repeat' (first | exact trivial | refine And.intro rfl ?_)), rfl, ?_⟩
    clear h1 hk
    rintro r hr
    ((conv => whnf); repeat (refine And.intro rfl ?_; (conv => whnf)))
    (apply red_sound; focus (repeat' (first | exact Red.skip | exact Red.ret | exact RedO.nil | exact RedD.nil | exact Red.exit _ | exact Red.loop _ | exact Red.stop _ | apply Red.ops | apply Red.draw | apply Red.seq | apply Red.cond | apply Red.block | apply RedO.cons | apply RedD.cons | exact (0 : Nat))))
    ((conv => whnf); repeat (refine And.intro rfl ?_; (conv => whnf)))
    (refine ifK_split (fun h1 => ?_) (fun h1 => ?_) <;> (rw [h1]; ((conv => whnf); repeat (refine And.intro rfl ?_; (conv => whnf)))))
    · have hr' : r < 2 := by ((try simp only [oo, reduceCtorEq] at *) <;> omega)
      (refine .inl ⟨by (unfold InR; rw [IntKind.wrap_i64]; omega), ?_⟩; ((conv => whnf); repeat (refine And.intro rfl ?_; (conv => whnf))))
      generalize hold : oldg k s.length st up r = old
      have hnew : oldg k s.length st up (r + 1) = fun i => rg st (old s.length) i (k - i) := by rw [← hold]; rfl
      refine pwp_for [3, 7, 8, 9, 10, 13, 59] (fun c : Nat => [(16, .sc (.int .i64 ((c : Int) - 1)))]) (fun c => [(5, .vec true 0 1 (rbl k fun i => if c ≤ i then rg st (old s.length) i (k - i) else old i))]) (fun c => c ≤ k) (fun c => c) k ?_
      ((conv => whnf); repeat (refine And.intro rfl ?_; (conv => whnf)))
      refine ⟨by omega, by (repeat' (first | exact trivial | refine And.intro rfl ?_)), by rw [rbl_congr (g := old) (g' := fun i => if k ≤ i then rg st (old s.length) i (k - i) else old i) fun i hi => by rw [if_neg (by omega)]]; rfl, ?_⟩
      clear h1
      rintro c hc
      ((conv => whnf); repeat (refine And.intro rfl ?_; (conv => whnf)))
      (apply red_sound; focus (repeat' (first | exact Red.skip | exact Red.ret | exact RedO.nil | exact RedD.nil | exact Red.exit _ | exact Red.loop _ | exact Red.stop _ | apply Red.ops | apply Red.draw | apply Red.seq | apply Red.cond | apply Red.block | apply RedO.cons | apply RedD.cons | exact (0 : Nat))))
      ((conv => whnf); repeat (refine And.intro rfl ?_; (conv => whnf)))
      (refine ifK_split (fun h1 => ?_) (fun h1 => ?_) <;> (rw [h1]; ((conv => whnf); repeat (refine And.intro rfl ?_; (conv => whnf)))))
      · have h1 : 1 ≤ c := by ((try simp only [oo, reduceCtorEq] at *) <;> omega)
        obtain ⟨i, rfl⟩ : ∃ i, c = i + 1 := ⟨c - 1, by omega⟩
        rw [show ((i + 1 : Nat) : Int) - 1 = (i : Int) by omega]
        have hi : i < k := by omega
        have hwr : wr k l.length (i + 1) < k := by unfold wr; split <;> omega
        have hlet := let_atZ (l := s ++ l) (z := (i : Int)) i rfl (by simp; omega)
        rw [show (s ++ l).getD i 0 = atW s l i from atW_app (by omega)] at hlet
        refine ⟨hlet.1, _, hlet.2, ?_⟩
        ((conv => whnf); repeat (refine And.intro rfl ?_; (conv => whnf)))
        have nextv : (if i + 1 ≤ wr k l.length (i + 1) then rg st (old s.length) (wr k l.length (i + 1)) (k - wr k l.length (i + 1)) else old (wr k l.length (i + 1))) = rg st (old s.length) (i + 1) (k - (i + 1)) := by
          by_cases e : i + 1 < k
          · have : wr k l.length (i + 1) = i + 1 := by unfold wr; rw [if_pos e]
            rw [this, if_pos (by omega)]
          · have : wr k l.length (i + 1) = s.length := by unfold wr; rw [if_neg e]; omega
            rw [this, if_neg (by omega), show k - (i + 1) = 0 by omega]
            rfl
        have step : rg st (old s.length) i (k - i) = st i (rg st (old s.length) (i + 1) (k - (i + 1))) := by
          rw [show k - i = (k - (i + 1)) + 1 by omega]; rfl
        have put : ∀ {v : Bool}, v = rg st (old s.length) i (k - i) → (rbl k fun j => if i + 1 ≤ j then rg st (old s.length) j (k - j) else old j).set (0 + (i : Int).toNat) [.sc (.bool v)] = rbl k fun j => if i ≤ j then rg st (old s.length) j (k - j) else old j := fun h => by
          rw [show 0 + (i : Int).toNat = i by omega, rbl_set, h]
          refine rbl_congr fun j hj => ?_
          by_cases e : j = i
          · subst e; simp
          · rw [if_neg e]
            by_cases e2 : i ≤ j
            · rw [if_pos e2, if_pos (by omega)]
            · rw [if_neg e2, if_neg (by omega)]
        (refine .inl ⟨_, (hN i hi), ?_⟩; ((conv => whnf); repeat (refine And.intro rfl ?_; (conv => whnf))))
        refine ⟨by omega, by omega, ?_⟩
        ((conv => whnf); repeat (refine And.intro rfl ?_; (conv => whnf)))
        refine ⟨_, rbl_atN (wr k l.length (i + 1)) (by omega) hwr, ?_⟩
        ((conv => whnf); repeat (refine And.intro rfl ?_; (conv => whnf)))
        rw [nextv]
        (refine .inl ⟨_, (hN i hi), ?_⟩; ((conv => whnf); repeat (refine And.intro rfl ?_; (conv => whnf))))
        (refine .inl ⟨_, (hA i hi _), ?_⟩; ((conv => whnf); repeat (refine And.intro rfl ?_; (conv => whnf))))
        rw [← step]
        refine ⟨by omega, by omega, ?_⟩
        ((conv => whnf); repeat (refine And.intro rfl ?_; (conv => whnf)))
        refine ⟨_, rbl_atN i (by omega) hi, ?_⟩
        ((conv => whnf); repeat (refine And.intro rfl ?_; (conv => whnf)))
        (refine .inl ⟨by (unfold InR; rw [IntKind.wrap_i64]; omega), ?_⟩; ((conv => whnf); repeat (refine And.intro rfl ?_; (conv => whnf))))
        exact ⟨i, by omega, by dsimp only; omega, leB_envH (by (repeat' (first | exact trivial | refine And.intro rfl ?_))) (by rw [put rfl]; rfl)⟩
      · have hc0 : c = 0 := by have : ¬ 1 ≤ c := by ((try simp only [oo, reduceCtorEq] at *) <;> omega)
                               omega
        subst hc0
        (refine .inl ⟨by (unfold InR; rw [IntKind.wrap_i64]; omega), ?_⟩; ((conv => whnf); repeat (refine And.intro rfl ?_; (conv => whnf))))
        have e9 : (rbl k fun i => if 0 ≤ i then rg st (old s.length) i (k - i) else old i) = rbl k (oldg k s.length st up (r + 1)) := by rw [hnew]; exact rbl_congr fun i hi => by simp
        exact ⟨r + 1, by omega, by dsimp only; omega, leB_envH (by (repeat' (first | exact trivial | refine And.intro rfl ?_))) (by rw [e9]; rfl)⟩
    · have hr2 : r = 2 := by have : ¬ r < 2 := by ((try simp only [oo, reduceCtorEq] at *) <;> omega)
                             omega
      subst hr2
      have e : dbl (s.length + l.length) (trT s l t) = dbl k (oldg k s.length st up 2) := by rw [← hn]; exact dbl_congr fun i hi => (h2 i hi).symm
      rw [e]
      exact deep_vec rfl
end

/-! ### XRp2 -/
section
open Go.RowKit
set_option linter.unusedSimpArgs false
set_option linter.unusedVariables false
theorem dlet_snoc {l : List Int} {c : Nat} {x : Int} (h : c = l.length) : List.drop 0 (List.take c (l.map fun n => [D.sc (.int .u64 n)])) ++ [[D.sc (.int .u64 x)]] = (l ++ [x]).map fun n => [D.sc (.int .u64 n)] := by
  rw [List.drop_zero, List.take_of_length_le (by simp [h]), List.map_append]
  rfl
theorem underLL_dlet (m : Nat) (l : List Int) : UnderLL m (l.map fun n => [D.sc (.int .u64 n)]) := (underLL_map _ _).2 fun _ _ => by simp [UnderL, Under]
theorem shl_bit {z : Int} {k : Nat} (hk : z = k) (h : k ≤ 63) : (1 : Int) * 2 ^ min z.toNat IntKind.u64.bits = 2 ^ k := by
  subst hk
  rw [Int.toNat_natCast, Int.one_mul, Nat.min_eq_left (by show k ≤ 64; omega)]
theorem inr_bit {k : Nat} (h : k ≤ 63) : InR .u64 ((2 : Int) ^ k) := by
  have h1 := pow_pos' k
  have h2 := pow_le (k := k) (n := 63) h
  have h3 : (2 : Int) ^ 63 = 9223372036854775808 := by decide
  unfold InR IntKind.wrap
  simp only [IntKind.bits, IntKind.signed]
  have h4 : (2 : Int) ^ 64 = 18446744073709551616 := by decide
  simp
  omega
theorem lettL_snoc {L : List StepD} {x : List Int} {k : Nat} (h : k < x.length) : lettL L (x.take (k + 1)) = lettL L (x.take k) ++ [lett1 L (x.getD k 0)] := by
  unfold lettL
  rw [List.take_add_one, List.getElem?_eq_getElem h, List.getD_eq_getElem?_getD, List.getElem?_eq_getElem h, List.map_append]
  rfl
/-- All elements are steps, or none. -/
def StepsIn (L : List StepD) (x : List Int) : Prop := ∀ k ∈ x, k < 0 ∨ k.toNat < L.length
def c49_1 : PC := .seq (.ops [⟨(some 18), .bin .lss (.tmp 17) (.tmp 16), none, 0⟩] false) (.seq (.cond (.tmp 18) (.skip) (.exit 0)) (.seq (.block 1 (.seq (.ops [⟨(some 19), .iaddr 1 (.tmp 15) (.tmp 17), none, 0⟩,
    ⟨(some 20), .load1 (.tmp 19), none, 0⟩,
    ⟨(some 9), .move (.tmp 20), none, 0⟩] false) (.seq (.ops [⟨(some 21), .move (.tmp 9), none, 0⟩,
    ⟨(some 22), .bin .lss (.tmp 21) (.const (.int .i64 0)), none, 0⟩] false) (.cond (.tmp 22) (.ops [⟨(some 23), .move (.tmp 7), none, 0⟩,
    ⟨(some 24), .bslice 1 1 [(.const (.int .u64 9223372036854775808))], none, 0⟩,
    ⟨(some 25), .append 1 8 (.tmp 23) (.tmp 24), none, 0⟩,
    ⟨(some 7), .move (.tmp 25), none, 0⟩] false) (.ops [⟨(some 26), .move (.tmp 7), none, 0⟩,
    ⟨(some 27), .move (.tmp 5), none, 0⟩,
    ⟨(some 28), .move (.tmp 9), none, 0⟩,
    ⟨(some 29), .iaddr 3 (.tmp 27) (.tmp 28), none, 0⟩,
    ⟨(some 30), .faddr 0 (.tmp 29), none, 0⟩,
    ⟨(some 31), .load1 (.tmp 30), none, 0⟩,
    ⟨(some 32), .bin .shl (.const (.int .u64 1)) (.tmp 31), none, 0⟩,
    ⟨(some 33), .bslice 1 1 [(.tmp 32)], none, 0⟩,
    ⟨(some 34), .append 1 8 (.tmp 26) (.tmp 33), none, 0⟩,
    ⟨(some 7), .move (.tmp 34), none, 0⟩] false))))) (.ops [⟨(some 35), .bin .add (.tmp 17) (.const (.int .i64 1)), none, 0⟩,
    ⟨(some 17), .move (.tmp 35), none, 0⟩] false)))
def c49 : PC := .seq (.ops [⟨(some 2), .box (.tmp 0), none, 0⟩,
    ⟨(some 4), .move (.const (.slice none 0 0)), none, 0⟩] false) (.seq (.ops [⟨(some 11), .loadA 2 (.tmp 2), none, 0⟩,
    ⟨(some 12), .call 34 [(.tmp 11)], none, 0⟩,
    ⟨(some 10), .move (.tmp 12), none, 0⟩,
    ⟨(some 13), .ext 0 (.tmp 10), none, 0⟩,
    ⟨(some 14), .ext 1 (.tmp 10), none, 0⟩,
    ⟨(some 5), .move (.tmp 13), none, 0⟩,
    ⟨(some 6), .move (.tmp 14), none, 0⟩] false) (.seq (.ops [⟨(some 7), .move (.const (.slice none 0 0)), none, 0⟩] false) (.seq (.seq (.ops [⟨(some 15), .move (.tmp 1), none, 0⟩,
    ⟨(some 16), .len (.tmp 15), none, 0⟩,
    ⟨(some 17), .move (.const (.int .i64 0)), none, 0⟩] false) (.block 0 (.loop c49_1))) (.seq (.ops [⟨(some 36), .move (.tmp 7), none, 0⟩,
    ⟨(some 4), .move (.tmp 36), none, 0⟩] false) (.ret)))))
set_option maxRecDepth 100000 in
theorem c49_ok : FunOK Try.prog 49 37 [.tmp 4] c49 := ⟨⟨Try.f49, Try.func49, rfl, by kernel_rfl, rfl, by kernel_rfl⟩⟩
set_option maxRecDepth 100000 in
theorem rep_letters (P : ProcD) (hP : P.Fits) (h1 : P.stepsE = 0) (x : List Int) (hx : x.length ≤ 60000) (hin : StepsIn P.stepsL x) : PCall Try.prog 49 [dproc P, dints x] (dlet (lettL P.stepsL x)) := by
  refine pcall_intro c49_ok (by simp) (by simp [PureL, Pure, pure_dproc, pure_dints]) ?_ (pure_dlet _)
  (apply red_sound; focus (repeat' (first | exact Red.skip | exact Red.ret | exact RedO.nil | exact RedD.nil | exact Red.exit _ | exact Red.loop _ | exact Red.stop _ | apply Red.ops | apply Red.draw | apply Red.seq | apply Red.cond | apply Red.block | apply RedO.cons | apply RedD.cons | exact (0 : Nat))))
  ((conv => whnf); repeat (refine And.intro rfl ?_; (conv => whnf)))
  (refine .inl ⟨_, (steps_Of P hP), ?_⟩; ((conv => whnf); repeat (refine And.intro rfl ?_; (conv => whnf))))
  rw [List.length_map]
  refine pwp_ghostB (leB_nil 7 1 (by simp) rfl) ?_
  refine pwp_for [5, 15, 16] (fun ((k, c, l) : Nat × Nat × List Int) => [(7, .own 1 c 0 c), (17, .sc (.int .i64 k))]) (fun (k, c, l) => [(1, .vec true c 1 (l.map fun n => [D.sc (.int .u64 n)]))]) (fun (k, c, l) => k ≤ x.length ∧ c = l.length ∧ c = k ∧ l = lettL P.stepsL (x.take k)) (fun (k, c, l) => x.length - k) (0, 0, []) ?_
  ((conv => whnf); repeat (refine And.intro rfl ?_; (conv => whnf)))
  refine ⟨⟨by omega, rfl, by omega, by simp [lettL]⟩, by (repeat' (first | exact trivial | refine And.intro rfl ?_)), rfl, ?_⟩
  rintro ⟨k, c, l⟩ ⟨hk, hc, hck, hl⟩
  ((conv => whnf); repeat (refine And.intro rfl ?_; (conv => whnf)))
  (apply red_sound; focus (repeat' (first | exact Red.skip | exact Red.ret | exact RedO.nil | exact RedD.nil | exact Red.exit _ | exact Red.loop _ | exact Red.stop _ | apply Red.ops | apply Red.draw | apply Red.seq | apply Red.cond | apply Red.block | apply RedO.cons | apply RedD.cons | exact (0 : Nat))))
  ((conv => whnf); repeat (refine And.intro rfl ?_; (conv => whnf)))
  (refine ifK_split (fun h2 => ?_) (fun h2 => ?_) <;> (rw [h2]; ((conv => whnf); repeat (refine And.intro rfl ?_; (conv => whnf)))))
  · have hk' : k < x.length := by ((try simp only [oo, reduceCtorEq] at *) <;> omega)
    have eT := lettL_snoc (L := P.stepsL) hk'
    rw [← hl] at eT
    have hmem := hin _ (ProcD.getD_mem' hk')
    refine ⟨by omega, _, intsD_at (k := k) (by omega) hk', ?_⟩
    ((conv => whnf); repeat (refine And.intro rfl ?_; (conv => whnf)))
    generalize x.getD k 0 = z at eT hmem
    (refine ifK_split (fun h3 => ?_) (fun h3 => ?_) <;> (rw [h3]; ((conv => whnf); repeat (refine And.intro rfl ?_; (conv => whnf)))))
    · have h3 : z < 0 := by ((try simp only [oo, reduceCtorEq] at *) <;> omega)
      refine ⟨(by unfold sliceAppend; simp only [ll]; omega), ?_⟩
      ((conv => whnf); repeat (refine And.intro rfl ?_; (conv => whnf)))
      (refine .inl ⟨by (unfold InR; rw [IntKind.wrap_i64]; omega), ?_⟩; ((conv => whnf); repeat (refine And.intro rfl ?_; (conv => whnf))))
      refine ⟨(k + 1, c + 1, l ++ [9223372036854775808]), ⟨by omega, by simp [hc], by omega, by rw [eT]; unfold lett1; rw [if_pos h3]⟩, by dsimp only; omega, ?_⟩
      (refine leB_close 2 (by simp) rfl ?_ ?_ <;> (repeat' (first | exact trivial | exact rfl | exact DeepM.refl _ | exact DeepML.refl _ | exact DeepMLL.refl _ | refine And.intro ?_ ?_ | (simp [Under, UnderL, UnderLL, -List.map_take, -List.map_drop]; done))))
      · exact deepMLL_eq (dlet_snoc hc)
      · exact underLL_dlet _ _
    · have h3 : ¬ z < 0 := by ((try simp only [oo, reduceCtorEq] at *) <;> omega)
      refine ⟨by omega, _, step_atD (k := z.toNat) (by omega) (by omega), ?_⟩
      ((conv => whnf); repeat (refine And.intro rfl ?_; (conv => whnf)))
      have hz := hmem.resolve_left h3
      have hnd := (ProcD.stepAt_ok h1 hz).node
      have hN : P.nodes.length ≤ 20 := (chk_small (ProcD.stepsE_zero h1).1).1
      have e1 : lett1 P.stepsL z = 2 ^ (P.stepsL.getD z.toNat (0, 0, 0)).1.toNat := by unfold lett1; rw [if_neg h3]
      generalize P.stepsL.getD z.toNat (0, 0, 0) = s at hnd e1
      refine ⟨by omega, ?_⟩
      rw [shl_bit (k := s.1.toNat) (by omega) (by omega), ← e1]
      refine .inl ⟨by rw [e1]; exact inr_bit (by omega), ?_⟩
      ((conv => whnf); repeat (refine And.intro rfl ?_; (conv => whnf)))
      refine ⟨(by unfold sliceAppend; simp only [ll]; omega), ?_⟩
      ((conv => whnf); repeat (refine And.intro rfl ?_; (conv => whnf)))
      (refine .inl ⟨by (unfold InR; rw [IntKind.wrap_i64]; omega), ?_⟩; ((conv => whnf); repeat (refine And.intro rfl ?_; (conv => whnf))))
      refine ⟨(k + 1, c + 1, l ++ [lett1 P.stepsL z]), ⟨by omega, by simp [hc], by omega, by rw [eT]⟩, by dsimp only; omega, ?_⟩
      (refine leB_close 2 (by simp) rfl ?_ ?_ <;> (repeat' (first | exact trivial | exact rfl | exact DeepM.refl _ | exact DeepML.refl _ | exact DeepMLL.refl _ | refine And.intro ?_ ?_ | (simp [Under, UnderL, UnderLL, -List.map_take, -List.map_drop]; done))))
      · exact deepMLL_eq (dlet_snoc hc)
      · exact underLL_dlet _ _
  · have hk' : k = x.length := by have : ¬ k < x.length := by ((try simp only [oo, reduceCtorEq] at *) <;> omega)
                                  omega
    subst hk'
    rw [List.take_of_length_le (Nat.le_refl _)] at hl
    subst hl
    exact .own _ _ _ _ _ _ _ _ rfl (by rw [List.drop_zero, List.take_of_length_le (by simp; omega)]; exact deepLL_refl _)
def c54_1 : PC := .seq (.seq (.ops [⟨(some 6), .move (.tmp 5), none, 0⟩,
    ⟨(some 7), .move (.tmp 0), none, 0⟩,
    ⟨(some 8), .len (.tmp 7), none, 0⟩,
    ⟨(some 9), .bin .lss (.tmp 6) (.tmp 8), none, 0⟩] false) (.cond (.tmp 9) (.skip) (.exit 0))) (.seq (.block 1 (.seq (.ops [⟨(some 12), .move (.tmp 0), none, 0⟩,
    ⟨(some 13), .move (.tmp 5), none, 0⟩,
    ⟨(some 14), .iaddr 1 (.tmp 12) (.tmp 13), none, 0⟩,
    ⟨(some 15), .load1 (.tmp 14), none, 0⟩,
    ⟨(some 16), .bin .lss (.tmp 15) (.const (.int .i64 0)), none, 0⟩] false) (.cond (.tmp 16) (.ops [⟨(some 17), .move (.tmp 4), none, 0⟩,
    ⟨(some 18), .bslice 1 1 [(.const (.int .u64 9223372036854775808))], none, 0⟩,
    ⟨(some 19), .append 1 8 (.tmp 17) (.tmp 18), none, 0⟩,
    ⟨(some 4), .move (.tmp 19), none, 0⟩] false) (.ops [⟨(some 20), .move (.tmp 4), none, 0⟩,
    ⟨(some 21), .load1 (.tmp 1), none, 0⟩,
    ⟨(some 22), .move (.tmp 0), none, 0⟩,
    ⟨(some 23), .move (.tmp 5), none, 0⟩,
    ⟨(some 24), .iaddr 1 (.tmp 22) (.tmp 23), none, 12⟩,
    ⟨(some 25), .load1 (.tmp 24), none, 28⟩,
    ⟨(some 26), .iaddr 3 (.tmp 21) (.tmp 25), none, 62⟩,
    ⟨(some 27), .faddr 0 (.tmp 26), none, 126⟩,
    ⟨(some 28), .load1 (.tmp 27), none, 254⟩,
    ⟨(some 29), .bin .shl (.const (.int .u64 1)) (.tmp 28), none, 510⟩,
    ⟨(some 30), .bslice 1 1 [(.tmp 29)], none, 1022⟩,
    ⟨(some 31), .append 1 8 (.tmp 20) (.tmp 30), none, 2047⟩,
    ⟨(some 4), .move (.tmp 31), none, 4095⟩] true)))) (.ops [⟨(some 10), .move (.tmp 5), none, 0⟩,
    ⟨(some 11), .bin .add (.tmp 10) (.const (.int .i64 1)), none, 0⟩,
    ⟨(some 5), .move (.tmp 11), none, 0⟩] false))
def c54 : PC := .seq (.ops [⟨(some 3), .move (.const (.slice none 0 0)), none, 0⟩] false) (.seq (.ops [⟨(some 4), .move (.const (.slice none 0 0)), none, 0⟩] false) (.seq (.seq (.ops [⟨(some 5), .move (.const (.int .i64 0)), none, 0⟩] false) (.block 0 (.loop c54_1))) (.seq (.ops [⟨(some 32), .move (.tmp 4), none, 0⟩,
    ⟨(some 3), .move (.tmp 32), none, 0⟩] false) (.ret))))
set_option maxRecDepth 100000 in
theorem c54_ok : FunOK Try.prog 54 33 [.tmp 3] c54 := ⟨⟨Try.f54, Try.func54, rfl, by kernel_rfl, rfl, by kernel_rfl⟩⟩
set_option maxRecDepth 100000 in
theorem ref_letters (P : ProcD) (h1 : P.stepsE = 0) (x : List Int) (hx : x.length ≤ 60000) (hin : StepsIn P.stepsL x) : PCall Try.prog 54 [dints x, .ipt [dsteps P.stepsL]] (dlet (lettL P.stepsL x)) := by
  refine pcall_intro c54_ok (by simp) (by simp [PureL, Pure, pure_dsteps, pure_dints]) ?_ (pure_dlet _)
  (apply red_sound; focus (repeat' (first | exact Red.skip | exact Red.ret | exact RedO.nil | exact RedD.nil | exact Red.exit _ | exact Red.loop _ | exact Red.stop _ | apply Red.ops | apply Red.draw | apply Red.seq | apply Red.cond | apply Red.block | apply RedO.cons | apply RedD.cons | exact (0 : Nat))))
  ((conv => whnf); repeat (refine And.intro rfl ?_; (conv => whnf)))
  refine pwp_ghostB (leB_nil 4 1 (by simp) rfl) ?_
  refine pwp_for [0, 1] (fun ((k, c, l) : Nat × Nat × List Int) => [(4, .own 0 c 0 c), (5, .sc (.int .i64 k))]) (fun (k, c, l) => [(0, .vec true c 1 (l.map fun n => [D.sc (.int .u64 n)]))]) (fun (k, c, l) => k ≤ x.length ∧ c = l.length ∧ c = k ∧ l = lettL P.stepsL (x.take k)) (fun (k, c, l) => x.length - k) (0, 0, []) ?_
  ((conv => whnf); repeat (refine And.intro rfl ?_; (conv => whnf)))
  refine ⟨⟨by omega, rfl, by omega, by simp [lettL]⟩, by (repeat' (first | exact trivial | refine And.intro rfl ?_)), rfl, ?_⟩
  rintro ⟨k, c, l⟩ ⟨hk, hc, hck, hl⟩
  ((conv => whnf); repeat (refine And.intro rfl ?_; (conv => whnf)))
  (apply red_sound; focus (repeat' (first | exact Red.skip | exact Red.ret | exact RedO.nil | exact RedD.nil | exact Red.exit _ | exact Red.loop _ | exact Red.stop _ | apply Red.ops | apply Red.draw | apply Red.seq | apply Red.cond | apply Red.block | apply RedO.cons | apply RedD.cons | exact (0 : Nat))))
  ((conv => whnf); repeat (refine And.intro rfl ?_; (conv => whnf)))
  rw [List.length_map]
  (refine ifK_split (fun h2 => ?_) (fun h2 => ?_) <;> (rw [h2]; ((conv => whnf); repeat (refine And.intro rfl ?_; (conv => whnf)))))
  · have hk' : k < x.length := by ((try simp only [oo, reduceCtorEq] at *) <;> omega)
    have eT := lettL_snoc (L := P.stepsL) hk'
    rw [← hl] at eT
    have hmem := hin _ (ProcD.getD_mem' hk')
    have hgx := intsD_at (l := x) (z := (k : Int).toNat) (k := k) (by omega) hk'
    generalize x.getD k 0 = z at eT hmem hgx
    refine ⟨by omega, _, hgx, ?_⟩
    ((conv => whnf); repeat (refine And.intro rfl ?_; (conv => whnf)))
    (refine ifK_split (fun h3 => ?_) (fun h3 => ?_) <;> (rw [h3]; ((conv => whnf); repeat (refine And.intro rfl ?_; (conv => whnf)))))
    · have h3 : z < 0 := by ((try simp only [oo, reduceCtorEq] at *) <;> omega)
      refine ⟨(by unfold sliceAppend; simp only [ll]; omega), ?_⟩
      ((conv => whnf); repeat (refine And.intro rfl ?_; (conv => whnf)))
      (refine .inl ⟨by (unfold InR; rw [IntKind.wrap_i64]; omega), ?_⟩; ((conv => whnf); repeat (refine And.intro rfl ?_; (conv => whnf))))
      refine ⟨(k + 1, c + 1, l ++ [9223372036854775808]), ⟨by omega, by simp [hc], by omega, by rw [eT]; unfold lett1; rw [if_pos h3]⟩, by dsimp only; omega, ?_⟩
      (refine leB_close 1 (by simp) rfl ?_ ?_ <;> (repeat' (first | exact trivial | exact rfl | exact DeepM.refl _ | exact DeepML.refl _ | exact DeepMLL.refl _ | refine And.intro ?_ ?_ | (simp [Under, UnderL, UnderLL, -List.map_take, -List.map_drop]; done))))
      · exact deepMLL_eq (dlet_snoc hc)
      · exact underLL_dlet _ _
    · have h3 : ¬ z < 0 := by ((try simp only [oo, reduceCtorEq] at *) <;> omega)
      refine ⟨by omega, _, hgx, ?_⟩
      ((conv => whnf); repeat (refine And.intro rfl ?_; (conv => whnf)))
      refine ⟨by omega, _, step_atD (k := z.toNat) (by omega) (by omega), ?_⟩
      ((conv => whnf); repeat (refine And.intro rfl ?_; (conv => whnf)))
      have hz := hmem.resolve_left h3
      have hnd := (ProcD.stepAt_ok h1 hz).node
      have hN : P.nodes.length ≤ 20 := (chk_small (ProcD.stepsE_zero h1).1).1
      have e1 : lett1 P.stepsL z = 2 ^ (P.stepsL.getD z.toNat (0, 0, 0)).1.toNat := by unfold lett1; rw [if_neg h3]
      generalize P.stepsL.getD z.toNat (0, 0, 0) = s at hnd e1
      refine ⟨by omega, ?_⟩
      rw [shl_bit (k := s.1.toNat) (by omega) (by omega), ← e1]
      refine .inl ⟨by rw [e1]; exact inr_bit (by omega), ?_⟩
      ((conv => whnf); repeat (refine And.intro rfl ?_; (conv => whnf)))
      refine ⟨(by unfold sliceAppend; simp only [ll]; omega), ?_⟩
      ((conv => whnf); repeat (refine And.intro rfl ?_; (conv => whnf)))
      (refine .inl ⟨by (unfold InR; rw [IntKind.wrap_i64]; omega), ?_⟩; ((conv => whnf); repeat (refine And.intro rfl ?_; (conv => whnf))))
      refine ⟨(k + 1, c + 1, l ++ [lett1 P.stepsL z]), ⟨by omega, by simp [hc], by omega, by rw [eT]⟩, by dsimp only; omega, ?_⟩
      (refine leB_close 1 (by simp) rfl ?_ ?_ <;> (repeat' (first | exact trivial | exact rfl | exact DeepM.refl _ | exact DeepML.refl _ | exact DeepMLL.refl _ | refine And.intro ?_ ?_ | (simp [Under, UnderL, UnderLL, -List.map_take, -List.map_drop]; done))))
      · exact deepMLL_eq (dlet_snoc hc)
      · exact underLL_dlet _ _
  · have hk' : k = x.length := by have : ¬ k < x.length := by ((try simp only [oo, reduceCtorEq] at *) <;> omega)
                                  omega
    subst hk'
    rw [List.take_of_length_le (Nat.le_refl _)] at hl
    subst hl
    exact .own _ _ _ _ _ _ _ _ rfl (by rw [List.drop_zero, List.take_of_length_le (by simp; omega)]; exact deepLL_refl _)
/-- A verdict that is right. -/
structure VerdOK (P : ProcD) (stem loop : List Int) : Prop where
  steps : P.stepsE = 0
  word : stem.length + loop.length ≤ 60
  some_ : 1 ≤ loop.length
  go : ∀ j, j < stem.length + loop.length → P.rerr (stem ++ loop) j = 0
theorem VerdOK.all {P : ProcD} {stem loop : List Int} (h : VerdOK P stem loop) : StepsIn P.stepsL (stem ++ loop) := by
  intro k hk
  obtain ⟨j, hj, rfl⟩ := ProcD.getD_mem_of hk
  have := h.go j (by simpa using hj)
  unfold ProcD.rerr at this
  by_cases e : (stem ++ loop).getD j 0 = -1
  · exact .inl (by omega)
  · rw [if_neg e] at this
    have := ProcD.firE_zero this
    exact .inr (by omega)
theorem VerdOK.stem {P : ProcD} {stem loop : List Int} (h : VerdOK P stem loop) : StepsIn P.stepsL stem := fun k hk => h.all k (List.mem_append.2 (.inl hk))
theorem VerdOK.loop {P : ProcD} {stem loop : List Int} (h : VerdOK P stem loop) : StepsIn P.stepsL loop := fun k hk => h.all k (List.mem_append.2 (.inr hk))
noncomputable def ProcD.frm (P : ProcD) (stem loop : List Int) (j : Nat) : List Int := P.rnow (stem ++ loop) (stem.length + j)
theorem VerdOK.mark {P : ProcD} {stem loop : List Int} (h : VerdOK P stem loop) {j : Nat} (hj : j < loop.length) : P.markE (P.frm stem loop j) = 0 ∧ P.Mark (P.frm stem loop j) ∧ (P.frm stem loop j).length ≤ 30 := by
  have hz : ∀ q, q < stem.length + j → P.rerr (stem ++ loop) q = 0 := fun q hq => h.go q (by omega)
  have hb := ProcD.rnow_ok h.steps _ hz
  exact ⟨by unfold ProcD.markE; rw [if_neg (by have := h.steps; omega)]; exact if_pos hb, ProcD.mark_of hb, ProcD.rnow_len h.steps hz⟩
theorem VerdOK.at {P : ProcD} {stem loop : List Int} (h : VerdOK P stem loop) {j : Nat} (hj : j < loop.length) {z : Nat} (hz : z = stem.length + j) :
    ((P.rgrid (stem ++ loop) (stem.length + loop.length)).map fun l => [dints l])[z]? = some [dints (P.frm stem loop j)] := by
  rw [gridD_at hz (by rw [ProcD.rgrid_len]; omega), ProcD.rgrid_at _ _ (by omega)]
  rfl
def c47_2 : PC := .seq (.ops [⟨(some 47), .bin .lss (.tmp 46) (.tmp 45), none, 0⟩] false) (.seq (.cond (.tmp 47) (.skip) (.exit 2)) (.seq (.block 3 (.seq (.ops [⟨(some 48), .iaddr 1 (.tmp 44) (.tmp 46), none, 0⟩,
    ⟨(some 49), .load1 (.tmp 48), none, 0⟩,
    ⟨(some 14), .move (.tmp 49), none, 0⟩] false) (.ops [⟨(some 50), .move (.tmp 9), none, 0⟩,
    ⟨(some 51), .move (.tmp 14), none, 0⟩,
    ⟨(some 52), .iaddr 1 (.tmp 50) (.tmp 51), none, 0⟩,
    ⟨(some 53), .load1 (.tmp 52), none, 0⟩,
    ⟨(some 54), .bin .add (.tmp 53) (.const (.int .i64 1)), none, 0⟩,
    ⟨(some 55), .iaddr 1 (.tmp 50) (.tmp 51), none, 0⟩,
    ⟨none, .store 1 (.tmp 55) (.tmp 54), none, 0⟩] false))) (.ops [⟨(some 56), .bin .add (.tmp 46) (.const (.int .i64 1)), none, 0⟩,
    ⟨(some 46), .move (.tmp 56), none, 0⟩] false)))
def c47_1 : PC := .seq (.ops [⟨(some 29), .bin .lss (.tmp 28) (.tmp 27), none, 0⟩] false) (.seq (.cond (.tmp 29) (.skip) (.exit 0)) (.seq (.block 1 (.seq (.ops [⟨(some 30), .move (.tmp 28), none, 0⟩,
    ⟨(some 10), .move (.tmp 30), none, 0⟩] false) (.seq (.ops [⟨(some 32), .loadA 2 (.tmp 3), none, 0⟩,
    ⟨(some 33), .move (.tmp 2), none, 0⟩,
    ⟨(some 34), .faddr 1 (.tmp 4), none, 0⟩,
    ⟨(some 35), .load1 (.tmp 34), none, 4⟩,
    ⟨(some 36), .len (.tmp 35), none, 12⟩,
    ⟨(some 37), .move (.tmp 10), none, 0⟩,
    ⟨(some 38), .bin .add (.tmp 36) (.tmp 37), none, 60⟩,
    ⟨(some 39), .iaddr 1 (.tmp 33) (.tmp 38), none, 126⟩,
    ⟨(some 40), .load1 (.tmp 39), none, 254⟩,
    ⟨(some 41), .call 76 [(.tmp 32), (.tmp 40)], none, 511⟩,
    ⟨(some 31), .move (.tmp 41), none, 1023⟩,
    ⟨(some 42), .ext 0 (.tmp 31), none, 2047⟩,
    ⟨(some 43), .ext 1 (.tmp 31), none, 2047⟩,
    ⟨(some 11), .move (.tmp 42), none, 4095⟩,
    ⟨(some 12), .move (.tmp 43), none, 16383⟩] true) (.seq (.ops [⟨(some 44), .move (.tmp 11), none, 0⟩,
    ⟨(some 45), .len (.tmp 44), none, 0⟩,
    ⟨(some 46), .move (.const (.int .i64 0)), none, 0⟩] false) (.block 2 (.loop c47_2)))))) (.ops [⟨(some 57), .bin .add (.tmp 28) (.const (.int .i64 1)), none, 0⟩,
    ⟨(some 28), .move (.tmp 57), none, 0⟩] false)))
def c47_3 : PC := .seq (.ops [⟨(some 61), .bin .lss (.tmp 60) (.tmp 59), none, 0⟩] false) (.seq (.cond (.tmp 61) (.skip) (.exit 4)) (.seq (.block 5 (.seq (.ops [⟨(some 62), .move (.tmp 60), none, 0⟩,
    ⟨(some 63), .iaddr 1 (.tmp 58) (.tmp 60), none, 0⟩,
    ⟨(some 64), .load1 (.tmp 63), none, 0⟩,
    ⟨(some 15), .move (.tmp 62), none, 0⟩,
    ⟨(some 16), .move (.tmp 64), none, 0⟩] false) (.seq (.ops [⟨(some 65), .move (.tmp 16), none, 0⟩,
    ⟨(some 66), .faddr 2 (.tmp 4), none, 0⟩,
    ⟨(some 67), .load1 (.tmp 66), none, 0⟩,
    ⟨(some 68), .len (.tmp 67), none, 0⟩,
    ⟨(some 69), .bin .eql (.tmp 65) (.tmp 68), none, 0⟩,
    ⟨(some 70), .move (.tmp 69), none, 0⟩,
    ⟨(some 71), .faddr 2 (.tmp 4), (some (70, true)), 0⟩,
    ⟨(some 72), .load1 (.tmp 71), (some (70, true)), 0⟩,
    ⟨(some 73), .move (.tmp 15), (some (70, true)), 0⟩,
    ⟨(some 74), .call 53 [(.tmp 72), (.tmp 73)], (some (70, true)), 0⟩,
    ⟨(some 75), .un .not (.tmp 74), (some (70, true)), 0⟩,
    ⟨(some 76), .pick (.tmp 70) (.tmp 75) (.const (.bool false)), none, 0⟩] false) (.cond (.tmp 76) (.seq (.ops [⟨(some 6), .move (.const (.bool false)), none, 0⟩] false) (.ret)) (.skip))))) (.ops [⟨(some 77), .bin .add (.tmp 60) (.const (.int .i64 1)), none, 0⟩,
    ⟨(some 60), .move (.tmp 77), none, 0⟩] false)))
def c47 : PC := .seq (.ops [⟨(some 3), .box (.tmp 0), none, 0⟩,
    ⟨(some 4), .box (.tmp 1), none, 0⟩,
    ⟨(some 6), .move (.const (.bool false)), none, 0⟩] false) (.seq (.ops [⟨(some 18), .loadA 2 (.tmp 3), none, 0⟩,
    ⟨(some 19), .call 34 [(.tmp 18)], none, 0⟩,
    ⟨(some 17), .move (.tmp 19), none, 0⟩,
    ⟨(some 20), .ext 0 (.tmp 17), none, 0⟩,
    ⟨(some 21), .ext 1 (.tmp 17), none, 0⟩,
    ⟨(some 7), .move (.tmp 20), none, 0⟩,
    ⟨(some 8), .move (.tmp 21), none, 0⟩] false) (.seq (.ops [⟨(some 22), .move (.tmp 7), none, 0⟩,
    ⟨(some 23), .len (.tmp 22), none, 0⟩,
    ⟨(some 24), .mslice 1 8 [(.int .i64 0)] (.tmp 23) (.tmp 23), none, 0⟩,
    ⟨(some 9), .move (.tmp 24), none, 0⟩] false) (.seq (.seq (.ops [⟨(some 25), .faddr 2 (.tmp 4), none, 0⟩,
    ⟨(some 26), .load1 (.tmp 25), none, 0⟩,
    ⟨(some 27), .len (.tmp 26), none, 0⟩,
    ⟨(some 28), .move (.const (.int .i64 0)), none, 0⟩] false) (.block 0 (.loop c47_1))) (.seq (.seq (.ops [⟨(some 58), .move (.tmp 9), none, 0⟩,
    ⟨(some 59), .len (.tmp 58), none, 0⟩,
    ⟨(some 60), .move (.const (.int .i64 0)), none, 0⟩] false) (.block 4 (.loop c47_3))) (.seq (.ops [⟨(some 6), .move (.const (.bool true)), none, 0⟩] false) (.ret))))))
set_option maxRecDepth 100000 in
theorem c47_ok : FunOK Try.prog 47 78 [.tmp 6] c47 := ⟨⟨Try.f47, Try.func47, rfl, by kernel_rfl, rfl, by kernel_rfl⟩⟩
set_option maxRecDepth 100000 in
theorem rep_fair (P : ProcD) (hP : P.Fits) (h : Bool) (stem loop : List Int) (hV : VerdOK P stem loop) :
    PCall Try.prog 47 [dproc P, dverd h stem loop, dgrid (P.rgrid (stem ++ loop) (stem.length + loop.length))] (.sc (.bool (P.fairB P.stepsL loop (P.frm stem loop)))) := by
  have hw := hV.word
  have hFr := fun j (hj : j < loop.length) => hV.mark hj
  have hAt := fun j (hj : j < loop.length) z hz => hV.at hj (z := z) hz
  have hno := fun k hk h1 h2 => ProcD.fairB_no (P := P) (L := P.stepsL) (loop := loop) (fr := P.frm stem loop) (k := k) hk h1 h2
  have hyes := ProcD.fairB_yes (P := P) (L := P.stepsL) (loop := loop) (fr := P.frm stem loop)
  have h60 := (ProcD.stepsE_zero hV.steps).2.2
  have hcnt := fun i k => P.cntTo_le P.stepsL (P.frm stem loop) i k
  have hadd := fun i => ProcD.addTo_may (P := P) (M := P.frm stem loop i) (L := P.stepsL) (g := P.cntTo P.stepsL (P.frm stem loop) i) (l := P.mayTo (P.frm stem loop i) P.stepsL P.stepsL.length) P.stepsL.length fun j _ => rfl
  have hall := fun k (hk : k < P.stepsL.length) i => ProcD.cntTo_all (P := P) (fr := P.frm stem loop) hk i
  have hsucc : ∀ i k, P.cntTo P.stepsL (P.frm stem loop) (i + 1) k = P.cntTo P.stepsL (P.frm stem loop) i k + if k < P.stepsL.length ∧ P.mayB (P.frm stem loop i) (P.stepsL.getD k (0, 0, 0)) = true then 1 else 0 := fun i k => rfl
  have hzero : P.cntTo P.stepsL (P.frm stem loop) 0 = fun _ => 0 := rfl
  have hen : ∀ i, i < loop.length → P.enL (P.frm stem loop i) = P.mayTo (P.frm stem loop i) P.stepsL P.stepsL.length := fun i hi => by unfold ProcD.enL; rw [if_pos (hFr i hi).1]
  have hSt := steps_Of P hP
  generalize P.fairB P.stepsL loop (P.frm stem loop) = res at hno hyes
  generalize hLL : P.rgrid (stem ++ loop) (stem.length + loop.length) = fr at hAt
  generalize P.frm stem loop = fm at *
  generalize P.cntTo P.stepsL fm = cnt at *
  refine pcall_intro c47_ok (by simp) (by simp [PureL, Pure, pure_dproc, pure_dverd, pure_dgrid']) ?_ (by simp [Pure])
  (apply red_sound; focus (repeat' (first | exact Red.skip | exact Red.ret | exact RedO.nil | exact RedD.nil | exact Red.exit _ | exact Red.loop _ | exact Red.stop _ | apply Red.ops | apply Red.draw | apply Red.seq | apply Red.cond | apply Red.block | apply RedO.cons | apply RedD.cons | exact (0 : Nat))))
  ((conv => whnf); repeat (refine And.intro rfl ?_; (conv => whnf)))
  (refine .inl ⟨_, hSt, ?_⟩; ((conv => whnf); repeat (refine And.intro rfl ?_; (conv => whnf))))
  rw [srows_len]
  refine ⟨by omega, by omega, by omega, ?_⟩
  rw [Int.toNat_natCast, show List.map D.sc [Value.int .i64 0] = [D.sc (.int .i64 0)] from rfl, gl_rep]
  ((conv => whnf); repeat (refine And.intro rfl ?_; (conv => whnf)))
  rw [List.length_map]
  refine pwp_for [2, 3, 4, 9, 27] (fun i : Nat => [(28, .sc (.int .i64 i))]) (fun i => [(2, .vec true 0 1 (i64s (gl P.stepsL.length (cnt i))))]) (fun i => i ≤ loop.length) (fun i => loop.length - i) 0 ?_
  ((conv => whnf); repeat (refine And.intro rfl ?_; (conv => whnf)))
  refine ⟨by omega, by (repeat' (first | exact trivial | refine And.intro rfl ?_)), by rw [hzero]; rfl, ?_⟩
  rintro i hi
  ((conv => whnf); repeat (refine And.intro rfl ?_; (conv => whnf)))
  (apply red_sound; focus (repeat' (first | exact Red.skip | exact Red.ret | exact RedO.nil | exact RedD.nil | exact Red.exit _ | exact Red.loop _ | exact Red.stop _ | apply Red.ops | apply Red.draw | apply Red.seq | apply Red.cond | apply Red.block | apply RedO.cons | apply RedD.cons | exact (0 : Nat))))
  ((conv => whnf); repeat (refine And.intro rfl ?_; (conv => whnf)))
  (refine ifK_split (fun h2 => ?_) (fun h2 => ?_) <;> (rw [h2]; ((conv => whnf); repeat (refine And.intro rfl ?_; (conv => whnf)))))
  · have hi' : i < loop.length := by ((try simp only [oo, reduceCtorEq] at *) <;> omega)
    rw [List.length_map]
    (refine .inl ⟨by (unfold InR; rw [IntKind.wrap_i64]; omega), ?_⟩; ((conv => whnf); repeat (refine And.intro rfl ?_; (conv => whnf))))
    refine ⟨by omega, _, hAt i hi' _ (by omega), ?_⟩
    ((conv => whnf); repeat (refine And.intro rfl ?_; (conv => whnf)))
    have hE := game_Enabled P hP (fm i) (by have := (hFr i hi').2.2; omega)
    rw [hen i hi'] at hE
    (refine .inl ⟨_, hE, ?_⟩; ((conv => whnf); repeat (refine And.intro rfl ?_; (conv => whnf))))
    have hrng := ProcD.mayTo_rng (P := P) (M := fm i) (L := P.stepsL) P.stepsL.length
    have hlen := P.mayTo_len (fm i) P.stepsL P.stepsL.length
    have had := hadd i
    have hle := fun j k => addTo_le (l := P.mayTo (fm i) P.stepsL P.stepsL.length) (fun k => hcnt i k) j k
    generalize P.mayTo (fm i) P.stepsL P.stepsL.length = el at hrng hlen had hle
    rw [List.length_map]
    refine pwp_for [2, 3, 4, 9, 27, 28, 44, 45] (fun j : Nat => [(46, .sc (.int .i64 j))]) (fun j => [(2, .vec true 0 1 (i64s (gl P.stepsL.length (addTo el (cnt i) j))))]) (fun j => j ≤ el.length) (fun j => el.length - j) 0 ?_
    ((conv => whnf); repeat (refine And.intro rfl ?_; (conv => whnf)))
    refine ⟨by omega, by (repeat' (first | exact trivial | refine And.intro rfl ?_)), rfl, ?_⟩
    rintro j hj
    ((conv => whnf); repeat (refine And.intro rfl ?_; (conv => whnf)))
    (apply red_sound; focus (repeat' (first | exact Red.skip | exact Red.ret | exact RedO.nil | exact RedD.nil | exact Red.exit _ | exact Red.loop _ | exact Red.stop _ | apply Red.ops | apply Red.draw | apply Red.seq | apply Red.cond | apply Red.block | apply RedO.cons | apply RedD.cons | exact (0 : Nat))))
    ((conv => whnf); repeat (refine And.intro rfl ?_; (conv => whnf)))
    (refine ifK_split (fun h3 => ?_) (fun h3 => ?_) <;> (rw [h3]; ((conv => whnf); repeat (refine And.intro rfl ?_; (conv => whnf)))))
    · have hj' : j < el.length := by ((try simp only [oo, reduceCtorEq] at *) <;> omega)
      have hx := hrng _ (ProcD.getD_mem' hj')
      have hx2 := hle j (el.getD j 0).toNat
      have eS : addTo el (cnt i) (j + 1) = putA (addTo el (cnt i) j) (el.getD j 0).toNat (addTo el (cnt i) j (el.getD j 0).toNat + 1) := rfl
      refine ⟨by omega, _, intsD_at (k := j) (by omega) hj', ?_⟩
      ((conv => whnf); repeat (refine And.intro rfl ?_; (conv => whnf)))
      generalize el.getD j 0 = x at hx hx2 eS
      generalize addTo el (cnt i) j = ga at hx2 eS
      (refine ⟨by omega, (by first | omega | (simp; done) | (simp; omega) | (simp only [ll]; omega)), ?_⟩; ((conv => whnf); repeat (refine And.intro rfl ?_; (conv => whnf))))
      refine ⟨_, gl_atN x.toNat (by omega) (by omega), ?_⟩
      ((conv => whnf); repeat (refine And.intro rfl ?_; (conv => whnf)))
      (refine .inl ⟨by (unfold InR; rw [IntKind.wrap_i64]; omega), ?_⟩; ((conv => whnf); repeat (refine And.intro rfl ?_; (conv => whnf))))
      (refine ⟨by omega, (by first | omega | (simp; done) | (simp; omega) | (simp only [ll]; omega)), ?_⟩; ((conv => whnf); repeat (refine And.intro rfl ?_; (conv => whnf))))
      refine ⟨_, gl_atN x.toNat (by omega) (by omega), ?_⟩
      ((conv => whnf); repeat (refine And.intro rfl ?_; (conv => whnf)))
      (refine .inl ⟨by (unfold InR; rw [IntKind.wrap_i64]; omega), ?_⟩; ((conv => whnf); repeat (refine And.intro rfl ?_; (conv => whnf))))
      refine ⟨j + 1, by omega, by dsimp only; omega, leB_envH (by (repeat' (first | exact trivial | refine And.intro rfl ?_))) ?_⟩
      rw [gl_set (k := x.toNat) (by omega), ← eS]
      rfl
    · have hj' : j = el.length := by have : ¬ j < el.length := by ((try simp only [oo, reduceCtorEq] at *) <;> omega)
                                     omega
      subst hj'
      (refine .inl ⟨by (unfold InR; rw [IntKind.wrap_i64]; omega), ?_⟩; ((conv => whnf); repeat (refine And.intro rfl ?_; (conv => whnf))))
      have e9 : gl P.stepsL.length (addTo el (cnt i) el.length) = gl P.stepsL.length (cnt (i + 1)) := gl_congr fun k hk => by rw [had, hsucc]
      exact ⟨i + 1, by omega, by dsimp only; omega, leB_envH (by (repeat' (first | exact trivial | refine And.intro rfl ?_))) (by rw [e9]; rfl)⟩
  · have hi' : i = loop.length := by have : ¬ i < loop.length := by ((try simp only [oo, reduceCtorEq] at *) <;> omega)
                                     omega
    subst hi'
    clear h2 hi
    refine pwp_for [4, 58, 59] (fun k : Nat => [(60, .sc (.int .i64 k))]) (fun _ => []) (fun k => k ≤ P.stepsL.length ∧ ∀ j : Nat, j < k → (j : Int) ∈ loop ∨ ∃ i, i < loop.length ∧ P.mayB (fm i) (P.stepsL.getD j (0, 0, 0)) = false) (fun k => P.stepsL.length - k) 0 ?_
    ((conv => whnf); repeat (refine And.intro rfl ?_; (conv => whnf)))
    refine ⟨⟨by omega, fun j hj => by omega⟩, by (repeat' (first | exact trivial | refine And.intro rfl ?_)), rfl, ?_⟩
    rintro k ⟨hk, hpre⟩
    ((conv => whnf); repeat (refine And.intro rfl ?_; (conv => whnf)))
    (apply red_sound; focus (repeat' (first | exact Red.skip | exact Red.ret | exact RedO.nil | exact RedD.nil | exact Red.exit _ | exact Red.loop _ | exact Red.stop _ | apply Red.ops | apply Red.draw | apply Red.seq | apply Red.cond | apply Red.block | apply RedO.cons | apply RedD.cons | exact (0 : Nat))))
    ((conv => whnf); repeat (refine And.intro rfl ?_; (conv => whnf)))
    (refine ifK_split (fun h2 => ?_) (fun h2 => ?_) <;> (rw [h2]; ((conv => whnf); repeat (refine And.intro rfl ?_; (conv => whnf)))))
    · have hk' : k < P.stepsL.length := by ((try simp only [oo, reduceCtorEq] at *) <;> omega)
      (refine ⟨by omega, (by first | omega | (simp; done) | (simp; omega) | (simp only [ll]; omega)), ?_⟩; ((conv => whnf); repeat (refine And.intro rfl ?_; (conv => whnf))))
      refine ⟨_, gl_atN k (by omega) hk', ?_⟩
      ((conv => whnf); repeat (refine And.intro rfl ?_; (conv => whnf)))
      rw [List.length_map]
      have ha := hall k hk' loop.length
      have next : ((k : Int) ∈ loop ∨ ∃ i, i < loop.length ∧ P.mayB (fm i) (P.stepsL.getD k (0, 0, 0)) = false) → ∀ j : Nat, j < k + 1 → (j : Int) ∈ loop ∨ ∃ i, i < loop.length ∧ P.mayB (fm i) (P.stepsL.getD j (0, 0, 0)) = false := fun h j hj => by
        by_cases e : j = k
        · subst e; exact h
        · exact hpre j (by omega)
      cases h3 : (cnt loop.length k == (loop.length : Int))
      · have h3 : cnt loop.length k ≠ loop.length := by ((try simp only [oo, reduceCtorEq] at *) <;> omega)
        ((conv => whnf); repeat (refine And.intro rfl ?_; (conv => whnf)))
        (refine .inl ⟨by (unfold InR; rw [IntKind.wrap_i64]; omega), ?_⟩; ((conv => whnf); repeat (refine And.intro rfl ?_; (conv => whnf))))
        refine ⟨k + 1, ⟨by omega, next (.inr ?_)⟩, by dsimp only; omega, leB_envH (by (repeat' (first | exact trivial | refine And.intro rfl ?_))) rfl⟩
        refine Classical.byContradiction fun hno' => h3 (ha.2 fun j hj => ?_)
        cases q : P.mayB (fm j) (P.stepsL.getD k (0, 0, 0)) with
        | true => rfl
        | false => exact absurd ⟨j, hj, q⟩ hno'
      · have h3 : cnt loop.length k = loop.length := by ((try simp only [oo, reduceCtorEq] at *) <;> omega)
        ((conv => whnf); repeat (refine And.intro rfl ?_; (conv => whnf)))
        (refine .inl ⟨_, (contains_int loop (by omega) (k : Int)), ?_⟩; ((conv => whnf); repeat (refine And.intro rfl ?_; (conv => whnf))))
        (refine ifK_split (fun h4 => ?_) (fun h4 => ?_) <;> (rw [h4]; ((conv => whnf); repeat (refine And.intro rfl ?_; (conv => whnf)))))
        · have h4 : (k : Int) ∉ loop := by
            intro q
            rw [List.contains_iff_mem.2 q] at h4
            cases h4
          exact deep_eq (by rw [hno k hk' h4 (ha.1 h3)])
        · have h4 : (k : Int) ∈ loop := by
            refine Classical.byContradiction fun q => ?_
            rw [show loop.contains (k : Int) = false from Bool.eq_false_iff.2 fun h => q (List.contains_iff_mem.1 h)] at h4
            cases h4
          (refine .inl ⟨by (unfold InR; rw [IntKind.wrap_i64]; omega), ?_⟩; ((conv => whnf); repeat (refine And.intro rfl ?_; (conv => whnf))))
          exact ⟨k + 1, ⟨by omega, next (.inl h4)⟩, by dsimp only; omega, leB_envH (by (repeat' (first | exact trivial | refine And.intro rfl ?_))) rfl⟩
    · have hk' : k = P.stepsL.length := by have : ¬ k < P.stepsL.length := by ((try simp only [oo, reduceCtorEq] at *) <;> omega)
                                           omega
      subst hk'
      exact deep_eq (by rw [hyes hpre])
end

/-! ### XRp3 -/
section
open Go.RowKit
set_option linter.unusedSimpArgs false
set_option linter.unusedVariables false
noncomputable def ProcD.provB (P : ProcD) (stem loop : List Int) (t : Tree) : Bool := P.fairB P.stepsL loop (P.frm stem loop) && !(trT (lettL P.stepsL stem) (lettL P.stepsL loop) t 0)
theorem node_63 {P : ProcD} (h1 : P.stepsE = 0) (k : Nat) : (P.stepsL.getD k (0, 0, 0)).1.toNat ≤ 63 := by
  by_cases hk : k < P.stepsL.length
  · have hnd := (ProcD.stepAt_ok h1 hk).node
    have hN : P.nodes.length ≤ 20 := (chk_small (ProcD.stepsE_zero h1).1).1
    omega
  · rw [List.getD_eq_getElem?_getD, List.getElem?_eq_none (by omega)]
    decide
theorem VerdOK.of {P : ProcD} {stem loop : List Int} {n : Nat} (hz : ∀ j, j < n → P.rerr (stem ++ loop) j = 0) (hs : n = stem.length + loop.length ∨ P.rerr (stem ++ loop) n ≠ 0) (h60 : stem.length + loop.length ≤ 60) (h : P.fraE stem loop n = 0) :
    VerdOK P stem loop ∧ P.fraL stem loop n = P.rgrid (stem ++ loop) (stem.length + loop.length) := by
  have eL : P.fraL stem loop n = P.rgrid (stem ++ loop) (stem.length + loop.length) := by unfold ProcD.fraL; rw [if_pos h]
  have eE : P.fraE stem loop n = if P.stepsE ≠ 0 then P.stepsE else if loop.length = 0 then 1 else if 60000 < stem.length + loop.length then 2
      else if n ≠ stem.length + loop.length then P.rerr (stem ++ loop) n
      else if P.rnow (stem ++ loop) stem.length = P.rnow (stem ++ loop) (stem.length + loop.length) then 0 else 9 := rfl
  rw [h] at eE
  by_cases q1 : P.stepsE ≠ 0
  · rw [if_pos q1] at eE; omega
  rw [if_neg q1] at eE
  by_cases q2 : loop.length = 0
  · rw [if_pos q2] at eE; omega
  rw [if_neg q2, if_neg (by omega)] at eE
  by_cases q3 : n ≠ stem.length + loop.length
  · rw [if_pos q3] at eE
    rcases hs with hs | hs
    · exact absurd hs q3
    · omega
  · have q3 : n = stem.length + loop.length := Classical.not_not.1 q3
    subst q3
    exact ⟨⟨by omega, h60, by omega, hz⟩, eL⟩
def c14 : PC := .seq (.ops [⟨(some 3), .box (.tmp 0), none, 0⟩,
    ⟨(some 4), .box (.tmp 1), none, 0⟩,
    ⟨(some 5), .box (.tmp 2), none, 0⟩,
    ⟨(some 6), .move (.const (.bool false)), none, 0⟩,
    ⟨(some 7), .move (.const (.int .i64 0)), none, 0⟩] false) (.seq (.ops [⟨(some 12), .loadA 2 (.tmp 3), none, 0⟩,
    ⟨(some 13), .loadA 3 (.tmp 4), none, 0⟩,
    ⟨(some 14), .call 45 [(.tmp 12), (.tmp 13)], none, 0⟩,
    ⟨(some 11), .move (.tmp 14), none, 0⟩,
    ⟨(some 15), .ext 0 (.tmp 11), none, 0⟩,
    ⟨(some 16), .ext 1 (.tmp 11), none, 0⟩,
    ⟨(some 8), .move (.tmp 15), none, 0⟩,
    ⟨(some 9), .move (.tmp 16), none, 0⟩] false) (.seq (.seq (.ops [⟨(some 17), .move (.tmp 9), none, 0⟩,
    ⟨(some 18), .bin .neq (.tmp 17) (.const (.int .i64 0)), none, 0⟩] false) (.cond (.tmp 18) (.seq (.ops [⟨(some 19), .move (.tmp 9), none, 0⟩,
    ⟨(some 6), .move (.const (.bool false)), none, 0⟩,
    ⟨(some 7), .move (.tmp 19), none, 0⟩] false) (.ret)) (.skip))) (.seq (.seq (.ops [⟨(some 20), .loadA 3 (.tmp 5), none, 0⟩,
    ⟨(some 21), .call 46 [(.tmp 20)], none, 0⟩,
    ⟨(some 10), .move (.tmp 21), none, 0⟩] false) (.seq (.ops [⟨(some 22), .move (.tmp 10), none, 0⟩,
    ⟨(some 23), .bin .neq (.tmp 22) (.const (.int .i64 0)), none, 0⟩] false) (.cond (.tmp 23) (.seq (.ops [⟨(some 24), .move (.tmp 10), none, 0⟩,
    ⟨(some 6), .move (.const (.bool false)), none, 0⟩,
    ⟨(some 7), .move (.tmp 24), none, 0⟩] false) (.ret)) (.skip)))) (.seq (.ops [⟨(some 25), .loadA 2 (.tmp 3), none, 0⟩,
    ⟨(some 26), .loadA 3 (.tmp 4), none, 0⟩,
    ⟨(some 27), .move (.tmp 8), none, 0⟩,
    ⟨(some 28), .call 47 [(.tmp 25), (.tmp 26), (.tmp 27)], none, 7⟩,
    ⟨(some 29), .move (.tmp 28), none, 15⟩,
    ⟨(some 30), .loadA 3 (.tmp 5), (some (29, true)), 31⟩,
    ⟨(some 31), .loadA 2 (.tmp 3), (some (29, true)), 31⟩,
    ⟨(some 32), .faddr 1 (.tmp 4), (some (29, true)), 31⟩,
    ⟨(some 33), .load1 (.tmp 32), (some (29, true)), 159⟩,
    ⟨(some 34), .call 49 [(.tmp 31), (.tmp 33)], (some (29, true)), 479⟩,
    ⟨(some 35), .loadA 2 (.tmp 3), (some (29, true)), 31⟩,
    ⟨(some 36), .faddr 2 (.tmp 4), (some (29, true)), 31⟩,
    ⟨(some 37), .load1 (.tmp 36), (some (29, true)), 2079⟩,
    ⟨(some 38), .call 49 [(.tmp 35), (.tmp 37)], (some (29, true)), 8159⟩,
    ⟨(some 39), .call 48 [(.tmp 30), (.tmp 34), (.tmp 38)], (some (29, true)), 16383⟩,
    ⟨(some 40), .iaddr 1 (.tmp 39) (.const (.int .i64 0)), (some (29, true)), 32767⟩,
    ⟨(some 41), .load1 (.tmp 40), (some (29, true)), 65535⟩,
    ⟨(some 42), .un .not (.tmp 41), (some (29, true)), 131071⟩,
    ⟨(some 43), .pick (.tmp 29) (.tmp 42) (.const (.bool false)), none, 262143⟩,
    ⟨(some 6), .move (.tmp 43), none, 524287⟩,
    ⟨(some 7), .move (.const (.int .i64 0)), none, 1048575⟩] true) (.ret)))))
set_option maxRecDepth 100000 in
theorem c14_ok : FunOK Try.prog 14 44 [.tmp 6, .tmp 7] c14 := ⟨⟨Try.f14, Try.func14, rfl, by kernel_rfl, rfl, by kernel_rfl⟩⟩
set_option maxRecDepth 100000 in
theorem rep_Proves1 (P : ProcD) (hP : P.Fits) (h : Bool) (stem loop : List Int) (h60 : stem.length + loop.length ≤ 60) (n : Nat) (hn : n ≤ stem.length + loop.length) (hz : ∀ j, j < n → P.rerr (stem ++ loop) j = 0) (hs : n = stem.length + loop.length ∨ P.rerr (stem ++ loop) n ≠ 0)
    (t : Tree) (ht : Small t) (e : Int) (he : e = if P.fraE stem loop n ≠ 0 then P.fraE stem loop n else chk lKids t) (h0 : e ≠ 0) : PCall Try.prog 14 [dproc P, dverd h stem loop, dtree t] (.tup [.sc (.bool false), .sc (.int .i64 e)]) := by
  have hF := replay_Frames P hP h stem loop (by omega) (by omega) n hn hz hs
  have hC := ltl_Check t ht
  generalize P.fraE stem loop n = fe at *
  generalize P.fraL stem loop n = fl at *
  generalize chk lKids t = c at *
  refine pcall_intro c14_ok (by simp) (by simp [PureL, Pure, pure_dproc, pure_dverd, pure_dtree]) ?_ (by simp [Pure, PureL])
  (apply red_sound; focus (repeat' (first | exact Red.skip | exact Red.ret | exact RedO.nil | exact RedD.nil | exact Red.exit _ | exact Red.loop _ | exact Red.stop _ | apply Red.ops | apply Red.draw | apply Red.seq | apply Red.cond | apply Red.block | apply RedO.cons | apply RedD.cons | exact (0 : Nat))))
  ((conv => whnf); repeat (refine And.intro rfl ?_; (conv => whnf)))
  (refine .inl ⟨_, hF, ?_⟩; ((conv => whnf); repeat (refine And.intro rfl ?_; (conv => whnf))))
  (refine ifK_split (fun h1 => ?_) (fun h1 => ?_) <;> (rw [h1]; ((conv => whnf); repeat (refine And.intro rfl ?_; (conv => whnf)))))
  · have h1 : fe ≠ 0 := by ((try simp only [oo, reduceCtorEq] at *) <;> omega)
    rw [if_pos h1] at he
    subst he
    exact .refl _
  have h1 : fe = 0 := by ((try simp only [oo, reduceCtorEq] at *) <;> omega)
  rw [if_neg (by omega)] at he
  subst he
  (refine .inl ⟨_, hC, ?_⟩; ((conv => whnf); repeat (refine And.intro rfl ?_; (conv => whnf))))
  (refine ifK_split (fun h2 => ?_) (fun h2 => ?_) <;> (rw [h2]; ((conv => whnf); repeat (refine And.intro rfl ?_; (conv => whnf)))))
  · exact .refl _
  · exfalso; ((try simp only [oo, reduceCtorEq] at *) <;> omega)
set_option maxRecDepth 100000 in
theorem rep_Proves0 (P : ProcD) (hP : P.Fits) (h : Bool) (stem loop : List Int) (h60 : stem.length + loop.length ≤ 60) (n : Nat) (hn : n ≤ stem.length + loop.length) (hz : ∀ j, j < n → P.rerr (stem ++ loop) j = 0) (hs : n = stem.length + loop.length ∨ P.rerr (stem ++ loop) n ≠ 0)
    (t : Tree) (ht : Small t) (h0 : P.fraE stem loop n = 0) (h1 : chk lKids t = 0) : PCall Try.prog 14 [dproc P, dverd h stem loop, dtree t] (.tup [.sc (.bool (P.provB stem loop t)), .sc (.int .i64 0)]) := by
  have hF := replay_Frames P hP h stem loop (by omega) (by omega) n hn hz hs
  have hC := ltl_Check t ht
  obtain ⟨hV, eL⟩ := VerdOK.of hz hs h60 h0
  have hw := hV.some_
  have hN := node_63 hV.steps
  have hFa := rep_fair P hP h stem loop hV
  have hL1 := rep_letters P hP hV.steps stem (by omega) hV.stem
  have hL2 := rep_letters P hP hV.steps loop (by omega) hV.loop
  have hH := rep_holds (lettL P.stepsL stem) (lettL P.stepsL loop) (by simp; omega) (lettL_lett hN) (lettL_lett hN) t ((chk_zero _ _).1 h1).2.2
  have eP : P.provB stem loop t = (P.fairB P.stepsL loop (P.frm stem loop) && !(trT (lettL P.stepsL stem) (lettL P.stepsL loop) t 0)) := rfl
  have l1 := lettL_len P.stepsL stem
  have l2 := lettL_len P.stepsL loop
  rw [h0, eL] at hF
  rw [h1] at hC
  rw [eP]
  generalize P.rgrid (stem ++ loop) (stem.length + loop.length) = fl at *
  generalize P.fairB P.stepsL loop (P.frm stem loop) = fb at *
  generalize trT (lettL P.stepsL stem) (lettL P.stepsL loop) t = g at *
  generalize lettL P.stepsL stem = a at *
  generalize lettL P.stepsL loop = b at *
  refine pcall_intro c14_ok (by simp) (by simp [PureL, Pure, pure_dproc, pure_dverd, pure_dtree]) ?_ (by simp [Pure, PureL])
  (apply red_sound; focus (repeat' (first | exact Red.skip | exact Red.ret | exact RedO.nil | exact RedD.nil | exact Red.exit _ | exact Red.loop _ | exact Red.stop _ | apply Red.ops | apply Red.draw | apply Red.seq | apply Red.cond | apply Red.block | apply RedO.cons | apply RedD.cons | exact (0 : Nat))))
  ((conv => whnf); repeat (refine And.intro rfl ?_; (conv => whnf)))
  (refine .inl ⟨_, hF, ?_⟩; ((conv => whnf); repeat (refine And.intro rfl ?_; (conv => whnf))))
  (refine .inl ⟨_, hC, ?_⟩; ((conv => whnf); repeat (refine And.intro rfl ?_; (conv => whnf))))
  (refine .inl ⟨_, hFa, ?_⟩; ((conv => whnf); repeat (refine And.intro rfl ?_; (conv => whnf))))
  cases fb
  · ((conv => whnf); repeat (refine And.intro rfl ?_; (conv => whnf)))
    exact .refl _
  · ((conv => whnf); repeat (refine And.intro rfl ?_; (conv => whnf)))
    (refine .inl ⟨_, hL1, ?_⟩; ((conv => whnf); repeat (refine And.intro rfl ?_; (conv => whnf))))
    (refine .inl ⟨_, hL2, ?_⟩; ((conv => whnf); repeat (refine And.intro rfl ?_; (conv => whnf))))
    (refine .inl ⟨_, hH, ?_⟩; ((conv => whnf); repeat (refine And.intro rfl ?_; (conv => whnf))))
    refine ⟨by omega, _, rbl_at (i := 0) (by omega), ?_⟩
    ((conv => whnf); repeat (refine And.intro rfl ?_; (conv => whnf)))
    exact .refl _
def c17_2 : PC := .seq (.seq (.ops [⟨(some 30), .move (.tmp 13), none, 0⟩,
    ⟨(some 31), .faddr 2 (.tmp 5), none, 0⟩,
    ⟨(some 32), .load1 (.tmp 31), none, 0⟩,
    ⟨(some 33), .len (.tmp 32), none, 0⟩,
    ⟨(some 34), .bin .lss (.tmp 30) (.tmp 33), none, 0⟩,
    ⟨(some 35), .move (.tmp 34), none, 0⟩,
    ⟨(some 36), .move (.tmp 12), (some (35, true)), 0⟩,
    ⟨(some 37), .un .not (.tmp 36), (some (35, true)), 0⟩,
    ⟨(some 38), .pick (.tmp 35) (.tmp 37) (.const (.bool false)), none, 0⟩] false) (.cond (.tmp 38) (.skip) (.exit 2))) (.seq (.block 3 (.ops [⟨(some 41), .loadA 2 (.tmp 4), none, 0⟩,
    ⟨(some 42), .move (.tmp 3), none, 0⟩,
    ⟨(some 43), .faddr 1 (.tmp 5), none, 0⟩,
    ⟨(some 44), .load1 (.tmp 43), none, 4⟩,
    ⟨(some 45), .len (.tmp 44), none, 12⟩,
    ⟨(some 46), .move (.tmp 13), none, 0⟩,
    ⟨(some 47), .bin .add (.tmp 45) (.tmp 46), none, 60⟩,
    ⟨(some 48), .iaddr 1 (.tmp 42) (.tmp 47), none, 126⟩,
    ⟨(some 49), .load1 (.tmp 48), none, 254⟩,
    ⟨(some 50), .load1 (.tmp 9), none, 0⟩,
    ⟨(some 51), .move (.tmp 11), none, 0⟩,
    ⟨(some 52), .iaddr 3 (.tmp 50) (.tmp 51), none, 1536⟩,
    ⟨(some 53), .loadA 3 (.tmp 52), none, 3584⟩,
    ⟨(some 54), .call 50 [(.tmp 41), (.tmp 49), (.tmp 53)], none, 8191⟩,
    ⟨(some 55), .un .not (.tmp 54), none, 16383⟩,
    ⟨(some 12), .move (.tmp 55), none, 32767⟩] true)) (.ops [⟨(some 39), .move (.tmp 13), none, 0⟩,
    ⟨(some 40), .bin .add (.tmp 39) (.const (.int .i64 1)), none, 0⟩,
    ⟨(some 13), .move (.tmp 40), none, 0⟩] false))
def c17_1 : PC := .seq (.seq (.ops [⟨(some 20), .move (.tmp 11), none, 0⟩,
    ⟨(some 21), .load1 (.tmp 9), none, 0⟩,
    ⟨(some 22), .len (.tmp 21), none, 0⟩,
    ⟨(some 23), .bin .lss (.tmp 20) (.tmp 22), none, 0⟩] false) (.cond (.tmp 23) (.skip) (.exit 0))) (.seq (.block 1 (.seq (.ops [⟨(some 26), .faddr 2 (.tmp 5), none, 0⟩,
    ⟨(some 27), .load1 (.tmp 26), none, 0⟩,
    ⟨(some 28), .move (.tmp 11), none, 0⟩,
    ⟨(some 29), .call 53 [(.tmp 27), (.tmp 28)], none, 0⟩,
    ⟨(some 12), .move (.tmp 29), none, 0⟩] false) (.seq (.seq (.ops [⟨(some 13), .move (.const (.int .i64 0)), none, 0⟩] false) (.block 2 (.loop c17_2))) (.seq (.ops [⟨(some 56), .move (.tmp 12), none, 0⟩,
    ⟨(some 57), .un .not (.tmp 56), none, 0⟩] false) (.cond (.tmp 57) (.seq (.ops [⟨(some 8), .move (.const (.bool false)), none, 0⟩] false) (.ret)) (.skip)))))) (.ops [⟨(some 24), .move (.tmp 11), none, 0⟩,
    ⟨(some 25), .bin .add (.tmp 24) (.const (.int .i64 1)), none, 0⟩,
    ⟨(some 11), .move (.tmp 25), none, 0⟩] false))
def c17 : PC := .seq (.ops [⟨(some 4), .box (.tmp 0), none, 0⟩,
    ⟨(some 5), .box (.tmp 1), none, 0⟩,
    ⟨(some 6), .box (.tmp 2), none, 0⟩,
    ⟨(some 8), .move (.const (.bool false)), none, 0⟩] false) (.seq (.ops [⟨(some 16), .loadA 2 (.tmp 4), none, 0⟩,
    ⟨(some 17), .call 25 [(.tmp 16)], none, 0⟩,
    ⟨(some 15), .move (.tmp 17), none, 0⟩,
    ⟨(some 18), .ext 0 (.tmp 15), none, 0⟩,
    ⟨(some 19), .ext 1 (.tmp 15), none, 0⟩,
    ⟨(some 9), .alloc [(.slice none 0 0)], none, 0⟩,
    ⟨none, .store 1 (.tmp 9) (.tmp 18), none, 0⟩,
    ⟨(some 10), .move (.tmp 19), none, 0⟩] false) (.seq (.seq (.ops [⟨(some 11), .move (.const (.int .i64 0)), none, 0⟩] false) (.block 0 (.loop c17_1))) (.seq (.ops [⟨(some 58), .mkfn (.func 54) [] [(.tmp 9)], none, 0⟩,
    ⟨(some 14), .move (.tmp 58), none, 0⟩] false) (.seq (.ops [⟨(some 59), .loadA 3 (.tmp 6), none, 0⟩,
    ⟨(some 60), .move (.tmp 14), none, 0⟩,
    ⟨(some 61), .faddr 1 (.tmp 5), none, 0⟩,
    ⟨(some 62), .load1 (.tmp 61), none, 4⟩,
    ⟨(some 63), .callv (.tmp 60) [(.tmp 62)], none, 14⟩,
    ⟨(some 64), .move (.tmp 14), none, 0⟩,
    ⟨(some 65), .faddr 2 (.tmp 5), none, 0⟩,
    ⟨(some 66), .load1 (.tmp 65), none, 64⟩,
    ⟨(some 67), .callv (.tmp 64) [(.tmp 66)], none, 254⟩,
    ⟨(some 68), .build [(.slice none 0 0), (.slice none 0 0)] [(0, 1, (.tmp 63)), (1, 1, (.tmp 67))], none, 510⟩,
    ⟨(some 69), .call 55 [(.tmp 59), (.tmp 68)], none, 1023⟩,
    ⟨(some 70), .iaddr 1 (.tmp 69) (.const (.int .i64 0)), none, 2047⟩,
    ⟨(some 71), .load1 (.tmp 70), none, 4095⟩,
    ⟨(some 72), .un .not (.tmp 71), none, 8191⟩,
    ⟨(some 8), .move (.tmp 72), none, 16383⟩] true) (.ret)))))
set_option maxRecDepth 100000 in
theorem c17_ok : FunOK Try.prog 17 73 [.tmp 8] c17 := ⟨⟨Try.f17, Try.func17, rfl, by kernel_rfl, rfl, by kernel_rfl⟩⟩
set_option maxRecDepth 100000 in
theorem ref_Proves (P : ProcD) (hP : P.Fits) (h : Bool) (stem loop : List Int) (hV : VerdOK P stem loop) (t : Tree) (hwf : t.wf lKids) :
    PCall Try.prog 17 [dproc P, dverd h stem loop, dtree t, dgrid (P.rgrid (stem ++ loop) (stem.length + loop.length))] (.sc (.bool (P.provB stem loop t))) := by
  have hw := hV.some_
  have hw6 := hV.word
  have hN := node_63 hV.steps
  have hsm := wf_small t hwf
  obtain ⟨h0, _, h60⟩ := ProcD.stepsE_zero hV.steps
  have hFr := fun j (hj : j < loop.length) => hV.mark hj
  have hAt := fun j (hj : j < loop.length) z hz => hV.at hj (z := z) hz
  have hno := fun k hk h1 h2 => ProcD.fairB_no (P := P) (L := P.stepsL) (loop := loop) (fr := P.frm stem loop) (k := k) hk h1 h2
  have hyes := ProcD.fairB_yes (P := P) (L := P.stepsL) (loop := loop) (fr := P.frm stem loop)
  have hSt := ref_Steps P hP
  have hL1 := ref_letters P hV.steps stem (by omega) hV.stem
  have hL2 := ref_letters P hV.steps loop (by omega) hV.loop
  have hH := ref_True (lettL P.stepsL stem) (lettL P.stepsL loop) (by simp; omega) t hwf
  have l1 := lettL_len P.stepsL stem
  have l2 := lettL_len P.stepsL loop
  have eP : P.provB stem loop t = (P.fairB P.stepsL loop (P.frm stem loop) && !(trT (lettL P.stepsL stem) (lettL P.stepsL loop) t 0)) := rfl
  rw [eP]
  generalize P.fairB P.stepsL loop (P.frm stem loop) = res at hno hyes
  generalize hLL : P.rgrid (stem ++ loop) (stem.length + loop.length) = fr at hAt
  generalize P.frm stem loop = fm at *
  generalize trT (lettL P.stepsL stem) (lettL P.stepsL loop) t = g at *
  generalize lettL P.stepsL stem = a at *
  generalize lettL P.stepsL loop = b at *
  refine pcall_intro c17_ok (by simp) (by simp [PureL, Pure, pure_dproc, pure_dverd, pure_dtree, pure_dgrid']) ?_ (by simp [Pure])
  (apply red_sound; focus (repeat' (first | exact Red.skip | exact Red.ret | exact RedO.nil | exact RedD.nil | exact Red.exit _ | exact Red.loop _ | exact Red.stop _ | apply Red.ops | apply Red.draw | apply Red.seq | apply Red.cond | apply Red.block | apply RedO.cons | apply RedD.cons | exact (0 : Nat))))
  ((conv => whnf); repeat (refine And.intro rfl ?_; (conv => whnf)))
  (refine .inl ⟨_, hSt, ?_⟩; ((conv => whnf); repeat (refine And.intro rfl ?_; (conv => whnf))))
  refine pwp_ghostB (leB_freeze (fromN 0) (env' := [(11, .sc (.int .i64 0)), (3, dgrid fr), (4, .ipt P.cells), (5, .ipt [.sc (.bool h), dints stem, dints loop]), (6, .ipt (drow t)), (9, .ipt [dsteps P.stepsL])])
    (H' := [.row false P.cells, .row false [.sc (.bool h), dints stem, dints loop], .row false (drow t), .row false [dsteps P.stepsL]])
    ⟨.refl _, .refl _, .loc _ _ _ _ _ rfl rfl (.refl _), .loc _ _ _ _ _ rfl rfl (.refl _), .loc _ _ _ _ _ rfl rfl (.refl _), .loc _ _ _ _ _ rfl rfl (.refl _), trivial⟩
    ⟨⟨.inr ⟨rfl, rfl⟩, fun _ => rfl, .refl _⟩, ⟨.inr ⟨rfl, rfl⟩, fun _ => rfl, .refl _⟩, ⟨.inr ⟨rfl, rfl⟩, fun _ => rfl, .refl _⟩, ⟨.inr ⟨rfl, rfl⟩, fun _ => rfl, .refl _⟩, trivial⟩) ?_
  refine pwp_for [3, 4, 5, 6, 9] (fun k : Nat => [(11, .sc (.int .i64 k))]) (fun _ => []) (fun k => k ≤ P.stepsL.length ∧ ∀ j : Nat, j < k → (j : Int) ∈ loop ∨ ∃ i, i < loop.length ∧ P.mayB (fm i) (P.stepsL.getD j (0, 0, 0)) = false) (fun k => P.stepsL.length - k) 0 ?_
  ((conv => whnf); repeat (refine And.intro rfl ?_; (conv => whnf)))
  refine ⟨⟨by omega, fun j hj => by omega⟩, by (repeat' (first | exact trivial | refine And.intro rfl ?_)), rfl, ?_⟩
  rintro k ⟨hk, hpre⟩
  ((conv => whnf); repeat (refine And.intro rfl ?_; (conv => whnf)))
  (apply red_sound; focus (repeat' (first | exact Red.skip | exact Red.ret | exact RedO.nil | exact RedD.nil | exact Red.exit _ | exact Red.loop _ | exact Red.stop _ | apply Red.ops | apply Red.draw | apply Red.seq | apply Red.cond | apply Red.block | apply RedO.cons | apply RedD.cons | exact (0 : Nat))))
  ((conv => whnf); repeat (refine And.intro rfl ?_; (conv => whnf)))
  rw [srows_len]
  (refine ifK_split (fun h2 => ?_) (fun h2 => ?_) <;> (rw [h2]; ((conv => whnf); repeat (refine And.intro rfl ?_; (conv => whnf)))))
  · have hk' : k < P.stepsL.length := by ((try simp only [oo, reduceCtorEq] at *) <;> omega)
    have hsk := ProcD.stepAt_ok hV.steps hk'
    have next : ((k : Int) ∈ loop ∨ ∃ i, i < loop.length ∧ P.mayB (fm i) (P.stepsL.getD k (0, 0, 0)) = false) → ∀ j : Nat, j < k + 1 → (j : Int) ∈ loop ∨ ∃ i, i < loop.length ∧ P.mayB (fm i) (P.stepsL.getD j (0, 0, 0)) = false := fun h j hj => by
      by_cases e : j = k
      · subst e; exact h
      · exact hpre j (by omega)
    (refine .inl ⟨_, (contains_int loop (by omega) (k : Int)), ?_⟩; ((conv => whnf); repeat (refine And.intro rfl ?_; (conv => whnf))))
    refine pwp_for [3, 4, 5, 6, 9, 11] (fun ((i, q) : Nat × Bool) => [(12, .sc (.bool q)), (13, .sc (.int .i64 i))]) (fun _ => [])
      (fun (i, q) => i ≤ loop.length ∧ (q = true → (k : Int) ∈ loop ∨ ∃ i, i < loop.length ∧ P.mayB (fm i) (P.stepsL.getD k (0, 0, 0)) = false) ∧ (q = false → (k : Int) ∉ loop ∧ ∀ j, j < i → P.mayB (fm j) (P.stepsL.getD k (0, 0, 0)) = true)) (fun (i, q) => loop.length - i) (0, loop.contains (k : Int)) ?_
    ((conv => whnf); repeat (refine And.intro rfl ?_; (conv => whnf)))
    refine ⟨⟨by omega, fun h => .inl (List.contains_iff_mem.1 h), fun h => ⟨fun q => ?_, fun j hj => by omega⟩⟩, by (repeat' (first | exact trivial | refine And.intro rfl ?_)), rfl, ?_⟩
    · rw [List.contains_iff_mem.2 q] at h; cases h
    rintro ⟨i, q⟩ ⟨hi, hq1, hq2⟩
    ((conv => whnf); repeat (refine And.intro rfl ?_; (conv => whnf)))
    (apply red_sound; focus (repeat' (first | exact Red.skip | exact Red.ret | exact RedO.nil | exact RedD.nil | exact Red.exit _ | exact Red.loop _ | exact Red.stop _ | apply Red.ops | apply Red.draw | apply Red.seq | apply Red.cond | apply Red.block | apply RedO.cons | apply RedD.cons | exact (0 : Nat))))
    ((conv => whnf); repeat (refine And.intro rfl ?_; (conv => whnf)))
    rw [List.length_map]
    cases h3 : decide ((i : Int) < loop.length)
    · have hil : i = loop.length := by have := of_decide_eq_false h3; omega
      ((conv => whnf); repeat (refine And.intro rfl ?_; (conv => whnf)))
      cases q
      · ((conv => whnf); repeat (refine And.intro rfl ?_; (conv => whnf)))
        have hq2 := hq2 rfl
        exact deep_eq (by rw [hno k hk' hq2.1 (by simpa [hil] using hq2.2)]; rfl)
      · ((conv => whnf); repeat (refine And.intro rfl ?_; (conv => whnf)))
        (refine .inl ⟨by (unfold InR; rw [IntKind.wrap_i64]; omega), ?_⟩; ((conv => whnf); repeat (refine And.intro rfl ?_; (conv => whnf))))
        exact ⟨k + 1, ⟨by omega, next (hq1 rfl)⟩, by dsimp only; omega, leB_envH (by (repeat' (first | exact trivial | refine And.intro rfl ?_))) rfl⟩
    · have hi' : i < loop.length := by have := of_decide_eq_true h3; omega
      cases q
      · ((conv => whnf); repeat (refine And.intro rfl ?_; (conv => whnf)))
        have hq2 := hq2 rfl
        rw [List.length_map]
        (refine .inl ⟨by (unfold InR; rw [IntKind.wrap_i64]; omega), ?_⟩; ((conv => whnf); repeat (refine And.intro rfl ?_; (conv => whnf))))
        refine ⟨by omega, _, hAt i hi' _ (by omega), ?_⟩
        ((conv => whnf); repeat (refine And.intro rfl ?_; (conv => whnf)))
        refine ⟨by omega, _, step_atD (k := k) (by omega) hk', ?_⟩
        ((conv => whnf); repeat (refine And.intro rfl ?_; (conv => whnf)))
        (refine .inl ⟨_, (ref_May P hP h0 (fm i) (hFr i hi').2.1 _ hsk), ?_⟩; ((conv => whnf); repeat (refine And.intro rfl ?_; (conv => whnf))))
        (refine .inl ⟨by (unfold InR; rw [IntKind.wrap_i64]; omega), ?_⟩; ((conv => whnf); repeat (refine And.intro rfl ?_; (conv => whnf))))
        refine ⟨(i + 1, !(P.mayB (fm i) (P.stepsL.getD k (0, 0, 0)))), ⟨by omega, fun h => .inr ⟨i, hi', by simpa using h⟩, fun h => ⟨hq2.1, fun j hj => ?_⟩⟩, by dsimp only; omega, leB_envH (by (repeat' (first | exact trivial | refine And.intro rfl ?_))) rfl⟩
        by_cases e : j = i
        · subst e; simpa using h
        · exact hq2.2 j (by omega)
      · ((conv => whnf); repeat (refine And.intro rfl ?_; (conv => whnf)))
        (refine .inl ⟨by (unfold InR; rw [IntKind.wrap_i64]; omega), ?_⟩; ((conv => whnf); repeat (refine And.intro rfl ?_; (conv => whnf))))
        exact ⟨k + 1, ⟨by omega, next (hq1 rfl)⟩, by dsimp only; omega, leB_envH (by (repeat' (first | exact trivial | refine And.intro rfl ?_))) rfl⟩
  · have hk' : k = P.stepsL.length := by have : ¬ k < P.stepsL.length := by ((try simp only [oo, reduceCtorEq] at *) <;> omega)
                                         omega
    subst hk'
    have := hyes hpre
    subst this
    (refine .inl ⟨_, hL1, ?_⟩; ((conv => whnf); repeat (refine And.intro rfl ?_; (conv => whnf))))
    (refine .inl ⟨_, hL2, ?_⟩; ((conv => whnf); repeat (refine And.intro rfl ?_; (conv => whnf))))
    (refine .inl ⟨_, hH, ?_⟩; ((conv => whnf); repeat (refine And.intro rfl ?_; (conv => whnf))))
    refine ⟨by omega, _, rbl_at (i := 0) (by omega), ?_⟩
    ((conv => whnf); repeat (refine And.intro rfl ?_; (conv => whnf)))
    exact .refl _
end

end Go.Proofs.Ytjnfahdolkgnoaa
