/-
  Tokens: which flows come from which, which steps are enabled. Plain Lean. No statement is proved here.
-/
import Derived.Test.YtikdngjdhncioaaSt0
namespace Go.Proofs.Ytikdngjdhncioaa
namespace ProcD
/-- One flow right behind another, through a node other than one. -/
def nxt (P : ProcD) (but : Int) (a b : Nat) : Prop := a < P.flows.length ∧ b < P.flows.length ∧ P.src b = P.dst a ∧ P.dst a ≠ but
inductive Via (P : ProcD) (but : Int) : Nat → Nat → Prop
  | refl (a : Nat) : Via P but a a
  | step {a b c : Nat} (h : Via P but a b) (k : P.nxt but b c) : Via P but a c
theorem Via.head {P : ProcD} {but : Int} {a b c : Nat} (k : P.nxt but a b) (h : P.Via but b c) : P.Via but a c := by
  induction h with
  | refl => exact .step (.refl _) k
  | step _ k' ih => exact .step ih k'
theorem Via.trans {P : ProcD} {but : Int} {a b c : Nat} (h : P.Via but a b) (k : P.Via but b c) : P.Via but a c := by
  induction k with
  | refl => exact h
  | step _ k' ih => exact .step ih k'
theorem Via.first {P : ProcD} {but : Int} {a b : Nat} (h : P.Via but a b) : a = b ∨ P.dst a ≠ but := by
  induction h with
  | refl => exact .inl rfl
  | step _ k ih =>
    rcases ih with rfl | ih
    · exact .inr k.2.2.2
    · exact .inr ih
theorem Via.lt {P : ProcD} {but : Int} {a b : Nat} (h : P.Via but a b) (ha : a < P.flows.length) : b < P.flows.length := by
  cases h with
  | refl => exact ha
  | step _ k => exact k.2.1
theorem via_fwd {P : ProcD} {but : Int} {a : Nat} {s : Nat → Bool} (h0 : s a = true) (h1 : ∀ x y, s x = true → P.nxt but x y → s y = true) : ∀ b, P.Via but a b → s b = true := by
  intro b h
  induction h with
  | refl => exact h0
  | step _ k ih => exact h1 _ _ ih k
theorem via_back {P : ProcD} {but : Int} {b : Nat} {s : Nat → Bool} (h0 : s b = true) (h1 : ∀ x y, s y = true → P.nxt but x y → s x = true) : ∀ a, P.Via but a b → s a = true := by
  intro a h
  induction h with
  | refl => exact h0
  | step _ k ih => exact ih (h1 _ _ h0 k)
open Classical in
noncomputable def viaB (P : ProcD) (but : Int) (a b : Nat) : Bool := decide (P.Via but a b)
theorem viaB_iff {P : ProcD} {but : Int} {a b : Nat} : P.viaB but a b = true ↔ P.Via but a b := by unfold viaB; simp

/-! ### Backwards, with a queue -/
structure ComeI (P : ProcD) (but : Int) (flow : Nat) (s : Nat → Bool) (Q : List Int) : Prop where
  start : s flow = true
  sound : ∀ i, s i = true → i < P.flows.length ∧ P.Via but i flow
  todo : ∀ x ∈ Q, 0 ≤ x ∧ x < P.flows.length ∧ s x.toNat = true
  done : ∀ i, s i = true → (i : Int) ∈ Q ∨ ∀ j, P.nxt but j i → s j = true
structure ComeJ (P : ProcD) (but : Int) (flow : Nat) (s : Nat → Bool) (Q : List Int) (x k : Nat) : Prop where
  start : s flow = true
  sound : ∀ i, s i = true → i < P.flows.length ∧ P.Via but i flow
  todo : ∀ x ∈ Q, 0 ≤ x ∧ x < P.flows.length ∧ s x.toNat = true
  done : ∀ i, s i = true → (i : Int) ∈ Q ∨ (∀ j, P.nxt but j i → s j = true) ∨ (i = x ∧ ∀ j, j < k → P.nxt but j i → s j = true)
  here : s x = true
  go : P.src x ≠ but
theorem ComeI.begin {P : ProcD} {but : Int} {flow : Nat} (h : flow < P.flows.length) : P.ComeI but flow (mark (fun _ => false) flow) [(flow : Int)] where
  start := mark_self _ _
  sound i hi := by
    rcases mark_iff.1 hi with rfl | h'
    · exact ⟨h, .refl _⟩
    · cases h'
  todo x hx := by
    rw [List.mem_singleton] at hx; subst hx
    exact ⟨by omega, by omega, by rw [Int.toNat_natCast]; exact mark_self _ _⟩
  done i hi := by
    rcases mark_iff.1 hi with rfl | h'
    · exact .inl (by simp)
    · cases h'
theorem ComeI.stop {P : ProcD} {but : Int} {flow : Nat} {s : Nat → Bool} {Q : List Int} {x : Int} (h : P.ComeI but flow s (x :: Q)) (hx : P.src x.toNat = but) : P.ComeI but flow s Q where
  start := h.start
  sound := h.sound
  todo y hy := h.todo y (List.mem_cons_of_mem _ hy)
  done i hi := by
    rcases h.done i hi with q | q
    · rcases List.mem_cons.1 q with q | q
      · refine .inr fun j hj => ?_
        exfalso
        subst q
        rw [Int.toNat_natCast] at hx
        exact hj.2.2.2 (hj.2.2.1.symm.trans hx)
      · exact .inl q
    · exact .inr q
theorem ComeI.pop {P : ProcD} {but : Int} {flow : Nat} {s : Nat → Bool} {Q : List Int} {x : Int} (h : P.ComeI but flow s (x :: Q)) (hx : P.src x.toNat ≠ but) : P.ComeJ but flow s Q x.toNat 0 where
  start := h.start
  sound := h.sound
  todo y hy := h.todo y (List.mem_cons_of_mem _ hy)
  done i hi := by
    rcases h.done i hi with q | q
    · rcases List.mem_cons.1 q with q | q
      · exact .inr (.inr ⟨by omega, fun j hj => by omega⟩)
      · exact .inl q
    · exact .inr (.inl q)
  here := (h.todo x (by simp)).2.2
  go := hx
theorem ComeJ.skip {P : ProcD} {but : Int} {flow : Nat} {s : Nat → Bool} {Q : List Int} {x k : Nat} (h : P.ComeJ but flow s Q x k) (hk : P.dst k = P.src x → s k = true) : P.ComeJ but flow s Q x (k + 1) where
  start := h.start
  sound := h.sound
  todo := h.todo
  done i hi := by
    rcases h.done i hi with q | q | ⟨rfl, q⟩
    · exact .inl q
    · exact .inr (.inl q)
    · refine .inr (.inr ⟨rfl, fun j hj hn => ?_⟩)
      by_cases e : j = k
      · subst e; exact hk hn.2.2.1.symm
      · exact q j (by omega) hn
  here := h.here
  go := h.go
theorem ComeJ.push {P : ProcD} {but : Int} {flow : Nat} {s : Nat → Bool} {Q : List Int} {x k : Nat} (h : P.ComeJ but flow s Q x k) (hk : k < P.flows.length) (hd : P.dst k = P.src x) : P.ComeJ but flow (mark s k) (Q ++ [(k : Int)]) x (k + 1) where
  start := mark_of h.start
  sound i hi := by
    rcases mark_iff.1 hi with rfl | h'
    · have := h.sound x h.here
      exact ⟨hk, Via.head ⟨hk, this.1, hd.symm, by rw [hd]; exact h.go⟩ this.2⟩
    · exact h.sound i h'
  todo y hy := by
    rcases List.mem_append.1 hy with q | q
    · obtain ⟨a, b, c⟩ := h.todo y q
      exact ⟨a, b, mark_of c⟩
    · rw [List.mem_singleton] at q; subst q
      exact ⟨by omega, by omega, by rw [Int.toNat_natCast]; exact mark_self _ _⟩
  done i hi := by
    rcases mark_iff.1 hi with rfl | h'
    · exact .inl (by simp)
    · rcases h.done i h' with q | q | ⟨rfl, q⟩
      · exact .inl (List.mem_append_left _ q)
      · exact .inr (.inl fun j hj => mark_of (q j hj))
      · refine .inr (.inr ⟨rfl, fun j hj hn => ?_⟩)
        by_cases e : j = k
        · subst e; exact mark_self _ _
        · exact mark_of (q j (by omega) hn)
  here := mark_of h.here
  go := h.go
theorem ComeJ.fin {P : ProcD} {but : Int} {flow : Nat} {s : Nat → Bool} {Q : List Int} {x : Nat} (h : P.ComeJ but flow s Q x P.flows.length) : P.ComeI but flow s Q where
  start := h.start
  sound := h.sound
  todo := h.todo
  done i hi := by
    rcases h.done i hi with q | q | ⟨rfl, q⟩
    · exact .inl q
    · exact .inr q
    · exact .inr fun j hj => q j hj.1 hj
theorem ComeI.fin {P : ProcD} {but : Int} {flow : Nat} {s : Nat → Bool} (h : P.ComeI but flow s []) (i : Nat) : s i = P.viaB but i flow := by
  rw [Bool.eq_iff_iff, viaB_iff]
  refine ⟨fun hi => (h.sound i hi).2, fun hi => via_back h.start (fun x y hy hn => ?_) i hi⟩
  rcases h.done y hy with q | q
  · cases q
  · exact q x hn

/-! ### Forwards, by recursion -/
structure Dfs (P : ProcD) (but : Int) (a : Nat) (s t : Nat → Bool) : Prop where
  mono : ∀ x, s x = true → t x = true
  here : t a = true
  sound : ∀ x, t x = true → s x = true ∨ P.Via but a x
  closed : ∀ x y, t x = true → s x = false → P.nxt but x y → t y = true
structure DfsJ (P : ProcD) (but : Int) (a : Nat) (s t : Nat → Bool) (k : Nat) : Prop where
  mono : ∀ x, s x = true → t x = true
  here : t a = true
  sound : ∀ x, t x = true → s x = true ∨ P.Via but a x
  closed : ∀ x y, t x = true → s x = false → x ≠ a → P.nxt but x y → t y = true
  kids : ∀ j, j < k → P.nxt but a j → t j = true
theorem DfsJ.begin {P : ProcD} {but : Int} {a : Nat} {s : Nat → Bool} : P.DfsJ but a s (mark s a) 0 where
  mono x h := mark_of h
  here := mark_self _ _
  sound x h := by
    rcases mark_iff.1 h with rfl | h
    · exact .inr (.refl _)
    · exact .inl h
  closed x y h1 h2 h3 _ := by
    rcases mark_iff.1 h1 with rfl | h
    · exact absurd rfl h3
    · rw [h2] at h; cases h
  kids j h := by omega
theorem DfsJ.skip {P : ProcD} {but : Int} {a k : Nat} {s t : Nat → Bool} (h : P.DfsJ but a s t k) (hk : P.nxt but a k → t k = true) : P.DfsJ but a s t (k + 1) where
  mono := h.mono
  here := h.here
  sound := h.sound
  closed := h.closed
  kids j hj hn := by
    by_cases e : j = k
    · subst e; exact hk hn
    · exact h.kids j (by omega) hn
theorem DfsJ.call {P : ProcD} {but : Int} {a k : Nat} {s t u : Nat → Bool} (h : P.DfsJ but a s t k) (hn : P.nxt but a k) (hu : P.Dfs but k t u) : P.DfsJ but a s u (k + 1) where
  mono x hx := hu.mono x (h.mono x hx)
  here := hu.mono a h.here
  sound x hx := by
    rcases hu.sound x hx with q | q
    · exact h.sound x q
    · exact .inr (Via.head hn q)
  closed x y h1 h2 h3 h4 := by
    cases e : t x with
    | true => exact hu.mono y (h.closed x y e h2 h3 h4)
    | false => exact hu.closed x y h1 e h4
  kids j hj hn := by
    by_cases e : j = k
    · subst e; exact hu.here
    · exact hu.mono j (h.kids j (by omega) hn)
theorem DfsJ.fin {P : ProcD} {but : Int} {a : Nat} {s t : Nat → Bool} {k : Nat} (h : P.DfsJ but a s t k) (hk : P.flows.length ≤ k ∨ P.dst a = but) : P.Dfs but a s t where
  mono := h.mono
  here := h.here
  sound := h.sound
  closed x y h1 h2 h3 := by
    by_cases e : x = a
    · subst e
      rcases hk with hk | hk
      · exact h.kids y (by have := h3.2.1; omega) h3
      · exact absurd hk h3.2.2.2
    · exact h.closed x y h1 h2 e h3
theorem Dfs.all {P : ProcD} {but : Int} {a : Nat} {t : Nat → Bool} (h : P.Dfs but a (fun _ => false) t) (b : Nat) : t b = P.viaB but a b := by
  rw [Bool.eq_iff_iff, viaB_iff]
  refine ⟨fun hb => ?_, fun hb => via_fwd h.here (fun x y hx hn => h.closed x y hx rfl hn) b hb⟩
  rcases h.sound b hb with q | q
  · cases q
  · exact q
def kidsL (P : ProcD) (f : (Nat → Bool) → Nat → Nat → Bool) (a : Nat) : Nat → (Nat → Bool) → Nat → Bool
  | 0, t => t
  | k + 1, t => if P.src k = P.dst a ∧ P.kidsL f a k t k = false then f (P.kidsL f a k t) k else P.kidsL f a k t
def dfs (P : ProcD) (but : Int) : Nat → (Nat → Bool) → Nat → Nat → Bool
  | 0, s, a => mark s a
  | n + 1, s, a => if P.dst a = but then mark s a else P.kidsL (P.dfs but n) a P.flows.length (mark s a)
theorem kidsL_J {P : ProcD} {but : Int} {a n : Nat} {s : Nat → Bool} (ha : a < P.flows.length) (hb : P.dst a ≠ but) (hn : unseen (mark s a) P.flows.length ≤ n)
    (ih : ∀ t k, unseen t P.flows.length ≤ n → k < P.flows.length → t k = false → P.Dfs but k t (P.dfs but n t k)) :
    ∀ k, k ≤ P.flows.length → P.DfsJ but a s (P.kidsL (P.dfs but n) a k (mark s a)) k ∧ unseen (P.kidsL (P.dfs but n) a k (mark s a)) P.flows.length ≤ n
  | 0, _ => ⟨DfsJ.begin, hn⟩
  | k + 1, hk => by
    obtain ⟨h1, h2⟩ := kidsL_J ha hb hn ih k (by omega)
    simp only [kidsL]
    split
    · rename_i h
      have hd := ih _ k h2 (by omega) h.2
      exact ⟨h1.call ⟨ha, by omega, h.1, hb⟩ hd, Nat.le_trans (unseen_mono fun j _ hj => hd.mono j hj) h2⟩
    · rename_i h
      refine ⟨h1.skip fun hx => ?_, h2⟩
      cases e : P.kidsL (P.dfs but n) a k (mark s a) k with
      | true => rfl
      | false => exact absurd ⟨hx.2.2.1, e⟩ h
theorem dfs_ok {P : ProcD} {but : Int} : ∀ (n : Nat) (s : Nat → Bool) (a : Nat), unseen s P.flows.length ≤ n → a < P.flows.length → s a = false → P.Dfs but a s (P.dfs but n s a)
  | 0, s, a, h, ha, hs => by
    have := unseen_lt (s := s) (s' := mark s a) ha (fun j _ h => mark_of h) hs (mark_self _ _)
    omega
  | n + 1, s, a, h, ha, hs => by
    have := unseen_lt (s := s) (s' := mark s a) ha (fun j _ h => mark_of h) hs (mark_self _ _)
    simp only [dfs]
    split
    · rename_i hb
      exact DfsJ.begin.fin (k := 0) (.inr hb)
    · rename_i hb
      exact (kidsL_J ha hb (by omega) (fun t k h1 h2 h3 => dfs_ok n t k h1 h2 h3) P.flows.length (Nat.le_refl _)).1.fin (.inl (Nat.le_refl _))
end ProcD
end Go.Proofs.Ytikdngjdhncioaa
