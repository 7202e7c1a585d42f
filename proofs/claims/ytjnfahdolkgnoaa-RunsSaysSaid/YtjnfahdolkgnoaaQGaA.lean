/-
  Ga0 Ga1 Ga2 Ga3 Ga4 Ga5 Ga6 Ga7 Ga8 Ga9 joined. No statement is proved here.
-/
import Derived.Test.YtjnfahdolkgnoaaQStA
import Derived.Test.YtjnfahdolkgnoaaQSc2
import Derived.Test.YtjnfahdolkgnoaaProg
import Derived.Test.YtjnfahdolkgnoaaQPrA
import Derived.Test.YtjnfahdolkgnoaaQFn
import Derived.Test.YtjnfahdolkgnoaaQBit
import Derived.Test.YtjnfahdolkgnoaaQLa
import Derived.Test.YtjnfahdolkgnoaaQGl
namespace Go.Proofs.Ytjnfahdolkgnoaa
/-! ### XGa0 -/
section
namespace ProcD
/-- One flow right behind another, through a node other than one. -/
def nxt (P : ProcD) (but : Int) (a b : Nat) : Prop := a < P.flows.length ∧ b < P.flows.length ∧ P.src b = P.dst a ∧ P.dst a ≠ but
inductive Via (P : ProcD) (but : Int) : Nat → Nat → Prop
  | refl (a : Nat) : Via P but a a
  | step {a b c : Nat} (h : Via P but a b) (k : P.nxt but b c) : Via P but a c
theorem Via.head {P : ProcD} {but : Int} {a b c : Nat} (k : P.nxt but a b) (h : P.Via but b c) : P.Via but a c := by
  induction h with
  | refl => exact .step (.refl _) k
  | step _ k' ih => exact .step ih k'
theorem Via.trans {P : ProcD} {but : Int} {a b c : Nat} (h : P.Via but a b) (k : P.Via but b c) : P.Via but a c := by
  induction k with
  | refl => exact h
  | step _ k' ih => exact .step ih k'
theorem Via.first {P : ProcD} {but : Int} {a b : Nat} (h : P.Via but a b) : a = b ∨ P.dst a ≠ but := by
  induction h with
  | refl => exact .inl rfl
  | step _ k ih =>
    rcases ih with rfl | ih
    · exact .inr k.2.2.2
    · exact .inr ih
theorem Via.lt {P : ProcD} {but : Int} {a b : Nat} (h : P.Via but a b) (ha : a < P.flows.length) : b < P.flows.length := by
  cases h with
  | refl => exact ha
  | step _ k => exact k.2.1
theorem via_fwd {P : ProcD} {but : Int} {a : Nat} {s : Nat → Bool} (h0 : s a = true) (h1 : ∀ x y, s x = true → P.nxt but x y → s y = true) : ∀ b, P.Via but a b → s b = true := by
  intro b h
  induction h with
  | refl => exact h0
  | step _ k ih => exact h1 _ _ ih k
theorem via_back {P : ProcD} {but : Int} {b : Nat} {s : Nat → Bool} (h0 : s b = true) (h1 : ∀ x y, s y = true → P.nxt but x y → s x = true) : ∀ a, P.Via but a b → s a = true := by
  intro a h
  induction h with
  | refl => exact h0
  | step _ k ih => exact ih (h1 _ _ h0 k)
open Classical in
noncomputable def viaB (P : ProcD) (but : Int) (a b : Nat) : Bool := decide (P.Via but a b)
theorem viaB_iff {P : ProcD} {but : Int} {a b : Nat} : P.viaB but a b = true ↔ P.Via but a b := by unfold viaB; simp

/-! ### Backwards, with a queue -/
structure ComeI (P : ProcD) (but : Int) (flow : Nat) (s : Nat → Bool) (Q : List Int) : Prop where
  start : s flow = true
  sound : ∀ i, s i = true → i < P.flows.length ∧ P.Via but i flow
  todo : ∀ x ∈ Q, 0 ≤ x ∧ x < P.flows.length ∧ s x.toNat = true
  done : ∀ i, s i = true → (i : Int) ∈ Q ∨ ∀ j, P.nxt but j i → s j = true
structure ComeJ (P : ProcD) (but : Int) (flow : Nat) (s : Nat → Bool) (Q : List Int) (x k : Nat) : Prop where
  start : s flow = true
  sound : ∀ i, s i = true → i < P.flows.length ∧ P.Via but i flow
  todo : ∀ x ∈ Q, 0 ≤ x ∧ x < P.flows.length ∧ s x.toNat = true
  done : ∀ i, s i = true → (i : Int) ∈ Q ∨ (∀ j, P.nxt but j i → s j = true) ∨ (i = x ∧ ∀ j, j < k → P.nxt but j i → s j = true)
  here : s x = true
  go : P.src x ≠ but
theorem ComeI.begin {P : ProcD} {but : Int} {flow : Nat} (h : flow < P.flows.length) : P.ComeI but flow (mark (fun _ => false) flow) [(flow : Int)] where
  start := mark_self _ _
  sound i hi := by
    rcases mark_iff.1 hi with rfl | h'
    · exact ⟨h, .refl _⟩
    · cases h'
  todo x hx := by
    rw [List.mem_singleton] at hx; subst hx
    exact ⟨by omega, by omega, by rw [Int.toNat_natCast]; exact mark_self _ _⟩
  done i hi := by
    rcases mark_iff.1 hi with rfl | h'
    · exact .inl (by simp)
    · cases h'
theorem ComeI.stop {P : ProcD} {but : Int} {flow : Nat} {s : Nat → Bool} {Q : List Int} {x : Int} (h : P.ComeI but flow s (x :: Q)) (hx : P.src x.toNat = but) : P.ComeI but flow s Q where
  start := h.start
  sound := h.sound
  todo y hy := h.todo y (List.mem_cons_of_mem _ hy)
  done i hi := by
    rcases h.done i hi with q | q
    · rcases List.mem_cons.1 q with q | q
      · refine .inr fun j hj => ?_
        exfalso
        subst q
        rw [Int.toNat_natCast] at hx
        exact hj.2.2.2 (hj.2.2.1.symm.trans hx)
      · exact .inl q
    · exact .inr q
theorem ComeI.pop {P : ProcD} {but : Int} {flow : Nat} {s : Nat → Bool} {Q : List Int} {x : Int} (h : P.ComeI but flow s (x :: Q)) (hx : P.src x.toNat ≠ but) : P.ComeJ but flow s Q x.toNat 0 where
  start := h.start
  sound := h.sound
  todo y hy := h.todo y (List.mem_cons_of_mem _ hy)
  done i hi := by
    rcases h.done i hi with q | q
    · rcases List.mem_cons.1 q with q | q
      · exact .inr (.inr ⟨by omega, fun j hj => by omega⟩)
      · exact .inl q
    · exact .inr (.inl q)
  here := (h.todo x (by simp)).2.2
  go := hx
theorem ComeJ.skip {P : ProcD} {but : Int} {flow : Nat} {s : Nat → Bool} {Q : List Int} {x k : Nat} (h : P.ComeJ but flow s Q x k) (hk : P.dst k = P.src x → s k = true) : P.ComeJ but flow s Q x (k + 1) where
  start := h.start
  sound := h.sound
  todo := h.todo
  done i hi := by
    rcases h.done i hi with q | q | ⟨rfl, q⟩
    · exact .inl q
    · exact .inr (.inl q)
    · refine .inr (.inr ⟨rfl, fun j hj hn => ?_⟩)
      by_cases e : j = k
      · subst e; exact hk hn.2.2.1.symm
      · exact q j (by omega) hn
  here := h.here
  go := h.go
theorem ComeJ.push {P : ProcD} {but : Int} {flow : Nat} {s : Nat → Bool} {Q : List Int} {x k : Nat} (h : P.ComeJ but flow s Q x k) (hk : k < P.flows.length) (hd : P.dst k = P.src x) : P.ComeJ but flow (mark s k) (Q ++ [(k : Int)]) x (k + 1) where
  start := mark_of h.start
  sound i hi := by
    rcases mark_iff.1 hi with rfl | h'
    · have := h.sound x h.here
      exact ⟨hk, Via.head ⟨hk, this.1, hd.symm, by rw [hd]; exact h.go⟩ this.2⟩
    · exact h.sound i h'
  todo y hy := by
    rcases List.mem_append.1 hy with q | q
    · obtain ⟨a, b, c⟩ := h.todo y q
      exact ⟨a, b, mark_of c⟩
    · rw [List.mem_singleton] at q; subst q
      exact ⟨by omega, by omega, by rw [Int.toNat_natCast]; exact mark_self _ _⟩
  done i hi := by
    rcases mark_iff.1 hi with rfl | h'
    · exact .inl (by simp)
    · rcases h.done i h' with q | q | ⟨rfl, q⟩
      · exact .inl (List.mem_append_left _ q)
      · exact .inr (.inl fun j hj => mark_of (q j hj))
      · refine .inr (.inr ⟨rfl, fun j hj hn => ?_⟩)
        by_cases e : j = k
        · subst e; exact mark_self _ _
        · exact mark_of (q j (by omega) hn)
  here := mark_of h.here
  go := h.go
theorem ComeJ.fin {P : ProcD} {but : Int} {flow : Nat} {s : Nat → Bool} {Q : List Int} {x : Nat} (h : P.ComeJ but flow s Q x P.flows.length) : P.ComeI but flow s Q where
  start := h.start
  sound := h.sound
  todo := h.todo
  done i hi := by
    rcases h.done i hi with q | q | ⟨rfl, q⟩
    · exact .inl q
    · exact .inr q
    · exact .inr fun j hj => q j hj.1 hj
theorem ComeI.fin {P : ProcD} {but : Int} {flow : Nat} {s : Nat → Bool} (h : P.ComeI but flow s []) (i : Nat) : s i = P.viaB but i flow := by
  rw [Bool.eq_iff_iff, viaB_iff]
  refine ⟨fun hi => (h.sound i hi).2, fun hi => via_back h.start (fun x y hy hn => ?_) i hi⟩
  rcases h.done y hy with q | q
  · cases q
  · exact q x hn

/-! ### Forwards, by recursion -/
structure Dfs (P : ProcD) (but : Int) (a : Nat) (s t : Nat → Bool) : Prop where
  mono : ∀ x, s x = true → t x = true
  here : t a = true
  sound : ∀ x, t x = true → s x = true ∨ P.Via but a x
  closed : ∀ x y, t x = true → s x = false → P.nxt but x y → t y = true
structure DfsJ (P : ProcD) (but : Int) (a : Nat) (s t : Nat → Bool) (k : Nat) : Prop where
  mono : ∀ x, s x = true → t x = true
  here : t a = true
  sound : ∀ x, t x = true → s x = true ∨ P.Via but a x
  closed : ∀ x y, t x = true → s x = false → x ≠ a → P.nxt but x y → t y = true
  kids : ∀ j, j < k → P.nxt but a j → t j = true
theorem DfsJ.begin {P : ProcD} {but : Int} {a : Nat} {s : Nat → Bool} : P.DfsJ but a s (mark s a) 0 where
  mono x h := mark_of h
  here := mark_self _ _
  sound x h := by
    rcases mark_iff.1 h with rfl | h
    · exact .inr (.refl _)
    · exact .inl h
  closed x y h1 h2 h3 _ := by
    rcases mark_iff.1 h1 with rfl | h
    · exact absurd rfl h3
    · rw [h2] at h; cases h
  kids j h := by omega
theorem DfsJ.skip {P : ProcD} {but : Int} {a k : Nat} {s t : Nat → Bool} (h : P.DfsJ but a s t k) (hk : P.nxt but a k → t k = true) : P.DfsJ but a s t (k + 1) where
  mono := h.mono
  here := h.here
  sound := h.sound
  closed := h.closed
  kids j hj hn := by
    by_cases e : j = k
    · subst e; exact hk hn
    · exact h.kids j (by omega) hn
theorem DfsJ.call {P : ProcD} {but : Int} {a k : Nat} {s t u : Nat → Bool} (h : P.DfsJ but a s t k) (hn : P.nxt but a k) (hu : P.Dfs but k t u) : P.DfsJ but a s u (k + 1) where
  mono x hx := hu.mono x (h.mono x hx)
  here := hu.mono a h.here
  sound x hx := by
    rcases hu.sound x hx with q | q
    · exact h.sound x q
    · exact .inr (Via.head hn q)
  closed x y h1 h2 h3 h4 := by
    cases e : t x with
    | true => exact hu.mono y (h.closed x y e h2 h3 h4)
    | false => exact hu.closed x y h1 e h4
  kids j hj hn := by
    by_cases e : j = k
    · subst e; exact hu.here
    · exact hu.mono j (h.kids j (by omega) hn)
theorem DfsJ.fin {P : ProcD} {but : Int} {a : Nat} {s t : Nat → Bool} {k : Nat} (h : P.DfsJ but a s t k) (hk : P.flows.length ≤ k ∨ P.dst a = but) : P.Dfs but a s t where
  mono := h.mono
  here := h.here
  sound := h.sound
  closed x y h1 h2 h3 := by
    by_cases e : x = a
    · subst e
      rcases hk with hk | hk
      · exact h.kids y (by have := h3.2.1; omega) h3
      · exact absurd hk h3.2.2.2
    · exact h.closed x y h1 h2 e h3
theorem Dfs.all {P : ProcD} {but : Int} {a : Nat} {t : Nat → Bool} (h : P.Dfs but a (fun _ => false) t) (b : Nat) : t b = P.viaB but a b := by
  rw [Bool.eq_iff_iff, viaB_iff]
  refine ⟨fun hb => ?_, fun hb => via_fwd h.here (fun x y hx hn => h.closed x y hx rfl hn) b hb⟩
  rcases h.sound b hb with q | q
  · cases q
  · exact q
def kidsL (P : ProcD) (f : (Nat → Bool) → Nat → Nat → Bool) (a : Nat) : Nat → (Nat → Bool) → Nat → Bool
  | 0, t => t
  | k + 1, t => if P.src k = P.dst a ∧ P.kidsL f a k t k = false then f (P.kidsL f a k t) k else P.kidsL f a k t
def dfs (P : ProcD) (but : Int) : Nat → (Nat → Bool) → Nat → Nat → Bool
  | 0, s, a => mark s a
  | n + 1, s, a => if P.dst a = but then mark s a else P.kidsL (P.dfs but n) a P.flows.length (mark s a)
theorem kidsL_J {P : ProcD} {but : Int} {a n : Nat} {s : Nat → Bool} (ha : a < P.flows.length) (hb : P.dst a ≠ but) (hn : unseen (mark s a) P.flows.length ≤ n)
    (ih : ∀ t k, unseen t P.flows.length ≤ n → k < P.flows.length → t k = false → P.Dfs but k t (P.dfs but n t k)) :
    ∀ k, k ≤ P.flows.length → P.DfsJ but a s (P.kidsL (P.dfs but n) a k (mark s a)) k ∧ unseen (P.kidsL (P.dfs but n) a k (mark s a)) P.flows.length ≤ n
  | 0, _ => ⟨DfsJ.begin, hn⟩
  | k + 1, hk => by
    obtain ⟨h1, h2⟩ := kidsL_J ha hb hn ih k (by omega)
    simp only [kidsL]
    split
    · rename_i h
      have hd := ih _ k h2 (by omega) h.2
      exact ⟨h1.call ⟨ha, by omega, h.1, hb⟩ hd, Nat.le_trans (unseen_mono fun j _ hj => hd.mono j hj) h2⟩
    · rename_i h
      refine ⟨h1.skip fun hx => ?_, h2⟩
      cases e : P.kidsL (P.dfs but n) a k (mark s a) k with
      | true => rfl
      | false => exact absurd ⟨hx.2.2.1, e⟩ h
theorem dfs_ok {P : ProcD} {but : Int} : ∀ (n : Nat) (s : Nat → Bool) (a : Nat), unseen s P.flows.length ≤ n → a < P.flows.length → s a = false → P.Dfs but a s (P.dfs but n s a)
  | 0, s, a, h, ha, hs => by
    have := unseen_lt (s := s) (s' := mark s a) ha (fun j _ h => mark_of h) hs (mark_self _ _)
    omega
  | n + 1, s, a, h, ha, hs => by
    have := unseen_lt (s := s) (s' := mark s a) ha (fun j _ h => mark_of h) hs (mark_self _ _)
    simp only [dfs]
    split
    · rename_i hb
      exact DfsJ.begin.fin (k := 0) (.inr hb)
    · rename_i hb
      exact (kidsL_J ha hb (by omega) (fun t k h1 h2 h3 => dfs_ok n t k h1 h2 h3) P.flows.length (Nat.le_refl _)).1.fin (.inl (Nat.le_refl _))
end ProcD
end

/-! ### XGa1 -/
section
open Go.RowKit
set_option linter.unusedSimpArgs false
set_option linter.unusedVariables false
theorem queue_head {Z : List Int} {lo hi : Nat} (h1 : lo < hi) (h2 : hi ≤ Z.length) : (Z.take hi).drop lo = Z.getD lo 0 :: (Z.take hi).drop (lo + 1) := by
  rw [List.drop_eq_getElem_cons (by rw [List.length_take]; omega), List.getElem_take, List.getD_eq_getElem?_getD, List.getElem?_eq_getElem (by omega)]
  rfl
theorem i64s_queue {Z : List Int} {lo hi : Nat} {k : Int} : ((i64s Z).take hi).drop lo ++ [[D.sc (.int .i64 k)]] = i64s ((Z.take hi).drop lo ++ [k]) := by
  simp [i64s]
def c116_2 : PC := .seq (.ops [⟨(some 41), .bin .lss (.tmp 40) (.tmp 39), none, 0⟩] false) (.seq (.cond (.tmp 41) (.skip) (.exit 2)) (.seq (.block 3 (.seq (.ops [⟨(some 42), .move (.tmp 40), none, 0⟩,
    ⟨(some 43), .iaddr 2 (.tmp 38) (.tmp 40), none, 0⟩,
    ⟨(some 44), .loadA 2 (.tmp 43), none, 0⟩,
    ⟨(some 11), .alloc [(.int .i64 0), (.int .i64 0)], none, 0⟩,
    ⟨(some 10), .move (.tmp 42), none, 0⟩,
    ⟨none, .store 2 (.tmp 11) (.tmp 44), none, 0⟩] false) (.seq (.ops [⟨(some 45), .faddr 1 (.tmp 11), none, 0⟩,
    ⟨(some 46), .load1 (.tmp 45), none, 0⟩,
    ⟨(some 47), .move (.tmp 9), none, 0⟩,
    ⟨(some 48), .bin .eql (.tmp 46) (.tmp 47), none, 0⟩,
    ⟨(some 49), .move (.tmp 48), none, 0⟩,
    ⟨(some 50), .move (.tmp 7), (some (49, true)), 0⟩,
    ⟨(some 51), .move (.tmp 10), (some (49, true)), 0⟩,
    ⟨(some 52), .iaddr 1 (.tmp 50) (.tmp 51), (some (49, true)), 0⟩,
    ⟨(some 53), .load1 (.tmp 52), (some (49, true)), 0⟩,
    ⟨(some 54), .un .not (.tmp 53), (some (49, true)), 0⟩,
    ⟨(some 55), .pick (.tmp 49) (.tmp 54) (.const (.bool false)), none, 0⟩] false) (.cond (.tmp 55) (.seq (.ops [⟨(some 56), .move (.tmp 7), none, 0⟩,
    ⟨(some 57), .move (.tmp 10), none, 0⟩,
    ⟨(some 58), .iaddr 1 (.tmp 56) (.tmp 57), none, 0⟩,
    ⟨none, .store 1 (.tmp 58) (.const (.bool true)), none, 0⟩] false) (.ops [⟨(some 59), .move (.tmp 8), none, 0⟩,
    ⟨(some 60), .move (.tmp 10), none, 0⟩,
    ⟨(some 61), .bslice 1 1 [(.tmp 60)], none, 0⟩,
    ⟨(some 62), .append 1 8 (.tmp 59) (.tmp 61), none, 0⟩,
    ⟨(some 8), .move (.tmp 62), none, 0⟩] false)) (.skip))))) (.ops [⟨(some 63), .bin .add (.tmp 40) (.const (.int .i64 1)), none, 0⟩,
    ⟨(some 40), .move (.tmp 63), none, 0⟩] false)))
def c116_1 : PC := .seq (.seq (.ops [⟨(some 21), .move (.tmp 8), none, 0⟩,
    ⟨(some 22), .len (.tmp 21), none, 0⟩,
    ⟨(some 23), .bin .gtr (.tmp 22) (.const (.int .i64 0)), none, 0⟩] false) (.cond (.tmp 23) (.skip) (.exit 0))) (.block 1 (.seq (.ops [⟨(some 24), .faddr 1 (.tmp 3), none, 0⟩,
    ⟨(some 25), .load1 (.tmp 24), none, 1⟩,
    ⟨(some 26), .move (.tmp 8), none, 0⟩,
    ⟨(some 27), .iaddr 1 (.tmp 26) (.const (.int .i64 0)), none, 4⟩,
    ⟨(some 28), .load1 (.tmp 27), none, 12⟩,
    ⟨(some 29), .iaddr 2 (.tmp 25) (.tmp 28), none, 31⟩,
    ⟨(some 30), .faddr 0 (.tmp 29), none, 63⟩,
    ⟨(some 31), .load1 (.tmp 30), none, 127⟩,
    ⟨(some 9), .move (.tmp 31), none, 255⟩] true) (.seq (.ops [⟨(some 32), .move (.tmp 8), none, 0⟩,
    ⟨(some 33), .slc 1 (.tmp 32) (some (.const (.int .i64 1))) none none, none, 0⟩,
    ⟨(some 8), .move (.tmp 33), none, 0⟩] false) (.seq (.seq (.ops [⟨(some 34), .move (.tmp 9), none, 0⟩,
    ⟨(some 35), .move (.tmp 2), none, 0⟩,
    ⟨(some 36), .bin .eql (.tmp 34) (.tmp 35), none, 0⟩] false) (.cond (.tmp 36) (.exit 1) (.skip))) (.seq (.ops [⟨(some 37), .faddr 1 (.tmp 3), none, 0⟩,
    ⟨(some 38), .load1 (.tmp 37), none, 0⟩,
    ⟨(some 39), .len (.tmp 38), none, 0⟩,
    ⟨(some 40), .move (.const (.int .i64 0)), none, 0⟩] false) (.block 2 (.loop c116_2)))))))
def c116 : PC := .seq (.ops [⟨(some 3), .box (.tmp 0), none, 0⟩,
    ⟨(some 6), .move (.const (.slice none 0 0)), none, 0⟩] false) (.seq (.ops [⟨(some 12), .faddr 1 (.tmp 3), none, 0⟩,
    ⟨(some 13), .load1 (.tmp 12), none, 0⟩,
    ⟨(some 14), .len (.tmp 13), none, 0⟩,
    ⟨(some 15), .mslice 1 1 [(.bool false)] (.tmp 14) (.tmp 14), none, 0⟩,
    ⟨(some 7), .move (.tmp 15), none, 0⟩] false) (.seq (.ops [⟨(some 16), .move (.tmp 7), none, 0⟩,
    ⟨(some 17), .move (.tmp 1), none, 0⟩,
    ⟨(some 18), .iaddr 1 (.tmp 16) (.tmp 17), none, 0⟩,
    ⟨none, .store 1 (.tmp 18) (.const (.bool true)), none, 0⟩] false) (.seq (.ops [⟨(some 19), .move (.tmp 1), none, 0⟩,
    ⟨(some 20), .bslice 1 1 [(.tmp 19)], none, 0⟩,
    ⟨(some 8), .move (.tmp 20), none, 0⟩] false) (.seq (.block 0 (.loop c116_1)) (.seq (.ops [⟨(some 64), .move (.tmp 7), none, 0⟩,
    ⟨(some 6), .move (.tmp 64), none, 0⟩] false) (.ret))))))
set_option maxRecDepth 100000 in
theorem c116_ok : FunOK Try.prog 116 65 [.tmp 6] c116 := ⟨⟨Try.f116, Try.func116, rfl, by kernel_rfl, rfl, by kernel_rfl⟩⟩
set_option maxRecDepth 100000 in
theorem game_come (P : ProcD) (hP : P.Fits) (hF : P.flows.length ≤ 30) (flow : Nat) (hf : flow < P.flows.length) (hok : ∀ i, i < P.flows.length → P.flowOK i = true) (but : Int) :
    PCall Try.prog 116 [dproc P, .sc (.int .i64 flow), .sc (.int .i64 but)] (dbl P.flows.length fun i => P.viaB but i flow) := by
  refine pcall_intro c116_ok (by simp) (by simp [PureL, Pure, pure_dproc]) ?_ (pure_dbl _ _)
  (apply rd_sound; focus (repeat' constructor))
  ((conv=>whnf);repeat(refine And.intro rfl ?_;(conv=>whnf)))
  rw [List.length_map]
  refine ⟨by omega, by omega, by omega, ?_⟩
  rw [Int.toNat_natCast, show List.map D.sc [Value.bool false] = [D.sc (.bool false)] from rfl, rbl_rep]
  ((conv=>whnf);repeat(refine And.intro rfl ?_;(conv=>whnf)))
  (refine ⟨by omega, (by first | omega | (simp; done) | (simp; omega) | (simp only [ll]; omega)), ?_⟩; ((conv=>whnf);repeat(refine And.intro rfl ?_;(conv=>whnf))))
  refine ⟨_, rbl_atN flow (by omega) (by omega), ?_⟩
  ((conv=>whnf);repeat(refine And.intro rfl ?_;(conv=>whnf)))
  refine pwp_for [2, 3, 7] (fun ((s, Z, lo, hi, ver) : (Nat → Bool) × List Int × Nat × Nat × Nat) => [(8, .own 2 ver lo hi)]) (fun (s, Z, lo, hi, ver) => [(1, .vec true 0 1 (rbl P.flows.length s)), (2, .vec true ver 1 (i64s Z))])
    (fun (s, Z, lo, hi, ver) => lo ≤ hi ∧ hi ≤ Z.length ∧ hi - lo + unseen s P.flows.length ≤ P.flows.length ∧ P.ComeI but flow s ((Z.take hi).drop lo)) (fun (s, Z, lo, hi, ver) => (hi - lo) + unseen s P.flows.length) (mark (fun _ => false) flow, [(flow : Int)], 0, 1, 0) ?_
  ((conv=>whnf);repeat(refine And.intro rfl ?_;(conv=>whnf)))
  have u1 := unseen_lt (s := fun _ => false) (s' := mark (fun _ => false) flow) hf (fun j _ h => by cases h) rfl (mark_self _ _)
  have u2 := unseen_le (fun _ => false) P.flows.length
  refine ⟨⟨by omega, by simp, by omega, ProcD.ComeI.begin hf⟩, by (repeat' (first | exact trivial | refine And.intro rfl ?_)), by rw [rbl_mark (v := flow) (by omega)]; rfl, ?_⟩
  rintro ⟨s, Z, lo, hi, ver⟩ ⟨hlo, hhi, hu, hI⟩
  ((conv=>whnf);repeat(refine And.intro rfl ?_;(conv=>whnf)))
  (apply rd_sound; focus (repeat' constructor))
  ((conv=>whnf);repeat(refine And.intro rfl ?_;(conv=>whnf)))
  (refine ifK_split (fun h1 => ?_) (fun h1 => ?_) <;> (rw [h1]; ((conv=>whnf);repeat(refine And.intro rfl ?_;(conv=>whnf)))))
  · have h1 : lo < hi := by ((try simp only [oo, reduceCtorEq] at *) <;> omega)
    rw [queue_head h1 hhi] at hI
    have hx := hI.todo (Z.getD lo 0) List.mem_cons_self
    generalize hX : Z.getD lo 0 = x at hx hI
    have hfx := ProcD.flowOK_iff.1 (hok x.toNat (by omega))
    (refine ⟨by omega, (by first | omega | (simp; done) | (simp; omega) | (simp only [ll]; omega)), ?_⟩; ((conv=>whnf);repeat(refine And.intro rfl ?_;(conv=>whnf))))
    refine ⟨_, intsD_at (l := Z) (k := lo) (by omega) (by omega), ?_⟩
    ((conv=>whnf);repeat(refine And.intro rfl ?_;(conv=>whnf)))
    rw [hX]
    refine ⟨by omega, _, flow_at P (k := x.toNat) (by omega) (by omega), ?_⟩
    ((conv=>whnf);repeat(refine And.intro rfl ?_;(conv=>whnf)))
    refine ⟨by omega, by omega, by omega, ?_⟩
    ((conv=>whnf);repeat(refine And.intro rfl ?_;(conv=>whnf)))
    rw [show lo + (hi - lo) = hi by omega]
    (refine ifK_split (fun h2 => ?_) (fun h2 => ?_) <;> (rw [h2]; ((conv=>whnf);repeat(refine And.intro rfl ?_;(conv=>whnf)))))
    · have h2 : P.src x.toNat = but := by ((try simp only [oo, reduceCtorEq] at *) <;> omega)
      refine ⟨(s, Z, lo + 1, hi, ver), ⟨by omega, hhi, by omega, hI.stop h2⟩, by dsimp only; omega, ?_⟩
      exact leB_envH (by (repeat' (first | exact trivial | refine And.intro rfl ?_))) rfl
    · have h2 : P.src x.toNat ≠ but := by ((try simp only [oo, reduceCtorEq] at *) <;> omega)
      rw [List.length_map]
      refine pwp_for [2, 3, 7, 9, 38, 39] (fun ((t, Z', lo', hi', ver', k) : (Nat → Bool) × List Int × Nat × Nat × Nat × Nat) => [(8, .own 2 ver' lo' hi'), (40, .sc (.int .i64 k))]) (fun (t, Z', lo', hi', ver', k) => [(1, .vec true 0 1 (rbl P.flows.length t)), (2, .vec true ver' 1 (i64s Z'))])
        (fun (t, Z', lo', hi', ver', k) => k ≤ P.flows.length ∧ lo' ≤ hi' ∧ hi' ≤ Z'.length ∧ hi' - lo' + unseen t P.flows.length < hi - lo + unseen s P.flows.length ∧ P.ComeJ but flow t ((Z'.take hi').drop lo') x.toNat k) (fun (t, Z', lo', hi', ver', k) => P.flows.length - k) (s, Z, lo + 1, hi, ver, 0) ?_
      ((conv=>whnf);repeat(refine And.intro rfl ?_;(conv=>whnf)))
      refine ⟨⟨by omega, by omega, hhi, by omega, hI.pop h2⟩, by (repeat' (first | exact trivial | refine And.intro rfl ?_)), rfl, ?_⟩
      rintro ⟨t, Z', lo', hi', ver', k⟩ ⟨hk, hlo', hhi', hu', hJ⟩
      ((conv=>whnf);repeat(refine And.intro rfl ?_;(conv=>whnf)))
      (apply rd_sound; focus (repeat' constructor))
      ((conv=>whnf);repeat(refine And.intro rfl ?_;(conv=>whnf)))
      (refine ifK_split (fun h3 => ?_) (fun h3 => ?_) <;> (rw [h3]; ((conv=>whnf);repeat(refine And.intro rfl ?_;(conv=>whnf)))))
      · have hk' : k < P.flows.length := by ((try simp only [oo, reduceCtorEq] at *) <;> omega)
        refine ⟨by omega, _, flow_at P (k := k) (by omega) hk', ?_⟩
        ((conv=>whnf);repeat(refine And.intro rfl ?_;(conv=>whnf)))
        have skip : (P.dst k = P.src x.toNat → t k = true) → P.ComeJ but flow t ((Z'.take hi').drop lo') x.toNat (k + 1) := hJ.skip
        (refine ifK_split (fun h4 => ?_) (fun h4 => ?_) <;> (rw [h4]; ((conv=>whnf);repeat(refine And.intro rfl ?_;(conv=>whnf)))))
        · have h4 : P.dst k = P.src x.toNat := by ((try simp only [oo, reduceCtorEq] at *) <;> omega)
          (refine ⟨by omega, (by first | omega | (simp; done) | (simp; omega) | (simp only [ll]; omega)), ?_⟩; ((conv=>whnf);repeat(refine And.intro rfl ?_;(conv=>whnf))))
          refine ⟨_, rbl_atN k (by omega) (by omega), ?_⟩
          ((conv=>whnf);repeat(refine And.intro rfl ?_;(conv=>whnf)))
          cases ht : t k
          · ((conv=>whnf);repeat(refine And.intro rfl ?_;(conv=>whnf)))
            (refine ⟨by omega, (by first | omega | (simp; done) | (simp; omega) | (simp only [ll]; omega)), ?_⟩; ((conv=>whnf);repeat(refine And.intro rfl ?_;(conv=>whnf))))
            refine ⟨_, rbl_atN k (by omega) (by omega), ?_⟩
            ((conv=>whnf);repeat(refine And.intro rfl ?_;(conv=>whnf)))
            refine ⟨(by unfold sliceAppend; simp only [ll]; omega), ?_⟩
            ((conv=>whnf);repeat(refine And.intro rfl ?_;(conv=>whnf)))
            (refine .inl ⟨by (unfold InR; rw [IntKind.wrap_i64]; omega), ?_⟩; ((conv=>whnf);repeat(refine And.intro rfl ?_;(conv=>whnf))))
            have u3 := unseen_lt (s := t) (s' := mark t k) hk' (fun j _ h => mark_of h) ht (mark_self _ _)
            have hp := hJ.push hk' h4
            refine ⟨(mark t k, (Z'.take hi').drop lo' ++ [(k : Int)], 0, hi' - lo' + 1, ver' + 1, k + 1), ⟨by omega, by omega, by simp; omega, by omega, by rw [List.drop_zero, List.take_of_length_le (by simp; omega)]; exact hp⟩, by dsimp only; omega, ?_⟩
            (refine leB_close 3 (by simp) rfl ?_ ?_ <;> (repeat' (first | exact trivial | exact rfl | exact DeepM.refl _ | exact DeepML.refl _ | exact DeepMLL.refl _ | refine And.intro ?_ ?_ | (simp [Under, UnderL, UnderLL, -List.map_take, -List.map_drop]; done))))
            · exact deepMLL_eq (rbl_mark (by omega))
            · exact deepMLL_eq i64s_queue
          · ((conv=>whnf);repeat(refine And.intro rfl ?_;(conv=>whnf)))
            (refine .inl ⟨by (unfold InR; rw [IntKind.wrap_i64]; omega), ?_⟩; ((conv=>whnf);repeat(refine And.intro rfl ?_;(conv=>whnf))))
            refine ⟨(t, Z', lo', hi', ver', k + 1), ⟨by omega, hlo', hhi', hu', skip fun _ => ht⟩, by dsimp only; omega, ?_⟩
            (refine leB_close 3 (by simp) rfl ?_ ?_ <;> (repeat' (first | exact trivial | exact rfl | exact DeepM.refl _ | exact DeepML.refl _ | exact DeepMLL.refl _ | refine And.intro ?_ ?_ | (simp [Under, UnderL, UnderLL, -List.map_take, -List.map_drop]; done))))
        · have h4 : P.dst k ≠ P.src x.toNat := by ((try simp only [oo, reduceCtorEq] at *) <;> omega)
          ((conv=>whnf);repeat(refine And.intro rfl ?_;(conv=>whnf)))
          (refine .inl ⟨by (unfold InR; rw [IntKind.wrap_i64]; omega), ?_⟩; ((conv=>whnf);repeat(refine And.intro rfl ?_;(conv=>whnf))))
          refine ⟨(t, Z', lo', hi', ver', k + 1), ⟨by omega, hlo', hhi', hu', skip fun e => absurd e h4⟩, by dsimp only; omega, ?_⟩
          (refine leB_close 3 (by simp) rfl ?_ ?_ <;> (repeat' (first | exact trivial | exact rfl | exact DeepM.refl _ | exact DeepML.refl _ | exact DeepMLL.refl _ | refine And.intro ?_ ?_ | (simp [Under, UnderL, UnderLL, -List.map_take, -List.map_drop]; done))))
      · have hk' : k = P.flows.length := by have : ¬ k < P.flows.length := by ((try simp only [oo, reduceCtorEq] at *) <;> omega)
                                            omega
        subst hk'
        refine ⟨(t, Z', lo', hi', ver'), ⟨hlo', hhi', by omega, hJ.fin⟩, by dsimp only; omega, ?_⟩
        exact leB_envH (by (repeat' (first | exact trivial | refine And.intro rfl ?_))) rfl
  · have h0 : hi = lo := by ((try simp only [oo, reduceCtorEq] at *) <;> omega)
    subst h0
    rw [List.drop_eq_nil_of_le (by rw [List.length_take]; omega)] at hI
    rw [rbl_congr (g' := fun i => P.viaB but i flow) fun i _ => hI.fin i]
    exact deep_vec rfl
end

/-! ### XGa2 -/
section
open Go.RowKit
set_option linter.unusedSimpArgs false
set_option linter.unusedVariables false
def c103_1 : PC := .seq (.seq (.ops [⟨(some 10), .move (.tmp 6), none, 0⟩,
    ⟨(some 11), .faddr 1 (.tmp 2), none, 0⟩,
    ⟨(some 12), .load1 (.tmp 11), none, 2⟩,
    ⟨(some 13), .len (.tmp 12), none, 6⟩,
    ⟨(some 14), .bin .lss (.tmp 10) (.tmp 13), none, 15⟩,
    ⟨(some 15), .move (.tmp 14), none, 31⟩,
    ⟨(some 16), .faddr 1 (.tmp 2), (some (15, true)), 63⟩,
    ⟨(some 17), .load1 (.tmp 16), (some (15, true)), 127⟩,
    ⟨(some 18), .move (.tmp 0), (some (15, true)), 63⟩,
    ⟨(some 19), .iaddr 2 (.tmp 17) (.tmp 18), (some (15, true)), 511⟩,
    ⟨(some 20), .faddr 1 (.tmp 19), (some (15, true)), 1023⟩,
    ⟨(some 21), .load1 (.tmp 20), (some (15, true)), 2047⟩,
    ⟨(some 22), .load1 (.tmp 3), (some (15, true)), 63⟩,
    ⟨(some 23), .bin .neq (.tmp 21) (.tmp 22), (some (15, true)), 8191⟩,
    ⟨(some 24), .pick (.tmp 15) (.tmp 23) (.const (.bool false)), none, 16383⟩] true) (.cond (.tmp 24) (.skip) (.exit 0))) (.seq (.block 1 (.seq (.ops [⟨(some 27), .faddr 1 (.tmp 2), none, 0⟩,
    ⟨(some 28), .load1 (.tmp 27), none, 1⟩,
    ⟨(some 29), .move (.tmp 6), none, 0⟩,
    ⟨(some 30), .iaddr 2 (.tmp 28) (.tmp 29), none, 7⟩,
    ⟨(some 31), .faddr 0 (.tmp 30), none, 15⟩,
    ⟨(some 32), .load1 (.tmp 31), none, 31⟩,
    ⟨(some 33), .faddr 1 (.tmp 2), none, 0⟩,
    ⟨(some 34), .load1 (.tmp 33), none, 64⟩,
    ⟨(some 35), .move (.tmp 0), none, 0⟩,
    ⟨(some 36), .iaddr 2 (.tmp 34) (.tmp 35), none, 448⟩,
    ⟨(some 37), .faddr 1 (.tmp 36), none, 960⟩,
    ⟨(some 38), .load1 (.tmp 37), none, 1984⟩,
    ⟨(some 39), .bin .eql (.tmp 32) (.tmp 38), none, 4095⟩,
    ⟨(some 40), .move (.tmp 39), none, 8191⟩,
    ⟨(some 41), .load1 (.tmp 1), (some (40, true)), 16383⟩,
    ⟨(some 42), .move (.tmp 6), (some (40, true)), 16383⟩,
    ⟨(some 43), .iaddr 1 (.tmp 41) (.tmp 42), (some (40, true)), 65535⟩,
    ⟨(some 44), .load1 (.tmp 43), (some (40, true)), 131071⟩,
    ⟨(some 45), .un .not (.tmp 44), (some (40, true)), 262143⟩,
    ⟨(some 46), .pick (.tmp 40) (.tmp 45) (.const (.bool false)), none, 524287⟩] true) (.cond (.tmp 46) (.ops [⟨(some 47), .load1 (.tmp 4), none, 0⟩,
    ⟨(some 48), .move (.tmp 6), none, 0⟩,
    ⟨(some 49), .callv (.tmp 47) [(.tmp 48)], none, 0⟩] false) (.skip)))) (.ops [⟨(some 25), .move (.tmp 6), none, 0⟩,
    ⟨(some 26), .bin .add (.tmp 25) (.const (.int .i64 1)), none, 0⟩,
    ⟨(some 6), .move (.tmp 26), none, 0⟩] false))
def c103 : PC := .seq (.ops [⟨(some 7), .load1 (.tmp 1), none, 0⟩,
    ⟨(some 8), .move (.tmp 0), none, 0⟩,
    ⟨(some 9), .iaddr 1 (.tmp 7) (.tmp 8), none, 0⟩,
    ⟨none, .store 1 (.tmp 9) (.const (.bool true)), none, 0⟩] false) (.seq (.ops [⟨(some 6), .move (.const (.int .i64 0)), none, 0⟩] false) (.block 0 (.loop c103_1)))
set_option maxRecDepth 100000 in
theorem c103_ok : FunOK Try.prog 103 50 [] c103 := ⟨⟨Try.f103, Try.func103, rfl, by kernel_rfl, rfl, by kernel_rfl⟩⟩
def c80 : PC := .seq (.ops [⟨(some 4), .box (.tmp 0), none, 0⟩,
    ⟨(some 7), .box (.tmp 3), none, 0⟩,
    ⟨(some 8), .move (.const (.bool false)), none, 0⟩] false) (.seq (.ops [⟨(some 11), .faddr 1 (.tmp 4), none, 0⟩,
    ⟨(some 12), .load1 (.tmp 11), none, 0⟩,
    ⟨(some 13), .len (.tmp 12), none, 0⟩,
    ⟨(some 14), .mslice 1 1 [(.bool false)] (.tmp 13) (.tmp 13), none, 0⟩,
    ⟨(some 9), .alloc [(.slice none 0 0)], none, 0⟩,
    ⟨none, .store 1 (.tmp 9) (.tmp 14), none, 0⟩] false) (.seq (.ops [⟨(some 10), .alloc [(.nilFunc)], none, 0⟩] false) (.seq (.ops [⟨(some 15), .mkfn (.func 103) [] [(.tmp 9), (.tmp 4), (.tmp 7), (.tmp 10)], none, 0⟩,
    ⟨none, .store 1 (.tmp 10) (.tmp 15), none, 0⟩] false) (.seq (.ops [⟨(some 16), .load1 (.tmp 10), none, 0⟩,
    ⟨(some 17), .move (.tmp 1), none, 0⟩,
    ⟨(some 18), .callv (.tmp 16) [(.tmp 17)], none, 0⟩] false) (.seq (.ops [⟨(some 19), .move (.tmp 1), none, 0⟩,
    ⟨(some 20), .move (.tmp 2), none, 0⟩,
    ⟨(some 21), .bin .neq (.tmp 19) (.tmp 20), none, 0⟩,
    ⟨(some 22), .move (.tmp 21), none, 0⟩,
    ⟨(some 23), .load1 (.tmp 9), (some (22, true)), 0⟩,
    ⟨(some 24), .move (.tmp 2), (some (22, true)), 0⟩,
    ⟨(some 25), .iaddr 1 (.tmp 23) (.tmp 24), (some (22, true)), 0⟩,
    ⟨(some 26), .load1 (.tmp 25), (some (22, true)), 0⟩,
    ⟨(some 27), .pick (.tmp 22) (.tmp 26) (.const (.bool false)), none, 0⟩,
    ⟨(some 8), .move (.tmp 27), none, 0⟩] false) (.ret))))))
set_option maxRecDepth 100000 in
theorem c80_ok : FunOK Try.prog 80 28 [.tmp 8] c80 := ⟨⟨Try.f80, Try.func80, rfl, by kernel_rfl, rfl, by kernel_rfl⟩⟩
def lookG : D := .fn (.func 103) [] [.loc 3 0, .loc 0 0, .loc 1 0, .loc 4 0]
def objsG (P : ProcD) (but : Int) (s : Nat → Bool) : List AObj := [.row true P.cells, .row true [.sc (.int .i64 but)], .vec true 0 1 (rbl P.flows.length s), .row true [.own 2 0 0 P.flows.length], .row true [lookG]]
@[simp] theorem under_lookG {m : Nat} : Under m lookG ↔ 3 < m ∧ 0 < m ∧ 1 < m ∧ 4 < m := by simp [lookG, Under, UnderL]
set_option maxRecDepth 100000 in
theorem ref_Gets1 (P : ProcD) (hP : P.Fits) (hF : P.flows.length ≤ 30) (but : Int) : ∀ (n : Nat) (s : Nat → Bool) (a : Nat), unseen s P.flows.length ≤ n → a < P.flows.length → s a = false →
    ACall Try.prog 103 [.sc (.int .i64 a), .loc 3 0, .loc 0 0, .loc 1 0, .loc 4 0] (objsG P but s) (.tup []) (objsG P but (P.dfs but n s a)) := by
  intro n
  induction n with
  | zero =>
    intro s a h ha hs
    have := unseen_lt (s := s) (s' := mark s a) ha (fun j _ h => mark_of h) hs (mark_self _ _)
    omega
  | succ n ih =>
    intro s a h ha hs
    have h1 := unseen_lt (s := s) (s' := mark s a) ha (fun j _ h => mark_of h) hs (mark_self _ _)
    refine acall_intro c103_ok (by simp) (by simp [objsG]) ?_ (by simp [Under, UnderL]) (by simp [objsG, UnderO, AObj.under, UnderL, Under])
    unfold objsG
    (apply rd_sound; focus (repeat' constructor))
    ((conv=>whnf);repeat(refine And.intro rfl ?_;(conv=>whnf)))
    (refine ⟨by omega, (by first | omega | (simp; done) | (simp; omega) | (simp only [ll]; omega)), ?_⟩; ((conv=>whnf);repeat(refine And.intro rfl ?_;(conv=>whnf))))
    refine ⟨_, rbl_atN a (by omega) (by omega), ?_⟩
    ((conv=>whnf);repeat(refine And.intro rfl ?_;(conv=>whnf)))
    have fin : ∀ {u : Nat → Bool}, u = P.dfs but (n + 1) s a → [AObj.row true P.cells, AObj.row true [D.sc (Value.int IntKind.i64 but)], AObj.vec true 0 1 (rbl P.flows.length u), AObj.row true [D.own 2 0 0 P.flows.length], AObj.row true [lookG]] = [AObj.row true P.cells, AObj.row true [D.sc (Value.int IntKind.i64 but)], AObj.vec true 0 1 (rbl P.flows.length (P.dfs but (n + 1) s a)), AObj.row true [D.own 2 0 0 P.flows.length], AObj.row true [lookG]] := fun h => by rw [h]
    refine pwp_for [0, 1, 2, 3, 4] (fun k : Nat => [(6, .sc (.int .i64 k))]) (fun k => [(2, .vec true 0 1 (rbl P.flows.length (P.kidsL (P.dfs but n) a k (mark s a))))]) (fun k => k ≤ P.flows.length ∧ (P.dst a = but → k = 0)) (fun k => P.flows.length - k) 0 ?_
    ((conv=>whnf);repeat(refine And.intro rfl ?_;(conv=>whnf)))
    refine ⟨⟨by omega, fun _ => rfl⟩, by (repeat' (first | exact trivial | refine And.intro rfl ?_)), by rw [rbl_mark (v := a) (by omega)]; rfl, ?_⟩
    rintro k ⟨hk, hk0⟩
    ((conv=>whnf);repeat(refine And.intro rfl ?_;(conv=>whnf)))
    (apply rd_sound; focus (repeat' constructor))
    ((conv=>whnf);repeat(refine And.intro rfl ?_;(conv=>whnf)))
    rw [List.length_map]
    (refine ifK_split (fun h2 => ?_) (fun h2 => ?_) <;> (rw [h2]; ((conv=>whnf);repeat(refine And.intro rfl ?_;(conv=>whnf)))))
    · have hk' : k < P.flows.length := by ((try simp only [oo, reduceCtorEq] at *) <;> omega)
      refine ⟨by omega, _, flow_at P (k := a) (by omega) ha, ?_⟩
      ((conv=>whnf);repeat(refine And.intro rfl ?_;(conv=>whnf)))
      cases hb : (P.dst a != but)
      · ((conv=>whnf);repeat(refine And.intro rfl ?_;(conv=>whnf)))
        have hb : P.dst a = but := by ((try simp only [oo, reduceCtorEq] at *) <;> omega)
        have := hk0 hb
        subst this
        refine ⟨fin ?_, by simp⟩
        rw [ProcD.dfs, if_pos hb]
        rfl
      have hb : P.dst a ≠ but := by ((try simp only [oo, reduceCtorEq] at *) <;> omega)
      obtain ⟨hJ, hU⟩ := ProcD.kidsL_J (s := s) ha hb (by omega) (fun t k g1 g2 g3 => ProcD.dfs_ok n t k g1 g2 g3) k hk
      ((conv=>whnf);repeat(refine And.intro rfl ?_;(conv=>whnf)))
      refine ⟨by omega, _, flow_at P (k := k) (by omega) hk', ?_⟩
      ((conv=>whnf);repeat(refine And.intro rfl ?_;(conv=>whnf)))
      refine ⟨by omega, _, flow_at P (k := a) (by omega) ha, ?_⟩
      ((conv=>whnf);repeat(refine And.intro rfl ?_;(conv=>whnf)))
      have eK : P.kidsL (P.dfs but n) a (k + 1) (mark s a) = if P.src k = P.dst a ∧ P.kidsL (P.dfs but n) a k (mark s a) k = false then P.dfs but n (P.kidsL (P.dfs but n) a k (mark s a)) k else P.kidsL (P.dfs but n) a k (mark s a) := rfl
      generalize P.kidsL (P.dfs but n) a k (mark s a) = t at hJ hU eK
      have no : ¬ (P.src k = P.dst a ∧ t k = false) → rbl P.flows.length t = rbl P.flows.length (P.kidsL (P.dfs but n) a (k + 1) (mark s a)) := fun h => by rw [eK, if_neg h]
      have yes : P.src k = P.dst a → t k = false → rbl P.flows.length (P.dfs but n t k) = rbl P.flows.length (P.kidsL (P.dfs but n) a (k + 1) (mark s a)) := fun h1 h2 => by rw [eK, if_pos ⟨h1, h2⟩]
      (refine ifK_split (fun h3 => ?_) (fun h3 => ?_) <;> (rw [h3]; ((conv=>whnf);repeat(refine And.intro rfl ?_;(conv=>whnf)))))
      · have h3 : P.src k = P.dst a := by ((try simp only [oo, reduceCtorEq] at *) <;> omega)
        (refine ⟨by omega, (by first | omega | (simp; done) | (simp; omega) | (simp only [ll]; omega)), ?_⟩; ((conv=>whnf);repeat(refine And.intro rfl ?_;(conv=>whnf))))
        refine ⟨_, rbl_atN k (by omega) (by omega), ?_⟩
        ((conv=>whnf);repeat(refine And.intro rfl ?_;(conv=>whnf)))
        cases ht : t k
        · ((conv=>whnf);repeat(refine And.intro rfl ?_;(conv=>whnf)))
          (refine .inr (.inr (.inl ⟨rfl, _, _, (ih t k hU hk' ht), ?_⟩)); ((conv=>whnf);repeat(refine And.intro rfl ?_;(conv=>whnf))))
          (refine .inl ⟨by (unfold InR; rw [IntKind.wrap_i64]; omega), ?_⟩; ((conv=>whnf);repeat(refine And.intro rfl ?_;(conv=>whnf))))
          refine ⟨k + 1, ⟨by omega, fun e => absurd e hb⟩, by dsimp only; omega, ?_⟩
          exact leB_envH (by (repeat' (first | exact trivial | refine And.intro rfl ?_))) (by unfold objsG; rw [yes h3 ht]; rfl)
        · ((conv=>whnf);repeat(refine And.intro rfl ?_;(conv=>whnf)))
          (refine .inl ⟨by (unfold InR; rw [IntKind.wrap_i64]; omega), ?_⟩; ((conv=>whnf);repeat(refine And.intro rfl ?_;(conv=>whnf))))
          refine ⟨k + 1, ⟨by omega, fun e => absurd e hb⟩, by dsimp only; omega, ?_⟩
          rw [no (by rw [ht]; simp)]
          exact leB_envH (by (repeat' (first | exact trivial | refine And.intro rfl ?_))) rfl
      · have h3 : P.src k ≠ P.dst a := by ((try simp only [oo, reduceCtorEq] at *) <;> omega)
        ((conv=>whnf);repeat(refine And.intro rfl ?_;(conv=>whnf)))
        (refine .inl ⟨by (unfold InR; rw [IntKind.wrap_i64]; omega), ?_⟩; ((conv=>whnf);repeat(refine And.intro rfl ?_;(conv=>whnf))))
        refine ⟨k + 1, ⟨by omega, fun e => absurd e hb⟩, by dsimp only; omega, ?_⟩
        rw [no fun h => h3 h.1]
        exact leB_envH (by (repeat' (first | exact trivial | refine And.intro rfl ?_))) rfl
    · have hk' : k = P.flows.length := by have : ¬ k < P.flows.length := by ((try simp only [oo, reduceCtorEq] at *) <;> omega)
                                          omega
      subst hk'
      refine ⟨fin ?_, by simp⟩
      rw [ProcD.dfs, if_neg fun e => by have := hk0 e; omega]
set_option maxRecDepth 100000 in
theorem ref_Gets (P : ProcD) (hP : P.Fits) (hF : P.flows.length ≤ 30) (a b : Nat) (ha : a < P.flows.length) (hb : b < P.flows.length) (but : Int) :
    PCall Try.prog 80 [dproc P, .sc (.int .i64 a), .sc (.int .i64 b), .sc (.int .i64 but)] (.sc (.bool ((a : Int) != b && P.viaB but a b))) := by
  refine pcall_intro c80_ok (by simp) (by simp [PureL, Pure, pure_dproc]) ?_ (by simp [Pure])
  (apply rd_sound; focus (repeat' constructor))
  ((conv=>whnf);repeat(refine And.intro rfl ?_;(conv=>whnf)))
  rw [List.length_map]
  refine ⟨by omega, by omega, by omega, ?_⟩
  rw [Int.toNat_natCast, show List.map D.sc [Value.bool false] = [D.sc (.bool false)] from rfl, rbl_rep]
  ((conv=>whnf);repeat(refine And.intro rfl ?_;(conv=>whnf)))
  (refine .inr (.inr (.inl ⟨rfl, _, _, (ref_Gets1 P hP hF but P.flows.length (fun _ => false) a (unseen_le _ _) ha rfl), ?_⟩)); ((conv=>whnf);repeat(refine And.intro rfl ?_;(conv=>whnf))))
  have hd := (ProcD.dfs_ok (P := P) (but := but) P.flows.length (fun _ => false) a (unseen_le _ _) ha rfl).all b
  cases hab : ((a : Int) != b)
  · ((conv=>whnf);repeat(refine And.intro rfl ?_;(conv=>whnf)))
    exact .refl _
  · ((conv=>whnf);repeat(refine And.intro rfl ?_;(conv=>whnf)))
    (refine ⟨by omega, (by first | omega | (simp; done) | (simp; omega) | (simp only [ll]; omega)), ?_⟩; ((conv=>whnf);repeat(refine And.intro rfl ?_;(conv=>whnf))))
    refine ⟨_, rbl_atN b (by omega) (by omega), ?_⟩
    ((conv=>whnf);repeat(refine And.intro rfl ?_;(conv=>whnf)))
    rw [hd]
    exact .refl _
end

/-! ### XGa3 -/
section
def val (M : List Int) (i : Nat) : Int := M.getD i 0
namespace ProcD
def inAt (P : ProcD) (n : Int) (a : Nat) : Int := (P.inL n).getD a 0
def outAt (P : ProcD) (n : Int) (a : Nat) : Int := (P.outL n).getD a 0
theorem getD_mem' {l : List Int} {a : Nat} (h : a < l.length) : l.getD a 0 ∈ l := by
  rw [List.getD_eq_getElem?_getD, List.getElem?_eq_getElem h]; exact List.getElem_mem h
theorem getD_mem_of {l : List Int} {x : Int} (h : x ∈ l) : ∃ k, k < l.length ∧ l.getD k 0 = x := getD_mem h
theorem inAt_ok {P : ProcD} {n : Int} {a : Nat} (h : a < (P.inL n).length) : 0 ≤ P.inAt n a ∧ P.inAt n a < P.flows.length ∧ P.dst (P.inAt n a).toNat = n := by
  obtain ⟨i, h1, h2, h3⟩ := pick_mem.1 (getD_mem' h)
  unfold inAt inL
  rw [h3]
  rw [Int.toNat_natCast]
  exact ⟨by omega, by omega, by simpa using h2⟩
theorem outAt_ok {P : ProcD} {n : Int} {a : Nat} (h : a < (P.outL n).length) : 0 ≤ P.outAt n a ∧ P.outAt n a < P.flows.length ∧ P.src (P.outAt n a).toNat = n := by
  obtain ⟨i, h1, h2, h3⟩ := pick_mem.1 (getD_mem' h)
  unfold outAt outL
  rw [h3]
  rw [Int.toNat_natCast]
  exact ⟨by omega, by omega, by simpa using h2⟩
def posTo (P : ProcD) (M : List Int) (n : Int) : Nat → Bool
  | 0 => false
  | a + 1 => P.posTo M n a || decide (0 < val M (P.inAt n a).toNat)
def allTo (P : ProcD) (M : List Int) (n : Int) : Nat → Bool
  | 0 => true
  | a + 1 => P.allTo M n a && decide (0 < val M (P.inAt n a).toNat)
/-- A token that may still come keeps an empty flow waiting. -/
def hold (P : ProcD) (M : List Int) (n : Int) (f i : Nat) : Prop := P.Via n i f ∧ 0 < val M i ∧ P.dst i ≠ n
def badAt (P : ProcD) (M : List Int) (n : Int) (a : Nat) : Prop := val M (P.inAt n a).toNat ≤ 0 ∧ ∃ i, i < P.flows.length ∧ P.hold M n (P.inAt n a).toNat i
open Classical in
noncomputable def joinB (P : ProcD) (M : List Int) (n : Int) : Bool := P.posTo M n (P.inL n).length && decide (∀ a, a < (P.inL n).length → ¬ P.badAt M n a)
open Classical in
noncomputable def mayB (P : ProcD) (M : List Int) (s : StepD) : Bool :=
  if 0 ≤ s.2.1 then decide (0 < val M s.2.1.toNat) else if P.kind s.1.toNat = 7 then P.joinB M s.1 else P.allTo M s.1 (P.inL s.1).length
open Classical in
theorem joinB_false {P : ProcD} {M : List Int} {n : Int} {a : Nat} (ha : a < (P.inL n).length) (h : P.badAt M n a) : P.joinB M n = false := by
  unfold joinB
  rw [Bool.and_eq_false_iff]
  exact .inr (decide_eq_false fun q => q a ha h)
open Classical in
theorem joinB_some {P : ProcD} {M : List Int} {n : Int} (h : ∀ a, a < (P.inL n).length → ¬ P.badAt M n a) : P.joinB M n = P.posTo M n (P.inL n).length := by
  unfold joinB
  rw [decide_eq_true h, Bool.and_true]
/-- The reference's word for it. -/
theorem hold_iff {P : ProcD} {M : List Int} {n : Int} {f k : Nat} (h0 : val M f = 0) (hk : 0 < val M k) : P.hold M n f k ↔ (k ≠ f ∧ P.Via n k f) := by
  constructor
  · rintro ⟨h1, h2, h3⟩
    exact ⟨fun e => by subst e; omega, h1⟩
  · rintro ⟨h1, h2⟩
    refine ⟨h2, hk, ?_⟩
    rcases h2.first with q | q
    · exact absurd q h1
    · exact q
/-- What is so of a process's steps. -/
structure StepOK (P : ProcD) (s : StepD) : Prop where
  node : 0 ≤ s.1 ∧ s.1 < P.nodes.length
  in_ : -1 ≤ s.2.1 ∧ s.2.1 < P.flows.length
  kind : s.2.1 < 0 → P.kind s.1.toNat = 6 ∨ P.kind s.1.toNat = 7
  out : 0 ≤ s.2.2 ∧ s.2.2 ≤ 1073741824
theorem allO_ok {P : ProcD} (hf : P.flows.length ≤ 30) (n : Int) : 0 ≤ P.allO n ∧ P.allO n ≤ 1073741823 := by
  have l2 := P.outL_len n
  have := ones_le (k := (P.outL n).length) (n := 30) (by omega)
  have e30 : ones 30 = 1073741823 := rfl
  unfold allO
  omega
theorem orS_mem {n : Int} {s : StepD} : ∀ {k : Nat}, s ∈ orS n k → s.1 = n ∧ s.2.1 = -1 ∧ 0 ≤ s.2.2 ∧ s.2.2 ≤ k
  | 0, h => by cases h
  | k + 1, h => by
    simp only [orS, List.mem_append, List.mem_singleton] at h
    rcases h with h | h
    · have := orS_mem h
      exact ⟨this.1, this.2.1, this.2.2.1, by omega⟩
    · subst h
      exact ⟨rfl, rfl, by dsimp only; omega, by dsimp only; omega⟩
theorem xorS_mem {n i : Int} {s : StepD} : ∀ {k : Nat}, s ∈ xorS n i k → s.1 = n ∧ s.2.1 = i ∧ ∃ j, j < k ∧ s.2.2 = 2 ^ j
  | 0, h => by cases h
  | k + 1, h => by
    simp only [xorS, List.mem_append, List.mem_singleton] at h
    rcases h with h | h
    · obtain ⟨a, b, j, c, d⟩ := xorS_mem h
      exact ⟨a, b, j, by omega, d⟩
    · subst h
      exact ⟨rfl, rfl, k, by omega, rfl⟩
theorem byIns_mem {P : ProcD} {k n : Int} {s : StepD} (hf : P.flows.length ≤ 30) : ∀ {j : Nat}, j ≤ (P.inL n).length → s ∈ P.byIns k n j → s.1 = n ∧ (0 ≤ s.2.1 ∧ s.2.1 < P.flows.length) ∧ 0 ≤ s.2.2 ∧ s.2.2 ≤ 1073741824
  | 0, _, h => by cases h
  | j + 1, hj, h => by
    simp only [byIns, List.mem_append] at h
    rcases h with h | h
    · exact byIns_mem hf (by omega) h
    · have hi := inAt_ok (P := P) (n := n) (a := j) (by omega)
      unfold inAt at hi
      have l2 := P.outL_len n
      have ha := allO_ok hf n
      unfold byIn at h
      split at h
      · obtain ⟨a, b, i, c, d⟩ := xorS_mem h
        have p1 := pow_pos' i
        have p2 := pow_le (k := i) (n := 30) (by omega)
        have p3 : (2 : Int) ^ 30 = 1073741824 := by decide
        exact ⟨a, by omega, by omega⟩
      · rw [List.mem_singleton] at h
        subst h
        exact ⟨rfl, ⟨hi.1, hi.2.1⟩, ha.1, by dsimp only; omega⟩
theorem stepsOf_mem {P : ProcD} {n : Nat} {s : StepD} (hf : P.flows.length ≤ 30) (hn : n < P.nodes.length) (h : s ∈ P.stepsOf n) : P.StepOK s := by
  have ha := allO_ok hf n
  unfold stepsOf at h
  split at h
  · obtain ⟨a, b, c⟩ := byIns_mem hf (Nat.le_refl _) h
    exact ⟨by omega, by omega, fun q => by omega, c⟩
  · split at h
    · rename_i q
      rw [List.mem_singleton] at h
      subst h
      exact ⟨by dsimp only; omega, by dsimp only; omega, fun _ => .inl (by rw [Int.toNat_natCast]; exact q), ha.1, by dsimp only; omega⟩
    · split at h
      · rename_i q
        obtain ⟨a, b, c, d⟩ := orS_mem h
        exact ⟨by omega, by omega, fun _ => .inr (by rw [a, Int.toNat_natCast]; exact q), c, by omega⟩
      · cases h
theorem stepsTo_mem {P : ProcD} {s : StepD} (hf : P.flows.length ≤ 30) : ∀ {n : Nat}, n ≤ P.nodes.length → s ∈ P.stepsTo n → P.StepOK s
  | 0, _, h => by cases h
  | n + 1, hn, h => by
    simp only [stepsTo, List.mem_append] at h
    rcases h with h | h
    · exact stepsTo_mem hf (by omega) h
    · exact stepsOf_mem hf (by omega) h
/-- Numbers of the enabled steps. -/
noncomputable def mayTo (P : ProcD) (M : List Int) (l : List StepD) : Nat → List Int
  | 0 => []
  | k + 1 => if P.mayB M (l.getD k (0, 0, 0)) = true then P.mayTo M l k ++ [(k : Int)] else P.mayTo M l k
theorem mayTo_len (P : ProcD) (M : List Int) (l : List StepD) : ∀ k, (P.mayTo M l k).length ≤ k
  | 0 => by simp [mayTo]
  | k + 1 => by
    have := mayTo_len P M l k
    simp only [mayTo]
    split
    · simp; omega
    · omega
theorem allTo_any {P : ProcD} {M : List Int} {n : Int} (h : ∀ i, 0 ≤ val M i) : ∀ a, P.allTo M n a = !((List.range a).any fun j => val M (P.inAt n j).toNat == 0)
  | 0 => rfl
  | a + 1 => by
    rw [allTo, allTo_any h a, List.range_succ, List.any_append]
    have h1 : decide (0 < val M (P.inAt n a).toNat) = !(val M (P.inAt n a).toNat == 0) := by
      have := h (P.inAt n a).toNat
      by_cases q : val M (P.inAt n a).toNat = 0
      · simp [q]
      · rw [decide_eq_true (by omega)]; simp [q]
    simp [h1]
theorem any_range {l : List Int} {p : Int → Bool} : l.any p = (List.range l.length).any fun j => p (l.getD j 0) := by
  rw [Bool.eq_iff_iff, List.any_eq_true, List.any_eq_true]
  constructor
  · rintro ⟨x, hx, hp⟩
    obtain ⟨k, hk, rfl⟩ := List.mem_iff_getElem.1 hx
    refine ⟨k, List.mem_range.2 hk, ?_⟩
    rw [List.getD_eq_getElem?_getD, List.getElem?_eq_getElem hk]
    exact hp
  · rintro ⟨k, hk, hp⟩
    exact ⟨_, getD_mem' (List.mem_range.1 hk), hp⟩
end ProcD
end

/-! ### XGa4 -/
section
open Go.RowKit
set_option linter.unusedSimpArgs false
set_option linter.unusedVariables false
/-- A marking of a process. -/
structure ProcD.Mark (P : ProcD) (M : List Int) : Prop where
  len : M.length = P.flows.length
  pos : ∀ i, 0 ≤ val M i
  top : ∀ i, val M i ≤ 9
theorem val_at {M : List Int} {z k : Nat} (hz : z = k) (h : k < M.length) : (M.map fun n => [D.sc (.int .i64 n)])[z]? = some [.sc (.int .i64 (val M k))] := intsD_at hz h
theorem listE_ok {P : ProcD} (h0 : P.chk = 0) {n : Int} (h1 : 0 ≤ n) (h2 : n < P.nodes.length) : P.listE n = 0 ∧ P.insT n = P.inL n ∧ P.outsT n = P.outL n := by
  have hE : P.listE n = 0 := by unfold ProcD.listE; rw [if_neg (by omega), if_neg (by omega)]
  exact ⟨hE, by unfold ProcD.insT; rw [if_pos hE], by unfold ProcD.outsT; rw [if_pos hE]⟩
theorem flowOK_of {P : ProcD} (h : P.chk = 0) : ∀ i, i < P.flows.length → P.flowOK i = true := by
  unfold ProcD.chk at h
  repeat' (split at h)
  all_goals first | (exact absurd h (by decide)) | (exact absurd h (by assumption)) | skip
  all_goals exact Classical.not_not.1 (by assumption)
def c113_2 : PC := .seq (.ops [⟨(some 37), .bin .lss (.tmp 36) (.tmp 35), none, 0⟩] false) (.seq (.cond (.tmp 37) (.skip) (.exit 2)) (.seq (.block 3 (.seq (.ops [⟨(some 38), .move (.tmp 36), none, 0⟩,
    ⟨(some 39), .iaddr 1 (.tmp 34) (.tmp 36), none, 0⟩,
    ⟨(some 40), .load1 (.tmp 39), none, 0⟩,
    ⟨(some 12), .move (.tmp 38), none, 0⟩,
    ⟨(some 13), .move (.tmp 40), none, 0⟩] false) (.seq (.ops [⟨(some 41), .move (.tmp 13), none, 0⟩,
    ⟨(some 42), .move (.tmp 41), none, 0⟩,
    ⟨(some 43), .move (.tmp 1), (some (42, true)), 0⟩,
    ⟨(some 44), .move (.tmp 12), (some (42, true)), 0⟩,
    ⟨(some 45), .iaddr 1 (.tmp 43) (.tmp 44), (some (42, true)), 0⟩,
    ⟨(some 46), .load1 (.tmp 45), (some (42, true)), 0⟩,
    ⟨(some 47), .bin .gtr (.tmp 46) (.const (.int .i64 0)), (some (42, true)), 0⟩,
    ⟨(some 48), .pick (.tmp 42) (.tmp 47) (.const (.bool false)), none, 0⟩,
    ⟨(some 49), .move (.tmp 48), none, 0⟩,
    ⟨(some 50), .faddr 1 (.tmp 3), (some (49, true)), 0⟩,
    ⟨(some 51), .load1 (.tmp 50), (some (49, true)), 0⟩,
    ⟨(some 52), .move (.tmp 12), (some (49, true)), 0⟩,
    ⟨(some 53), .iaddr 2 (.tmp 51) (.tmp 52), (some (49, true)), 0⟩,
    ⟨(some 54), .faddr 1 (.tmp 53), (some (49, true)), 0⟩,
    ⟨(some 55), .load1 (.tmp 54), (some (49, true)), 0⟩,
    ⟨(some 56), .move (.tmp 2), (some (49, true)), 0⟩,
    ⟨(some 57), .bin .neq (.tmp 55) (.tmp 56), (some (49, true)), 0⟩,
    ⟨(some 58), .pick (.tmp 49) (.tmp 57) (.const (.bool false)), none, 0⟩] false) (.cond (.tmp 58) (.seq (.ops [⟨(some 6), .move (.const (.bool false)), none, 0⟩] false) (.ret)) (.skip))))) (.ops [⟨(some 59), .bin .add (.tmp 36) (.const (.int .i64 1)), none, 0⟩,
    ⟨(some 36), .move (.tmp 59), none, 0⟩] false)))
def c113_1 : PC := .seq (.ops [⟨(some 23), .bin .lss (.tmp 22) (.tmp 21), none, 0⟩] false) (.seq (.cond (.tmp 23) (.skip) (.exit 0)) (.seq (.block 1 (.seq (.ops [⟨(some 24), .iaddr 1 (.tmp 20) (.tmp 22), none, 0⟩,
    ⟨(some 25), .load1 (.tmp 24), none, 0⟩,
    ⟨(some 11), .move (.tmp 25), none, 0⟩] false) (.seq (.seq (.ops [⟨(some 26), .move (.tmp 1), none, 0⟩,
    ⟨(some 27), .move (.tmp 11), none, 0⟩,
    ⟨(some 28), .iaddr 1 (.tmp 26) (.tmp 27), none, 0⟩,
    ⟨(some 29), .load1 (.tmp 28), none, 0⟩,
    ⟨(some 30), .bin .gtr (.tmp 29) (.const (.int .i64 0)), none, 0⟩] false) (.cond (.tmp 30) (.seq (.ops [⟨(some 9), .move (.const (.bool true)), none, 0⟩] false) (.exit 1)) (.skip))) (.seq (.ops [⟨(some 31), .loadA 2 (.tmp 3), none, 0⟩,
    ⟨(some 32), .move (.tmp 11), none, 0⟩,
    ⟨(some 33), .move (.tmp 2), none, 0⟩,
    ⟨(some 34), .call 116 [(.tmp 31), (.tmp 32), (.tmp 33)], none, 0⟩,
    ⟨(some 35), .len (.tmp 34), none, 0⟩,
    ⟨(some 36), .move (.const (.int .i64 0)), none, 0⟩] false) (.block 2 (.loop c113_2)))))) (.ops [⟨(some 60), .bin .add (.tmp 22) (.const (.int .i64 1)), none, 0⟩,
    ⟨(some 22), .move (.tmp 60), none, 0⟩] false)))
def c113 : PC := .seq (.ops [⟨(some 3), .box (.tmp 0), none, 0⟩,
    ⟨(some 6), .move (.const (.bool false)), none, 0⟩] false) (.seq (.ops [⟨(some 15), .loadA 2 (.tmp 3), none, 0⟩,
    ⟨(some 16), .move (.tmp 2), none, 0⟩,
    ⟨(some 17), .call 97 [(.tmp 15), (.tmp 16)], none, 0⟩,
    ⟨(some 14), .move (.tmp 17), none, 0⟩,
    ⟨(some 18), .ext 0 (.tmp 14), none, 0⟩,
    ⟨(some 19), .ext 1 (.tmp 14), none, 0⟩,
    ⟨(some 7), .move (.tmp 18), none, 0⟩,
    ⟨(some 8), .move (.tmp 19), none, 0⟩] false) (.seq (.ops [⟨(some 9), .move (.const (.bool false)), none, 0⟩] false) (.seq (.seq (.ops [⟨(some 20), .move (.tmp 7), none, 0⟩,
    ⟨(some 21), .len (.tmp 20), none, 0⟩,
    ⟨(some 22), .move (.const (.int .i64 0)), none, 0⟩] false) (.block 0 (.loop c113_1))) (.seq (.ops [⟨(some 61), .move (.tmp 9), none, 0⟩,
    ⟨(some 6), .move (.tmp 61), none, 0⟩] false) (.ret)))))
set_option maxRecDepth 100000 in
theorem c113_ok : FunOK Try.prog 113 62 [.tmp 6] c113 := ⟨⟨Try.f113, Try.func113, rfl, by kernel_rfl, rfl, by kernel_rfl⟩⟩
set_option maxRecDepth 100000 in
theorem game_joins (P : ProcD) (hP : P.Fits) (h0 : P.chk = 0) (M : List Int) (hM : P.Mark M) (n : Int) (h1 : 0 ≤ n) (h2 : n < P.nodes.length) :
    PCall Try.prog 113 [dproc P, dints M, .sc (.int .i64 n)] (.sc (.bool (P.joinB M n))) := by
  obtain ⟨hs1, hs2⟩ := chk_small h0
  obtain ⟨hE, hI, _⟩ := listE_ok h0 h1 h2
  have hi := proc_Ins P hP n
  rw [hI, hE] at hi
  have l1 := P.inL_len n
  have lM := hM.len
  refine pcall_intro c113_ok (by simp) (by simp [PureL, Pure, pure_dproc, pure_dints]) ?_ (by simp [Pure])
  (apply rd_sound; focus (repeat' constructor))
  ((conv=>whnf);repeat(refine And.intro rfl ?_;(conv=>whnf)))
  (refine .inl ⟨_, hi, ?_⟩; ((conv=>whnf);repeat(refine And.intro rfl ?_;(conv=>whnf))))
  rw [List.length_map]
  refine pwp_for [1, 2, 3, 20, 21] (fun a : Nat => [(9, .sc (.bool (P.posTo M n a))), (22, .sc (.int .i64 a))]) (fun _ => []) (fun a => a ≤ (P.inL n).length ∧ ∀ j, j < a → ¬ P.badAt M n j) (fun a => (P.inL n).length - a) 0 ?_
  ((conv=>whnf);repeat(refine And.intro rfl ?_;(conv=>whnf)))
  refine ⟨⟨by omega, fun j h => by omega⟩, by (repeat' (first | exact trivial | refine And.intro rfl ?_)), rfl, ?_⟩
  rintro a ⟨ha, hall⟩
  ((conv=>whnf);repeat(refine And.intro rfl ?_;(conv=>whnf)))
  (apply rd_sound; focus (repeat' constructor))
  ((conv=>whnf);repeat(refine And.intro rfl ?_;(conv=>whnf)))
  (refine ifK_split (fun h3 => ?_) (fun h3 => ?_) <;> (rw [h3]; ((conv=>whnf);repeat(refine And.intro rfl ?_;(conv=>whnf)))))
  · have ha' : a < (P.inL n).length := by ((try simp only [oo, reduceCtorEq] at *) <;> omega)
    have hin := ProcD.inAt_ok (P := P) (n := n) ha'
    have ep : P.posTo M n (a + 1) = (P.posTo M n a || decide (0 < val M (P.inAt n a).toNat)) := rfl
    refine ⟨by omega, _, intsD_at (k := a) (by omega) ha', ?_⟩
    ((conv=>whnf);repeat(refine And.intro rfl ?_;(conv=>whnf)))
    rw [show (P.inL n).getD a 0 = P.inAt n a from rfl]
    generalize hx : P.inAt n a = x at hin ep
    refine ⟨by omega, _, val_at (k := x.toNat) (by omega) (by omega), ?_⟩
    ((conv=>whnf);repeat(refine And.intro rfl ?_;(conv=>whnf)))
    (refine ifK_split (fun h4 => ?_) (fun h4 => ?_) <;> (rw [h4]; ((conv=>whnf);repeat(refine And.intro rfl ?_;(conv=>whnf)))))
    · have h4 : 0 < val M x.toNat := by ((try simp only [oo, reduceCtorEq] at *) <;> omega)
      ((conv=>whnf);repeat(refine And.intro rfl ?_;(conv=>whnf)))
      (refine .inl ⟨by (unfold InR; rw [IntKind.wrap_i64]; omega), ?_⟩; ((conv=>whnf);repeat(refine And.intro rfl ?_;(conv=>whnf))))
      refine ⟨a + 1, ⟨by omega, fun j hj => ?_⟩, by dsimp only; omega, ?_⟩
      · by_cases e : j = a
        · subst e; exact fun q => by have := q.1; rw [hx] at this; omega
        · exact hall j (by omega)
      · rw [decide_eq_true h4, Bool.or_true] at ep
        exact leB_envH ⟨by simp only [ep]; rfl, by (repeat' (first | exact trivial | refine And.intro rfl ?_))⟩ rfl
    · have h4 : ¬ 0 < val M x.toNat := by ((try simp only [oo, reduceCtorEq] at *) <;> omega)
      rw [decide_eq_false h4, Bool.or_false] at ep
      have hc := game_come P hP hs2 x.toNat (by omega) (flowOK_of h0) n
      rw [show ((x.toNat : Nat) : Int) = x by omega] at hc
      ((conv=>whnf);repeat(refine And.intro rfl ?_;(conv=>whnf)))
      (refine .inl ⟨_, hc, ?_⟩; ((conv=>whnf);repeat(refine And.intro rfl ?_;(conv=>whnf))))
      rw [rbl_len]
      refine pwp_for [1, 2, 3, 9, 20, 21, 22, 34, 35] (fun k : Nat => [(36, .sc (.int .i64 k))]) (fun _ => []) (fun k => k ≤ P.flows.length ∧ ∀ i, i < k → ¬ P.hold M n x.toNat i) (fun k => P.flows.length - k) 0 ?_
      ((conv=>whnf);repeat(refine And.intro rfl ?_;(conv=>whnf)))
      refine ⟨⟨by omega, fun j h => by omega⟩, by (repeat' (first | exact trivial | refine And.intro rfl ?_)), rfl, ?_⟩
      rintro k ⟨hk, hno⟩
      ((conv=>whnf);repeat(refine And.intro rfl ?_;(conv=>whnf)))
      (apply rd_sound; focus (repeat' constructor))
      ((conv=>whnf);repeat(refine And.intro rfl ?_;(conv=>whnf)))
      have next : ∀ {i : Nat}, ¬ P.hold M n x.toNat k → i < k + 1 → ¬ P.hold M n x.toNat i := fun h1 h2 => by
        rename_i i
        by_cases e : i = k
        · subst e; exact h1
        · exact hno i (by omega)
      (refine ifK_split (fun h5 => ?_) (fun h5 => ?_) <;> (rw [h5]; ((conv=>whnf);repeat(refine And.intro rfl ?_;(conv=>whnf)))))
      · have hk' : k < P.flows.length := by ((try simp only [oo, reduceCtorEq] at *) <;> omega)
        refine ⟨by omega, _, rbl_atN k (by omega) hk', ?_⟩
        ((conv=>whnf);repeat(refine And.intro rfl ?_;(conv=>whnf)))
        cases hv : P.viaB n k x.toNat
        · ((conv=>whnf);repeat(refine And.intro rfl ?_;(conv=>whnf)))
          (refine .inl ⟨by (unfold InR; rw [IntKind.wrap_i64]; omega), ?_⟩; ((conv=>whnf);repeat(refine And.intro rfl ?_;(conv=>whnf))))
          refine ⟨k + 1, ⟨by omega, fun i hi => next (fun q => by rw [ProcD.viaB_iff.2 q.1] at hv; cases hv) hi⟩, by dsimp only; omega, leB_envH (by (repeat' (first | exact trivial | refine And.intro rfl ?_))) rfl⟩
        · ((conv=>whnf);repeat(refine And.intro rfl ?_;(conv=>whnf)))
          refine ⟨by omega, _, val_at (k := k) (by omega) (by omega), ?_⟩
          ((conv=>whnf);repeat(refine And.intro rfl ?_;(conv=>whnf)))
          cases hg : decide (val M k > 0)
          · ((conv=>whnf);repeat(refine And.intro rfl ?_;(conv=>whnf)))
            (refine .inl ⟨by (unfold InR; rw [IntKind.wrap_i64]; omega), ?_⟩; ((conv=>whnf);repeat(refine And.intro rfl ?_;(conv=>whnf))))
            refine ⟨k + 1, ⟨by omega, fun i hi => next (fun q => by rw [decide_eq_true q.2.1] at hg; cases hg) hi⟩, by dsimp only; omega, leB_envH (by (repeat' (first | exact trivial | refine And.intro rfl ?_))) rfl⟩
          · ((conv=>whnf);repeat(refine And.intro rfl ?_;(conv=>whnf)))
            refine ⟨by omega, _, flow_at P (k := k) (by omega) hk', ?_⟩
            ((conv=>whnf);repeat(refine And.intro rfl ?_;(conv=>whnf)))
            (refine ifK_split (fun h6 => ?_) (fun h6 => ?_) <;> (rw [h6]; ((conv=>whnf);repeat(refine And.intro rfl ?_;(conv=>whnf)))))
            · have h6 : P.dst k ≠ n := by ((try simp only [oo, reduceCtorEq] at *) <;> omega)
              rw [ProcD.joinB_false ha' ⟨by rw [hx]; omega, k, hk', by rw [hx]; exact ⟨ProcD.viaB_iff.1 hv, of_decide_eq_true hg, h6⟩⟩]
              exact .refl _
            · have h6 : P.dst k = n := by ((try simp only [oo, reduceCtorEq] at *) <;> omega)
              (refine .inl ⟨by (unfold InR; rw [IntKind.wrap_i64]; omega), ?_⟩; ((conv=>whnf);repeat(refine And.intro rfl ?_;(conv=>whnf))))
              refine ⟨k + 1, ⟨by omega, fun i hi => next (fun q => q.2.2 h6) hi⟩, by dsimp only; omega, leB_envH (by (repeat' (first | exact trivial | refine And.intro rfl ?_))) rfl⟩
      · have hk' : k = P.flows.length := by have : ¬ k < P.flows.length := by ((try simp only [oo, reduceCtorEq] at *) <;> omega)
                                            omega
        subst hk'
        (refine .inl ⟨by (unfold InR; rw [IntKind.wrap_i64]; omega), ?_⟩; ((conv=>whnf);repeat(refine And.intro rfl ?_;(conv=>whnf))))
        refine ⟨a + 1, ⟨by omega, fun j hj => ?_⟩, by dsimp only; omega, leB_envH ⟨by simp only [ep]; rfl, by (repeat' (first | exact trivial | refine And.intro rfl ?_))⟩ rfl⟩
        by_cases e : j = a
        · subst e
          rintro ⟨-, i, q1, q2⟩
          rw [hx] at q2
          exact hno i q1 q2
        · exact hall j (by omega)
  · have ha' : a = (P.inL n).length := by have : ¬ a < (P.inL n).length := by ((try simp only [oo, reduceCtorEq] at *) <;> omega)
                                          omega
    subst ha'
    rw [ProcD.joinB_some hall]
    exact .refl _
def c114 : PC := .seq (.ops [⟨(some 3), .move (.const (.bool false)), none, 0⟩] false) (.seq (.ops [⟨(some 4), .load1 (.tmp 1), none, 0⟩,
    ⟨(some 5), .move (.tmp 0), none, 0⟩,
    ⟨(some 6), .iaddr 1 (.tmp 4) (.tmp 5), none, 0⟩,
    ⟨(some 7), .load1 (.tmp 6), none, 0⟩,
    ⟨(some 8), .bin .eql (.tmp 7) (.const (.int .i64 0)), none, 0⟩,
    ⟨(some 3), .move (.tmp 8), none, 0⟩] false) (.ret))
set_option maxRecDepth 100000 in
theorem c114_ok : FunOK Try.prog 114 9 [.tmp 3] c114 := ⟨⟨Try.f114, Try.func114, rfl, by kernel_rfl, rfl, by kernel_rfl⟩⟩
def c102 : PC := .seq (.ops [⟨(some 3), .box (.tmp 0), none, 0⟩,
    ⟨(some 4), .box (.tmp 1), none, 0⟩,
    ⟨(some 5), .box (.tmp 2), none, 0⟩,
    ⟨(some 6), .move (.const (.bool false)), none, 0⟩] false) (.seq (.seq (.ops [⟨(some 9), .faddr 1 (.tmp 5), none, 0⟩,
    ⟨(some 10), .load1 (.tmp 9), none, 0⟩,
    ⟨(some 11), .bin .geq (.tmp 10) (.const (.int .i64 0)), none, 0⟩] false) (.cond (.tmp 11) (.seq (.ops [⟨(some 12), .load1 (.tmp 4), none, 0⟩,
    ⟨(some 13), .faddr 1 (.tmp 5), none, 0⟩,
    ⟨(some 14), .load1 (.tmp 13), none, 0⟩,
    ⟨(some 15), .iaddr 1 (.tmp 12) (.tmp 14), none, 0⟩,
    ⟨(some 16), .load1 (.tmp 15), none, 0⟩,
    ⟨(some 17), .bin .gtr (.tmp 16) (.const (.int .i64 0)), none, 0⟩,
    ⟨(some 6), .move (.tmp 17), none, 0⟩] false) (.ret)) (.skip))) (.seq (.seq (.ops [⟨(some 18), .faddr 0 (.tmp 3), none, 0⟩,
    ⟨(some 19), .load1 (.tmp 18), none, 0⟩,
    ⟨(some 20), .faddr 0 (.tmp 5), none, 0⟩,
    ⟨(some 21), .load1 (.tmp 20), none, 0⟩,
    ⟨(some 22), .iaddr 2 (.tmp 19) (.tmp 21), none, 0⟩,
    ⟨(some 23), .faddr 1 (.tmp 22), none, 0⟩,
    ⟨(some 24), .load1 (.tmp 23), none, 0⟩,
    ⟨(some 25), .bin .eql (.tmp 24) (.const (.int .i64 7)), none, 0⟩] false) (.cond (.tmp 25) (.seq (.ops [⟨(some 26), .loadA 2 (.tmp 3), none, 0⟩,
    ⟨(some 27), .load1 (.tmp 4), none, 0⟩,
    ⟨(some 28), .faddr 0 (.tmp 5), none, 0⟩,
    ⟨(some 29), .load1 (.tmp 28), none, 0⟩,
    ⟨(some 30), .call 113 [(.tmp 26), (.tmp 27), (.tmp 29)], none, 0⟩,
    ⟨(some 6), .move (.tmp 30), none, 0⟩] false) (.ret)) (.skip))) (.seq (.ops [⟨(some 32), .loadA 2 (.tmp 3), none, 0⟩,
    ⟨(some 33), .faddr 0 (.tmp 5), none, 0⟩,
    ⟨(some 34), .load1 (.tmp 33), none, 0⟩,
    ⟨(some 35), .call 97 [(.tmp 32), (.tmp 34)], none, 0⟩,
    ⟨(some 31), .move (.tmp 35), none, 0⟩,
    ⟨(some 36), .ext 0 (.tmp 31), none, 0⟩,
    ⟨(some 37), .ext 1 (.tmp 31), none, 0⟩,
    ⟨(some 7), .move (.tmp 36), none, 0⟩,
    ⟨(some 8), .move (.tmp 37), none, 0⟩] false) (.seq (.ops [⟨(some 38), .move (.tmp 7), none, 0⟩,
    ⟨(some 39), .mkfn (.func 114) [] [(.tmp 4)], none, 0⟩,
    ⟨(some 40), .call 57 [(.tmp 38), (.tmp 39)], none, 0⟩,
    ⟨(some 41), .un .not (.tmp 40), none, 0⟩,
    ⟨(some 6), .move (.tmp 41), none, 0⟩] false) (.ret)))))
set_option maxRecDepth 100000 in
theorem c102_ok : FunOK Try.prog 102 42 [.tmp 6] c102 := ⟨⟨Try.f102, Try.func102, rfl, by kernel_rfl, rfl, by kernel_rfl⟩⟩
theorem game_enabled1 (M : List Int) (x : Int) (h1 : 0 ≤ x) (h2 : x < M.length) : PCall Try.prog 114 [.sc (.int .i64 x), .ipt [dints M]] (.sc (.bool (val M x.toNat == 0))) := by
  refine pcall_intro c114_ok (by simp) (by simp [PureL, Pure, pure_dints]) ?_ (by simp [Pure])
  (apply rd_sound; focus (repeat' constructor))
  ((conv=>whnf);repeat(refine And.intro rfl ?_;(conv=>whnf)))
  refine ⟨by omega, _, val_at (k := x.toNat) (by omega) (by omega), ?_⟩
  ((conv=>whnf);repeat(refine And.intro rfl ?_;(conv=>whnf)))
  exact .refl _
set_option maxRecDepth 100000 in
theorem game_enabled (P : ProcD) (hP : P.Fits) (h0 : P.chk = 0) (M : List Int) (hM : P.Mark M) (s : StepD) (hs : P.StepOK s) :
    PCall Try.prog 102 [dproc P, dints M, .agg (srow s)] (.sc (.bool (P.mayB M s))) := by
  obtain ⟨hs1, hs2⟩ := chk_small h0
  have hn := hs.node
  have hin := hs.in_
  obtain ⟨hE, hI, _⟩ := listE_ok h0 hn.1 hn.2
  have hi := proc_Ins P hP s.1
  rw [hI, hE] at hi
  have l1 := P.inL_len s.1
  have lM := hM.len
  have hcf : PCall Try.prog 57 [dints (P.inL s.1), .fn (.func 114) [] [.ipt [dints M]]] (.sc (.bool ((P.inL s.1).any fun x => val M x.toNat == 0))) :=
    containsF_int (fun n => .sc (.int .i64 n)) (fun _ => by simp [Pure]) (P.inL s.1) (by omega) (fun x => val M x.toNat == 0) 114 [.ipt [dints M]] (by simp [PureL, Pure, pure_dints]) fun a ha => by
      obtain ⟨k, hk, e⟩ := ProcD.getD_mem_of ha
      have := ProcD.inAt_ok (P := P) (n := s.1) hk
      unfold ProcD.inAt at this
      rw [e] at this
      exact game_enabled1 M _ this.1 (by omega)
  refine pcall_intro c102_ok (by simp) (by simp [PureL, Pure, pure_dproc, pure_dints, pure_srow]) ?_ (by simp [Pure])
  have e : P.mayB M s = if 0 ≤ s.2.1 then decide (0 < val M s.2.1.toNat) else if P.kind s.1.toNat = 7 then P.joinB M s.1 else P.allTo M s.1 (P.inL s.1).length := rfl
  (apply rd_sound; focus (repeat' constructor))
  ((conv=>whnf);repeat(refine And.intro rfl ?_;(conv=>whnf)))
  (refine ifK_split (fun h1 => ?_) (fun h1 => ?_) <;> (rw [h1]; ((conv=>whnf);repeat(refine And.intro rfl ?_;(conv=>whnf)))))
  · have h1 : 0 ≤ s.2.1 := by ((try simp only [oo, reduceCtorEq] at *) <;> omega)
    rw [if_pos h1] at e
    refine ⟨by omega, _, val_at (k := s.2.1.toNat) (by omega) (by omega), ?_⟩
    ((conv=>whnf);repeat(refine And.intro rfl ?_;(conv=>whnf)))
    rw [e]
    exact .refl _
  have h1 : ¬ 0 ≤ s.2.1 := by ((try simp only [oo, reduceCtorEq] at *) <;> omega)
  rw [if_neg h1] at e
  refine ⟨by omega, _, node_at P (k := s.1.toNat) (by omega) (by omega), ?_⟩
  ((conv=>whnf);repeat(refine And.intro rfl ?_;(conv=>whnf)))
  (refine ifK_split (fun h2 => ?_) (fun h2 => ?_) <;> (rw [h2]; ((conv=>whnf);repeat(refine And.intro rfl ?_;(conv=>whnf)))))
  · have h2 : P.kind s.1.toNat = 7 := by ((try simp only [oo, reduceCtorEq] at *) <;> omega)
    rw [if_pos h2] at e
    (refine .inl ⟨_, (game_joins P hP h0 M hM s.1 hn.1 hn.2), ?_⟩; ((conv=>whnf);repeat(refine And.intro rfl ?_;(conv=>whnf))))
    rw [e]
    exact .refl _
  have h2 : P.kind s.1.toNat ≠ 7 := by ((try simp only [oo, reduceCtorEq] at *) <;> omega)
  rw [if_neg h2] at e
  (refine .inl ⟨_, hi, ?_⟩; ((conv=>whnf);repeat(refine And.intro rfl ?_;(conv=>whnf))))
  (refine .inr (.inl ⟨_, _, (by (repeat' (first | exact Deep.refl _ | exact Deep.none _ | exact deep_row _ | exact DeepL.nil | exact DeepLL.nil | refine Deep.agg _ _ ?_ | refine Deep.tup _ _ ?_ | refine Deep.own _ _ _ _ _ _ _ _ rfl ?_ | refine Deep.loc _ _ _ _ _ rfl ?_ | refine Deep.ifc _ _ _ ?_ | refine Deep.fn _ _ _ _ _ ?_ ?_ | refine DeepL.cons _ _ _ _ ?_ ?_ | refine DeepLL.cons _ _ _ _ ?_ ?_))), hcf, rfl, ?_⟩); ((conv=>whnf);repeat(refine And.intro rfl ?_;(conv=>whnf))))
  rw [e, ProcD.allTo_any hM.pos, ProcD.any_range]
  exact .refl _
end

/-! ### XGa5 -/
section
open Go.RowKit
set_option linter.unusedSimpArgs false
set_option linter.unusedVariables false
theorem gl_val (M : List Int) : gl M.length (val M) = M := by
  apply List.ext_getElem
  · simp
  · intro i h1 h2
    simp [gl, val, List.getD_eq_getElem?_getD, List.getElem?_eq_getElem h2]
/-! ### Firing -/
theorem and_one_i {y : Int} (h : 0 ≤ y) (h' : y < 9223372036854775808) : bitsV .and .i64 y 1 = y.tmod 2 := by
  obtain ⟨n, rfl⟩ : ∃ n : Nat, y = n := ⟨y.toNat, by omega⟩
  have e : (BitVec.ofInt 64 (n : Int) &&& BitVec.ofInt 64 1).toNat = n % 2 := by
    rw [BitVec.toNat_and]
    have e1 : (BitVec.ofInt 64 (n : Int)).toNat = n := by rw [BitVec.toNat_ofInt]; omega
    have e2 : (BitVec.ofInt 64 1).toNat = 1 := by decide
    rw [e1, e2, Nat.and_one_is_mod]
  show IntKind.i64.wrap ((BitVec.ofInt 64 (n : Int) &&& BitVec.ofInt 64 1).toNat : Int) = _
  rw [e, show ((n : Int).tmod 2) = ((n % 2 : Nat) : Int) from (Int.ofNat_tmod n 2).symm, IntKind.wrap_i64]
  omega
namespace ProcD
def decB (P : ProcD) (M : List Int) (s : StepD) (f : Nat) : Bool := decide (P.dst f = s.1) && (s.2.1 == (f : Int) || decide (s.2.1 < 0) && decide (0 < val M f))
def baseI (P : ProcD) (M : List Int) (s : StepD) (f : Nat) : Int := val M f - if P.decB M s f = true then 1 else 0
def incs (P : ProcD) (s : StepD) (f : Nat) : Nat → Int
  | 0 => 0
  | k + 1 => P.incs s f k + if P.outAt s.1 k = (f : Int) ∧ bitB s.2.2 k = true then 1 else 0
def finI (P : ProcD) (M : List Int) (s : StepD) (f : Nat) : Int := P.baseI M s f + P.incs s f (P.outL s.1).length
theorem incs_ok (P : ProcD) (s : StepD) (f : Nat) : ∀ k, 0 ≤ P.incs s f k ∧ P.incs s f k ≤ k
  | 0 => by simp [incs]
  | k + 1 => by
    have := incs_ok P s f k
    simp only [incs]
    split <;> omega
theorem incs_mono (P : ProcD) (s : StepD) (f : Nat) {j : Nat} : ∀ {k : Nat}, j ≤ k → P.incs s f j ≤ P.incs s f k
  | 0, h => by rw [show j = 0 by omega]; exact Int.le_refl _
  | k + 1, h => by
    by_cases e : j = k + 1
    · rw [e]; exact Int.le_refl _
    · have := incs_mono P s f (j := j) (k := k) (by omega)
      have h2 : P.incs s f k ≤ P.incs s f (k + 1) := by
        simp only [incs]
        split <;> omega
      omega
theorem baseI_ok {P : ProcD} {M : List Int} (hM : P.Mark M) (s : StepD) (f : Nat) : -1 ≤ P.baseI M s f ∧ P.baseI M s f ≤ 9 := by
  have h1 := hM.pos f
  have h2 := hM.top f
  unfold baseI
  split <;> omega
open Classical in
noncomputable def fireE (P : ProcD) (M : List Int) (s : StepD) : Int := if P.kind s.1.toNat = 3 then 0 else if ∃ f, f < P.flows.length ∧ 9 < P.finI M s f then 7 else 0
noncomputable def fireL (P : ProcD) (M : List Int) (s : StepD) : List Int :=
  if P.kind s.1.toNat = 3 then gl P.flows.length fun _ => 0 else if P.fireE M s = 0 then gl P.flows.length (P.finI M s) else []
theorem getD_app {l r : List Int} {a : Nat} (h : a < l.length) : (l ++ r).getD a 0 = l.getD a 0 := by
  rw [List.getD_eq_getElem?_getD, List.getD_eq_getElem?_getD, List.getElem?_append_left h]
theorem getD_app_last {l : List Int} {x : Int} : (l ++ [x]).getD l.length 0 = x := by
  rw [List.getD_eq_getElem?_getD, List.getElem?_append_right (Nat.le_refl _), Nat.sub_self]
  rfl
theorem pick_sorted {p : Nat → Bool} : ∀ {n a b : Nat}, a < b → b < (pick p n).length → (pick p n).getD a 0 < (pick p n).getD b 0
  | 0, _, _, _, h => by simp [pick] at h
  | n + 1, a, b, hab, h => by
    simp only [pick] at h ⊢
    split
    · rename_i hp
      rw [if_pos hp, List.length_append, List.length_singleton] at h
      by_cases e : b = (pick p n).length
      · subst e
        obtain ⟨i, g1, g2, g3⟩ := pick_mem.1 (getD_mem' (l := pick p n) (a := a) hab)
        rw [getD_app hab, g3, getD_app_last]
        omega
      · rw [getD_app (by omega), getD_app (by omega)]
        exact pick_sorted hab (by omega)
    · rename_i hp
      rw [if_neg hp] at h
      exact pick_sorted hab h
theorem inAt_lt {P : ProcD} {n : Int} {a b : Nat} (h : a < b) (hb : b < (P.inL n).length) : P.inAt n a < P.inAt n b := pick_sorted h hb
theorem inAt_mem {P : ProcD} {n : Int} {f : Nat} (hf : f < P.flows.length) (h : P.dst f = n) : ∃ a, a < (P.inL n).length ∧ P.inAt n a = f := getD_mem (pick_mem.2 ⟨f, hf, by simpa using h, rfl⟩)
/-- What is known while tokens go away. -/
structure Away (P : ProcD) (M : List Int) (s : StepD) (g : Nat → Int) (a : Nat) : Prop where
  gone : ∀ f j : Nat, j < a → P.inAt s.1 j = (f : Int) → g f = P.baseI M s f
  left : ∀ f : Nat, (∀ j, j < a → P.inAt s.1 j ≠ (f : Int)) → g f = val M f
theorem Away.begin {P : ProcD} {M : List Int} {s : StepD} : P.Away M s (val M) 0 := ⟨fun f j h => by omega, fun f _ => rfl⟩
theorem Away.old {P : ProcD} {M : List Int} {s : StepD} {g : Nat → Int} {a x : Nat} (h : P.Away M s g a) (ha : a < (P.inL s.1).length) (hx : P.inAt s.1 a = (x : Int)) : g x = val M x :=
  h.left x fun j hj e => by
    have := inAt_lt hj ha
    omega
theorem Away.next {P : ProcD} {M : List Int} {s : StepD} {g g' : Nat → Int} {a x : Nat} (h : P.Away M s g a) (ha : a < (P.inL s.1).length) (hx : P.inAt s.1 a = (x : Int)) (h1 : g' x = P.baseI M s x) (h2 : ∀ f, f ≠ x → g' f = g f) : P.Away M s g' (a + 1) where
  gone f j hj e := by
    by_cases q : f = x
    · subst q; exact h1
    · rw [h2 f q]
      refine h.gone f j ?_ e
      by_cases q2 : j = a
      · subst q2; rw [hx] at e; omega
      · omega
  left f hf := by
    rw [h2 f fun e => by subst e; exact hf a (by omega) hx]
    exact h.left f fun j hj => hf j (by omega)
theorem Away.fin {P : ProcD} {M : List Int} {s : StepD} {g : Nat → Int} (h : P.Away M s g (P.inL s.1).length) {f : Nat} (hf : f < P.flows.length) : g f = P.baseI M s f := by
  by_cases e : P.dst f = s.1
  · obtain ⟨a, h1, h2⟩ := inAt_mem hf e
    exact h.gone f a h1 h2
  · rw [h.left f fun j hj q => e (by have := (inAt_ok (P := P) (n := s.1) hj).2.2; rw [q, Int.toNat_natCast] at this; exact this)]
    unfold baseI decB
    rw [decide_eq_false e]
    simp
theorem incs_hit {P : ProcD} {s : StepD} {k x : Nat} (h : P.outAt s.1 k = (x : Int)) (hb : bitB s.2.2 k = true) : P.incs s x (k + 1) = P.incs s x k + 1 := by
  simp only [incs]
  rw [if_pos ⟨h, hb⟩]
theorem incs_miss {P : ProcD} {s : StepD} {k f : Nat} (h : P.outAt s.1 k ≠ (f : Int) ∨ bitB s.2.2 k = false) : P.incs s f (k + 1) = P.incs s f k := by
  simp only [incs]
  rw [if_neg (by rintro ⟨h1, h2⟩; rcases h with h | h; exact h h1; rw [h] at h2; cases h2), Int.add_zero]
end ProcD
end

/-! ### XGa6 -/
section
open Go.RowKit
set_option linter.unusedSimpArgs false
set_option linter.unusedVariables false
@[simp] theorem under_dsteps {m : Nat} (l : List StepD) : Under m (dsteps l) ↔ True := ⟨fun _ => trivial, fun _ => under_pure _ (pure_dsteps l)⟩
namespace ProcD
def markB (P : ProcD) (M : List Int) : Bool := decide (M.length = P.flows.length) && inB M 10
noncomputable def markE (P : ProcD) (M : List Int) : Int := if P.stepsE ≠ 0 then P.stepsE else if P.markB M = true then 0 else 1
noncomputable def markL (P : ProcD) (M : List Int) : List StepD := if P.markE M = 0 then P.stepsL else []
theorem mark_of {P : ProcD} {M : List Int} (h : P.markB M = true) : P.Mark M := by
  unfold markB at h
  rw [Bool.and_eq_true, decide_eq_true_eq] at h
  have k : ∀ i, 0 ≤ val M i ∧ val M i ≤ 9 := fun i => by
    by_cases hi : i < M.length
    · have := inB_getD h.2 hi
      unfold val
      omega
    · unfold val
      rw [List.getD_eq_getElem?_getD, List.getElem?_eq_none (by omega)]
      simp
  exact ⟨h.1, fun i => (k i).1, fun i => (k i).2⟩
theorem stepsE_zero {P : ProcD} (h : P.stepsE = 0) : P.chk = 0 ∧ P.stepsL = P.stepsTo P.nodes.length ∧ P.stepsL.length ≤ 60 := by
  have e : P.stepsL = P.stepsTo P.nodes.length := by unfold stepsL; rw [if_pos h]
  unfold stepsE at h
  split at h
  · rename_i q; exact absurd h q
  · rename_i q
    split at h
    · cases h
    · exact ⟨Classical.not_not.1 q, e, by rw [e]; omega⟩
theorem markE_zero {P : ProcD} {M : List Int} (h : P.markE M = 0) : P.stepsE = 0 ∧ P.markB M = true := by
  unfold markE at h
  split at h
  · rename_i q; exact absurd h q
  · rename_i q
    split at h
    · rename_i q2; exact ⟨Classical.not_not.1 q, q2⟩
    · cases h
theorem stepAt_ok {P : ProcD} (h : P.stepsE = 0) {k : Nat} (hk : k < P.stepsL.length) : P.StepOK (P.stepsL.getD k (0, 0, 0)) := by
  obtain ⟨h0, e, _⟩ := stepsE_zero h
  refine stepsTo_mem (chk_small h0).2 (Nat.le_refl _) ?_
  rw [e] at hk ⊢
  rw [List.getD_eq_getElem?_getD, List.getElem?_eq_getElem hk]
  exact List.getElem_mem hk
end ProcD
theorem step_atD {l : List StepD} {z k : Nat} (hz : z = k) (h : k < l.length) : (srows l)[z]? = some (srow (l.getD k (0, 0, 0))) := by
  rw [step_at hz h, List.getD_eq_getElem?_getD, List.getElem?_eq_getElem h]
  rfl
def begG (P : ProcD) (i : Nat) : Int := if P.kind (P.src i).toNat = 1 then 1 else 0
noncomputable def ProcD.beginL (P : ProcD) : List Int := if P.stepsE = 0 then gl P.flows.length (begG P) else []
def c112 : PC := .seq (.ops [⟨(some 2), .move (.const (.bool false)), none, 0⟩] false) (.seq (.ops [⟨(some 3), .move (.tmp 0), none, 0⟩,
    ⟨(some 4), .bin .lss (.tmp 3) (.const (.int .i64 0)), none, 0⟩,
    ⟨(some 5), .move (.tmp 4), none, 0⟩,
    ⟨(some 6), .move (.tmp 0), (some (5, false)), 0⟩,
    ⟨(some 7), .bin .gtr (.tmp 6) (.const (.int .i64 9)), (some (5, false)), 0⟩,
    ⟨(some 8), .pick (.tmp 5) (.const (.bool true)) (.tmp 7), none, 0⟩,
    ⟨(some 2), .move (.tmp 8), none, 0⟩] false) (.ret))
set_option maxRecDepth 100000 in
theorem c112_ok : FunOK Try.prog 112 9 [.tmp 2] c112 := ⟨⟨Try.f112, Try.func112, rfl, by kernel_rfl, rfl, by kernel_rfl⟩⟩
def c101 : PC := .seq (.ops [⟨(some 2), .box (.tmp 0), none, 0⟩,
    ⟨(some 4), .move (.const (.slice none 0 0)), none, 0⟩,
    ⟨(some 5), .move (.const (.int .i64 0)), none, 0⟩] false) (.seq (.ops [⟨(some 9), .loadA 2 (.tmp 2), none, 0⟩,
    ⟨(some 10), .call 34 [(.tmp 9)], none, 0⟩,
    ⟨(some 8), .move (.tmp 10), none, 0⟩,
    ⟨(some 11), .ext 0 (.tmp 8), none, 0⟩,
    ⟨(some 12), .ext 1 (.tmp 8), none, 0⟩,
    ⟨(some 6), .move (.tmp 11), none, 0⟩,
    ⟨(some 7), .move (.tmp 12), none, 0⟩] false) (.seq (.seq (.ops [⟨(some 13), .move (.tmp 7), none, 0⟩,
    ⟨(some 14), .bin .neq (.tmp 13) (.const (.int .i64 0)), none, 0⟩] false) (.cond (.tmp 14) (.seq (.ops [⟨(some 15), .move (.tmp 7), none, 0⟩,
    ⟨(some 4), .move (.const (.slice none 0 0)), none, 0⟩,
    ⟨(some 5), .move (.tmp 15), none, 0⟩] false) (.ret)) (.skip))) (.seq (.seq (.ops [⟨(some 16), .move (.tmp 1), none, 0⟩,
    ⟨(some 17), .len (.tmp 16), none, 0⟩,
    ⟨(some 18), .faddr 1 (.tmp 2), none, 0⟩,
    ⟨(some 19), .load1 (.tmp 18), none, 0⟩,
    ⟨(some 20), .len (.tmp 19), none, 0⟩,
    ⟨(some 21), .bin .neq (.tmp 17) (.tmp 20), none, 0⟩,
    ⟨(some 22), .move (.tmp 21), none, 0⟩,
    ⟨(some 23), .move (.tmp 1), (some (22, false)), 0⟩,
    ⟨(some 24), .call 57 [(.tmp 23), (.func 112)], (some (22, false)), 0⟩,
    ⟨(some 25), .pick (.tmp 22) (.const (.bool true)) (.tmp 24), none, 0⟩] false) (.cond (.tmp 25) (.seq (.ops [⟨(some 4), .move (.const (.slice none 0 0)), none, 0⟩,
    ⟨(some 5), .move (.const (.int .i64 1)), none, 0⟩] false) (.ret)) (.skip))) (.seq (.ops [⟨(some 26), .move (.tmp 6), none, 0⟩,
    ⟨(some 4), .move (.tmp 26), none, 0⟩,
    ⟨(some 5), .move (.const (.int .i64 0)), none, 0⟩] false) (.ret)))))
set_option maxRecDepth 100000 in
theorem c101_ok : FunOK Try.prog 101 27 [.tmp 4, .tmp 5] c101 := ⟨⟨Try.f101, Try.func101, rfl, by kernel_rfl, rfl, by kernel_rfl⟩⟩
theorem game_check1 (x : Int) : PCall Try.prog 112 [.sc (.int .i64 x)] (.sc (.bool (decide (x < 0) || decide (x > 9)))) := by
  refine pcall_intro c112_ok (by simp) (by simp [PureL, Pure]) ?_ (by simp [Pure])
  (apply rd_sound; focus (repeat' constructor))
  ((conv=>whnf);repeat(refine And.intro rfl ?_;(conv=>whnf)))
  cases h : decide (x < 0)
  · ((conv=>whnf);repeat(refine And.intro rfl ?_;(conv=>whnf)))
    exact .refl _
  · ((conv=>whnf);repeat(refine And.intro rfl ?_;(conv=>whnf)))
    exact .refl _
theorem inB_ten (M : List Int) : (M.any fun x => decide (x < 0) || decide (x > 9)) = !inB M 10 := by
  unfold inB
  rw [List.all_eq_not_any_not, Bool.not_not]
  congr 1
  funext x
  by_cases h1 : x < 0 <;> by_cases h2 : x > 9 <;> simp [h1, h2] <;> omega
set_option maxRecDepth 100000 in
theorem game_check (P : ProcD) (hP : P.Fits) (M : List Int) (hM : M.length ≤ 9223372036854775807) : PCall Try.prog 101 [dproc P, dints M] (.tup [dsteps (P.markL M), .sc (.int .i64 (P.markE M))]) := by
  refine pcall_intro c101_ok (by simp) (by simp [PureL, Pure, pure_dproc, pure_dints]) ?_ (by simp [Pure, PureL, pure_dsteps])
  have bad : ∀ {H : List AObj} {e : Int}, e ≠ 0 → P.markE M = e → Deep H (.tup [.sc (.slice none 0 0), .sc (.int .i64 e)]) (.tup [dsteps (P.markL M), .sc (.int .i64 (P.markE M))]) := fun h k => by
    have : P.markL M = [] := by unfold ProcD.markL; rw [if_neg (by rw [k]; exact h)]
    rw [k, this]
    exact .tup _ _ (.cons _ _ _ _ (.none _) (.cons _ _ _ _ (.refl _) .nil))
  have hcf := containsF_int (fun n => .sc (.int .i64 n)) (fun _ => by simp [Pure]) M hM (fun x => decide (x < 0) || decide (x > 9)) 112 [] (by simp [PureL]) fun a _ => game_check1 a
  rw [inB_ten] at hcf
  have hfl := hP.flows
  have eE : P.markE M = if P.stepsE ≠ 0 then P.stepsE else if P.markB M = true then 0 else 1 := rfl
  (apply rd_sound; focus (repeat' constructor))
  ((conv=>whnf);repeat(refine And.intro rfl ?_;(conv=>whnf)))
  (refine .inl ⟨_, (steps_Of P hP), ?_⟩; ((conv=>whnf);repeat(refine And.intro rfl ?_;(conv=>whnf))))
  (refine ifK_split (fun h1 => ?_) (fun h1 => ?_) <;> (rw [h1]; ((conv=>whnf);repeat(refine And.intro rfl ?_;(conv=>whnf)))))
  · have h1 : P.stepsE ≠ 0 := by ((try simp only [oo, reduceCtorEq] at *) <;> omega)
    exact bad h1 (by rw [eE, if_pos h1])
  have h1 : P.stepsE = 0 := by ((try simp only [oo, reduceCtorEq] at *) <;> omega)
  rw [if_neg (by omega)] at eE
  rw [List.length_map, List.length_map]
  cases h2 : ((M.length : Int) != P.flows.length)
  · have h2 : M.length = P.flows.length := by ((try simp only [oo, reduceCtorEq] at *) <;> omega)
    ((conv=>whnf);repeat(refine And.intro rfl ?_;(conv=>whnf)))
    (refine .inl ⟨_, hcf, ?_⟩; ((conv=>whnf);repeat(refine And.intro rfl ?_;(conv=>whnf))))
    have eM : P.markB M = inB M 10 := by unfold ProcD.markB; rw [decide_eq_true h2, Bool.true_and]
    cases h3 : inB M 10
    · ((conv=>whnf);repeat(refine And.intro rfl ?_;(conv=>whnf)))
      exact bad (by decide) (by rw [eE, if_neg (by rw [eM, h3]; decide)])
    · ((conv=>whnf);repeat(refine And.intro rfl ?_;(conv=>whnf)))
      have e0 : P.markE M = 0 := by rw [eE, if_pos (by rw [eM, h3])]
      have eL : P.markL M = P.stepsL := by unfold ProcD.markL; rw [if_pos e0]
      rw [e0, eL]
      exact .refl _
  · have h2 : M.length ≠ P.flows.length := by ((try simp only [oo, reduceCtorEq] at *) <;> omega)
    ((conv=>whnf);repeat(refine And.intro rfl ?_;(conv=>whnf)))
    exact bad (by decide) (by rw [eE, if_neg (by unfold ProcD.markB; rw [decide_eq_false h2]; simp)])
def c76_1 : PC := .seq (.ops [⟨(some 23), .bin .lss (.tmp 22) (.tmp 21), none, 0⟩] false) (.seq (.cond (.tmp 23) (.skip) (.exit 0)) (.seq (.block 1 (.seq (.ops [⟨(some 24), .move (.tmp 22), none, 0⟩,
    ⟨(some 25), .iaddr 3 (.tmp 20) (.tmp 22), none, 0⟩,
    ⟨(some 26), .loadA 3 (.tmp 25), none, 0⟩,
    ⟨(some 10), .alloc [(.int .i64 0), (.int .i64 0), (.int .i64 0)], none, 0⟩,
    ⟨(some 9), .move (.tmp 24), none, 0⟩,
    ⟨none, .store 3 (.tmp 10) (.tmp 26), none, 0⟩] false) (.seq (.ops [⟨(some 27), .loadA 2 (.tmp 2), none, 0⟩,
    ⟨(some 28), .move (.tmp 1), none, 0⟩,
    ⟨(some 29), .loadA 3 (.tmp 10), none, 0⟩,
    ⟨(some 30), .call 102 [(.tmp 27), (.tmp 28), (.tmp 29)], none, 0⟩] false) (.cond (.tmp 30) (.ops [⟨(some 31), .move (.tmp 8), none, 0⟩,
    ⟨(some 32), .move (.tmp 9), none, 0⟩,
    ⟨(some 33), .bslice 1 1 [(.tmp 32)], none, 0⟩,
    ⟨(some 34), .append 1 8 (.tmp 31) (.tmp 33), none, 0⟩,
    ⟨(some 8), .move (.tmp 34), none, 0⟩] false) (.skip))))) (.ops [⟨(some 35), .bin .add (.tmp 22) (.const (.int .i64 1)), none, 0⟩,
    ⟨(some 22), .move (.tmp 35), none, 0⟩] false)))
def c76 : PC := .seq (.ops [⟨(some 2), .box (.tmp 0), none, 0⟩,
    ⟨(some 4), .move (.const (.slice none 0 0)), none, 0⟩,
    ⟨(some 5), .move (.const (.int .i64 0)), none, 0⟩] false) (.seq (.ops [⟨(some 12), .loadA 2 (.tmp 2), none, 0⟩,
    ⟨(some 13), .move (.tmp 1), none, 0⟩,
    ⟨(some 14), .call 101 [(.tmp 12), (.tmp 13)], none, 0⟩,
    ⟨(some 11), .move (.tmp 14), none, 0⟩,
    ⟨(some 15), .ext 0 (.tmp 11), none, 0⟩,
    ⟨(some 16), .ext 1 (.tmp 11), none, 0⟩,
    ⟨(some 6), .move (.tmp 15), none, 0⟩,
    ⟨(some 7), .move (.tmp 16), none, 0⟩] false) (.seq (.seq (.ops [⟨(some 17), .move (.tmp 7), none, 0⟩,
    ⟨(some 18), .bin .neq (.tmp 17) (.const (.int .i64 0)), none, 0⟩] false) (.cond (.tmp 18) (.seq (.ops [⟨(some 19), .move (.tmp 7), none, 0⟩,
    ⟨(some 4), .move (.const (.slice none 0 0)), none, 0⟩,
    ⟨(some 5), .move (.tmp 19), none, 0⟩] false) (.ret)) (.skip))) (.seq (.ops [⟨(some 8), .move (.const (.slice none 0 0)), none, 0⟩] false) (.seq (.seq (.ops [⟨(some 20), .move (.tmp 6), none, 0⟩,
    ⟨(some 21), .len (.tmp 20), none, 0⟩,
    ⟨(some 22), .move (.const (.int .i64 0)), none, 0⟩] false) (.block 0 (.loop c76_1))) (.seq (.ops [⟨(some 36), .move (.tmp 8), none, 0⟩,
    ⟨(some 4), .move (.tmp 36), none, 0⟩,
    ⟨(some 5), .move (.const (.int .i64 0)), none, 0⟩] false) (.ret))))))
set_option maxRecDepth 100000 in
theorem c76_ok : FunOK Try.prog 76 37 [.tmp 4, .tmp 5] c76 := ⟨⟨Try.f76, Try.func76, rfl, by kernel_rfl, rfl, by kernel_rfl⟩⟩
noncomputable def ProcD.enL (P : ProcD) (M : List Int) : List Int := if P.markE M = 0 then P.mayTo M P.stepsL P.stepsL.length else []
set_option maxRecDepth 100000 in
theorem game_Enabled (P : ProcD) (hP : P.Fits) (M : List Int) (hM : M.length ≤ 9223372036854775807) : PCall Try.prog 76 [dproc P, dints M] (.tup [dints (P.enL M), .sc (.int .i64 (P.markE M))]) := by
  refine pcall_intro c76_ok (by simp) (by simp [PureL, Pure, pure_dproc, pure_dints]) ?_ (by simp [Pure, PureL, pure_dints])
  (apply rd_sound; focus (repeat' constructor))
  ((conv=>whnf);repeat(refine And.intro rfl ?_;(conv=>whnf)))
  (refine .inl ⟨_, (game_check P hP M hM), ?_⟩; ((conv=>whnf);repeat(refine And.intro rfl ?_;(conv=>whnf))))
  (refine ifK_split (fun h1 => ?_) (fun h1 => ?_) <;> (rw [h1]; ((conv=>whnf);repeat(refine And.intro rfl ?_;(conv=>whnf)))))
  · have h1 : P.markE M ≠ 0 := by ((try simp only [oo, reduceCtorEq] at *) <;> omega)
    have : P.enL M = [] := by unfold ProcD.enL; rw [if_neg h1]
    rw [this]
    exact .tup _ _ (.cons _ _ _ _ (.none _) (.cons _ _ _ _ (.refl _) .nil))
  have h1 : P.markE M = 0 := by ((try simp only [oo, reduceCtorEq] at *) <;> omega)
  obtain ⟨hE, hB⟩ := ProcD.markE_zero h1
  obtain ⟨h0, _, h60⟩ := ProcD.stepsE_zero hE
  have hK := ProcD.mark_of hB
  have eL : P.markL M = P.stepsL := by unfold ProcD.markL; rw [if_pos h1]
  have eN : P.enL M = P.mayTo M P.stepsL P.stepsL.length := by unfold ProcD.enL; rw [if_pos h1]
  rw [eL, h1, eN, srows_len]
  refine pwp_ghostB (leB_nil 8 1 (by simp) rfl) ?_
  refine pwp_for [1, 2, 20, 21] (fun ((k, c, l) : Nat × Nat × List Int) => [(8, .own 1 c 0 c), (22, .sc (.int .i64 k))]) (fun (k, c, l) => [(1, .vec true c 1 (i64s l))]) (fun (k, c, l) => k ≤ P.stepsL.length ∧ c = l.length ∧ c ≤ k ∧ l = P.mayTo M P.stepsL k) (fun (k, c, l) => P.stepsL.length - k) (0, 0, []) ?_
  ((conv=>whnf);repeat(refine And.intro rfl ?_;(conv=>whnf)))
  refine ⟨⟨by omega, rfl, by omega, rfl⟩, by (repeat' (first | exact trivial | refine And.intro rfl ?_)), rfl, ?_⟩
  rintro ⟨k, c, l⟩ ⟨hk, hc, hck, hl⟩
  ((conv=>whnf);repeat(refine And.intro rfl ?_;(conv=>whnf)))
  (apply rd_sound; focus (repeat' constructor))
  ((conv=>whnf);repeat(refine And.intro rfl ?_;(conv=>whnf)))
  (refine ifK_split (fun h2 => ?_) (fun h2 => ?_) <;> (rw [h2]; ((conv=>whnf);repeat(refine And.intro rfl ?_;(conv=>whnf)))))
  · have hk' : k < P.stepsL.length := by ((try simp only [oo, reduceCtorEq] at *) <;> omega)
    have hsk := ProcD.stepAt_ok hE hk'
    have eT : P.mayTo M P.stepsL (k + 1) = if P.mayB M (P.stepsL.getD k (0, 0, 0)) = true then P.mayTo M P.stepsL k ++ [(k : Int)] else P.mayTo M P.stepsL k := rfl
    refine ⟨by omega, _, step_atD (k := k) (by omega) hk', ?_⟩
    ((conv=>whnf);repeat(refine And.intro rfl ?_;(conv=>whnf)))
    generalize P.stepsL.getD k (0, 0, 0) = s at hsk eT
    (refine .inl ⟨_, (game_enabled P hP h0 M hK s hsk), ?_⟩; ((conv=>whnf);repeat(refine And.intro rfl ?_;(conv=>whnf))))
    cases hm : P.mayB M s
    · ((conv=>whnf);repeat(refine And.intro rfl ?_;(conv=>whnf)))
      (refine .inl ⟨by (unfold InR; rw [IntKind.wrap_i64]; omega), ?_⟩; ((conv=>whnf);repeat(refine And.intro rfl ?_;(conv=>whnf))))
      refine ⟨(k + 1, c, l), ⟨by omega, hc, by omega, by rw [eT, hm, hl]; rfl⟩, by dsimp only; omega, ?_⟩
      (refine leB_close 2 (by simp) rfl ?_ ?_ <;> (repeat' (first | exact trivial | exact rfl | exact DeepM.refl _ | exact DeepML.refl _ | exact DeepMLL.refl _ | refine And.intro ?_ ?_ | (simp [Under, UnderL, UnderLL, -List.map_take, -List.map_drop]; done))))
    · ((conv=>whnf);repeat(refine And.intro rfl ?_;(conv=>whnf)))
      refine ⟨(by unfold sliceAppend; simp only [ll]; omega), ?_⟩
      ((conv=>whnf);repeat(refine And.intro rfl ?_;(conv=>whnf)))
      (refine .inl ⟨by (unfold InR; rw [IntKind.wrap_i64]; omega), ?_⟩; ((conv=>whnf);repeat(refine And.intro rfl ?_;(conv=>whnf))))
      refine ⟨(k + 1, c + 1, l ++ [(k : Int)]), ⟨by omega, by simp [hc], by omega, by rw [eT, hm, hl]; rfl⟩, by dsimp only; omega, ?_⟩
      (refine leB_close 2 (by simp) rfl ?_ ?_ <;> (repeat' (first | exact trivial | exact rfl | exact DeepM.refl _ | exact DeepML.refl _ | exact DeepMLL.refl _ | refine And.intro ?_ ?_ | (simp [Under, UnderL, UnderLL, -List.map_take, -List.map_drop]; done))))
      exact deepMLL_eq (i64s_snoc hc)
  · have hk' : k = P.stepsL.length := by have : ¬ k < P.stepsL.length := by ((try simp only [oo, reduceCtorEq] at *) <;> omega)
                                         omega
    subst hk'
    rw [← hl]
    exact .tup _ _ (.cons _ _ _ _ (deep_ints hc rfl) (.cons _ _ _ _ (.refl _) .nil))
def c73_1 : PC := .seq (.ops [⟨(some 25), .bin .lss (.tmp 24) (.tmp 23), none, 0⟩] false) (.seq (.cond (.tmp 25) (.skip) (.exit 0)) (.seq (.block 1 (.seq (.ops [⟨(some 26), .move (.tmp 24), none, 0⟩,
    ⟨(some 27), .iaddr 2 (.tmp 22) (.tmp 24), none, 0⟩,
    ⟨(some 28), .loadA 2 (.tmp 27), none, 0⟩,
    ⟨(some 8), .alloc [(.int .i64 0), (.int .i64 0)], none, 0⟩,
    ⟨(some 7), .move (.tmp 26), none, 0⟩,
    ⟨none, .store 2 (.tmp 8) (.tmp 28), none, 0⟩] false) (.seq (.ops [⟨(some 29), .faddr 0 (.tmp 1), none, 0⟩,
    ⟨(some 30), .load1 (.tmp 29), none, 0⟩,
    ⟨(some 31), .faddr 0 (.tmp 8), none, 0⟩,
    ⟨(some 32), .load1 (.tmp 31), none, 0⟩,
    ⟨(some 33), .iaddr 2 (.tmp 30) (.tmp 32), none, 0⟩,
    ⟨(some 34), .faddr 1 (.tmp 33), none, 0⟩,
    ⟨(some 35), .load1 (.tmp 34), none, 0⟩,
    ⟨(some 36), .bin .eql (.tmp 35) (.const (.int .i64 1)), none, 0⟩] false) (.cond (.tmp 36) (.ops [⟨(some 37), .move (.tmp 6), none, 0⟩,
    ⟨(some 38), .move (.tmp 7), none, 0⟩,
    ⟨(some 39), .iaddr 1 (.tmp 37) (.tmp 38), none, 0⟩,
    ⟨none, .store 1 (.tmp 39) (.const (.int .i64 1)), none, 0⟩] false) (.skip))))) (.ops [⟨(some 40), .bin .add (.tmp 24) (.const (.int .i64 1)), none, 0⟩,
    ⟨(some 24), .move (.tmp 40), none, 0⟩] false)))
def c73 : PC := .seq (.ops [⟨(some 1), .box (.tmp 0), none, 0⟩,
    ⟨(some 2), .move (.const (.slice none 0 0)), none, 0⟩,
    ⟨(some 3), .move (.const (.int .i64 0)), none, 0⟩] false) (.seq (.seq (.ops [⟨(some 10), .loadA 2 (.tmp 1), none, 0⟩,
    ⟨(some 11), .call 34 [(.tmp 10)], none, 0⟩,
    ⟨(some 9), .move (.tmp 11), none, 0⟩,
    ⟨(some 12), .ext 0 (.tmp 9), none, 0⟩,
    ⟨(some 13), .ext 1 (.tmp 9), none, 0⟩,
    ⟨(some 4), .move (.tmp 12), none, 0⟩,
    ⟨(some 5), .move (.tmp 13), none, 0⟩] false) (.seq (.ops [⟨(some 14), .move (.tmp 5), none, 0⟩,
    ⟨(some 15), .bin .neq (.tmp 14) (.const (.int .i64 0)), none, 0⟩] false) (.cond (.tmp 15) (.seq (.ops [⟨(some 16), .move (.tmp 5), none, 0⟩,
    ⟨(some 2), .move (.const (.slice none 0 0)), none, 0⟩,
    ⟨(some 3), .move (.tmp 16), none, 0⟩] false) (.ret)) (.skip)))) (.seq (.ops [⟨(some 17), .faddr 1 (.tmp 1), none, 0⟩,
    ⟨(some 18), .load1 (.tmp 17), none, 0⟩,
    ⟨(some 19), .len (.tmp 18), none, 0⟩,
    ⟨(some 20), .mslice 1 8 [(.int .i64 0)] (.tmp 19) (.tmp 19), none, 0⟩,
    ⟨(some 6), .move (.tmp 20), none, 0⟩] false) (.seq (.seq (.ops [⟨(some 21), .faddr 1 (.tmp 1), none, 0⟩,
    ⟨(some 22), .load1 (.tmp 21), none, 0⟩,
    ⟨(some 23), .len (.tmp 22), none, 0⟩,
    ⟨(some 24), .move (.const (.int .i64 0)), none, 0⟩] false) (.block 0 (.loop c73_1))) (.seq (.ops [⟨(some 41), .move (.tmp 6), none, 0⟩,
    ⟨(some 2), .move (.tmp 41), none, 0⟩,
    ⟨(some 3), .move (.const (.int .i64 0)), none, 0⟩] false) (.ret)))))
set_option maxRecDepth 100000 in
theorem c73_ok : FunOK Try.prog 73 42 [.tmp 2, .tmp 3] c73 := ⟨⟨Try.f73, Try.func73, rfl, by kernel_rfl, rfl, by kernel_rfl⟩⟩
set_option maxRecDepth 100000 in
theorem game_Begin (P : ProcD) (hP : P.Fits) : PCall Try.prog 73 [dproc P] (.tup [dints P.beginL, .sc (.int .i64 P.stepsE)]) := by
  refine pcall_intro c73_ok (by simp) (by simp [PureL, Pure, pure_dproc]) ?_ (by simp [Pure, PureL, pure_dints])
  (apply rd_sound; focus (repeat' constructor))
  ((conv=>whnf);repeat(refine And.intro rfl ?_;(conv=>whnf)))
  (refine .inl ⟨_, (steps_Of P hP), ?_⟩; ((conv=>whnf);repeat(refine And.intro rfl ?_;(conv=>whnf))))
  (refine ifK_split (fun h1 => ?_) (fun h1 => ?_) <;> (rw [h1]; ((conv=>whnf);repeat(refine And.intro rfl ?_;(conv=>whnf)))))
  · have h1 : P.stepsE ≠ 0 := by ((try simp only [oo, reduceCtorEq] at *) <;> omega)
    have : P.beginL = [] := by unfold ProcD.beginL; rw [if_neg h1]
    rw [this]
    exact .tup _ _ (.cons _ _ _ _ (.none _) (.cons _ _ _ _ (.refl _) .nil))
  have h1 : P.stepsE = 0 := by ((try simp only [oo, reduceCtorEq] at *) <;> omega)
  obtain ⟨h0, _, _⟩ := ProcD.stepsE_zero h1
  obtain ⟨hs1, hs2⟩ := chk_small h0
  have eB : P.beginL = gl P.flows.length (begG P) := by unfold ProcD.beginL; rw [if_pos h1]
  rw [List.length_map, h1, eB]
  refine ⟨by omega, by omega, by omega, ?_⟩
  rw [Int.toNat_natCast, show List.map D.sc [Value.int .i64 0] = [D.sc (.int .i64 0)] from rfl, gl_rep]
  ((conv=>whnf);repeat(refine And.intro rfl ?_;(conv=>whnf)))
  rw [List.length_map]
  refine pwp_for [1, 6, 22, 23] (fun ((k, g) : Nat × (Nat → Int)) => [(24, .sc (.int .i64 k))]) (fun (k, g) => [(1, .vec true 0 1 (i64s (gl P.flows.length g)))]) (fun (k, g) => k ≤ P.flows.length ∧ ∀ i, g i = if i < k then begG P i else 0) (fun (k, g) => P.flows.length - k) (0, fun _ => 0) ?_
  ((conv=>whnf);repeat(refine And.intro rfl ?_;(conv=>whnf)))
  refine ⟨⟨by omega, fun i => rfl⟩, by (repeat' (first | exact trivial | refine And.intro rfl ?_)), rfl, ?_⟩
  rintro ⟨k, g⟩ ⟨hk, hg⟩
  ((conv=>whnf);repeat(refine And.intro rfl ?_;(conv=>whnf)))
  (apply rd_sound; focus (repeat' constructor))
  ((conv=>whnf);repeat(refine And.intro rfl ?_;(conv=>whnf)))
  (refine ifK_split (fun h2 => ?_) (fun h2 => ?_) <;> (rw [h2]; ((conv=>whnf);repeat(refine And.intro rfl ?_;(conv=>whnf)))))
  · have hk' : k < P.flows.length := by ((try simp only [oo, reduceCtorEq] at *) <;> omega)
    have hfk := ProcD.flowOK_iff.1 (flowOK_of h0 k hk')
    refine ⟨by omega, _, flow_at P (k := k) (by omega) hk', ?_⟩
    ((conv=>whnf);repeat(refine And.intro rfl ?_;(conv=>whnf)))
    refine ⟨by omega, _, node_at P (k := (P.src k).toNat) (by omega) (by omega), ?_⟩
    ((conv=>whnf);repeat(refine And.intro rfl ?_;(conv=>whnf)))
    (refine ifK_split (fun h3 => ?_) (fun h3 => ?_) <;> (rw [h3]; ((conv=>whnf);repeat(refine And.intro rfl ?_;(conv=>whnf)))))
    · have h3 : P.kind (P.src k).toNat = 1 := by ((try simp only [oo, reduceCtorEq] at *) <;> omega)
      (refine ⟨by omega, (by first | omega | (simp; done) | (simp; omega) | (simp only [ll]; omega)), ?_⟩; ((conv=>whnf);repeat(refine And.intro rfl ?_;(conv=>whnf))))
      refine ⟨_, gl_atN k (by omega) (by omega), ?_⟩
      ((conv=>whnf);repeat(refine And.intro rfl ?_;(conv=>whnf)))
      (refine .inl ⟨by (unfold InR; rw [IntKind.wrap_i64]; omega), ?_⟩; ((conv=>whnf);repeat(refine And.intro rfl ?_;(conv=>whnf))))
      refine ⟨(k + 1, putA g k 1), ⟨by omega, fun i => ?_⟩, by dsimp only; omega, ?_⟩
      · by_cases e : i = k
        · subst e
          rw [putA_self, if_pos (by omega)]
          unfold begG
          rw [if_pos h3]
        · rw [putA_ne e, hg]
          by_cases q : i < k
          · rw [if_pos q, if_pos (by omega)]
          · rw [if_neg q, if_neg (by omega)]
      · (refine leB_close 2 (by simp) rfl ?_ ?_ <;> (repeat' (first | exact trivial | exact rfl | exact DeepM.refl _ | exact DeepML.refl _ | exact DeepMLL.refl _ | refine And.intro ?_ ?_ | (simp [Under, UnderL, UnderLL, -List.map_take, -List.map_drop]; done))))
        exact deepMLL_eq (gl_set (by omega))
    · have h3 : P.kind (P.src k).toNat ≠ 1 := by ((try simp only [oo, reduceCtorEq] at *) <;> omega)
      (refine .inl ⟨by (unfold InR; rw [IntKind.wrap_i64]; omega), ?_⟩; ((conv=>whnf);repeat(refine And.intro rfl ?_;(conv=>whnf))))
      refine ⟨(k + 1, g), ⟨by omega, fun i => ?_⟩, by dsimp only; omega, ?_⟩
      · rw [hg]
        by_cases e : i = k
        · subst e
          rw [if_neg (by omega), if_pos (by omega)]
          unfold begG
          rw [if_neg h3]
        · by_cases q : i < k
          · rw [if_pos q, if_pos (by omega)]
          · rw [if_neg q, if_neg (by omega)]
      · (refine leB_close 2 (by simp) rfl ?_ ?_ <;> (repeat' (first | exact trivial | exact rfl | exact DeepM.refl _ | exact DeepML.refl _ | exact DeepMLL.refl _ | refine And.intro ?_ ?_ | (simp [Under, UnderL, UnderLL, -List.map_take, -List.map_drop]; done))))
  · have hk' : k = P.flows.length := by have : ¬ k < P.flows.length := by ((try simp only [oo, reduceCtorEq] at *) <;> omega)
                                        omega
    subst hk'
    have e : gl P.flows.length (begG P) = gl P.flows.length g := gl_congr fun i hi => by rw [hg, if_pos hi]
    rw [e]
    exact .tup _ _ (.cons _ _ _ _ (deep_gl rfl) (.cons _ _ _ _ (.refl _) .nil))
end

/-! ### XGa7 -/
section
open Go.RowKit
set_option linter.unusedSimpArgs false
set_option linter.unusedVariables false
theorem clr_all {zs : List (List D)} {n : Nat} {y : List D} (h : zs.length = n) : zs.take 0 ++ List.replicate (n - 0) y ++ zs.drop n = List.replicate n y := by
  rw [List.drop_eq_nil_of_le (by omega)]
  simp
theorem fdiv_small {x : Int} (h : 0 ≤ x) (h' : x ≤ 1073741824) (k : Nat) : 0 ≤ x.fdiv (2 ^ k) ∧ x.fdiv (2 ^ k) < 9223372036854775808 := by
  have hp : (0 : Int) < 2 ^ k := Int.pow_pos (by decide)
  rw [Int.fdiv_eq_ediv_of_nonneg _ (by omega)]
  have h1 := Int.ediv_nonneg h (by omega : (0 : Int) ≤ 2 ^ k)
  have h2 := Int.ediv_le_self (2 ^ k) h
  omega
def c111_1 : PC := .seq (.ops [⟨(some 39), .bin .lss (.tmp 38) (.tmp 37), none, 0⟩] false) (.seq (.cond (.tmp 39) (.skip) (.exit 0)) (.seq (.block 1 (.seq (.ops [⟨(some 40), .iaddr 1 (.tmp 36) (.tmp 38), none, 0⟩,
    ⟨(some 41), .load1 (.tmp 40), none, 0⟩,
    ⟨(some 12), .move (.tmp 41), none, 0⟩] false) (.seq (.ops [⟨(some 42), .faddr 1 (.tmp 5), none, 0⟩,
    ⟨(some 43), .load1 (.tmp 42), none, 0⟩,
    ⟨(some 44), .move (.tmp 12), none, 0⟩,
    ⟨(some 45), .bin .eql (.tmp 43) (.tmp 44), none, 0⟩,
    ⟨(some 46), .move (.tmp 45), none, 0⟩,
    ⟨(some 47), .faddr 1 (.tmp 5), (some (46, false)), 0⟩,
    ⟨(some 48), .load1 (.tmp 47), (some (46, false)), 0⟩,
    ⟨(some 49), .bin .lss (.tmp 48) (.const (.int .i64 0)), (some (46, false)), 0⟩,
    ⟨(some 50), .move (.tmp 49), (some (46, false)), 0⟩,
    ⟨(some 51), .move (.tmp 8), (some (50, true)), 0⟩,
    ⟨(some 52), .move (.tmp 12), (some (50, true)), 0⟩,
    ⟨(some 53), .iaddr 1 (.tmp 51) (.tmp 52), (some (50, true)), 0⟩,
    ⟨(some 54), .load1 (.tmp 53), (some (50, true)), 0⟩,
    ⟨(some 55), .bin .gtr (.tmp 54) (.const (.int .i64 0)), (some (50, true)), 0⟩,
    ⟨(some 56), .pick (.tmp 50) (.tmp 55) (.const (.bool false)), (some (46, false)), 0⟩,
    ⟨(some 57), .pick (.tmp 46) (.const (.bool true)) (.tmp 56), none, 0⟩] false) (.cond (.tmp 57) (.ops [⟨(some 58), .move (.tmp 8), none, 0⟩,
    ⟨(some 59), .move (.tmp 12), none, 0⟩,
    ⟨(some 60), .iaddr 1 (.tmp 58) (.tmp 59), none, 0⟩,
    ⟨(some 61), .load1 (.tmp 60), none, 0⟩,
    ⟨(some 62), .bin .sub (.tmp 61) (.const (.int .i64 1)), none, 0⟩,
    ⟨(some 63), .iaddr 1 (.tmp 58) (.tmp 59), none, 0⟩,
    ⟨none, .store 1 (.tmp 63) (.tmp 62), none, 0⟩] false) (.skip))))) (.ops [⟨(some 64), .bin .add (.tmp 38) (.const (.int .i64 1)), none, 0⟩,
    ⟨(some 38), .move (.tmp 64), none, 0⟩] false)))
def c111_2 : PC := .seq (.ops [⟨(some 75), .bin .lss (.tmp 74) (.tmp 73), none, 0⟩] false) (.seq (.cond (.tmp 75) (.skip) (.exit 2)) (.seq (.block 3 (.seq (.ops [⟨(some 76), .move (.tmp 74), none, 0⟩,
    ⟨(some 77), .iaddr 1 (.tmp 72) (.tmp 74), none, 0⟩,
    ⟨(some 78), .load1 (.tmp 77), none, 0⟩,
    ⟨(some 15), .move (.tmp 76), none, 0⟩,
    ⟨(some 16), .move (.tmp 78), none, 0⟩] false) (.seq (.ops [⟨(some 79), .faddr 2 (.tmp 5), none, 0⟩,
    ⟨(some 80), .load1 (.tmp 79), none, 0⟩,
    ⟨(some 81), .move (.tmp 15), none, 0⟩,
    ⟨(some 82), .bin .shr (.tmp 80) (.tmp 81), none, 0⟩,
    ⟨(some 83), .bin .and (.tmp 82) (.const (.int .i64 1)), none, 0⟩,
    ⟨(some 84), .bin .eql (.tmp 83) (.const (.int .i64 1)), none, 0⟩] false) (.cond (.tmp 84) (.seq (.ops [⟨(some 85), .move (.tmp 8), none, 0⟩,
    ⟨(some 86), .move (.tmp 16), none, 0⟩,
    ⟨(some 87), .iaddr 1 (.tmp 85) (.tmp 86), none, 0⟩,
    ⟨(some 88), .load1 (.tmp 87), none, 0⟩,
    ⟨(some 89), .bin .add (.tmp 88) (.const (.int .i64 1)), none, 0⟩,
    ⟨(some 90), .iaddr 1 (.tmp 85) (.tmp 86), none, 0⟩,
    ⟨none, .store 1 (.tmp 90) (.tmp 89), none, 0⟩] false) (.seq (.ops [⟨(some 91), .move (.tmp 8), none, 0⟩,
    ⟨(some 92), .move (.tmp 16), none, 0⟩,
    ⟨(some 93), .iaddr 1 (.tmp 91) (.tmp 92), none, 0⟩,
    ⟨(some 94), .load1 (.tmp 93), none, 0⟩,
    ⟨(some 95), .bin .gtr (.tmp 94) (.const (.int .i64 9)), none, 0⟩] false) (.cond (.tmp 95) (.seq (.ops [⟨(some 6), .move (.const (.slice none 0 0)), none, 0⟩,
    ⟨(some 7), .move (.const (.int .i64 7)), none, 0⟩] false) (.ret)) (.skip)))) (.skip))))) (.ops [⟨(some 96), .bin .add (.tmp 74) (.const (.int .i64 1)), none, 0⟩,
    ⟨(some 74), .move (.tmp 96), none, 0⟩] false)))
def c111 : PC := .seq (.ops [⟨(some 3), .box (.tmp 0), none, 0⟩,
    ⟨(some 5), .box (.tmp 2), none, 0⟩,
    ⟨(some 6), .move (.const (.slice none 0 0)), none, 0⟩,
    ⟨(some 7), .move (.const (.int .i64 0)), none, 0⟩] false) (.seq (.ops [⟨(some 17), .move (.tmp 1), none, 0⟩,
    ⟨(some 18), .call 88 [(.tmp 17)], none, 0⟩,
    ⟨(some 8), .move (.tmp 18), none, 0⟩] false) (.seq (.seq (.ops [⟨(some 19), .faddr 0 (.tmp 3), none, 0⟩,
    ⟨(some 20), .load1 (.tmp 19), none, 0⟩,
    ⟨(some 21), .faddr 0 (.tmp 5), none, 0⟩,
    ⟨(some 22), .load1 (.tmp 21), none, 0⟩,
    ⟨(some 23), .iaddr 2 (.tmp 20) (.tmp 22), none, 0⟩,
    ⟨(some 24), .faddr 1 (.tmp 23), none, 0⟩,
    ⟨(some 25), .load1 (.tmp 24), none, 0⟩,
    ⟨(some 26), .bin .eql (.tmp 25) (.const (.int .i64 3)), none, 0⟩] false) (.cond (.tmp 26) (.seq (.ops [⟨(some 27), .move (.tmp 8), none, 0⟩,
    ⟨none, .clr ((.int .i64 0)) (.tmp 27), none, 0⟩] false) (.seq (.ops [⟨(some 28), .move (.tmp 8), none, 0⟩,
    ⟨(some 6), .move (.tmp 28), none, 0⟩,
    ⟨(some 7), .move (.const (.int .i64 0)), none, 0⟩] false) (.ret))) (.skip))) (.seq (.ops [⟨(some 30), .loadA 2 (.tmp 3), none, 0⟩,
    ⟨(some 31), .faddr 0 (.tmp 5), none, 0⟩,
    ⟨(some 32), .load1 (.tmp 31), none, 0⟩,
    ⟨(some 33), .call 97 [(.tmp 30), (.tmp 32)], none, 0⟩,
    ⟨(some 29), .move (.tmp 33), none, 0⟩,
    ⟨(some 34), .ext 0 (.tmp 29), none, 0⟩,
    ⟨(some 35), .ext 1 (.tmp 29), none, 0⟩,
    ⟨(some 9), .move (.tmp 34), none, 0⟩,
    ⟨(some 10), .move (.tmp 35), none, 0⟩] false) (.seq (.seq (.ops [⟨(some 36), .move (.tmp 9), none, 0⟩,
    ⟨(some 37), .len (.tmp 36), none, 0⟩,
    ⟨(some 38), .move (.const (.int .i64 0)), none, 0⟩] false) (.block 0 (.loop c111_1))) (.seq (.ops [⟨(some 66), .loadA 2 (.tmp 3), none, 0⟩,
    ⟨(some 67), .faddr 0 (.tmp 5), none, 0⟩,
    ⟨(some 68), .load1 (.tmp 67), none, 0⟩,
    ⟨(some 69), .call 98 [(.tmp 66), (.tmp 68)], none, 0⟩,
    ⟨(some 65), .move (.tmp 69), none, 0⟩,
    ⟨(some 70), .ext 0 (.tmp 65), none, 0⟩,
    ⟨(some 71), .ext 1 (.tmp 65), none, 0⟩,
    ⟨(some 13), .move (.tmp 70), none, 0⟩,
    ⟨(some 14), .move (.tmp 71), none, 0⟩] false) (.seq (.seq (.ops [⟨(some 72), .move (.tmp 13), none, 0⟩,
    ⟨(some 73), .len (.tmp 72), none, 0⟩,
    ⟨(some 74), .move (.const (.int .i64 0)), none, 0⟩] false) (.block 2 (.loop c111_2))) (.seq (.ops [⟨(some 97), .move (.tmp 8), none, 0⟩,
    ⟨(some 6), .move (.tmp 97), none, 0⟩,
    ⟨(some 7), .move (.const (.int .i64 0)), none, 0⟩] false) (.ret))))))))
set_option maxRecDepth 100000 in
theorem c111_ok : FunOK Try.prog 111 98 [.tmp 6, .tmp 7] c111 := ⟨⟨Try.f111, Try.func111, rfl, by kernel_rfl, rfl, by kernel_rfl⟩⟩
set_option maxRecDepth 100000 in
theorem game_fire (P : ProcD) (hP : P.Fits) (h0 : P.chk = 0) (M : List Int) (hM : P.Mark M) (s : StepD) (hs : P.StepOK s) :
    PCall Try.prog 111 [dproc P, dints M, .agg (srow s)] (.tup [dints (P.fireL M s), .sc (.int .i64 (P.fireE M s))]) := by
  obtain ⟨hs1, hs2⟩ := chk_small h0
  have hn := hs.node
  obtain ⟨hE, hI, hO⟩ := listE_ok h0 hn.1 hn.2
  have hi := proc_Ins P hP s.1
  have ho := proc_Outs P hP s.1
  rw [hI, hE] at hi
  rw [hO, hE] at ho
  have l1 := P.inL_len s.1
  have l2 := P.outL_len s.1
  have lM := hM.len
  have hout := hs.out
  have eE : P.fireE M s = if P.kind s.1.toNat = 3 then 0 else if ∃ f, f < P.flows.length ∧ 9 < P.finI M s f then 7 else 0 := by unfold ProcD.fireE; rfl
  have eL : P.fireL M s = if P.kind s.1.toNat = 3 then gl P.flows.length fun _ => 0 else if P.fireE M s = 0 then gl P.flows.length (P.finI M s) else [] := rfl
  refine pcall_intro c111_ok (by simp) (by simp [PureL, Pure, pure_dproc, pure_dints, pure_srow]) ?_ (by simp [Pure, PureL, pure_dints])
  (apply rd_sound; focus (repeat' constructor))
  ((conv=>whnf);repeat(refine And.intro rfl ?_;(conv=>whnf)))
  (refine .inr (.inr (.inr (.inr (.inl ⟨_, _, _, (acallAt_new (cloneO_int M (by omega)) (by simp [PureL, Pure]) [2] rfl rfl (by simp [AObj.ren, renL, D.ren]; rfl)), ?_⟩)))); ((conv=>whnf);repeat(refine And.intro rfl ?_;(conv=>whnf))))
  rw [lM]
  refine ⟨by omega, _, node_at P (k := s.1.toNat) (by omega) (by omega), ?_⟩
  ((conv=>whnf);repeat(refine And.intro rfl ?_;(conv=>whnf)))
  (refine ifK_split (fun h1 => ?_) (fun h1 => ?_) <;> (rw [h1]; ((conv=>whnf);repeat(refine And.intro rfl ?_;(conv=>whnf)))))
  · have h1 : P.kind s.1.toNat = 3 := by ((try simp only [oo, reduceCtorEq] at *) <;> omega)
    rw [if_pos h1] at eE eL
    rw [eE, eL, clr_all (by rw [List.length_map]; exact lM), gl_rep]
    exact .tup _ _ (.cons _ _ _ _ (deep_gl rfl) (.cons _ _ _ _ (.refl _) .nil))
  have h1 : P.kind s.1.toNat ≠ 3 := by ((try simp only [oo, reduceCtorEq] at *) <;> omega)
  rw [if_neg h1] at eE eL
  (refine .inl ⟨_, hi, ?_⟩; ((conv=>whnf);repeat(refine And.intro rfl ?_;(conv=>whnf))))
  rw [List.length_map]
  have eM : (M.map fun n => [D.sc (.int .i64 n)]) = i64s (gl P.flows.length (val M)) := by rw [← lM, gl_val]; rfl
  refine pwp_for [3, 5, 8, 36, 37] (fun ((a, g) : Nat × (Nat → Int)) => [(38, .sc (.int .i64 a))]) (fun (a, g) => [(2, .vec true 1 1 (i64s (gl P.flows.length g)))]) (fun (a, g) => a ≤ (P.inL s.1).length ∧ P.Away M s g a) (fun (a, g) => (P.inL s.1).length - a) (0, val M) ?_
  ((conv=>whnf);repeat(refine And.intro rfl ?_;(conv=>whnf)))
  refine ⟨⟨by omega, ProcD.Away.begin⟩, by (repeat' (first | exact trivial | refine And.intro rfl ?_)), by rw [eM]; rfl, ?_⟩
  rintro ⟨a, g⟩ ⟨ha, hA⟩
  ((conv=>whnf);repeat(refine And.intro rfl ?_;(conv=>whnf)))
  (apply rd_sound; focus (repeat' constructor))
  ((conv=>whnf);repeat(refine And.intro rfl ?_;(conv=>whnf)))
  (refine ifK_split (fun h2 => ?_) (fun h2 => ?_) <;> (rw [h2]; ((conv=>whnf);repeat(refine And.intro rfl ?_;(conv=>whnf)))))
  · have ha' : a < (P.inL s.1).length := by ((try simp only [oo, reduceCtorEq] at *) <;> omega)
    have hin := ProcD.inAt_ok (P := P) (n := s.1) ha'
    obtain ⟨X, hX⟩ : ∃ X : Nat, P.inAt s.1 a = X := ⟨_, (Int.toNat_of_nonneg hin.1).symm⟩
    have hold := hA.old ha' hX
    have v1 := hM.pos X
    have v2 := hM.top X
    refine ⟨by omega, _, intsD_at (k := a) (by omega) ha', ?_⟩
    ((conv=>whnf);repeat(refine And.intro rfl ?_;(conv=>whnf)))
    rw [show (P.inL s.1).getD a 0 = P.inAt s.1 a from rfl, hX]
    rw [hX, Int.toNat_natCast] at hin
    have eD : P.decB M s X = (s.2.1 == (X : Int) || decide (s.2.1 < 0) && decide (0 < val M X)) := by unfold ProcD.decB; rw [decide_eq_true hin.2.2, Bool.true_and]
    have eBase : P.baseI M s X = val M X - if P.decB M s X = true then 1 else 0 := rfl
    cases h3 : (s.2.1 == (X : Int))
    · ((conv=>whnf);repeat(refine And.intro rfl ?_;(conv=>whnf)))
      rw [h3, Bool.false_or] at eD
      cases h4 : decide (s.2.1 < 0)
      · rw [h4, Bool.false_and] at eD
        rw [if_neg (by rw [eD]; decide), Int.sub_zero] at eBase
        ((conv=>whnf);repeat(refine And.intro rfl ?_;(conv=>whnf)))
        (refine .inl ⟨by (unfold InR; rw [IntKind.wrap_i64]; omega), ?_⟩; ((conv=>whnf);repeat(refine And.intro rfl ?_;(conv=>whnf))))
        refine ⟨(a + 1, g), ⟨by omega, hA.next ha' hX (by rw [eBase, hold]) fun f hf => rfl⟩, by dsimp only; omega, ?_⟩
        exact leB_envH (by (repeat' (first | exact trivial | refine And.intro rfl ?_))) rfl
      · ((conv=>whnf);repeat(refine And.intro rfl ?_;(conv=>whnf)))
        (refine ⟨by omega, (by first | omega | (simp; done) | (simp; omega) | (simp only [ll]; omega)), ?_⟩; ((conv=>whnf);repeat(refine And.intro rfl ?_;(conv=>whnf))))
        refine ⟨_, gl_atN X (by omega) (by omega), ?_⟩
        ((conv=>whnf);repeat(refine And.intro rfl ?_;(conv=>whnf)))
        rw [h4, Bool.true_and] at eD
        rw [hold]
        cases h5 : decide (val M X > 0)
        · have eD : P.decB M s X = false := by rw [eD]; exact h5
          rw [if_neg (by rw [eD]; decide), Int.sub_zero] at eBase
          ((conv=>whnf);repeat(refine And.intro rfl ?_;(conv=>whnf)))
          (refine .inl ⟨by (unfold InR; rw [IntKind.wrap_i64]; omega), ?_⟩; ((conv=>whnf);repeat(refine And.intro rfl ?_;(conv=>whnf))))
          refine ⟨(a + 1, g), ⟨by omega, hA.next ha' hX (by rw [eBase, hold]) fun f hf => rfl⟩, by dsimp only; omega, ?_⟩
          exact leB_envH (by (repeat' (first | exact trivial | refine And.intro rfl ?_))) rfl
        · have eD : P.decB M s X = true := by rw [eD]; exact h5
          rw [if_pos eD] at eBase
          ((conv=>whnf);repeat(refine And.intro rfl ?_;(conv=>whnf)))
          (refine ⟨by omega, (by first | omega | (simp; done) | (simp; omega) | (simp only [ll]; omega)), ?_⟩; ((conv=>whnf);repeat(refine And.intro rfl ?_;(conv=>whnf))))
          refine ⟨_, gl_atN X (by omega) (by omega), ?_⟩
          ((conv=>whnf);repeat(refine And.intro rfl ?_;(conv=>whnf)))
          (refine .inl ⟨by (unfold InR; rw [IntKind.wrap_i64]; omega), ?_⟩; ((conv=>whnf);repeat(refine And.intro rfl ?_;(conv=>whnf))))
          (refine ⟨by omega, (by first | omega | (simp; done) | (simp; omega) | (simp only [ll]; omega)), ?_⟩; ((conv=>whnf);repeat(refine And.intro rfl ?_;(conv=>whnf))))
          refine ⟨_, gl_atN X (by omega) (by omega), ?_⟩
          ((conv=>whnf);repeat(refine And.intro rfl ?_;(conv=>whnf)))
          (refine .inl ⟨by (unfold InR; rw [IntKind.wrap_i64]; omega), ?_⟩; ((conv=>whnf);repeat(refine And.intro rfl ?_;(conv=>whnf))))
          refine ⟨(a + 1, putA g X (g X - 1)), ⟨by omega, hA.next ha' hX (by rw [putA_self, eBase, hold]) fun f hf => putA_ne hf⟩, by dsimp only; omega, ?_⟩
          exact leB_envH (by (repeat' (first | exact trivial | refine And.intro rfl ?_))) (by rw [gl_set (k := X) (by omega)]; rfl)
    · rw [h3, Bool.true_or] at eD
      rw [if_pos eD] at eBase
      ((conv=>whnf);repeat(refine And.intro rfl ?_;(conv=>whnf)))
      (refine ⟨by omega, (by first | omega | (simp; done) | (simp; omega) | (simp only [ll]; omega)), ?_⟩; ((conv=>whnf);repeat(refine And.intro rfl ?_;(conv=>whnf))))
      refine ⟨_, gl_atN X (by omega) (by omega), ?_⟩
      ((conv=>whnf);repeat(refine And.intro rfl ?_;(conv=>whnf)))
      (refine .inl ⟨by (unfold InR; rw [IntKind.wrap_i64]; omega), ?_⟩; ((conv=>whnf);repeat(refine And.intro rfl ?_;(conv=>whnf))))
      (refine ⟨by omega, (by first | omega | (simp; done) | (simp; omega) | (simp only [ll]; omega)), ?_⟩; ((conv=>whnf);repeat(refine And.intro rfl ?_;(conv=>whnf))))
      refine ⟨_, gl_atN X (by omega) (by omega), ?_⟩
      ((conv=>whnf);repeat(refine And.intro rfl ?_;(conv=>whnf)))
      (refine .inl ⟨by (unfold InR; rw [IntKind.wrap_i64]; omega), ?_⟩; ((conv=>whnf);repeat(refine And.intro rfl ?_;(conv=>whnf))))
      refine ⟨(a + 1, putA g X (g X - 1)), ⟨by omega, hA.next ha' hX (by rw [putA_self, eBase, hold]) fun f hf => putA_ne hf⟩, by dsimp only; omega, ?_⟩
      exact leB_envH (by (repeat' (first | exact trivial | refine And.intro rfl ?_))) (by rw [gl_set (k := X) (by omega)]; rfl)
  have ha' : a = (P.inL s.1).length := by have : ¬ a < (P.inL s.1).length := by ((try simp only [oo, reduceCtorEq] at *) <;> omega)
                                          omega
  subst ha'
  (refine .inl ⟨_, ho, ?_⟩; ((conv=>whnf);repeat(refine And.intro rfl ?_;(conv=>whnf))))
  rw [List.length_map]
  refine pwp_for [5, 8, 72, 73] (fun ((k, g) : Nat × (Nat → Int)) => [(74, .sc (.int .i64 k))]) (fun (k, g) => [(2, .vec true 1 1 (i64s (gl P.flows.length g)))]) (fun (k, g) => k ≤ (P.outL s.1).length ∧ ∀ f, f < P.flows.length → g f = P.baseI M s f + P.incs s f k ∧ g f ≤ 9) (fun (k, g) => (P.outL s.1).length - k) (0, g) ?_
  ((conv=>whnf);repeat(refine And.intro rfl ?_;(conv=>whnf)))
  refine ⟨⟨by omega, fun f hf => ?_⟩, by (repeat' (first | exact trivial | refine And.intro rfl ?_)), rfl, ?_⟩
  · have b1 := ProcD.baseI_ok hM s f
    rw [hA.fin hf]
    exact ⟨by simp [ProcD.incs], b1.2⟩
  clear hA h2
  rintro ⟨k, g⟩ ⟨hk, hg⟩
  ((conv=>whnf);repeat(refine And.intro rfl ?_;(conv=>whnf)))
  (apply rd_sound; focus (repeat' constructor))
  ((conv=>whnf);repeat(refine And.intro rfl ?_;(conv=>whnf)))
  (refine ifK_split (fun h2 => ?_) (fun h2 => ?_) <;> (rw [h2]; ((conv=>whnf);repeat(refine And.intro rfl ?_;(conv=>whnf)))))
  · have hk' : k < (P.outL s.1).length := by ((try simp only [oo, reduceCtorEq] at *) <;> omega)
    have hin := ProcD.outAt_ok (P := P) (n := s.1) hk'
    obtain ⟨X, hX⟩ : ∃ X : Nat, P.outAt s.1 k = X := ⟨_, (Int.toNat_of_nonneg hin.1).symm⟩
    refine ⟨by omega, _, intsD_at (k := k) (by omega) hk', ?_⟩
    ((conv=>whnf);repeat(refine And.intro rfl ?_;(conv=>whnf)))
    rw [show (P.outL s.1).getD k 0 = P.outAt s.1 k from rfl, hX]
    rw [hX, Int.toNat_natCast] at hin
    have fd := fdiv_small hout.1 hout.2 (min (k : Int).toNat IntKind.i64.bits)
    refine ⟨by omega, ?_⟩
    ((conv=>whnf);repeat(refine And.intro rfl ?_;(conv=>whnf)))
    have eb : (bitsV .and .i64 (s.2.2.fdiv (2 ^ min (k : Int).toNat IntKind.i64.bits)) 1 == 1) = bitB s.2.2 k := by rw [and_one_i fd.1 fd.2]; rfl
    rw [eb]
    obtain ⟨g1, g2⟩ := hg X (by omega)
    have b1 := ProcD.baseI_ok hM s X
    have b2 := ProcD.incs_ok P s X k
    (refine ifK_split (fun h3 => ?_) (fun h3 => ?_) <;> (rw [h3]; ((conv=>whnf);repeat(refine And.intro rfl ?_;(conv=>whnf)))))
    · have hh := ProcD.incs_hit hX h3
      (refine ⟨by omega, (by first | omega | (simp; done) | (simp; omega) | (simp only [ll]; omega)), ?_⟩; ((conv=>whnf);repeat(refine And.intro rfl ?_;(conv=>whnf))))
      refine ⟨_, gl_atN X (by omega) (by omega), ?_⟩
      ((conv=>whnf);repeat(refine And.intro rfl ?_;(conv=>whnf)))
      (refine .inl ⟨by (unfold InR; rw [IntKind.wrap_i64]; omega), ?_⟩; ((conv=>whnf);repeat(refine And.intro rfl ?_;(conv=>whnf))))
      (refine ⟨by omega, (by first | omega | (simp; done) | (simp; omega) | (simp only [ll]; omega)), ?_⟩; ((conv=>whnf);repeat(refine And.intro rfl ?_;(conv=>whnf))))
      refine ⟨_, gl_atN X (by omega) (by omega), ?_⟩
      ((conv=>whnf);repeat(refine And.intro rfl ?_;(conv=>whnf)))
      rw [gl_set (k := X) (by omega)]
      (refine ⟨by omega, (by first | omega | (simp; done) | (simp; omega) | (simp only [ll]; omega)), ?_⟩; ((conv=>whnf);repeat(refine And.intro rfl ?_;(conv=>whnf))))
      refine ⟨_, gl_atN X (by omega) (by omega), ?_⟩
      ((conv=>whnf);repeat(refine And.intro rfl ?_;(conv=>whnf)))
      rw [putA_self]
      (refine ifK_split (fun h4 => ?_) (fun h4 => ?_) <;> (rw [h4]; ((conv=>whnf);repeat(refine And.intro rfl ?_;(conv=>whnf)))))
      · have h4 : 9 < g X + 1 := by ((try simp only [oo, reduceCtorEq] at *) <;> omega)
        have hm := ProcD.incs_mono P s X (j := k + 1) (k := (P.outL s.1).length) (by omega)
        have e7 : P.fireE M s = 7 := by rw [eE, if_pos ⟨X, by omega, by unfold ProcD.finI; omega⟩]
        rw [e7] at eL
        rw [e7, eL, if_neg (by decide)]
        exact .tup _ _ (.cons _ _ _ _ (.none _) (.cons _ _ _ _ (.refl _) .nil))
      · have h4 : g X + 1 ≤ 9 := by ((try simp only [oo, reduceCtorEq] at *) <;> omega)
        (refine .inl ⟨by (unfold InR; rw [IntKind.wrap_i64]; omega), ?_⟩; ((conv=>whnf);repeat(refine And.intro rfl ?_;(conv=>whnf))))
        refine ⟨(k + 1, putA g X (g X + 1)), ⟨by omega, fun f hf => ?_⟩, by dsimp only; omega, leB_envH (by (repeat' (first | exact trivial | refine And.intro rfl ?_))) rfl⟩
        by_cases e : f = X
        · subst e
          rw [putA_self, hh]
          omega
        · rw [putA_ne e, ProcD.incs_miss (.inl (by rw [hX]; omega))]
          exact hg f hf
    · (refine .inl ⟨by (unfold InR; rw [IntKind.wrap_i64]; omega), ?_⟩; ((conv=>whnf);repeat(refine And.intro rfl ?_;(conv=>whnf))))
      refine ⟨(k + 1, g), ⟨by omega, fun f hf => ?_⟩, by dsimp only; omega, leB_envH (by (repeat' (first | exact trivial | refine And.intro rfl ?_))) rfl⟩
      rw [ProcD.incs_miss (.inr h3)]
      exact hg f hf
  · have hk' : k = (P.outL s.1).length := by have : ¬ k < (P.outL s.1).length := by ((try simp only [oo, reduceCtorEq] at *) <;> omega)
                                             omega
    subst hk'
    have e0 : P.fireE M s = 0 := by
      rw [eE, if_neg]
      rintro ⟨f, hf, h9⟩
      have := hg f hf
      unfold ProcD.finI at h9
      omega
    rw [e0, if_pos rfl] at eL
    have e : gl P.flows.length (P.finI M s) = gl P.flows.length g := gl_congr fun f hf => (hg f hf).1.symm
    rw [e0, eL, e]
    exact .tup _ _ (.cons _ _ _ _ (deep_gl rfl) (.cons _ _ _ _ (.refl _) .nil))
open Classical in
noncomputable def ProcD.firE (P : ProcD) (M : List Int) (k : Int) : Int :=
  if P.markE M ≠ 0 then P.markE M else if k < 0 ∨ (P.stepsL.length : Int) ≤ k then 1
  else if P.mayB M (P.stepsL.getD k.toNat (0, 0, 0)) = true then P.fireE M (P.stepsL.getD k.toNat (0, 0, 0)) else 9
noncomputable def ProcD.firL (P : ProcD) (M : List Int) (k : Int) : List Int := if P.firE M k = 0 then P.fireL M (P.stepsL.getD k.toNat (0, 0, 0)) else []
theorem fireL_bad {P : ProcD} {M : List Int} {s : StepD} (h : P.fireE M s ≠ 0) : P.fireL M s = [] := by
  unfold ProcD.fireL
  split
  · rename_i q
    exfalso
    apply h
    unfold ProcD.fireE
    rw [if_pos q]
  · first | rfl | rw [if_neg h]
def c99 : PC := .seq (.ops [⟨(some 3), .box (.tmp 0), none, 0⟩,
    ⟨(some 6), .move (.const (.slice none 0 0)), none, 0⟩,
    ⟨(some 7), .move (.const (.int .i64 0)), none, 0⟩] false) (.seq (.ops [⟨(some 11), .loadA 2 (.tmp 3), none, 0⟩,
    ⟨(some 12), .move (.tmp 1), none, 0⟩,
    ⟨(some 13), .call 101 [(.tmp 11), (.tmp 12)], none, 0⟩,
    ⟨(some 10), .move (.tmp 13), none, 0⟩,
    ⟨(some 14), .ext 0 (.tmp 10), none, 0⟩,
    ⟨(some 15), .ext 1 (.tmp 10), none, 0⟩,
    ⟨(some 8), .move (.tmp 14), none, 0⟩,
    ⟨(some 9), .move (.tmp 15), none, 0⟩] false) (.seq (.block 0 (.seq (.ops [⟨(some 17), .move (.tmp 9), none, 0⟩,
    ⟨(some 18), .bin .neq (.tmp 17) (.const (.int .i64 0)), none, 0⟩,
    ⟨(some 16), .move (.tmp 18), none, 0⟩] false) (.cond (.tmp 16) (.seq (.ops [⟨(some 19), .move (.tmp 9), none, 0⟩,
    ⟨(some 6), .move (.const (.slice none 0 0)), none, 0⟩,
    ⟨(some 7), .move (.tmp 19), none, 0⟩] false) (.ret)) (.seq (.ops [⟨(some 21), .move (.tmp 2), none, 0⟩,
    ⟨(some 22), .bin .lss (.tmp 21) (.const (.int .i64 0)), none, 0⟩,
    ⟨(some 23), .move (.tmp 22), none, 0⟩,
    ⟨(some 24), .move (.tmp 2), (some (23, false)), 0⟩,
    ⟨(some 25), .move (.tmp 8), (some (23, false)), 0⟩,
    ⟨(some 26), .len (.tmp 25), (some (23, false)), 0⟩,
    ⟨(some 27), .bin .geq (.tmp 24) (.tmp 26), (some (23, false)), 0⟩,
    ⟨(some 28), .pick (.tmp 23) (.const (.bool true)) (.tmp 27), none, 0⟩,
    ⟨(some 20), .move (.tmp 28), none, 0⟩] false) (.cond (.tmp 20) (.seq (.ops [⟨(some 6), .move (.const (.slice none 0 0)), none, 0⟩,
    ⟨(some 7), .move (.const (.int .i64 1)), none, 0⟩] false) (.ret)) (.seq (.ops [⟨(some 30), .loadA 2 (.tmp 3), none, 0⟩,
    ⟨(some 31), .move (.tmp 1), none, 0⟩,
    ⟨(some 32), .move (.tmp 8), none, 0⟩,
    ⟨(some 33), .move (.tmp 2), none, 0⟩,
    ⟨(some 34), .iaddr 3 (.tmp 32) (.tmp 33), none, 12⟩,
    ⟨(some 35), .loadA 3 (.tmp 34), none, 28⟩,
    ⟨(some 36), .call 102 [(.tmp 30), (.tmp 31), (.tmp 35)], none, 63⟩,
    ⟨(some 37), .un .not (.tmp 36), none, 127⟩,
    ⟨(some 29), .move (.tmp 37), none, 255⟩] true) (.cond (.tmp 29) (.seq (.ops [⟨(some 6), .move (.const (.slice none 0 0)), none, 0⟩,
    ⟨(some 7), .move (.const (.int .i64 9)), none, 0⟩] false) (.ret)) (.skip)))))))) (.seq (.ops [⟨(some 38), .loadA 2 (.tmp 3), none, 0⟩,
    ⟨(some 39), .move (.tmp 1), none, 0⟩,
    ⟨(some 40), .move (.tmp 8), none, 0⟩,
    ⟨(some 41), .move (.tmp 2), none, 0⟩,
    ⟨(some 42), .iaddr 3 (.tmp 40) (.tmp 41), none, 12⟩,
    ⟨(some 43), .loadA 3 (.tmp 42), none, 28⟩,
    ⟨(some 44), .call 111 [(.tmp 38), (.tmp 39), (.tmp 43)], none, 63⟩,
    ⟨(some 45), .ext 0 (.tmp 44), none, 127⟩,
    ⟨(some 46), .ext 1 (.tmp 44), none, 127⟩,
    ⟨(some 6), .move (.tmp 45), none, 511⟩,
    ⟨(some 7), .move (.tmp 46), none, 1023⟩] true) (.ret))))
set_option maxRecDepth 100000 in
theorem c99_ok : FunOK Try.prog 99 47 [.tmp 6, .tmp 7] c99 := ⟨⟨Try.f99, Try.func99, rfl, by kernel_rfl, rfl, by kernel_rfl⟩⟩
set_option maxRecDepth 100000 in
theorem game_Fire (P : ProcD) (hP : P.Fits) (M : List Int) (hM : M.length ≤ 9223372036854775807) (k : Int) :
    PCall Try.prog 99 [dproc P, dints M, .sc (.int .i64 k)] (.tup [dints (P.firL M k), .sc (.int .i64 (P.firE M k))]) := by
  have eE : P.firE M k = if P.markE M ≠ 0 then P.markE M else if k < 0 ∨ (P.stepsL.length : Int) ≤ k then 1
    else if P.mayB M (P.stepsL.getD k.toNat (0, 0, 0)) = true then P.fireE M (P.stepsL.getD k.toNat (0, 0, 0)) else 9 := by unfold ProcD.firE; rfl
  have eL : P.firL M k = if P.firE M k = 0 then P.fireL M (P.stepsL.getD k.toNat (0, 0, 0)) else [] := rfl
  refine pcall_intro c99_ok (by simp) (by simp [PureL, Pure, pure_dproc, pure_dints]) ?_ (by simp [Pure, PureL, pure_dints])
  have bad : ∀ {H : List AObj} {e : Int}, e ≠ 0 → P.firE M k = e → Deep H (.tup [.sc (.slice none 0 0), .sc (.int .i64 e)]) (.tup [dints (P.firL M k), .sc (.int .i64 (P.firE M k))]) := fun h q => by
    rw [eL, q, if_neg h]
    exact .tup _ _ (.cons _ _ _ _ (.none _) (.cons _ _ _ _ (.refl _) .nil))
  (apply rd_sound; focus (repeat' constructor))
  ((conv=>whnf);repeat(refine And.intro rfl ?_;(conv=>whnf)))
  (refine .inl ⟨_, (game_check P hP M hM), ?_⟩; ((conv=>whnf);repeat(refine And.intro rfl ?_;(conv=>whnf))))
  (refine ifK_split (fun h1 => ?_) (fun h1 => ?_) <;> (rw [h1]; ((conv=>whnf);repeat(refine And.intro rfl ?_;(conv=>whnf)))))
  · have h1 : P.markE M ≠ 0 := by ((try simp only [oo, reduceCtorEq] at *) <;> omega)
    exact bad h1 (by rw [eE, if_pos h1])
  have h1 : P.markE M = 0 := by ((try simp only [oo, reduceCtorEq] at *) <;> omega)
  obtain ⟨hE, hB⟩ := ProcD.markE_zero h1
  obtain ⟨h0, _, h60⟩ := ProcD.stepsE_zero hE
  have hK := ProcD.mark_of hB
  have eN : P.markL M = P.stepsL := by unfold ProcD.markL; rw [if_pos h1]
  rw [if_neg (by omega)] at eE
  rw [eN]
  cases h2 : decide (k < 0)
  · have h2 : ¬ k < 0 := by ((try simp only [oo, reduceCtorEq] at *) <;> omega)
    ((conv=>whnf);repeat(refine And.intro rfl ?_;(conv=>whnf)))
    rw [srows_len]
    (refine ifK_split (fun h3 => ?_) (fun h3 => ?_) <;> (rw [h3]; ((conv=>whnf);repeat(refine And.intro rfl ?_;(conv=>whnf)))))
    · exact bad (by decide) (by rw [eE, if_pos (.inr (by ((try simp only [oo, reduceCtorEq] at *) <;> omega)))])
    · have h3 : ¬ (P.stepsL.length : Int) ≤ k := by ((try simp only [oo, reduceCtorEq] at *) <;> omega)
      rw [if_neg (by omega)] at eE
      have hk' : k.toNat < P.stepsL.length := by omega
      have hsk := ProcD.stepAt_ok hE hk'
      refine ⟨by omega, _, step_atD (k := k.toNat) (by omega) hk', ?_⟩
      ((conv=>whnf);repeat(refine And.intro rfl ?_;(conv=>whnf)))
      generalize hS : P.stepsL.getD k.toNat (0, 0, 0) = s at hsk eE eL
      (refine .inl ⟨_, (game_enabled P hP h0 M hK s hsk), ?_⟩; ((conv=>whnf);repeat(refine And.intro rfl ?_;(conv=>whnf))))
      cases h4 : P.mayB M s
      · ((conv=>whnf);repeat(refine And.intro rfl ?_;(conv=>whnf)))
        exact bad (by decide) (by rw [eE, if_neg (by rw [h4]; decide)])
      · rw [if_pos h4] at eE
        ((conv=>whnf);repeat(refine And.intro rfl ?_;(conv=>whnf)))
        refine ⟨by omega, _, step_atD (k := k.toNat) (by omega) hk', ?_⟩
        ((conv=>whnf);repeat(refine And.intro rfl ?_;(conv=>whnf)))
        rw [hS]
        (refine .inl ⟨_, (game_fire P hP h0 M hK s hsk), ?_⟩; ((conv=>whnf);repeat(refine And.intro rfl ?_;(conv=>whnf))))
        have e : P.firL M k = P.fireL M s := by
          rw [eL, eE]
          split
          · rfl
          · rename_i q; exact (fireL_bad q).symm
        rw [eE, e]
        exact .refl _
  · have h2 : k < 0 := by ((try simp only [oo, reduceCtorEq] at *) <;> omega)
    ((conv=>whnf);repeat(refine And.intro rfl ?_;(conv=>whnf)))
    exact bad (by decide) (by rw [eE, if_pos (.inl h2)])
end

/-! ### XGa8 -/
section
open Go.RowKit
set_option linter.unusedSimpArgs false
set_option linter.unusedVariables false
def c26_1 : PC := .seq (.seq (.ops [⟨(some 9), .move (.tmp 4), none, 0⟩,
    ⟨(some 10), .move (.tmp 3), none, 0⟩,
    ⟨(some 11), .len (.tmp 10), none, 0⟩,
    ⟨(some 12), .bin .lss (.tmp 9) (.tmp 11), none, 0⟩] false) (.cond (.tmp 12) (.skip) (.exit 0))) (.seq (.block 1 (.seq (.ops [⟨(some 15), .faddr 0 (.tmp 1), none, 0⟩,
    ⟨(some 16), .load1 (.tmp 15), none, 1⟩,
    ⟨(some 17), .faddr 1 (.tmp 1), none, 0⟩,
    ⟨(some 18), .load1 (.tmp 17), none, 4⟩,
    ⟨(some 19), .move (.tmp 4), none, 0⟩,
    ⟨(some 20), .iaddr 2 (.tmp 18) (.tmp 19), none, 28⟩,
    ⟨(some 21), .faddr 0 (.tmp 20), none, 60⟩,
    ⟨(some 22), .load1 (.tmp 21), none, 124⟩,
    ⟨(some 23), .iaddr 2 (.tmp 16) (.tmp 22), none, 255⟩,
    ⟨(some 24), .faddr 1 (.tmp 23), none, 511⟩,
    ⟨(some 25), .load1 (.tmp 24), none, 1023⟩,
    ⟨(some 26), .bin .eql (.tmp 25) (.const (.int .i64 1)), none, 2047⟩] true) (.cond (.tmp 26) (.ops [⟨(some 27), .move (.tmp 3), none, 0⟩,
    ⟨(some 28), .move (.tmp 4), none, 0⟩,
    ⟨(some 29), .iaddr 1 (.tmp 27) (.tmp 28), none, 0⟩,
    ⟨none, .store 1 (.tmp 29) (.const (.int .i64 1)), none, 0⟩] false) (.skip)))) (.ops [⟨(some 13), .move (.tmp 4), none, 0⟩,
    ⟨(some 14), .bin .add (.tmp 13) (.const (.int .i64 1)), none, 0⟩,
    ⟨(some 4), .move (.tmp 14), none, 0⟩] false))
def c26 : PC := .seq (.ops [⟨(some 1), .box (.tmp 0), none, 0⟩,
    ⟨(some 2), .move (.const (.slice none 0 0)), none, 0⟩] false) (.seq (.ops [⟨(some 5), .faddr 1 (.tmp 1), none, 0⟩,
    ⟨(some 6), .load1 (.tmp 5), none, 0⟩,
    ⟨(some 7), .len (.tmp 6), none, 0⟩,
    ⟨(some 8), .mslice 1 8 [(.int .i64 0)] (.tmp 7) (.tmp 7), none, 0⟩,
    ⟨(some 3), .move (.tmp 8), none, 0⟩] false) (.seq (.seq (.ops [⟨(some 4), .move (.const (.int .i64 0)), none, 0⟩] false) (.block 0 (.loop c26_1))) (.seq (.ops [⟨(some 30), .move (.tmp 3), none, 0⟩,
    ⟨(some 2), .move (.tmp 30), none, 0⟩] false) (.ret))))
set_option maxRecDepth 100000 in
theorem c26_ok : FunOK Try.prog 26 31 [.tmp 2] c26 := ⟨⟨Try.f26, Try.func26, rfl, by kernel_rfl, rfl, by kernel_rfl⟩⟩
set_option maxRecDepth 100000 in
theorem ref_Begin (P : ProcD) (hP : P.Fits) (h1 : P.stepsE = 0) : PCall Try.prog 26 [dproc P] (dints P.beginL) := by
  obtain ⟨h0, _, _⟩ := ProcD.stepsE_zero h1
  obtain ⟨hs1, hs2⟩ := chk_small h0
  have eB : P.beginL = gl P.flows.length (begG P) := by unfold ProcD.beginL; rw [if_pos h1]
  refine pcall_intro c26_ok (by simp) (by simp [PureL, Pure, pure_dproc]) ?_ (pure_dints _)
  (apply rd_sound; focus (repeat' constructor))
  ((conv=>whnf);repeat(refine And.intro rfl ?_;(conv=>whnf)))
  rw [List.length_map, eB]
  refine ⟨by omega, by omega, by omega, ?_⟩
  rw [Int.toNat_natCast, show List.map D.sc [Value.int .i64 0] = [D.sc (.int .i64 0)] from rfl, gl_rep]
  ((conv=>whnf);repeat(refine And.intro rfl ?_;(conv=>whnf)))
  refine pwp_for [1, 3] (fun ((k, g) : Nat × (Nat → Int)) => [(4, .sc (.int .i64 k))]) (fun (k, g) => [(1, .vec true 0 1 (i64s (gl P.flows.length g)))]) (fun (k, g) => k ≤ P.flows.length ∧ ∀ i, g i = if i < k then begG P i else 0) (fun (k, g) => P.flows.length - k) (0, fun _ => 0) ?_
  ((conv=>whnf);repeat(refine And.intro rfl ?_;(conv=>whnf)))
  refine ⟨⟨by omega, fun i => rfl⟩, by (repeat' (first | exact trivial | refine And.intro rfl ?_)), rfl, ?_⟩
  rintro ⟨k, g⟩ ⟨hk, hg⟩
  ((conv=>whnf);repeat(refine And.intro rfl ?_;(conv=>whnf)))
  (apply rd_sound; focus (repeat' constructor))
  ((conv=>whnf);repeat(refine And.intro rfl ?_;(conv=>whnf)))
  (refine ifK_split (fun h2 => ?_) (fun h2 => ?_) <;> (rw [h2]; ((conv=>whnf);repeat(refine And.intro rfl ?_;(conv=>whnf)))))
  · have hk' : k < P.flows.length := by ((try simp only [oo, reduceCtorEq] at *) <;> omega)
    have hfk := ProcD.flowOK_iff.1 (flowOK_of h0 k hk')
    refine ⟨by omega, _, flow_at P (k := k) (by omega) hk', ?_⟩
    ((conv=>whnf);repeat(refine And.intro rfl ?_;(conv=>whnf)))
    refine ⟨by omega, _, node_at P (k := (P.src k).toNat) (by omega) (by omega), ?_⟩
    ((conv=>whnf);repeat(refine And.intro rfl ?_;(conv=>whnf)))
    (refine ifK_split (fun h3 => ?_) (fun h3 => ?_) <;> (rw [h3]; ((conv=>whnf);repeat(refine And.intro rfl ?_;(conv=>whnf)))))
    · have h3 : P.kind (P.src k).toNat = 1 := by ((try simp only [oo, reduceCtorEq] at *) <;> omega)
      (refine ⟨by omega, (by first | omega | (simp; done) | (simp; omega) | (simp only [ll]; omega)), ?_⟩; ((conv=>whnf);repeat(refine And.intro rfl ?_;(conv=>whnf))))
      refine ⟨_, gl_atN k (by omega) (by omega), ?_⟩
      ((conv=>whnf);repeat(refine And.intro rfl ?_;(conv=>whnf)))
      (refine .inl ⟨by (unfold InR; rw [IntKind.wrap_i64]; omega), ?_⟩; ((conv=>whnf);repeat(refine And.intro rfl ?_;(conv=>whnf))))
      refine ⟨(k + 1, putA g k 1), ⟨by omega, fun i => ?_⟩, by dsimp only; omega, leB_envH (by (repeat' (first | exact trivial | refine And.intro rfl ?_))) (by rw [gl_set (k := k) (by omega)]; rfl)⟩
      by_cases e : i = k
      · subst e
        rw [putA_self, if_pos (by omega)]
        unfold begG
        rw [if_pos h3]
      · rw [putA_ne e, hg]
        by_cases q : i < k
        · rw [if_pos q, if_pos (by omega)]
        · rw [if_neg q, if_neg (by omega)]
    · have h3 : P.kind (P.src k).toNat ≠ 1 := by ((try simp only [oo, reduceCtorEq] at *) <;> omega)
      (refine .inl ⟨by (unfold InR; rw [IntKind.wrap_i64]; omega), ?_⟩; ((conv=>whnf);repeat(refine And.intro rfl ?_;(conv=>whnf))))
      refine ⟨(k + 1, g), ⟨by omega, fun i => ?_⟩, by dsimp only; omega, leB_envH (by (repeat' (first | exact trivial | refine And.intro rfl ?_))) rfl⟩
      rw [hg]
      by_cases e : i = k
      · subst e
        rw [if_neg (by omega), if_pos (by omega)]
        unfold begG
        rw [if_neg h3]
      · by_cases q : i < k
        · rw [if_pos q, if_pos (by omega)]
        · rw [if_neg q, if_neg (by omega)]
  · have hk' : k = P.flows.length := by have : ¬ k < P.flows.length := by ((try simp only [oo, reduceCtorEq] at *) <;> omega)
                                        omega
    subst hk'
    have e : gl P.flows.length (begG P) = gl P.flows.length g := gl_congr fun i hi => by rw [hg, if_pos hi]
    rw [e]
    exact deep_gl rfl
def c50_1 : PC := .seq (.seq (.ops [⟨(some 26), .move (.tmp 10), none, 0⟩,
    ⟨(some 27), .move (.tmp 7), none, 0⟩,
    ⟨(some 28), .len (.tmp 27), none, 0⟩,
    ⟨(some 29), .bin .lss (.tmp 26) (.tmp 28), none, 0⟩] false) (.cond (.tmp 29) (.skip) (.exit 0))) (.seq (.block 1 (.seq (.ops [⟨(some 32), .move (.tmp 8), none, 0⟩,
    ⟨(some 33), .move (.tmp 32), none, 0⟩,
    ⟨(some 34), .move (.tmp 1), (some (33, false)), 0⟩,
    ⟨(some 35), .move (.tmp 7), (some (33, false)), 0⟩,
    ⟨(some 36), .move (.tmp 10), (some (33, false)), 0⟩,
    ⟨(some 37), .iaddr 1 (.tmp 35) (.tmp 36), (some (33, false)), 0⟩,
    ⟨(some 38), .load1 (.tmp 37), (some (33, false)), 0⟩,
    ⟨(some 39), .iaddr 1 (.tmp 34) (.tmp 38), (some (33, false)), 0⟩,
    ⟨(some 40), .load1 (.tmp 39), (some (33, false)), 0⟩,
    ⟨(some 41), .bin .gtr (.tmp 40) (.const (.int .i64 0)), (some (33, false)), 0⟩,
    ⟨(some 42), .pick (.tmp 33) (.const (.bool true)) (.tmp 41), none, 0⟩,
    ⟨(some 8), .move (.tmp 42), none, 0⟩] false) (.ops [⟨(some 43), .move (.tmp 9), none, 0⟩,
    ⟨(some 44), .move (.tmp 43), none, 0⟩,
    ⟨(some 45), .move (.tmp 1), (some (44, true)), 0⟩,
    ⟨(some 46), .move (.tmp 7), (some (44, true)), 0⟩,
    ⟨(some 47), .move (.tmp 10), (some (44, true)), 0⟩,
    ⟨(some 48), .iaddr 1 (.tmp 46) (.tmp 47), (some (44, true)), 0⟩,
    ⟨(some 49), .load1 (.tmp 48), (some (44, true)), 0⟩,
    ⟨(some 50), .iaddr 1 (.tmp 45) (.tmp 49), (some (44, true)), 0⟩,
    ⟨(some 51), .load1 (.tmp 50), (some (44, true)), 0⟩,
    ⟨(some 52), .bin .gtr (.tmp 51) (.const (.int .i64 0)), (some (44, true)), 0⟩,
    ⟨(some 53), .pick (.tmp 44) (.tmp 52) (.const (.bool false)), none, 0⟩,
    ⟨(some 9), .move (.tmp 53), none, 0⟩] false))) (.ops [⟨(some 30), .move (.tmp 10), none, 0⟩,
    ⟨(some 31), .bin .add (.tmp 30) (.const (.int .i64 1)), none, 0⟩,
    ⟨(some 10), .move (.tmp 31), none, 0⟩] false))
def c50_3 : PC := .seq (.seq (.ops [⟨(some 69), .move (.tmp 12), none, 0⟩,
    ⟨(some 70), .move (.tmp 1), none, 0⟩,
    ⟨(some 71), .len (.tmp 70), none, 0⟩,
    ⟨(some 72), .bin .lss (.tmp 69) (.tmp 71), none, 0⟩] false) (.cond (.tmp 72) (.skip) (.exit 4))) (.seq (.block 5 (.seq (.ops [⟨(some 75), .move (.tmp 1), none, 0⟩,
    ⟨(some 76), .move (.tmp 7), none, 0⟩,
    ⟨(some 77), .move (.tmp 11), none, 0⟩,
    ⟨(some 78), .iaddr 1 (.tmp 76) (.tmp 77), none, 6⟩,
    ⟨(some 79), .load1 (.tmp 78), none, 14⟩,
    ⟨(some 80), .iaddr 1 (.tmp 75) (.tmp 79), none, 31⟩,
    ⟨(some 81), .load1 (.tmp 80), none, 63⟩,
    ⟨(some 82), .bin .eql (.tmp 81) (.const (.int .i64 0)), none, 127⟩,
    ⟨(some 83), .move (.tmp 82), none, 255⟩,
    ⟨(some 84), .move (.tmp 1), (some (83, true)), 511⟩,
    ⟨(some 85), .move (.tmp 12), (some (83, true)), 511⟩,
    ⟨(some 86), .iaddr 1 (.tmp 84) (.tmp 85), (some (83, true)), 2047⟩,
    ⟨(some 87), .load1 (.tmp 86), (some (83, true)), 4095⟩,
    ⟨(some 88), .bin .gtr (.tmp 87) (.const (.int .i64 0)), (some (83, true)), 8191⟩,
    ⟨(some 89), .pick (.tmp 83) (.tmp 88) (.const (.bool false)), none, 16383⟩,
    ⟨(some 90), .move (.tmp 89), none, 32767⟩,
    ⟨(some 91), .loadA 2 (.tmp 3), (some (90, true)), 65535⟩,
    ⟨(some 92), .move (.tmp 12), (some (90, true)), 65535⟩,
    ⟨(some 93), .move (.tmp 7), (some (90, true)), 65535⟩,
    ⟨(some 94), .move (.tmp 11), (some (90, true)), 65535⟩,
    ⟨(some 95), .iaddr 1 (.tmp 93) (.tmp 94), (some (90, true)), 851967⟩,
    ⟨(some 96), .load1 (.tmp 95), (some (90, true)), 1900543⟩,
    ⟨(some 97), .faddr 0 (.tmp 5), (some (90, true)), 65535⟩,
    ⟨(some 98), .load1 (.tmp 97), (some (90, true)), 4259839⟩,
    ⟨(some 99), .call 80 [(.tmp 91), (.tmp 92), (.tmp 96), (.tmp 98)], (some (90, true)), 16777215⟩,
    ⟨(some 100), .pick (.tmp 90) (.tmp 99) (.const (.bool false)), none, 33554431⟩] true) (.cond (.tmp 100) (.seq (.ops [⟨(some 6), .move (.const (.bool false)), none, 0⟩] false) (.ret)) (.skip)))) (.ops [⟨(some 73), .move (.tmp 12), none, 0⟩,
    ⟨(some 74), .bin .add (.tmp 73) (.const (.int .i64 1)), none, 0⟩,
    ⟨(some 12), .move (.tmp 74), none, 0⟩] false))
def c50_2 : PC := .seq (.seq (.ops [⟨(some 63), .move (.tmp 11), none, 0⟩,
    ⟨(some 64), .move (.tmp 7), none, 0⟩,
    ⟨(some 65), .len (.tmp 64), none, 0⟩,
    ⟨(some 66), .bin .lss (.tmp 63) (.tmp 65), none, 0⟩] false) (.cond (.tmp 66) (.skip) (.exit 2))) (.seq (.block 3 (.seq (.ops [⟨(some 12), .move (.const (.int .i64 0)), none, 0⟩] false) (.block 4 (.loop c50_3)))) (.ops [⟨(some 67), .move (.tmp 11), none, 0⟩,
    ⟨(some 68), .bin .add (.tmp 67) (.const (.int .i64 1)), none, 0⟩,
    ⟨(some 11), .move (.tmp 68), none, 0⟩] false))
def c50 : PC := .seq (.ops [⟨(some 3), .box (.tmp 0), none, 0⟩,
    ⟨(some 5), .box (.tmp 2), none, 0⟩,
    ⟨(some 6), .move (.const (.bool false)), none, 0⟩] false) (.seq (.seq (.ops [⟨(some 13), .faddr 1 (.tmp 5), none, 0⟩,
    ⟨(some 14), .load1 (.tmp 13), none, 0⟩,
    ⟨(some 15), .bin .geq (.tmp 14) (.const (.int .i64 0)), none, 0⟩] false) (.cond (.tmp 15) (.seq (.ops [⟨(some 16), .move (.tmp 1), none, 0⟩,
    ⟨(some 17), .faddr 1 (.tmp 5), none, 0⟩,
    ⟨(some 18), .load1 (.tmp 17), none, 0⟩,
    ⟨(some 19), .iaddr 1 (.tmp 16) (.tmp 18), none, 0⟩,
    ⟨(some 20), .load1 (.tmp 19), none, 0⟩,
    ⟨(some 21), .bin .gtr (.tmp 20) (.const (.int .i64 0)), none, 0⟩,
    ⟨(some 6), .move (.tmp 21), none, 0⟩] false) (.ret)) (.skip))) (.seq (.ops [⟨(some 22), .loadA 2 (.tmp 3), none, 0⟩,
    ⟨(some 23), .faddr 0 (.tmp 5), none, 0⟩,
    ⟨(some 24), .load1 (.tmp 23), none, 0⟩,
    ⟨(some 25), .call 67 [(.tmp 22), (.tmp 24)], none, 0⟩,
    ⟨(some 7), .move (.tmp 25), none, 0⟩] false) (.seq (.ops [⟨(some 8), .move (.const (.bool false)), none, 0⟩,
    ⟨(some 9), .move (.const (.bool true)), none, 0⟩] false) (.seq (.seq (.ops [⟨(some 10), .move (.const (.int .i64 0)), none, 0⟩] false) (.block 0 (.loop c50_1))) (.seq (.seq (.ops [⟨(some 54), .faddr 0 (.tmp 3), none, 0⟩,
    ⟨(some 55), .load1 (.tmp 54), none, 0⟩,
    ⟨(some 56), .faddr 0 (.tmp 5), none, 0⟩,
    ⟨(some 57), .load1 (.tmp 56), none, 0⟩,
    ⟨(some 58), .iaddr 2 (.tmp 55) (.tmp 57), none, 0⟩,
    ⟨(some 59), .faddr 1 (.tmp 58), none, 0⟩,
    ⟨(some 60), .load1 (.tmp 59), none, 0⟩,
    ⟨(some 61), .bin .eql (.tmp 60) (.const (.int .i64 6)), none, 0⟩] false) (.cond (.tmp 61) (.seq (.ops [⟨(some 62), .move (.tmp 9), none, 0⟩,
    ⟨(some 6), .move (.tmp 62), none, 0⟩] false) (.ret)) (.skip))) (.seq (.seq (.ops [⟨(some 11), .move (.const (.int .i64 0)), none, 0⟩] false) (.block 2 (.loop c50_2))) (.seq (.ops [⟨(some 101), .move (.tmp 8), none, 0⟩,
    ⟨(some 6), .move (.tmp 101), none, 0⟩] false) (.ret))))))))
set_option maxRecDepth 100000 in
theorem c50_ok : FunOK Try.prog 50 102 [.tmp 6] c50 := ⟨⟨Try.f50, Try.func50, rfl, by kernel_rfl, rfl, by kernel_rfl⟩⟩
set_option maxRecDepth 100000 in
theorem ref_May (P : ProcD) (hP : P.Fits) (h0 : P.chk = 0) (M : List Int) (hM : P.Mark M) (s : StepD) (hs : P.StepOK s) :
    PCall Try.prog 50 [dproc P, dints M, .agg (srow s)] (.sc (.bool (P.mayB M s))) := by
  obtain ⟨hs1, hs2⟩ := chk_small h0
  have hn := hs.node
  have hin := hs.in_
  have l1 := P.inL_len s.1
  have lM := hM.len
  refine pcall_intro c50_ok (by simp) (by simp [PureL, Pure, pure_dproc, pure_dints, pure_srow]) ?_ (by simp [Pure])
  have e : P.mayB M s = if 0 ≤ s.2.1 then decide (0 < val M s.2.1.toNat) else if P.kind s.1.toNat = 7 then P.joinB M s.1 else P.allTo M s.1 (P.inL s.1).length := rfl
  (apply rd_sound; focus (repeat' constructor))
  ((conv=>whnf);repeat(refine And.intro rfl ?_;(conv=>whnf)))
  (refine ifK_split (fun h1 => ?_) (fun h1 => ?_) <;> (rw [h1]; ((conv=>whnf);repeat(refine And.intro rfl ?_;(conv=>whnf)))))
  · have h1 : 0 ≤ s.2.1 := by ((try simp only [oo, reduceCtorEq] at *) <;> omega)
    rw [if_pos h1] at e
    refine ⟨by omega, _, val_at (k := s.2.1.toNat) (by omega) (by omega), ?_⟩
    ((conv=>whnf);repeat(refine And.intro rfl ?_;(conv=>whnf)))
    rw [e]
    exact .refl _
  have h1 : ¬ 0 ≤ s.2.1 := by ((try simp only [oo, reduceCtorEq] at *) <;> omega)
  have hkind := hs.kind (by omega)
  rw [if_neg h1] at e
  (refine .inl ⟨_, (ref_FlowsIn P hP (by omega) s.1), ?_⟩; ((conv=>whnf);repeat(refine And.intro rfl ?_;(conv=>whnf))))
  refine pwp_for [1, 3, 5, 7] (fun a : Nat => [(8, .sc (.bool (P.posTo M s.1 a))), (9, .sc (.bool (P.allTo M s.1 a))), (10, .sc (.int .i64 a))]) (fun _ => []) (fun a => a ≤ (P.inL s.1).length) (fun a => (P.inL s.1).length - a) 0 ?_
  ((conv=>whnf);repeat(refine And.intro rfl ?_;(conv=>whnf)))
  refine ⟨by omega, by (repeat' (first | exact trivial | refine And.intro rfl ?_)), rfl, ?_⟩
  rintro a ha
  ((conv=>whnf);repeat(refine And.intro rfl ?_;(conv=>whnf)))
  (apply rd_sound; focus (repeat' constructor))
  ((conv=>whnf);repeat(refine And.intro rfl ?_;(conv=>whnf)))
  rw [List.length_map]
  (refine ifK_split (fun h2 => ?_) (fun h2 => ?_) <;> (rw [h2]; ((conv=>whnf);repeat(refine And.intro rfl ?_;(conv=>whnf)))))
  · have ha' : a < (P.inL s.1).length := by ((try simp only [oo, reduceCtorEq] at *) <;> omega)
    have hia := ProcD.inAt_ok (P := P) (n := s.1) ha'
    have ep : P.posTo M s.1 (a + 1) = (P.posTo M s.1 a || decide (0 < val M (P.inAt s.1 a).toNat)) := rfl
    have el : P.allTo M s.1 (a + 1) = (P.allTo M s.1 a && decide (0 < val M (P.inAt s.1 a).toNat)) := rfl
    have rd : (P.inL s.1).getD a 0 = P.inAt s.1 a := rfl
    cases hp : P.posTo M s.1 a <;> cases hq : P.allTo M s.1 a <;> rw [hp] at ep <;> rw [hq] at el <;> ((conv=>whnf);repeat(refine And.intro rfl ?_;(conv=>whnf)))
    · refine ⟨by omega, _, intsD_at (k := a) (by omega) ha', ?_⟩
      ((conv=>whnf);repeat(refine And.intro rfl ?_;(conv=>whnf)))
      rw [rd]
      refine ⟨by omega, _, val_at (k := (P.inAt s.1 a).toNat) (by omega) (by omega), ?_⟩
      ((conv=>whnf);repeat(refine And.intro rfl ?_;(conv=>whnf)))
      (refine .inl ⟨by (unfold InR; rw [IntKind.wrap_i64]; omega), ?_⟩; ((conv=>whnf);repeat(refine And.intro rfl ?_;(conv=>whnf))))
      exact ⟨a + 1, by omega, by dsimp only; omega, leB_envH ⟨by simp only [ep, Bool.false_or]; rfl, by simp only [el, Bool.false_and]; rfl, by (repeat' (first | exact trivial | refine And.intro rfl ?_))⟩ rfl⟩
    · refine ⟨by omega, _, intsD_at (k := a) (by omega) ha', ?_⟩
      ((conv=>whnf);repeat(refine And.intro rfl ?_;(conv=>whnf)))
      rw [rd]
      refine ⟨by omega, _, val_at (k := (P.inAt s.1 a).toNat) (by omega) (by omega), ?_⟩
      ((conv=>whnf);repeat(refine And.intro rfl ?_;(conv=>whnf)))
      refine ⟨by omega, _, intsD_at (k := a) (by omega) ha', ?_⟩
      ((conv=>whnf);repeat(refine And.intro rfl ?_;(conv=>whnf)))
      rw [rd]
      refine ⟨by omega, _, val_at (k := (P.inAt s.1 a).toNat) (by omega) (by omega), ?_⟩
      ((conv=>whnf);repeat(refine And.intro rfl ?_;(conv=>whnf)))
      (refine .inl ⟨by (unfold InR; rw [IntKind.wrap_i64]; omega), ?_⟩; ((conv=>whnf);repeat(refine And.intro rfl ?_;(conv=>whnf))))
      exact ⟨a + 1, by omega, by dsimp only; omega, leB_envH ⟨by simp only [ep, Bool.false_or]; rfl, by simp only [el, Bool.true_and]; rfl, by (repeat' (first | exact trivial | refine And.intro rfl ?_))⟩ rfl⟩
    · (refine .inl ⟨by (unfold InR; rw [IntKind.wrap_i64]; omega), ?_⟩; ((conv=>whnf);repeat(refine And.intro rfl ?_;(conv=>whnf))))
      exact ⟨a + 1, by omega, by dsimp only; omega, leB_envH ⟨by simp only [ep, Bool.true_or]; rfl, by simp only [el, Bool.false_and]; rfl, by (repeat' (first | exact trivial | refine And.intro rfl ?_))⟩ rfl⟩
    · refine ⟨by omega, _, intsD_at (k := a) (by omega) ha', ?_⟩
      ((conv=>whnf);repeat(refine And.intro rfl ?_;(conv=>whnf)))
      rw [rd]
      refine ⟨by omega, _, val_at (k := (P.inAt s.1 a).toNat) (by omega) (by omega), ?_⟩
      ((conv=>whnf);repeat(refine And.intro rfl ?_;(conv=>whnf)))
      (refine .inl ⟨by (unfold InR; rw [IntKind.wrap_i64]; omega), ?_⟩; ((conv=>whnf);repeat(refine And.intro rfl ?_;(conv=>whnf))))
      exact ⟨a + 1, by omega, by dsimp only; omega, leB_envH ⟨by simp only [ep, Bool.true_or]; rfl, by simp only [el, Bool.true_and]; rfl, by (repeat' (first | exact trivial | refine And.intro rfl ?_))⟩ rfl⟩
  have ha' : a = (P.inL s.1).length := by have : ¬ a < (P.inL s.1).length := by ((try simp only [oo, reduceCtorEq] at *) <;> omega)
                                          omega
  subst ha'
  refine ⟨by omega, _, node_at P (k := s.1.toNat) (by omega) (by omega), ?_⟩
  ((conv=>whnf);repeat(refine And.intro rfl ?_;(conv=>whnf)))
  (refine ifK_split (fun h3 => ?_) (fun h3 => ?_) <;> (rw [h3]; ((conv=>whnf);repeat(refine And.intro rfl ?_;(conv=>whnf)))))
  · have h3 : P.kind s.1.toNat = 6 := by ((try simp only [oo, reduceCtorEq] at *) <;> omega)
    rw [if_neg (by omega)] at e
    rw [e]
    exact .refl _
  have h3 : P.kind s.1.toNat ≠ 6 := by ((try simp only [oo, reduceCtorEq] at *) <;> omega)
  rw [if_pos (by omega)] at e
  rw [e]
  refine pwp_for [1, 3, 5, 7, 8] (fun a : Nat => [(11, .sc (.int .i64 a))]) (fun _ => []) (fun a => a ≤ (P.inL s.1).length ∧ ∀ j, j < a → ¬ P.badAt M s.1 j) (fun a => (P.inL s.1).length - a) 0 ?_
  ((conv=>whnf);repeat(refine And.intro rfl ?_;(conv=>whnf)))
  refine ⟨⟨by omega, fun j h => by omega⟩, by (repeat' (first | exact trivial | refine And.intro rfl ?_)), rfl, ?_⟩
  clear h2 ha
  rintro a ⟨ha, hall⟩
  ((conv=>whnf);repeat(refine And.intro rfl ?_;(conv=>whnf)))
  (apply rd_sound; focus (repeat' constructor))
  ((conv=>whnf);repeat(refine And.intro rfl ?_;(conv=>whnf)))
  rw [List.length_map]
  (refine ifK_split (fun h2 => ?_) (fun h2 => ?_) <;> (rw [h2]; ((conv=>whnf);repeat(refine And.intro rfl ?_;(conv=>whnf)))))
  · have ha' : a < (P.inL s.1).length := by ((try simp only [oo, reduceCtorEq] at *) <;> omega)
    have hia := ProcD.inAt_ok (P := P) (n := s.1) ha'
    have rd : (P.inL s.1).getD a 0 = P.inAt s.1 a := rfl
    obtain ⟨X, hX⟩ : ∃ X : Nat, P.inAt s.1 a = X := ⟨_, (Int.toNat_of_nonneg hia.1).symm⟩
    rw [hX] at rd hia
    refine pwp_for [1, 3, 5, 7, 8, 11] (fun k : Nat => [(12, .sc (.int .i64 k))]) (fun _ => []) (fun k => k ≤ P.flows.length ∧ (val M X = 0 → ∀ i, i < k → ¬ P.hold M s.1 X i)) (fun k => P.flows.length - k) 0 ?_
    ((conv=>whnf);repeat(refine And.intro rfl ?_;(conv=>whnf)))
    refine ⟨⟨by omega, fun _ j h => by omega⟩, by (repeat' (first | exact trivial | refine And.intro rfl ?_)), rfl, ?_⟩
    rintro k ⟨hk, hno⟩
    ((conv=>whnf);repeat(refine And.intro rfl ?_;(conv=>whnf)))
    (apply rd_sound; focus (repeat' constructor))
    ((conv=>whnf);repeat(refine And.intro rfl ?_;(conv=>whnf)))
    rw [List.length_map, lM]
    have next : (val M X = 0 → ¬ P.hold M s.1 X k) → (val M X = 0 → ∀ i, i < k + 1 → ¬ P.hold M s.1 X i) := fun h1 h2 i h3 => by
      by_cases e : i = k
      · subst e; exact h1 h2
      · exact hno h2 i (by omega)
    (refine ifK_split (fun h4 => ?_) (fun h4 => ?_) <;> (rw [h4]; ((conv=>whnf);repeat(refine And.intro rfl ?_;(conv=>whnf)))))
    · have hk' : k < P.flows.length := by ((try simp only [oo, reduceCtorEq] at *) <;> omega)
      refine ⟨by omega, _, intsD_at (k := a) (by omega) ha', ?_⟩
      ((conv=>whnf);repeat(refine And.intro rfl ?_;(conv=>whnf)))
      rw [rd]
      refine ⟨by omega, _, val_at (k := X) (by omega) (by omega), ?_⟩
      ((conv=>whnf);repeat(refine And.intro rfl ?_;(conv=>whnf)))
      cases h5 : (val M X == 0)
      · ((conv=>whnf);repeat(refine And.intro rfl ?_;(conv=>whnf)))
        (refine .inl ⟨by (unfold InR; rw [IntKind.wrap_i64]; omega), ?_⟩; ((conv=>whnf);repeat(refine And.intro rfl ?_;(conv=>whnf))))
        refine ⟨k + 1, ⟨by omega, next fun h => by rw [h] at h5; cases h5⟩, by dsimp only; omega, leB_envH (by (repeat' (first | exact trivial | refine And.intro rfl ?_))) rfl⟩
      · have h5 : val M X = 0 := by ((try simp only [oo, reduceCtorEq] at *) <;> omega)
        ((conv=>whnf);repeat(refine And.intro rfl ?_;(conv=>whnf)))
        refine ⟨by omega, _, val_at (k := k) (by omega) (by omega), ?_⟩
        ((conv=>whnf);repeat(refine And.intro rfl ?_;(conv=>whnf)))
        cases h6 : decide (val M k > 0)
        · ((conv=>whnf);repeat(refine And.intro rfl ?_;(conv=>whnf)))
          (refine .inl ⟨by (unfold InR; rw [IntKind.wrap_i64]; omega), ?_⟩; ((conv=>whnf);repeat(refine And.intro rfl ?_;(conv=>whnf))))
          refine ⟨k + 1, ⟨by omega, next fun h q => by rw [decide_eq_true q.2.1] at h6; cases h6⟩, by dsimp only; omega, leB_envH (by (repeat' (first | exact trivial | refine And.intro rfl ?_))) rfl⟩
        · have h6 : 0 < val M k := of_decide_eq_true h6
          ((conv=>whnf);repeat(refine And.intro rfl ?_;(conv=>whnf)))
          refine ⟨by omega, _, intsD_at (k := a) (by omega) ha', ?_⟩
          ((conv=>whnf);repeat(refine And.intro rfl ?_;(conv=>whnf)))
          rw [rd]
          (refine .inl ⟨_, (ref_Gets P hP hs2 k X hk' (by omega) s.1), ?_⟩; ((conv=>whnf);repeat(refine And.intro rfl ?_;(conv=>whnf))))
          cases h7 : ((k : Int) != X && P.viaB s.1 k X)
          · ((conv=>whnf);repeat(refine And.intro rfl ?_;(conv=>whnf)))
            (refine .inl ⟨by (unfold InR; rw [IntKind.wrap_i64]; omega), ?_⟩; ((conv=>whnf);repeat(refine And.intro rfl ?_;(conv=>whnf))))
            refine ⟨k + 1, ⟨by omega, next fun h q => ?_⟩, by dsimp only; omega, leB_envH (by (repeat' (first | exact trivial | refine And.intro rfl ?_))) rfl⟩
            have := (ProcD.hold_iff h5 h6).1 q
            rw [ProcD.viaB_iff.2 this.2, Bool.and_true] at h7
            have := this.1
            ((try simp only [oo, reduceCtorEq] at *) <;> omega)
          · rw [Bool.and_eq_true, ProcD.viaB_iff] at h7
            ((conv=>whnf);repeat(refine And.intro rfl ?_;(conv=>whnf)))
            rw [ProcD.joinB_false ha' ⟨by rw [hX, Int.toNat_natCast]; omega, k, hk', by rw [hX, Int.toNat_natCast]; exact (ProcD.hold_iff h5 h6).2 ⟨fun e => by subst e; simp at h7, h7.2⟩⟩]
            exact .refl _
    · have hk' : k = P.flows.length := by have : ¬ k < P.flows.length := by ((try simp only [oo, reduceCtorEq] at *) <;> omega)
                                          omega
      subst hk'
      (refine .inl ⟨by (unfold InR; rw [IntKind.wrap_i64]; omega), ?_⟩; ((conv=>whnf);repeat(refine And.intro rfl ?_;(conv=>whnf))))
      refine ⟨a + 1, ⟨by omega, fun j hj => ?_⟩, by dsimp only; omega, leB_envH (by (repeat' (first | exact trivial | refine And.intro rfl ?_))) rfl⟩
      by_cases e : j = a
      · subst e
        rintro ⟨q0, i, q1, q2⟩
        rw [hX, Int.toNat_natCast] at q0 q2
        have := hM.pos X
        exact hno (by omega) i q1 q2
      · exact hall j (by omega)
  · have ha' : a = (P.inL s.1).length := by have : ¬ a < (P.inL s.1).length := by ((try simp only [oo, reduceCtorEq] at *) <;> omega)
                                            omega
    subst ha'
    rw [ProcD.joinB_some hall]
    exact .refl _
end

/-! ### XGa9 -/
section
open Go.RowKit
set_option linter.unusedSimpArgs false
set_option linter.unusedVariables false
def c27_1 : PC := .seq (.seq (.ops [⟨(some 9), .move (.tmp 8), none, 0⟩,
    ⟨(some 10), .move (.tmp 1), none, 0⟩,
    ⟨(some 11), .len (.tmp 10), none, 0⟩,
    ⟨(some 12), .bin .lss (.tmp 9) (.tmp 11), none, 0⟩] false) (.cond (.tmp 12) (.skip) (.exit 0))) (.seq (.block 1 (.seq (.ops [⟨(some 15), .loadA 2 (.tmp 3), none, 0⟩,
    ⟨(some 16), .move (.tmp 2), none, 0⟩,
    ⟨(some 17), .move (.tmp 1), none, 0⟩,
    ⟨(some 18), .move (.tmp 8), none, 0⟩,
    ⟨(some 19), .iaddr 3 (.tmp 17) (.tmp 18), none, 12⟩,
    ⟨(some 20), .loadA 3 (.tmp 19), none, 28⟩,
    ⟨(some 21), .call 50 [(.tmp 15), (.tmp 16), (.tmp 20)], none, 63⟩] true) (.cond (.tmp 21) (.ops [⟨(some 22), .move (.tmp 7), none, 0⟩,
    ⟨(some 23), .move (.tmp 8), none, 0⟩,
    ⟨(some 24), .bslice 1 1 [(.tmp 23)], none, 0⟩,
    ⟨(some 25), .append 1 8 (.tmp 22) (.tmp 24), none, 0⟩,
    ⟨(some 7), .move (.tmp 25), none, 0⟩] false) (.skip)))) (.ops [⟨(some 13), .move (.tmp 8), none, 0⟩,
    ⟨(some 14), .bin .add (.tmp 13) (.const (.int .i64 1)), none, 0⟩,
    ⟨(some 8), .move (.tmp 14), none, 0⟩] false))
def c27 : PC := .seq (.ops [⟨(some 3), .box (.tmp 0), none, 0⟩,
    ⟨(some 6), .move (.const (.slice none 0 0)), none, 0⟩] false) (.seq (.ops [⟨(some 7), .move (.const (.slice none 0 0)), none, 0⟩] false) (.seq (.seq (.ops [⟨(some 8), .move (.const (.int .i64 0)), none, 0⟩] false) (.block 0 (.loop c27_1))) (.seq (.ops [⟨(some 26), .move (.tmp 7), none, 0⟩,
    ⟨(some 6), .move (.tmp 26), none, 0⟩] false) (.ret))))
set_option maxRecDepth 100000 in
theorem c27_ok : FunOK Try.prog 27 27 [.tmp 6] c27 := ⟨⟨Try.f27, Try.func27, rfl, by kernel_rfl, rfl, by kernel_rfl⟩⟩
set_option maxRecDepth 100000 in
theorem ref_Enabled (P : ProcD) (hP : P.Fits) (M : List Int) (h1 : P.markE M = 0) : PCall Try.prog 27 [dproc P, dsteps P.stepsL, dints M] (dints (P.enL M)) := by
  obtain ⟨hE, hB⟩ := ProcD.markE_zero h1
  obtain ⟨h0, _, h60⟩ := ProcD.stepsE_zero hE
  have hK := ProcD.mark_of hB
  have eN : P.enL M = P.mayTo M P.stepsL P.stepsL.length := by unfold ProcD.enL; rw [if_pos h1]
  refine pcall_intro c27_ok (by simp) (by simp [PureL, Pure, pure_dproc, pure_dints, pure_dsteps]) ?_ (pure_dints _)
  (apply rd_sound; focus (repeat' constructor))
  ((conv=>whnf);repeat(refine And.intro rfl ?_;(conv=>whnf)))
  rw [eN]
  refine pwp_ghostB (leB_nil 7 1 (by simp) rfl) ?_
  refine pwp_for [1, 2, 3] (fun ((k, c, l) : Nat × Nat × List Int) => [(7, .own 1 c 0 c), (8, .sc (.int .i64 k))]) (fun (k, c, l) => [(1, .vec true c 1 (i64s l))]) (fun (k, c, l) => k ≤ P.stepsL.length ∧ c = l.length ∧ c ≤ k ∧ l = P.mayTo M P.stepsL k) (fun (k, c, l) => P.stepsL.length - k) (0, 0, []) ?_
  ((conv=>whnf);repeat(refine And.intro rfl ?_;(conv=>whnf)))
  refine ⟨⟨by omega, rfl, by omega, rfl⟩, by (repeat' (first | exact trivial | refine And.intro rfl ?_)), rfl, ?_⟩
  rintro ⟨k, c, l⟩ ⟨hk, hc, hck, hl⟩
  ((conv=>whnf);repeat(refine And.intro rfl ?_;(conv=>whnf)))
  (apply rd_sound; focus (repeat' constructor))
  ((conv=>whnf);repeat(refine And.intro rfl ?_;(conv=>whnf)))
  rw [srows_len]
  (refine ifK_split (fun h2 => ?_) (fun h2 => ?_) <;> (rw [h2]; ((conv=>whnf);repeat(refine And.intro rfl ?_;(conv=>whnf)))))
  · have hk' : k < P.stepsL.length := by ((try simp only [oo, reduceCtorEq] at *) <;> omega)
    have hsk := ProcD.stepAt_ok hE hk'
    have eT : P.mayTo M P.stepsL (k + 1) = if P.mayB M (P.stepsL.getD k (0, 0, 0)) = true then P.mayTo M P.stepsL k ++ [(k : Int)] else P.mayTo M P.stepsL k := rfl
    refine ⟨by omega, _, step_atD (k := k) (by omega) hk', ?_⟩
    ((conv=>whnf);repeat(refine And.intro rfl ?_;(conv=>whnf)))
    generalize P.stepsL.getD k (0, 0, 0) = s at hsk eT
    (refine .inl ⟨_, (ref_May P hP h0 M hK s hsk), ?_⟩; ((conv=>whnf);repeat(refine And.intro rfl ?_;(conv=>whnf))))
    cases hm : P.mayB M s
    · ((conv=>whnf);repeat(refine And.intro rfl ?_;(conv=>whnf)))
      (refine .inl ⟨by (unfold InR; rw [IntKind.wrap_i64]; omega), ?_⟩; ((conv=>whnf);repeat(refine And.intro rfl ?_;(conv=>whnf))))
      refine ⟨(k + 1, c, l), ⟨by omega, hc, by omega, by rw [eT, hm, hl]; rfl⟩, by dsimp only; omega, ?_⟩
      (refine leB_close 2 (by simp) rfl ?_ ?_ <;> (repeat' (first | exact trivial | exact rfl | exact DeepM.refl _ | exact DeepML.refl _ | exact DeepMLL.refl _ | refine And.intro ?_ ?_ | (simp [Under, UnderL, UnderLL, -List.map_take, -List.map_drop]; done))))
    · ((conv=>whnf);repeat(refine And.intro rfl ?_;(conv=>whnf)))
      refine ⟨(by unfold sliceAppend; simp only [ll]; omega), ?_⟩
      ((conv=>whnf);repeat(refine And.intro rfl ?_;(conv=>whnf)))
      (refine .inl ⟨by (unfold InR; rw [IntKind.wrap_i64]; omega), ?_⟩; ((conv=>whnf);repeat(refine And.intro rfl ?_;(conv=>whnf))))
      refine ⟨(k + 1, c + 1, l ++ [(k : Int)]), ⟨by omega, by simp [hc], by omega, by rw [eT, hm, hl]; rfl⟩, by dsimp only; omega, ?_⟩
      (refine leB_close 2 (by simp) rfl ?_ ?_ <;> (repeat' (first | exact trivial | exact rfl | exact DeepM.refl _ | exact DeepML.refl _ | exact DeepMLL.refl _ | refine And.intro ?_ ?_ | (simp [Under, UnderL, UnderLL, -List.map_take, -List.map_drop]; done))))
      exact deepMLL_eq (i64s_snoc hc)
  · have hk' : k = P.stepsL.length := by have : ¬ k < P.stepsL.length := by ((try simp only [oo, reduceCtorEq] at *) <;> omega)
                                         omega
    subst hk'
    rw [← hl]
    exact deep_ints hc rfl
theorem putA_put (g : Nat → Int) (k : Nat) (a b : Int) : putA (putA g k a) k b = putA g k b := by
  funext i
  unfold putA
  split <;> rfl
def ProcD.errTo (P : ProcD) (M : List Int) (s : StepD) : Nat → Int
  | 0 => 0
  | f + 1 => if 9 < P.finI M s f then 7 else P.errTo M s f
theorem errTo_spec {P : ProcD} {M : List Int} {s : StepD} : ∀ n, (P.errTo M s n = 7 ∧ ∃ f, f < n ∧ 9 < P.finI M s f) ∨ (P.errTo M s n = 0 ∧ ∀ f, f < n → ¬ 9 < P.finI M s f)
  | 0 => .inr ⟨rfl, fun f h => by omega⟩
  | n + 1 => by
    simp only [ProcD.errTo]
    split
    · rename_i h
      exact .inl ⟨rfl, n, by omega, h⟩
    · rename_i h
      rcases errTo_spec (P := P) (M := M) (s := s) n with ⟨e, f, h1, h2⟩ | ⟨e, h1⟩
      · exact .inl ⟨e, f, by omega, h2⟩
      · refine .inr ⟨e, fun f hf => ?_⟩
        by_cases q : f = n
        · subst q; exact h
        · exact h1 f (by omega)
def c28_2 : PC := .seq (.seq (.ops [⟨(some 75), .move (.tmp 12), none, 0⟩,
    ⟨(some 76), .move (.tmp 9), none, 0⟩,
    ⟨(some 77), .len (.tmp 76), none, 0⟩,
    ⟨(some 78), .bin .lss (.tmp 75) (.tmp 77), none, 0⟩] false) (.cond (.tmp 78) (.skip) (.exit 2))) (.seq (.block 3 (.seq (.ops [⟨(some 81), .move (.tmp 9), none, 0⟩,
    ⟨(some 82), .move (.tmp 12), none, 0⟩,
    ⟨(some 83), .iaddr 1 (.tmp 81) (.tmp 82), none, 0⟩,
    ⟨(some 84), .load1 (.tmp 83), none, 0⟩,
    ⟨(some 85), .move (.tmp 11), none, 0⟩,
    ⟨(some 86), .bin .eql (.tmp 84) (.tmp 85), none, 0⟩,
    ⟨(some 87), .move (.tmp 86), none, 0⟩,
    ⟨(some 88), .faddr 2 (.tmp 5), (some (87, true)), 0⟩,
    ⟨(some 89), .load1 (.tmp 88), (some (87, true)), 0⟩,
    ⟨(some 90), .move (.tmp 12), (some (87, true)), 0⟩,
    ⟨(some 91), .bin .shr (.tmp 89) (.tmp 90), (some (87, true)), 0⟩,
    ⟨(some 92), .bin .rem (.tmp 91) (.const (.int .i64 2)), (some (87, true)), 0⟩,
    ⟨(some 93), .bin .eql (.tmp 92) (.const (.int .i64 1)), (some (87, true)), 0⟩,
    ⟨(some 94), .pick (.tmp 87) (.tmp 93) (.const (.bool false)), none, 0⟩] false) (.cond (.tmp 94) (.ops [⟨(some 95), .move (.tmp 8), none, 0⟩,
    ⟨(some 96), .move (.tmp 11), none, 0⟩,
    ⟨(some 97), .iaddr 1 (.tmp 95) (.tmp 96), none, 0⟩,
    ⟨(some 98), .load1 (.tmp 97), none, 0⟩,
    ⟨(some 99), .bin .add (.tmp 98) (.const (.int .i64 1)), none, 0⟩,
    ⟨(some 100), .iaddr 1 (.tmp 95) (.tmp 96), none, 0⟩,
    ⟨none, .store 1 (.tmp 100) (.tmp 99), none, 0⟩] false) (.skip)))) (.ops [⟨(some 79), .move (.tmp 12), none, 0⟩,
    ⟨(some 80), .bin .add (.tmp 79) (.const (.int .i64 1)), none, 0⟩,
    ⟨(some 12), .move (.tmp 80), none, 0⟩] false))
def c28_1 : PC := .seq (.seq (.ops [⟨(some 29), .move (.tmp 11), none, 0⟩,
    ⟨(some 30), .move (.tmp 1), none, 0⟩,
    ⟨(some 31), .len (.tmp 30), none, 0⟩,
    ⟨(some 32), .bin .lss (.tmp 29) (.tmp 31), none, 0⟩] false) (.cond (.tmp 32) (.skip) (.exit 0))) (.seq (.block 1 (.seq (.ops [⟨(some 35), .move (.tmp 8), none, 0⟩,
    ⟨(some 36), .move (.tmp 11), none, 0⟩,
    ⟨(some 37), .move (.tmp 1), none, 0⟩,
    ⟨(some 38), .move (.tmp 11), none, 0⟩,
    ⟨(some 39), .iaddr 1 (.tmp 37) (.tmp 38), none, 0⟩,
    ⟨(some 40), .load1 (.tmp 39), none, 0⟩,
    ⟨(some 41), .iaddr 1 (.tmp 35) (.tmp 36), none, 0⟩,
    ⟨none, .store 1 (.tmp 41) (.tmp 40), none, 0⟩] false) (.seq (.seq (.ops [⟨(some 42), .faddr 1 (.tmp 3), none, 0⟩,
    ⟨(some 43), .load1 (.tmp 42), none, 1⟩,
    ⟨(some 44), .move (.tmp 11), none, 0⟩,
    ⟨(some 45), .iaddr 2 (.tmp 43) (.tmp 44), none, 7⟩,
    ⟨(some 46), .faddr 1 (.tmp 45), none, 15⟩,
    ⟨(some 47), .load1 (.tmp 46), none, 31⟩,
    ⟨(some 48), .faddr 0 (.tmp 5), none, 0⟩,
    ⟨(some 49), .load1 (.tmp 48), none, 64⟩,
    ⟨(some 50), .bin .eql (.tmp 47) (.tmp 49), none, 255⟩,
    ⟨(some 51), .move (.tmp 50), none, 511⟩,
    ⟨(some 52), .faddr 1 (.tmp 5), (some (51, true)), 1023⟩,
    ⟨(some 53), .load1 (.tmp 52), (some (51, true)), 2047⟩,
    ⟨(some 54), .move (.tmp 11), (some (51, true)), 1023⟩,
    ⟨(some 55), .bin .eql (.tmp 53) (.tmp 54), (some (51, true)), 8191⟩,
    ⟨(some 56), .move (.tmp 55), (some (51, true)), 16383⟩,
    ⟨(some 57), .faddr 1 (.tmp 5), (some (56, false)), 32767⟩,
    ⟨(some 58), .load1 (.tmp 57), (some (56, false)), 65535⟩,
    ⟨(some 59), .bin .lss (.tmp 58) (.const (.int .i64 0)), (some (56, false)), 131071⟩,
    ⟨(some 60), .move (.tmp 59), (some (56, false)), 262143⟩,
    ⟨(some 61), .move (.tmp 1), (some (60, true)), 524287⟩,
    ⟨(some 62), .move (.tmp 11), (some (60, true)), 524287⟩,
    ⟨(some 63), .iaddr 1 (.tmp 61) (.tmp 62), (some (60, true)), 2097151⟩,
    ⟨(some 64), .load1 (.tmp 63), (some (60, true)), 4194303⟩,
    ⟨(some 65), .bin .gtr (.tmp 64) (.const (.int .i64 0)), (some (60, true)), 8388607⟩,
    ⟨(some 66), .pick (.tmp 60) (.tmp 65) (.const (.bool false)), (some (56, false)), 16777215⟩,
    ⟨(some 67), .pick (.tmp 56) (.const (.bool true)) (.tmp 66), (some (51, true)), 33554431⟩,
    ⟨(some 68), .pick (.tmp 51) (.tmp 67) (.const (.bool false)), none, 67108863⟩] true) (.cond (.tmp 68) (.ops [⟨(some 69), .move (.tmp 8), none, 0⟩,
    ⟨(some 70), .move (.tmp 11), none, 0⟩,
    ⟨(some 71), .iaddr 1 (.tmp 69) (.tmp 70), none, 0⟩,
    ⟨(some 72), .load1 (.tmp 71), none, 0⟩,
    ⟨(some 73), .bin .sub (.tmp 72) (.const (.int .i64 1)), none, 0⟩,
    ⟨(some 74), .iaddr 1 (.tmp 69) (.tmp 70), none, 0⟩,
    ⟨none, .store 1 (.tmp 74) (.tmp 73), none, 0⟩] false) (.skip))) (.seq (.seq (.ops [⟨(some 12), .move (.const (.int .i64 0)), none, 0⟩] false) (.block 2 (.loop c28_2))) (.seq (.ops [⟨(some 101), .move (.tmp 8), none, 0⟩,
    ⟨(some 102), .move (.tmp 11), none, 0⟩,
    ⟨(some 103), .iaddr 1 (.tmp 101) (.tmp 102), none, 0⟩,
    ⟨(some 104), .load1 (.tmp 103), none, 0⟩,
    ⟨(some 105), .bin .gtr (.tmp 104) (.const (.int .i64 9)), none, 0⟩] false) (.cond (.tmp 105) (.ops [⟨(some 10), .move (.const (.int .i64 7)), none, 0⟩] false) (.skip))))))) (.ops [⟨(some 33), .move (.tmp 11), none, 0⟩,
    ⟨(some 34), .bin .add (.tmp 33) (.const (.int .i64 1)), none, 0⟩,
    ⟨(some 11), .move (.tmp 34), none, 0⟩] false))
def c28 : PC := .seq (.ops [⟨(some 3), .box (.tmp 0), none, 0⟩,
    ⟨(some 5), .box (.tmp 2), none, 0⟩,
    ⟨(some 6), .move (.const (.slice none 0 0)), none, 0⟩,
    ⟨(some 7), .move (.const (.int .i64 0)), none, 0⟩] false) (.seq (.ops [⟨(some 13), .move (.tmp 1), none, 0⟩,
    ⟨(some 14), .len (.tmp 13), none, 0⟩,
    ⟨(some 15), .mslice 1 8 [(.int .i64 0)] (.tmp 14) (.tmp 14), none, 0⟩,
    ⟨(some 8), .move (.tmp 15), none, 0⟩] false) (.seq (.seq (.ops [⟨(some 16), .faddr 0 (.tmp 3), none, 0⟩,
    ⟨(some 17), .load1 (.tmp 16), none, 0⟩,
    ⟨(some 18), .faddr 0 (.tmp 5), none, 0⟩,
    ⟨(some 19), .load1 (.tmp 18), none, 0⟩,
    ⟨(some 20), .iaddr 2 (.tmp 17) (.tmp 19), none, 0⟩,
    ⟨(some 21), .faddr 1 (.tmp 20), none, 0⟩,
    ⟨(some 22), .load1 (.tmp 21), none, 0⟩,
    ⟨(some 23), .bin .eql (.tmp 22) (.const (.int .i64 3)), none, 0⟩] false) (.cond (.tmp 23) (.seq (.ops [⟨(some 24), .move (.tmp 8), none, 0⟩,
    ⟨(some 6), .move (.tmp 24), none, 0⟩,
    ⟨(some 7), .move (.const (.int .i64 0)), none, 0⟩] false) (.ret)) (.skip))) (.seq (.ops [⟨(some 25), .loadA 2 (.tmp 3), none, 0⟩,
    ⟨(some 26), .faddr 0 (.tmp 5), none, 0⟩,
    ⟨(some 27), .load1 (.tmp 26), none, 0⟩,
    ⟨(some 28), .call 68 [(.tmp 25), (.tmp 27)], none, 0⟩,
    ⟨(some 9), .move (.tmp 28), none, 0⟩] false) (.seq (.ops [⟨(some 10), .move (.const (.int .i64 0)), none, 0⟩] false) (.seq (.seq (.ops [⟨(some 11), .move (.const (.int .i64 0)), none, 0⟩] false) (.block 0 (.loop c28_1))) (.seq (.seq (.ops [⟨(some 106), .move (.tmp 10), none, 0⟩,
    ⟨(some 107), .bin .neq (.tmp 106) (.const (.int .i64 0)), none, 0⟩] false) (.cond (.tmp 107) (.seq (.ops [⟨(some 108), .move (.tmp 10), none, 0⟩,
    ⟨(some 6), .move (.const (.slice none 0 0)), none, 0⟩,
    ⟨(some 7), .move (.tmp 108), none, 0⟩] false) (.ret)) (.skip))) (.seq (.ops [⟨(some 109), .move (.tmp 8), none, 0⟩,
    ⟨(some 6), .move (.tmp 109), none, 0⟩,
    ⟨(some 7), .move (.const (.int .i64 0)), none, 0⟩] false) (.ret))))))))
set_option maxRecDepth 100000 in
theorem c28_ok : FunOK Try.prog 28 110 [.tmp 6, .tmp 7] c28 := ⟨⟨Try.f28, Try.func28, rfl, by kernel_rfl, rfl, by kernel_rfl⟩⟩
set_option maxRecDepth 100000 in
theorem ref_Fire (P : ProcD) (hP : P.Fits) (h0 : P.chk = 0) (M : List Int) (hM : P.Mark M) (s : StepD) (hs : P.StepOK s) :
    PCall Try.prog 28 [dproc P, dints M, .agg (srow s)] (.tup [dints (P.fireL M s), .sc (.int .i64 (P.fireE M s))]) := by
  obtain ⟨hs1, hs2⟩ := chk_small h0
  have hn := hs.node
  have l2 := P.outL_len s.1
  have lM := hM.len
  have hout := hs.out
  have eE : P.fireE M s = if P.kind s.1.toNat = 3 then 0 else if ∃ f, f < P.flows.length ∧ 9 < P.finI M s f then 7 else 0 := by unfold ProcD.fireE; rfl
  have eL : P.fireL M s = if P.kind s.1.toNat = 3 then gl P.flows.length fun _ => 0 else if P.fireE M s = 0 then gl P.flows.length (P.finI M s) else [] := rfl
  refine pcall_intro c28_ok (by simp) (by simp [PureL, Pure, pure_dproc, pure_dints, pure_srow]) ?_ (by simp [Pure, PureL, pure_dints])
  (apply rd_sound; focus (repeat' constructor))
  ((conv=>whnf);repeat(refine And.intro rfl ?_;(conv=>whnf)))
  rw [List.length_map, lM]
  refine ⟨by omega, by omega, by omega, ?_⟩
  rw [Int.toNat_natCast, show List.map D.sc [Value.int .i64 0] = [D.sc (.int .i64 0)] from rfl, gl_rep]
  ((conv=>whnf);repeat(refine And.intro rfl ?_;(conv=>whnf)))
  refine ⟨by omega, _, node_at P (k := s.1.toNat) (by omega) (by omega), ?_⟩
  ((conv=>whnf);repeat(refine And.intro rfl ?_;(conv=>whnf)))
  (refine ifK_split (fun h1 => ?_) (fun h1 => ?_) <;> (rw [h1]; ((conv=>whnf);repeat(refine And.intro rfl ?_;(conv=>whnf)))))
  · have h1 : P.kind s.1.toNat = 3 := by ((try simp only [oo, reduceCtorEq] at *) <;> omega)
    rw [if_pos h1] at eE eL
    rw [eE, eL]
    exact .tup _ _ (.cons _ _ _ _ (deep_gl rfl) (.cons _ _ _ _ (.refl _) .nil))
  have h1 : P.kind s.1.toNat ≠ 3 := by ((try simp only [oo, reduceCtorEq] at *) <;> omega)
  rw [if_neg h1] at eE eL
  (refine .inl ⟨_, (ref_FlowsOut P hP (by omega) s.1), ?_⟩; ((conv=>whnf);repeat(refine And.intro rfl ?_;(conv=>whnf))))
  refine pwp_for [1, 3, 5, 8, 9] (fun ((f, g) : Nat × (Nat → Int)) => [(10, .sc (.int .i64 (P.errTo M s f))), (11, .sc (.int .i64 f))]) (fun (f, g) => [(2, .vec true 0 1 (i64s (gl P.flows.length g)))]) (fun (f, g) => f ≤ P.flows.length ∧ ∀ i, g i = if i < f then P.finI M s i else 0) (fun (f, g) => P.flows.length - f) (0, fun _ => 0) ?_
  ((conv=>whnf);repeat(refine And.intro rfl ?_;(conv=>whnf)))
  refine ⟨⟨by omega, fun i => rfl⟩, by (repeat' (first | exact trivial | refine And.intro rfl ?_)), rfl, ?_⟩
  rintro ⟨f, g⟩ ⟨hf, hg⟩
  ((conv=>whnf);repeat(refine And.intro rfl ?_;(conv=>whnf)))
  (apply rd_sound; focus (repeat' constructor))
  ((conv=>whnf);repeat(refine And.intro rfl ?_;(conv=>whnf)))
  rw [List.length_map, lM]
  (refine ifK_split (fun h2 => ?_) (fun h2 => ?_) <;> (rw [h2]; ((conv=>whnf);repeat(refine And.intro rfl ?_;(conv=>whnf)))))
  · have hf' : f < P.flows.length := by ((try simp only [oo, reduceCtorEq] at *) <;> omega)
    have v1 := hM.pos f
    have v2 := hM.top f
    have b1 := ProcD.baseI_ok hM s f
    have eBase : P.baseI M s f = val M f - if P.decB M s f = true then 1 else 0 := rfl
    have eD0 : P.decB M s f = (decide (P.dst f = s.1) && (s.2.1 == (f : Int) || decide (s.2.1 < 0) && decide (0 < val M f))) := rfl
    refine ⟨by omega, _, val_at (k := f) (by omega) (by omega), ?_⟩
    ((conv=>whnf);repeat(refine And.intro rfl ?_;(conv=>whnf)))
    (refine ⟨by omega, (by first | omega | (simp; done) | (simp; omega) | (simp only [ll]; omega)), ?_⟩; ((conv=>whnf);repeat(refine And.intro rfl ?_;(conv=>whnf))))
    refine ⟨_, gl_atN f (by omega) (by omega), ?_⟩
    ((conv=>whnf);repeat(refine And.intro rfl ?_;(conv=>whnf)))
    rw [gl_set (k := f) (by omega)]
    refine ⟨by omega, _, flow_at P (k := f) (by omega) hf', ?_⟩
    ((conv=>whnf);repeat(refine And.intro rfl ?_;(conv=>whnf)))
    cases h3 : (P.dst f == s.1)
    · have eD : P.decB M s f = false := by rw [eD0, decide_eq_false (by ((try simp only [oo, reduceCtorEq] at *) <;> omega))]; rfl
      rw [if_neg (by rw [eD]; decide), Int.sub_zero] at eBase
      ((conv=>whnf);repeat(refine And.intro rfl ?_;(conv=>whnf)))
      rw [← eBase]
      refine pwp_for [1, 3, 5, 8, 9, 10, 11] (fun k : Nat => [(12, .sc (.int .i64 k))]) (fun k => [(2, .vec true 0 1 (i64s (gl P.flows.length (putA g f (P.baseI M s f + P.incs s f k)))))]) (fun k => k ≤ (P.outL s.1).length) (fun k => (P.outL s.1).length - k) 0 ?_
      ((conv=>whnf);repeat(refine And.intro rfl ?_;(conv=>whnf)))
      refine ⟨by omega, by (repeat' (first | exact trivial | refine And.intro rfl ?_)), by rw [show P.incs s f 0 = 0 from rfl, Int.add_zero]; rfl, ?_⟩
      rintro k hk
      ((conv=>whnf);repeat(refine And.intro rfl ?_;(conv=>whnf)))
      (apply rd_sound; focus (repeat' constructor))
      ((conv=>whnf);repeat(refine And.intro rfl ?_;(conv=>whnf)))
      rw [List.length_map]
      (refine ifK_split (fun h8 => ?_) (fun h8 => ?_) <;> (rw [h8]; ((conv=>whnf);repeat(refine And.intro rfl ?_;(conv=>whnf)))))
      · have hk' : k < (P.outL s.1).length := by ((try simp only [oo, reduceCtorEq] at *) <;> omega)
        have hoa := ProcD.outAt_ok (P := P) (n := s.1) hk'
        have b2 := ProcD.incs_ok P s f k
        refine ⟨by omega, _, intsD_at (k := k) (by omega) hk', ?_⟩
        ((conv=>whnf);repeat(refine And.intro rfl ?_;(conv=>whnf)))
        rw [show (P.outL s.1).getD k 0 = P.outAt s.1 k from rfl]
        cases h9 : (P.outAt s.1 k == (f : Int))
        · ((conv=>whnf);repeat(refine And.intro rfl ?_;(conv=>whnf)))
          (refine .inl ⟨by (unfold InR; rw [IntKind.wrap_i64]; omega), ?_⟩; ((conv=>whnf);repeat(refine And.intro rfl ?_;(conv=>whnf))))
          refine ⟨k + 1, by omega, by dsimp only; omega, leB_envH (by (repeat' (first | exact trivial | refine And.intro rfl ?_))) ?_⟩
          have := ProcD.incs_miss (P := P) (s := s) (k := k) (f := f) (.inl (by ((try simp only [oo, reduceCtorEq] at *) <;> omega)))
          dsimp only
          rw [this]
          rfl
        · have h9 : P.outAt s.1 k = (f : Int) := by ((try simp only [oo, reduceCtorEq] at *) <;> omega)
          ((conv=>whnf);repeat(refine And.intro rfl ?_;(conv=>whnf)))
          refine ⟨by omega, ?_⟩
          ((conv=>whnf);repeat(refine And.intro rfl ?_;(conv=>whnf)))
          refine ⟨by decide, ?_⟩
          ((conv=>whnf);repeat(refine And.intro rfl ?_;(conv=>whnf)))
          have eb : ((s.2.2.fdiv (2 ^ min (k : Int).toNat IntKind.i64.bits)).tmod 2 == 1) = bitB s.2.2 k := rfl
          rw [eb]
          cases hb : bitB s.2.2 k
          · ((conv=>whnf);repeat(refine And.intro rfl ?_;(conv=>whnf)))
            (refine .inl ⟨by (unfold InR; rw [IntKind.wrap_i64]; omega), ?_⟩; ((conv=>whnf);repeat(refine And.intro rfl ?_;(conv=>whnf))))
            refine ⟨k + 1, by omega, by dsimp only; omega, leB_envH (by (repeat' (first | exact trivial | refine And.intro rfl ?_))) ?_⟩
            have := ProcD.incs_miss (P := P) (s := s) (k := k) (f := f) (.inr hb)
            dsimp only
            rw [this]
            rfl
          · have hh := ProcD.incs_hit h9 hb
            ((conv=>whnf);repeat(refine And.intro rfl ?_;(conv=>whnf)))
            (refine ⟨by omega, (by first | omega | (simp; done) | (simp; omega) | (simp only [ll]; omega)), ?_⟩; ((conv=>whnf);repeat(refine And.intro rfl ?_;(conv=>whnf))))
            refine ⟨_, gl_atN f (by omega) (by omega), ?_⟩
            ((conv=>whnf);repeat(refine And.intro rfl ?_;(conv=>whnf)))
            rw [putA_self]
            (refine .inl ⟨by (unfold InR; rw [IntKind.wrap_i64]; omega), ?_⟩; ((conv=>whnf);repeat(refine And.intro rfl ?_;(conv=>whnf))))
            (refine ⟨by omega, (by first | omega | (simp; done) | (simp; omega) | (simp only [ll]; omega)), ?_⟩; ((conv=>whnf);repeat(refine And.intro rfl ?_;(conv=>whnf))))
            refine ⟨_, gl_atN f (by omega) (by omega), ?_⟩
            ((conv=>whnf);repeat(refine And.intro rfl ?_;(conv=>whnf)))
            (refine .inl ⟨by (unfold InR; rw [IntKind.wrap_i64]; omega), ?_⟩; ((conv=>whnf);repeat(refine And.intro rfl ?_;(conv=>whnf))))
            refine ⟨k + 1, by omega, by dsimp only; omega, leB_envH (by (repeat' (first | exact trivial | refine And.intro rfl ?_))) ?_⟩
            dsimp only
            rw [gl_set (k := f) (by omega), putA_put, hh, ← Int.add_assoc]
            rfl
      have hk' : k = (P.outL s.1).length := by have : ¬ k < (P.outL s.1).length := by ((try simp only [oo, reduceCtorEq] at *) <;> omega)
                                               omega
      subst hk'
      (refine ⟨by omega, (by first | omega | (simp; done) | (simp; omega) | (simp only [ll]; omega)), ?_⟩; ((conv=>whnf);repeat(refine And.intro rfl ?_;(conv=>whnf))))
      refine ⟨_, gl_atN f (by omega) (by omega), ?_⟩
      ((conv=>whnf);repeat(refine And.intro rfl ?_;(conv=>whnf)))
      rw [putA_self, show P.baseI M s f + P.incs s f (P.outL s.1).length = P.finI M s f from rfl]
      have eT : P.errTo M s (f + 1) = if 9 < P.finI M s f then 7 else P.errTo M s f := rfl
      have hnext : ∀ i, putA g f (P.finI M s f) i = if i < f + 1 then P.finI M s i else 0 := fun i => by
        by_cases e : i = f
        · subst e; rw [putA_self, if_pos (by omega)]
        · rw [putA_ne e, hg]
          by_cases q : i < f
          · rw [if_pos q, if_pos (by omega)]
          · rw [if_neg q, if_neg (by omega)]
      (refine ifK_split (fun h10 => ?_) (fun h10 => ?_) <;> (rw [h10]; ((conv=>whnf);repeat(refine And.intro rfl ?_;(conv=>whnf)))))
      · rw [if_pos (by ((try simp only [oo, reduceCtorEq] at *) <;> omega))] at eT
        (refine .inl ⟨by (unfold InR; rw [IntKind.wrap_i64]; omega), ?_⟩; ((conv=>whnf);repeat(refine And.intro rfl ?_;(conv=>whnf))))
        refine ⟨(f + 1, putA g f (P.finI M s f)), ⟨by omega, hnext⟩, by dsimp only; omega, leB_envH ⟨by simp only [eT]; rfl, by (repeat' (first | exact trivial | refine And.intro rfl ?_))⟩ rfl⟩
      · rw [if_neg (by ((try simp only [oo, reduceCtorEq] at *) <;> omega))] at eT
        (refine .inl ⟨by (unfold InR; rw [IntKind.wrap_i64]; omega), ?_⟩; ((conv=>whnf);repeat(refine And.intro rfl ?_;(conv=>whnf))))
        refine ⟨(f + 1, putA g f (P.finI M s f)), ⟨by omega, hnext⟩, by dsimp only; omega, leB_envH ⟨by simp only [eT]; rfl, by (repeat' (first | exact trivial | refine And.intro rfl ?_))⟩ rfl⟩
    · rw [decide_eq_true (by ((try simp only [oo, reduceCtorEq] at *) <;> omega)), Bool.true_and] at eD0
      ((conv=>whnf);repeat(refine And.intro rfl ?_;(conv=>whnf)))
      cases h4 : (s.2.1 == (f : Int))
      · rw [h4, Bool.false_or] at eD0
        ((conv=>whnf);repeat(refine And.intro rfl ?_;(conv=>whnf)))
        cases h5 : decide (s.2.1 < 0)
        · have eD : P.decB M s f = false := by rw [eD0, h5]; rfl
          rw [if_neg (by rw [eD]; decide), Int.sub_zero] at eBase
          ((conv=>whnf);repeat(refine And.intro rfl ?_;(conv=>whnf)))
          rw [← eBase]
          refine pwp_for [1, 3, 5, 8, 9, 10, 11] (fun k : Nat => [(12, .sc (.int .i64 k))]) (fun k => [(2, .vec true 0 1 (i64s (gl P.flows.length (putA g f (P.baseI M s f + P.incs s f k)))))]) (fun k => k ≤ (P.outL s.1).length) (fun k => (P.outL s.1).length - k) 0 ?_
          ((conv=>whnf);repeat(refine And.intro rfl ?_;(conv=>whnf)))
          refine ⟨by omega, by (repeat' (first | exact trivial | refine And.intro rfl ?_)), by rw [show P.incs s f 0 = 0 from rfl, Int.add_zero]; rfl, ?_⟩
          rintro k hk
          ((conv=>whnf);repeat(refine And.intro rfl ?_;(conv=>whnf)))
          (apply rd_sound; focus (repeat' constructor))
          ((conv=>whnf);repeat(refine And.intro rfl ?_;(conv=>whnf)))
          rw [List.length_map]
          (refine ifK_split (fun h8 => ?_) (fun h8 => ?_) <;> (rw [h8]; ((conv=>whnf);repeat(refine And.intro rfl ?_;(conv=>whnf)))))
          · have hk' : k < (P.outL s.1).length := by ((try simp only [oo, reduceCtorEq] at *) <;> omega)
            have hoa := ProcD.outAt_ok (P := P) (n := s.1) hk'
            have b2 := ProcD.incs_ok P s f k
            refine ⟨by omega, _, intsD_at (k := k) (by omega) hk', ?_⟩
            ((conv=>whnf);repeat(refine And.intro rfl ?_;(conv=>whnf)))
            rw [show (P.outL s.1).getD k 0 = P.outAt s.1 k from rfl]
            cases h9 : (P.outAt s.1 k == (f : Int))
            · ((conv=>whnf);repeat(refine And.intro rfl ?_;(conv=>whnf)))
              (refine .inl ⟨by (unfold InR; rw [IntKind.wrap_i64]; omega), ?_⟩; ((conv=>whnf);repeat(refine And.intro rfl ?_;(conv=>whnf))))
              refine ⟨k + 1, by omega, by dsimp only; omega, leB_envH (by (repeat' (first | exact trivial | refine And.intro rfl ?_))) ?_⟩
              have := ProcD.incs_miss (P := P) (s := s) (k := k) (f := f) (.inl (by ((try simp only [oo, reduceCtorEq] at *) <;> omega)))
              dsimp only
              rw [this]
              rfl
            · have h9 : P.outAt s.1 k = (f : Int) := by ((try simp only [oo, reduceCtorEq] at *) <;> omega)
              ((conv=>whnf);repeat(refine And.intro rfl ?_;(conv=>whnf)))
              refine ⟨by omega, ?_⟩
              ((conv=>whnf);repeat(refine And.intro rfl ?_;(conv=>whnf)))
              refine ⟨by decide, ?_⟩
              ((conv=>whnf);repeat(refine And.intro rfl ?_;(conv=>whnf)))
              have eb : ((s.2.2.fdiv (2 ^ min (k : Int).toNat IntKind.i64.bits)).tmod 2 == 1) = bitB s.2.2 k := rfl
              rw [eb]
              cases hb : bitB s.2.2 k
              · ((conv=>whnf);repeat(refine And.intro rfl ?_;(conv=>whnf)))
                (refine .inl ⟨by (unfold InR; rw [IntKind.wrap_i64]; omega), ?_⟩; ((conv=>whnf);repeat(refine And.intro rfl ?_;(conv=>whnf))))
                refine ⟨k + 1, by omega, by dsimp only; omega, leB_envH (by (repeat' (first | exact trivial | refine And.intro rfl ?_))) ?_⟩
                have := ProcD.incs_miss (P := P) (s := s) (k := k) (f := f) (.inr hb)
                dsimp only
                rw [this]
                rfl
              · have hh := ProcD.incs_hit h9 hb
                ((conv=>whnf);repeat(refine And.intro rfl ?_;(conv=>whnf)))
                (refine ⟨by omega, (by first | omega | (simp; done) | (simp; omega) | (simp only [ll]; omega)), ?_⟩; ((conv=>whnf);repeat(refine And.intro rfl ?_;(conv=>whnf))))
                refine ⟨_, gl_atN f (by omega) (by omega), ?_⟩
                ((conv=>whnf);repeat(refine And.intro rfl ?_;(conv=>whnf)))
                rw [putA_self]
                (refine .inl ⟨by (unfold InR; rw [IntKind.wrap_i64]; omega), ?_⟩; ((conv=>whnf);repeat(refine And.intro rfl ?_;(conv=>whnf))))
                (refine ⟨by omega, (by first | omega | (simp; done) | (simp; omega) | (simp only [ll]; omega)), ?_⟩; ((conv=>whnf);repeat(refine And.intro rfl ?_;(conv=>whnf))))
                refine ⟨_, gl_atN f (by omega) (by omega), ?_⟩
                ((conv=>whnf);repeat(refine And.intro rfl ?_;(conv=>whnf)))
                (refine .inl ⟨by (unfold InR; rw [IntKind.wrap_i64]; omega), ?_⟩; ((conv=>whnf);repeat(refine And.intro rfl ?_;(conv=>whnf))))
                refine ⟨k + 1, by omega, by dsimp only; omega, leB_envH (by (repeat' (first | exact trivial | refine And.intro rfl ?_))) ?_⟩
                dsimp only
                rw [gl_set (k := f) (by omega), putA_put, hh, ← Int.add_assoc]
                rfl
          have hk' : k = (P.outL s.1).length := by have : ¬ k < (P.outL s.1).length := by ((try simp only [oo, reduceCtorEq] at *) <;> omega)
                                                   omega
          subst hk'
          (refine ⟨by omega, (by first | omega | (simp; done) | (simp; omega) | (simp only [ll]; omega)), ?_⟩; ((conv=>whnf);repeat(refine And.intro rfl ?_;(conv=>whnf))))
          refine ⟨_, gl_atN f (by omega) (by omega), ?_⟩
          ((conv=>whnf);repeat(refine And.intro rfl ?_;(conv=>whnf)))
          rw [putA_self, show P.baseI M s f + P.incs s f (P.outL s.1).length = P.finI M s f from rfl]
          have eT : P.errTo M s (f + 1) = if 9 < P.finI M s f then 7 else P.errTo M s f := rfl
          have hnext : ∀ i, putA g f (P.finI M s f) i = if i < f + 1 then P.finI M s i else 0 := fun i => by
            by_cases e : i = f
            · subst e; rw [putA_self, if_pos (by omega)]
            · rw [putA_ne e, hg]
              by_cases q : i < f
              · rw [if_pos q, if_pos (by omega)]
              · rw [if_neg q, if_neg (by omega)]
          (refine ifK_split (fun h10 => ?_) (fun h10 => ?_) <;> (rw [h10]; ((conv=>whnf);repeat(refine And.intro rfl ?_;(conv=>whnf)))))
          · rw [if_pos (by ((try simp only [oo, reduceCtorEq] at *) <;> omega))] at eT
            (refine .inl ⟨by (unfold InR; rw [IntKind.wrap_i64]; omega), ?_⟩; ((conv=>whnf);repeat(refine And.intro rfl ?_;(conv=>whnf))))
            refine ⟨(f + 1, putA g f (P.finI M s f)), ⟨by omega, hnext⟩, by dsimp only; omega, leB_envH ⟨by simp only [eT]; rfl, by (repeat' (first | exact trivial | refine And.intro rfl ?_))⟩ rfl⟩
          · rw [if_neg (by ((try simp only [oo, reduceCtorEq] at *) <;> omega))] at eT
            (refine .inl ⟨by (unfold InR; rw [IntKind.wrap_i64]; omega), ?_⟩; ((conv=>whnf);repeat(refine And.intro rfl ?_;(conv=>whnf))))
            refine ⟨(f + 1, putA g f (P.finI M s f)), ⟨by omega, hnext⟩, by dsimp only; omega, leB_envH ⟨by simp only [eT]; rfl, by (repeat' (first | exact trivial | refine And.intro rfl ?_))⟩ rfl⟩
        · rw [h5, Bool.true_and] at eD0
          ((conv=>whnf);repeat(refine And.intro rfl ?_;(conv=>whnf)))
          refine ⟨by omega, _, val_at (k := f) (by omega) (by omega), ?_⟩
          ((conv=>whnf);repeat(refine And.intro rfl ?_;(conv=>whnf)))
          cases h6 : decide (val M f > 0)
          · have eD : P.decB M s f = false := by rw [eD0]; exact h6
            rw [if_neg (by rw [eD]; decide), Int.sub_zero] at eBase
            ((conv=>whnf);repeat(refine And.intro rfl ?_;(conv=>whnf)))
            rw [← eBase]
            refine pwp_for [1, 3, 5, 8, 9, 10, 11] (fun k : Nat => [(12, .sc (.int .i64 k))]) (fun k => [(2, .vec true 0 1 (i64s (gl P.flows.length (putA g f (P.baseI M s f + P.incs s f k)))))]) (fun k => k ≤ (P.outL s.1).length) (fun k => (P.outL s.1).length - k) 0 ?_
            ((conv=>whnf);repeat(refine And.intro rfl ?_;(conv=>whnf)))
            refine ⟨by omega, by (repeat' (first | exact trivial | refine And.intro rfl ?_)), by rw [show P.incs s f 0 = 0 from rfl, Int.add_zero]; rfl, ?_⟩
            rintro k hk
            ((conv=>whnf);repeat(refine And.intro rfl ?_;(conv=>whnf)))
            (apply rd_sound; focus (repeat' constructor))
            ((conv=>whnf);repeat(refine And.intro rfl ?_;(conv=>whnf)))
            rw [List.length_map]
            (refine ifK_split (fun h8 => ?_) (fun h8 => ?_) <;> (rw [h8]; ((conv=>whnf);repeat(refine And.intro rfl ?_;(conv=>whnf)))))
            · have hk' : k < (P.outL s.1).length := by ((try simp only [oo, reduceCtorEq] at *) <;> omega)
              have hoa := ProcD.outAt_ok (P := P) (n := s.1) hk'
              have b2 := ProcD.incs_ok P s f k
              refine ⟨by omega, _, intsD_at (k := k) (by omega) hk', ?_⟩
              ((conv=>whnf);repeat(refine And.intro rfl ?_;(conv=>whnf)))
              rw [show (P.outL s.1).getD k 0 = P.outAt s.1 k from rfl]
              cases h9 : (P.outAt s.1 k == (f : Int))
              · ((conv=>whnf);repeat(refine And.intro rfl ?_;(conv=>whnf)))
                (refine .inl ⟨by (unfold InR; rw [IntKind.wrap_i64]; omega), ?_⟩; ((conv=>whnf);repeat(refine And.intro rfl ?_;(conv=>whnf))))
                refine ⟨k + 1, by omega, by dsimp only; omega, leB_envH (by (repeat' (first | exact trivial | refine And.intro rfl ?_))) ?_⟩
                have := ProcD.incs_miss (P := P) (s := s) (k := k) (f := f) (.inl (by ((try simp only [oo, reduceCtorEq] at *) <;> omega)))
                dsimp only
                rw [this]
                rfl
              · have h9 : P.outAt s.1 k = (f : Int) := by ((try simp only [oo, reduceCtorEq] at *) <;> omega)
                ((conv=>whnf);repeat(refine And.intro rfl ?_;(conv=>whnf)))
                refine ⟨by omega, ?_⟩
                ((conv=>whnf);repeat(refine And.intro rfl ?_;(conv=>whnf)))
                refine ⟨by decide, ?_⟩
                ((conv=>whnf);repeat(refine And.intro rfl ?_;(conv=>whnf)))
                have eb : ((s.2.2.fdiv (2 ^ min (k : Int).toNat IntKind.i64.bits)).tmod 2 == 1) = bitB s.2.2 k := rfl
                rw [eb]
                cases hb : bitB s.2.2 k
                · ((conv=>whnf);repeat(refine And.intro rfl ?_;(conv=>whnf)))
                  (refine .inl ⟨by (unfold InR; rw [IntKind.wrap_i64]; omega), ?_⟩; ((conv=>whnf);repeat(refine And.intro rfl ?_;(conv=>whnf))))
                  refine ⟨k + 1, by omega, by dsimp only; omega, leB_envH (by (repeat' (first | exact trivial | refine And.intro rfl ?_))) ?_⟩
                  have := ProcD.incs_miss (P := P) (s := s) (k := k) (f := f) (.inr hb)
                  dsimp only
                  rw [this]
                  rfl
                · have hh := ProcD.incs_hit h9 hb
                  ((conv=>whnf);repeat(refine And.intro rfl ?_;(conv=>whnf)))
                  (refine ⟨by omega, (by first | omega | (simp; done) | (simp; omega) | (simp only [ll]; omega)), ?_⟩; ((conv=>whnf);repeat(refine And.intro rfl ?_;(conv=>whnf))))
                  refine ⟨_, gl_atN f (by omega) (by omega), ?_⟩
                  ((conv=>whnf);repeat(refine And.intro rfl ?_;(conv=>whnf)))
                  rw [putA_self]
                  (refine .inl ⟨by (unfold InR; rw [IntKind.wrap_i64]; omega), ?_⟩; ((conv=>whnf);repeat(refine And.intro rfl ?_;(conv=>whnf))))
                  (refine ⟨by omega, (by first | omega | (simp; done) | (simp; omega) | (simp only [ll]; omega)), ?_⟩; ((conv=>whnf);repeat(refine And.intro rfl ?_;(conv=>whnf))))
                  refine ⟨_, gl_atN f (by omega) (by omega), ?_⟩
                  ((conv=>whnf);repeat(refine And.intro rfl ?_;(conv=>whnf)))
                  (refine .inl ⟨by (unfold InR; rw [IntKind.wrap_i64]; omega), ?_⟩; ((conv=>whnf);repeat(refine And.intro rfl ?_;(conv=>whnf))))
                  refine ⟨k + 1, by omega, by dsimp only; omega, leB_envH (by (repeat' (first | exact trivial | refine And.intro rfl ?_))) ?_⟩
                  dsimp only
                  rw [gl_set (k := f) (by omega), putA_put, hh, ← Int.add_assoc]
                  rfl
            have hk' : k = (P.outL s.1).length := by have : ¬ k < (P.outL s.1).length := by ((try simp only [oo, reduceCtorEq] at *) <;> omega)
                                                     omega
            subst hk'
            (refine ⟨by omega, (by first | omega | (simp; done) | (simp; omega) | (simp only [ll]; omega)), ?_⟩; ((conv=>whnf);repeat(refine And.intro rfl ?_;(conv=>whnf))))
            refine ⟨_, gl_atN f (by omega) (by omega), ?_⟩
            ((conv=>whnf);repeat(refine And.intro rfl ?_;(conv=>whnf)))
            rw [putA_self, show P.baseI M s f + P.incs s f (P.outL s.1).length = P.finI M s f from rfl]
            have eT : P.errTo M s (f + 1) = if 9 < P.finI M s f then 7 else P.errTo M s f := rfl
            have hnext : ∀ i, putA g f (P.finI M s f) i = if i < f + 1 then P.finI M s i else 0 := fun i => by
              by_cases e : i = f
              · subst e; rw [putA_self, if_pos (by omega)]
              · rw [putA_ne e, hg]
                by_cases q : i < f
                · rw [if_pos q, if_pos (by omega)]
                · rw [if_neg q, if_neg (by omega)]
            (refine ifK_split (fun h10 => ?_) (fun h10 => ?_) <;> (rw [h10]; ((conv=>whnf);repeat(refine And.intro rfl ?_;(conv=>whnf)))))
            · rw [if_pos (by ((try simp only [oo, reduceCtorEq] at *) <;> omega))] at eT
              (refine .inl ⟨by (unfold InR; rw [IntKind.wrap_i64]; omega), ?_⟩; ((conv=>whnf);repeat(refine And.intro rfl ?_;(conv=>whnf))))
              refine ⟨(f + 1, putA g f (P.finI M s f)), ⟨by omega, hnext⟩, by dsimp only; omega, leB_envH ⟨by simp only [eT]; rfl, by (repeat' (first | exact trivial | refine And.intro rfl ?_))⟩ rfl⟩
            · rw [if_neg (by ((try simp only [oo, reduceCtorEq] at *) <;> omega))] at eT
              (refine .inl ⟨by (unfold InR; rw [IntKind.wrap_i64]; omega), ?_⟩; ((conv=>whnf);repeat(refine And.intro rfl ?_;(conv=>whnf))))
              refine ⟨(f + 1, putA g f (P.finI M s f)), ⟨by omega, hnext⟩, by dsimp only; omega, leB_envH ⟨by simp only [eT]; rfl, by (repeat' (first | exact trivial | refine And.intro rfl ?_))⟩ rfl⟩
          · have eD : P.decB M s f = true := by rw [eD0]; exact h6
            rw [if_pos eD] at eBase
            ((conv=>whnf);repeat(refine And.intro rfl ?_;(conv=>whnf)))
            (refine ⟨by omega, (by first | omega | (simp; done) | (simp; omega) | (simp only [ll]; omega)), ?_⟩; ((conv=>whnf);repeat(refine And.intro rfl ?_;(conv=>whnf))))
            refine ⟨_, gl_atN f (by omega) (by omega), ?_⟩
            ((conv=>whnf);repeat(refine And.intro rfl ?_;(conv=>whnf)))
            rw [putA_self]
            (refine .inl ⟨by (unfold InR; rw [IntKind.wrap_i64]; omega), ?_⟩; ((conv=>whnf);repeat(refine And.intro rfl ?_;(conv=>whnf))))
            (refine ⟨by omega, (by first | omega | (simp; done) | (simp; omega) | (simp only [ll]; omega)), ?_⟩; ((conv=>whnf);repeat(refine And.intro rfl ?_;(conv=>whnf))))
            refine ⟨_, gl_atN f (by omega) (by omega), ?_⟩
            ((conv=>whnf);repeat(refine And.intro rfl ?_;(conv=>whnf)))
            rw [gl_set (k := f) (by omega), putA_put, ← eBase]
            refine pwp_for [1, 3, 5, 8, 9, 10, 11] (fun k : Nat => [(12, .sc (.int .i64 k))]) (fun k => [(2, .vec true 0 1 (i64s (gl P.flows.length (putA g f (P.baseI M s f + P.incs s f k)))))]) (fun k => k ≤ (P.outL s.1).length) (fun k => (P.outL s.1).length - k) 0 ?_
            ((conv=>whnf);repeat(refine And.intro rfl ?_;(conv=>whnf)))
            refine ⟨by omega, by (repeat' (first | exact trivial | refine And.intro rfl ?_)), by rw [show P.incs s f 0 = 0 from rfl, Int.add_zero]; rfl, ?_⟩
            rintro k hk
            ((conv=>whnf);repeat(refine And.intro rfl ?_;(conv=>whnf)))
            (apply rd_sound; focus (repeat' constructor))
            ((conv=>whnf);repeat(refine And.intro rfl ?_;(conv=>whnf)))
            rw [List.length_map]
            (refine ifK_split (fun h8 => ?_) (fun h8 => ?_) <;> (rw [h8]; ((conv=>whnf);repeat(refine And.intro rfl ?_;(conv=>whnf)))))
            · have hk' : k < (P.outL s.1).length := by ((try simp only [oo, reduceCtorEq] at *) <;> omega)
              have hoa := ProcD.outAt_ok (P := P) (n := s.1) hk'
              have b2 := ProcD.incs_ok P s f k
              refine ⟨by omega, _, intsD_at (k := k) (by omega) hk', ?_⟩
              ((conv=>whnf);repeat(refine And.intro rfl ?_;(conv=>whnf)))
              rw [show (P.outL s.1).getD k 0 = P.outAt s.1 k from rfl]
              cases h9 : (P.outAt s.1 k == (f : Int))
              · ((conv=>whnf);repeat(refine And.intro rfl ?_;(conv=>whnf)))
                (refine .inl ⟨by (unfold InR; rw [IntKind.wrap_i64]; omega), ?_⟩; ((conv=>whnf);repeat(refine And.intro rfl ?_;(conv=>whnf))))
                refine ⟨k + 1, by omega, by dsimp only; omega, leB_envH (by (repeat' (first | exact trivial | refine And.intro rfl ?_))) ?_⟩
                have := ProcD.incs_miss (P := P) (s := s) (k := k) (f := f) (.inl (by ((try simp only [oo, reduceCtorEq] at *) <;> omega)))
                dsimp only
                rw [this]
                rfl
              · have h9 : P.outAt s.1 k = (f : Int) := by ((try simp only [oo, reduceCtorEq] at *) <;> omega)
                ((conv=>whnf);repeat(refine And.intro rfl ?_;(conv=>whnf)))
                refine ⟨by omega, ?_⟩
                ((conv=>whnf);repeat(refine And.intro rfl ?_;(conv=>whnf)))
                refine ⟨by decide, ?_⟩
                ((conv=>whnf);repeat(refine And.intro rfl ?_;(conv=>whnf)))
                have eb : ((s.2.2.fdiv (2 ^ min (k : Int).toNat IntKind.i64.bits)).tmod 2 == 1) = bitB s.2.2 k := rfl
                rw [eb]
                cases hb : bitB s.2.2 k
                · ((conv=>whnf);repeat(refine And.intro rfl ?_;(conv=>whnf)))
                  (refine .inl ⟨by (unfold InR; rw [IntKind.wrap_i64]; omega), ?_⟩; ((conv=>whnf);repeat(refine And.intro rfl ?_;(conv=>whnf))))
                  refine ⟨k + 1, by omega, by dsimp only; omega, leB_envH (by (repeat' (first | exact trivial | refine And.intro rfl ?_))) ?_⟩
                  have := ProcD.incs_miss (P := P) (s := s) (k := k) (f := f) (.inr hb)
                  dsimp only
                  rw [this]
                  rfl
                · have hh := ProcD.incs_hit h9 hb
                  ((conv=>whnf);repeat(refine And.intro rfl ?_;(conv=>whnf)))
                  (refine ⟨by omega, (by first | omega | (simp; done) | (simp; omega) | (simp only [ll]; omega)), ?_⟩; ((conv=>whnf);repeat(refine And.intro rfl ?_;(conv=>whnf))))
                  refine ⟨_, gl_atN f (by omega) (by omega), ?_⟩
                  ((conv=>whnf);repeat(refine And.intro rfl ?_;(conv=>whnf)))
                  rw [putA_self]
                  (refine .inl ⟨by (unfold InR; rw [IntKind.wrap_i64]; omega), ?_⟩; ((conv=>whnf);repeat(refine And.intro rfl ?_;(conv=>whnf))))
                  (refine ⟨by omega, (by first | omega | (simp; done) | (simp; omega) | (simp only [ll]; omega)), ?_⟩; ((conv=>whnf);repeat(refine And.intro rfl ?_;(conv=>whnf))))
                  refine ⟨_, gl_atN f (by omega) (by omega), ?_⟩
                  ((conv=>whnf);repeat(refine And.intro rfl ?_;(conv=>whnf)))
                  (refine .inl ⟨by (unfold InR; rw [IntKind.wrap_i64]; omega), ?_⟩; ((conv=>whnf);repeat(refine And.intro rfl ?_;(conv=>whnf))))
                  refine ⟨k + 1, by omega, by dsimp only; omega, leB_envH (by (repeat' (first | exact trivial | refine And.intro rfl ?_))) ?_⟩
                  dsimp only
                  rw [gl_set (k := f) (by omega), putA_put, hh, ← Int.add_assoc]
                  rfl
            have hk' : k = (P.outL s.1).length := by have : ¬ k < (P.outL s.1).length := by ((try simp only [oo, reduceCtorEq] at *) <;> omega)
                                                     omega
            subst hk'
            (refine ⟨by omega, (by first | omega | (simp; done) | (simp; omega) | (simp only [ll]; omega)), ?_⟩; ((conv=>whnf);repeat(refine And.intro rfl ?_;(conv=>whnf))))
            refine ⟨_, gl_atN f (by omega) (by omega), ?_⟩
            ((conv=>whnf);repeat(refine And.intro rfl ?_;(conv=>whnf)))
            rw [putA_self, show P.baseI M s f + P.incs s f (P.outL s.1).length = P.finI M s f from rfl]
            have eT : P.errTo M s (f + 1) = if 9 < P.finI M s f then 7 else P.errTo M s f := rfl
            have hnext : ∀ i, putA g f (P.finI M s f) i = if i < f + 1 then P.finI M s i else 0 := fun i => by
              by_cases e : i = f
              · subst e; rw [putA_self, if_pos (by omega)]
              · rw [putA_ne e, hg]
                by_cases q : i < f
                · rw [if_pos q, if_pos (by omega)]
                · rw [if_neg q, if_neg (by omega)]
            (refine ifK_split (fun h10 => ?_) (fun h10 => ?_) <;> (rw [h10]; ((conv=>whnf);repeat(refine And.intro rfl ?_;(conv=>whnf)))))
            · rw [if_pos (by ((try simp only [oo, reduceCtorEq] at *) <;> omega))] at eT
              (refine .inl ⟨by (unfold InR; rw [IntKind.wrap_i64]; omega), ?_⟩; ((conv=>whnf);repeat(refine And.intro rfl ?_;(conv=>whnf))))
              refine ⟨(f + 1, putA g f (P.finI M s f)), ⟨by omega, hnext⟩, by dsimp only; omega, leB_envH ⟨by simp only [eT]; rfl, by (repeat' (first | exact trivial | refine And.intro rfl ?_))⟩ rfl⟩
            · rw [if_neg (by ((try simp only [oo, reduceCtorEq] at *) <;> omega))] at eT
              (refine .inl ⟨by (unfold InR; rw [IntKind.wrap_i64]; omega), ?_⟩; ((conv=>whnf);repeat(refine And.intro rfl ?_;(conv=>whnf))))
              refine ⟨(f + 1, putA g f (P.finI M s f)), ⟨by omega, hnext⟩, by dsimp only; omega, leB_envH ⟨by simp only [eT]; rfl, by (repeat' (first | exact trivial | refine And.intro rfl ?_))⟩ rfl⟩
      · have eD : P.decB M s f = true := by rw [eD0, h4]; rfl
        rw [if_pos eD] at eBase
        ((conv=>whnf);repeat(refine And.intro rfl ?_;(conv=>whnf)))
        (refine ⟨by omega, (by first | omega | (simp; done) | (simp; omega) | (simp only [ll]; omega)), ?_⟩; ((conv=>whnf);repeat(refine And.intro rfl ?_;(conv=>whnf))))
        refine ⟨_, gl_atN f (by omega) (by omega), ?_⟩
        ((conv=>whnf);repeat(refine And.intro rfl ?_;(conv=>whnf)))
        rw [putA_self]
        (refine .inl ⟨by (unfold InR; rw [IntKind.wrap_i64]; omega), ?_⟩; ((conv=>whnf);repeat(refine And.intro rfl ?_;(conv=>whnf))))
        (refine ⟨by omega, (by first | omega | (simp; done) | (simp; omega) | (simp only [ll]; omega)), ?_⟩; ((conv=>whnf);repeat(refine And.intro rfl ?_;(conv=>whnf))))
        refine ⟨_, gl_atN f (by omega) (by omega), ?_⟩
        ((conv=>whnf);repeat(refine And.intro rfl ?_;(conv=>whnf)))
        rw [gl_set (k := f) (by omega), putA_put, ← eBase]
        refine pwp_for [1, 3, 5, 8, 9, 10, 11] (fun k : Nat => [(12, .sc (.int .i64 k))]) (fun k => [(2, .vec true 0 1 (i64s (gl P.flows.length (putA g f (P.baseI M s f + P.incs s f k)))))]) (fun k => k ≤ (P.outL s.1).length) (fun k => (P.outL s.1).length - k) 0 ?_
        ((conv=>whnf);repeat(refine And.intro rfl ?_;(conv=>whnf)))
        refine ⟨by omega, by (repeat' (first | exact trivial | refine And.intro rfl ?_)), by rw [show P.incs s f 0 = 0 from rfl, Int.add_zero]; rfl, ?_⟩
        rintro k hk
        ((conv=>whnf);repeat(refine And.intro rfl ?_;(conv=>whnf)))
        (apply rd_sound; focus (repeat' constructor))
        ((conv=>whnf);repeat(refine And.intro rfl ?_;(conv=>whnf)))
        rw [List.length_map]
        (refine ifK_split (fun h8 => ?_) (fun h8 => ?_) <;> (rw [h8]; ((conv=>whnf);repeat(refine And.intro rfl ?_;(conv=>whnf)))))
        · have hk' : k < (P.outL s.1).length := by ((try simp only [oo, reduceCtorEq] at *) <;> omega)
          have hoa := ProcD.outAt_ok (P := P) (n := s.1) hk'
          have b2 := ProcD.incs_ok P s f k
          refine ⟨by omega, _, intsD_at (k := k) (by omega) hk', ?_⟩
          ((conv=>whnf);repeat(refine And.intro rfl ?_;(conv=>whnf)))
          rw [show (P.outL s.1).getD k 0 = P.outAt s.1 k from rfl]
          cases h9 : (P.outAt s.1 k == (f : Int))
          · ((conv=>whnf);repeat(refine And.intro rfl ?_;(conv=>whnf)))
            (refine .inl ⟨by (unfold InR; rw [IntKind.wrap_i64]; omega), ?_⟩; ((conv=>whnf);repeat(refine And.intro rfl ?_;(conv=>whnf))))
            refine ⟨k + 1, by omega, by dsimp only; omega, leB_envH (by (repeat' (first | exact trivial | refine And.intro rfl ?_))) ?_⟩
            have := ProcD.incs_miss (P := P) (s := s) (k := k) (f := f) (.inl (by ((try simp only [oo, reduceCtorEq] at *) <;> omega)))
            dsimp only
            rw [this]
            rfl
          · have h9 : P.outAt s.1 k = (f : Int) := by ((try simp only [oo, reduceCtorEq] at *) <;> omega)
            ((conv=>whnf);repeat(refine And.intro rfl ?_;(conv=>whnf)))
            refine ⟨by omega, ?_⟩
            ((conv=>whnf);repeat(refine And.intro rfl ?_;(conv=>whnf)))
            refine ⟨by decide, ?_⟩
            ((conv=>whnf);repeat(refine And.intro rfl ?_;(conv=>whnf)))
            have eb : ((s.2.2.fdiv (2 ^ min (k : Int).toNat IntKind.i64.bits)).tmod 2 == 1) = bitB s.2.2 k := rfl
            rw [eb]
            cases hb : bitB s.2.2 k
            · ((conv=>whnf);repeat(refine And.intro rfl ?_;(conv=>whnf)))
              (refine .inl ⟨by (unfold InR; rw [IntKind.wrap_i64]; omega), ?_⟩; ((conv=>whnf);repeat(refine And.intro rfl ?_;(conv=>whnf))))
              refine ⟨k + 1, by omega, by dsimp only; omega, leB_envH (by (repeat' (first | exact trivial | refine And.intro rfl ?_))) ?_⟩
              have := ProcD.incs_miss (P := P) (s := s) (k := k) (f := f) (.inr hb)
              dsimp only
              rw [this]
              rfl
            · have hh := ProcD.incs_hit h9 hb
              ((conv=>whnf);repeat(refine And.intro rfl ?_;(conv=>whnf)))
              (refine ⟨by omega, (by first | omega | (simp; done) | (simp; omega) | (simp only [ll]; omega)), ?_⟩; ((conv=>whnf);repeat(refine And.intro rfl ?_;(conv=>whnf))))
              refine ⟨_, gl_atN f (by omega) (by omega), ?_⟩
              ((conv=>whnf);repeat(refine And.intro rfl ?_;(conv=>whnf)))
              rw [putA_self]
              (refine .inl ⟨by (unfold InR; rw [IntKind.wrap_i64]; omega), ?_⟩; ((conv=>whnf);repeat(refine And.intro rfl ?_;(conv=>whnf))))
              (refine ⟨by omega, (by first | omega | (simp; done) | (simp; omega) | (simp only [ll]; omega)), ?_⟩; ((conv=>whnf);repeat(refine And.intro rfl ?_;(conv=>whnf))))
              refine ⟨_, gl_atN f (by omega) (by omega), ?_⟩
              ((conv=>whnf);repeat(refine And.intro rfl ?_;(conv=>whnf)))
              (refine .inl ⟨by (unfold InR; rw [IntKind.wrap_i64]; omega), ?_⟩; ((conv=>whnf);repeat(refine And.intro rfl ?_;(conv=>whnf))))
              refine ⟨k + 1, by omega, by dsimp only; omega, leB_envH (by (repeat' (first | exact trivial | refine And.intro rfl ?_))) ?_⟩
              dsimp only
              rw [gl_set (k := f) (by omega), putA_put, hh, ← Int.add_assoc]
              rfl
        have hk' : k = (P.outL s.1).length := by have : ¬ k < (P.outL s.1).length := by ((try simp only [oo, reduceCtorEq] at *) <;> omega)
                                                 omega
        subst hk'
        (refine ⟨by omega, (by first | omega | (simp; done) | (simp; omega) | (simp only [ll]; omega)), ?_⟩; ((conv=>whnf);repeat(refine And.intro rfl ?_;(conv=>whnf))))
        refine ⟨_, gl_atN f (by omega) (by omega), ?_⟩
        ((conv=>whnf);repeat(refine And.intro rfl ?_;(conv=>whnf)))
        rw [putA_self, show P.baseI M s f + P.incs s f (P.outL s.1).length = P.finI M s f from rfl]
        have eT : P.errTo M s (f + 1) = if 9 < P.finI M s f then 7 else P.errTo M s f := rfl
        have hnext : ∀ i, putA g f (P.finI M s f) i = if i < f + 1 then P.finI M s i else 0 := fun i => by
          by_cases e : i = f
          · subst e; rw [putA_self, if_pos (by omega)]
          · rw [putA_ne e, hg]
            by_cases q : i < f
            · rw [if_pos q, if_pos (by omega)]
            · rw [if_neg q, if_neg (by omega)]
        (refine ifK_split (fun h10 => ?_) (fun h10 => ?_) <;> (rw [h10]; ((conv=>whnf);repeat(refine And.intro rfl ?_;(conv=>whnf)))))
        · rw [if_pos (by ((try simp only [oo, reduceCtorEq] at *) <;> omega))] at eT
          (refine .inl ⟨by (unfold InR; rw [IntKind.wrap_i64]; omega), ?_⟩; ((conv=>whnf);repeat(refine And.intro rfl ?_;(conv=>whnf))))
          refine ⟨(f + 1, putA g f (P.finI M s f)), ⟨by omega, hnext⟩, by dsimp only; omega, leB_envH ⟨by simp only [eT]; rfl, by (repeat' (first | exact trivial | refine And.intro rfl ?_))⟩ rfl⟩
        · rw [if_neg (by ((try simp only [oo, reduceCtorEq] at *) <;> omega))] at eT
          (refine .inl ⟨by (unfold InR; rw [IntKind.wrap_i64]; omega), ?_⟩; ((conv=>whnf);repeat(refine And.intro rfl ?_;(conv=>whnf))))
          refine ⟨(f + 1, putA g f (P.finI M s f)), ⟨by omega, hnext⟩, by dsimp only; omega, leB_envH ⟨by simp only [eT]; rfl, by (repeat' (first | exact trivial | refine And.intro rfl ?_))⟩ rfl⟩
  have hf' : f = P.flows.length := by have : ¬ f < P.flows.length := by ((try simp only [oo, reduceCtorEq] at *) <;> omega)
                                      omega
  subst hf'
  rcases errTo_spec (P := P) (M := M) (s := s) P.flows.length with ⟨q1, q2⟩ | ⟨q1, q2⟩
  · rw [if_pos q2] at eE
    rw [eE] at eL
    rw [q1, eE, eL]
    ((conv=>whnf);repeat(refine And.intro rfl ?_;(conv=>whnf)))
    exact .tup _ _ (.cons _ _ _ _ (.none _) (.cons _ _ _ _ (.refl _) .nil))
  · rw [if_neg (by rintro ⟨i, h1, h2⟩; exact q2 i h1 h2)] at eE
    rw [eE, if_pos rfl] at eL
    have e : gl P.flows.length (P.finI M s) = gl P.flows.length g := gl_congr fun i hi => by rw [hg, if_pos hi]
    rw [q1, eE, eL, e]
    ((conv=>whnf);repeat(refine And.intro rfl ?_;(conv=>whnf)))
    exact .tup _ _ (.cons _ _ _ _ (deep_gl rfl) (.cons _ _ _ _ (.refl _) .nil))
end

end Go.Proofs.Ytjnfahdolkgnoaa
