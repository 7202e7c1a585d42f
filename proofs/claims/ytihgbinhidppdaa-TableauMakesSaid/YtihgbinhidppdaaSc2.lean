/-
  What comes from some nodes, over deep values: the program's search. No statement is proved here.
-/
import Derived.Test.YtihgbinhidppdaaSc
import Derived.Test.YtihgbinhidppdaaGr
import Derived.Test.YtihgbinhidppdaaBo
namespace Go.Proofs.Ytihgbinhidppdaa
open Go.RowKit
set_option linter.unusedSimpArgs false
set_option linter.unusedVariables false
@[simp] theorem pureL_ints (l : List Int) : PureLL (l.map fun n => [D.sc (.int .i64 n)]) ↔ True := by simp [PureL, Pure]
theorem rbl_mark {n z : Nat} {s : Nat → Bool} {v : Nat} (hz : z = v) : (rbl n s).set z [.sc (.bool true)] = rbl n (mark s v) := by
  subst hz
  rw [rbl_set]
  rfl
/-- What is known while one looks for what comes. -/
structure RchI (g : List (List Int)) (from_ : List Int) (B : Nat) (s : Nat → Bool) (T : List Int) : Prop where
  todo : inB T g.length = true
  comes : ∀ x ∈ T, Rch g from_ x.toNat
  seen : ∀ v, s v = true → Rch g from_ v
  start : ∀ x ∈ from_, s x.toNat = true ∨ x ∈ T
  closed : ∀ v, s v = true → ∀ x ∈ g.getD v [], s x.toNat = true ∨ x ∈ T
  room : T.length + potG g s ≤ B
theorem int_eq_of_toNat {x y : Int} (hx : 0 ≤ x) (hy : 0 ≤ y) (h : x.toNat = y.toNat) : x = y := by omega
theorem inB_mem {l : List Int} {n : Nat} (h : inB l n = true) {x : Int} (hx : x ∈ l) : 0 ≤ x ∧ x < (n : Int) := by
  have := List.all_eq_true.1 h x hx
  simpa using this
theorem inB_of {l : List Int} {n : Nat} (h : ∀ x ∈ l, 0 ≤ x ∧ x < (n : Int)) : inB l n = true := by
  unfold inB
  rw [List.all_eq_true]
  intro x hx
  simpa using h x hx
/-- The last one is seen already. -/
theorem RchI.pop {g : List (List Int)} {from_ : List Int} {B : Nat} {s : Nat → Bool} {T : List Int} {x : Int} (h : RchI g from_ B s (T ++ [x])) (hs : s x.toNat = true) : RchI g from_ B s T where
  todo := inB_of fun y hy => inB_mem h.todo (by simp [hy])
  comes y hy := h.comes y (by simp [hy])
  seen := h.seen
  start y hy := by
    rcases h.start y hy with q | q
    · exact .inl q
    · rcases List.mem_append.1 q with q | q
      · exact .inr q
      · rw [List.mem_singleton] at q; subst q; exact .inl hs
  closed v hv y hy := by
    rcases h.closed v hv y hy with q | q
    · exact .inl q
    · rcases List.mem_append.1 q with q | q
      · exact .inr q
      · rw [List.mem_singleton] at q; subst q; exact .inl hs
  room := by have := h.room; rw [List.length_append] at this; omega
/-- The last one is looked at. -/
theorem RchI.push {g : List (List Int)} {from_ : List Int} {B : Nat} {s : Nat → Bool} {T : List Int} {x : Int} (hg : ∀ l ∈ g, inB l g.length = true) (h : RchI g from_ B s (T ++ [x])) (hs : s x.toNat = false) : RchI g from_ B (mark s x.toNat) (T ++ g.getD x.toNat []) where
  todo := inB_of fun y hy => by
    rcases List.mem_append.1 hy with q | q
    · exact inB_mem h.todo (by simp [q])
    · exact inB_mem (inB_row hg _) q
  comes y hy := by
    rcases List.mem_append.1 hy with q | q
    · exact h.comes y (by simp [q])
    · exact .step (h.comes x (by simp)) q
  seen v hv := by
    rcases mark_iff.1 hv with q | q
    · subst q; exact h.comes x (by simp)
    · exact h.seen v q
  start y hy := by
    rcases h.start y hy with q | q
    · exact .inl (mark_of q)
    · rcases List.mem_append.1 q with q | q
      · exact .inr (by simp [q])
      · rw [List.mem_singleton] at q; subst q; exact .inl (mark_self _ _)
  closed v hv y hy := by
    rcases mark_iff.1 hv with q | q
    · subst q; exact .inr (List.mem_append_right _ hy)
    · rcases h.closed v q y hy with q | q
      · exact .inl (mark_of q)
      · rcases List.mem_append.1 q with q | q
        · exact .inr (by simp [q])
        · rw [List.mem_singleton] at q; subst q; exact .inl (mark_self _ _)
  room := by
    have h1 := h.room
    have h2 := inB_mem h.todo (x := x) (by simp)
    have h3 := potG_mark (g := g) (v := x.toNat) (by omega) hs
    rw [List.length_append] at h1 ⊢
    simp only [List.length_cons, List.length_nil] at h1
    omega
theorem RchI.done {g : List (List Int)} {from_ : List Int} {B : Nat} {s : Nat → Bool} (h : RchI g from_ B s []) (v : Nat) : s v = rchB g from_ v := rchB_eq ⟨h.seen v, rch_closed (fun x hx => (h.start x hx).resolve_right (by simp)) (fun v hv x hx => (h.closed v hv x hx).resolve_right (by simp)) v⟩
theorem RchI.begin {g : List (List Int)} {from_ : List Int} {B : Nat} (hf : inB from_ g.length = true) (hB : from_.length + potG g (fun _ => false) ≤ B) : RchI g from_ B (fun _ => false) from_ where
  todo := hf
  comes _ hx := .base hx
  seen v h := by cases h
  start _ hx := .inr hx
  closed v h := by cases h
  room := hB
def i64s (l : List Int) : List (List D) := l.map fun n => [.sc (.int .i64 n)]
@[simp] theorem underLL_i64s {m : Nat} (l : List Int) : UnderLL m (i64s l) ↔ True := by simp [i64s, UnderL, Under]
theorem i64s_cut {Z l : List Int} {z h : Nat} (hz : z = h) : List.drop (0 + 0) (List.take z (i64s Z)) ++ l.map (fun n => [D.sc (.int .i64 n)]) = i64s (Z.take h ++ l) := by
  subst hz
  unfold i64s
  rw [Nat.zero_add, List.drop_zero, List.map_append, List.map_take]
theorem take_last {l : List Int} {h : Nat} (h1 : 1 ≤ h) (h2 : h ≤ l.length) : l.take h = l.take (h - 1) ++ [l.getD (h - 1) 0] := by
  obtain ⟨k, rfl⟩ : ∃ k, h = k + 1 := ⟨h - 1, by omega⟩
  rw [List.take_add_one, List.getElem?_eq_getElem (by omega), Nat.add_sub_cancel, List.getD_eq_getElem?_getD, List.getElem?_eq_getElem (by omega)]
  rfl
end Go.Proofs.Ytihgbinhidppdaa
