/-
  Lists of truths over deep values. No statement is proved here.
-/
import Derived.Test.YtfgklgjbnpjpoaaQFn
namespace Go.Proofs.Ytfgklgjbnpjpoaa
open Go.RowKit
set_option linter.unusedSimpArgs false
set_option linter.unusedVariables false
/-! ### Lists of truths -/
def rbl (n : Nat) (g : Nat → Bool) : List (List D) := (List.range n).map fun i => [.sc (.bool (g i))]
def dbl (n : Nat) (g : Nat → Bool) : D := .lst 1 (rbl n g)
@[simp] theorem rbl_len (n : Nat) (g : Nat → Bool) : (rbl n g).length = n := by simp [rbl]
theorem rbl_at {n i : Nat} {g : Nat → Bool} (h : i < n) : (rbl n g)[i]? = some [.sc (.bool (g i))] := by
  simp [rbl, List.getElem?_map, List.getElem?_range h]
theorem rbl_atN {n : Nat} {g : Nat → Bool} {z : Nat} (i : Nat) (hz : z = i) (h : i < n) : (rbl n g)[z]? = some [.sc (.bool (g i))] := by
  subst hz
  exact rbl_at h
theorem rbl_atZ {n : Nat} {g : Nat → Bool} {z : Int} (i : Nat) (hz : z = i) (h : i < n) : 0 ≤ z ∧ (rbl n g)[z.toNat]? = some [.sc (.bool (g i))] := by
  subst hz
  exact ⟨by omega, rbl_at h⟩
theorem rbl_congr {n : Nat} {g g' : Nat → Bool} (h : ∀ i, i < n → g i = g' i) : rbl n g = rbl n g' := by
  unfold rbl
  exact List.map_congr_left fun i hi => by rw [h i (List.mem_range.1 hi)]
theorem rbl_set (n : Nat) (g : Nat → Bool) (k : Nat) (v : Bool) : (rbl n g).set k [.sc (.bool v)] = rbl n (fun i => if i = k then v else g i) := by
  apply List.ext_getElem?
  intro i
  by_cases hi : i < n
  · by_cases hk : i = k
    · subst hk
      rw [List.getElem?_set_self (by simpa using hi), rbl_at hi]
      simp
    · rw [List.getElem?_set_ne (fun e => hk e.symm), rbl_at hi, rbl_at hi]
      simp [hk]
  · rw [List.getElem?_eq_none (by simp; omega), List.getElem?_eq_none (by simp; omega)]
theorem rbl_rep (n : Nat) : List.replicate n [D.sc (.bool false)] = rbl n (fun _ => false) := by
  apply List.ext_getElem?
  intro i
  by_cases hi : i < n
  · rw [rbl_at hi, List.getElem?_replicate, if_pos hi]
  · rw [List.getElem?_eq_none (by simp; omega), List.getElem?_eq_none (by simp; omega)]
theorem pure_rbl (n : Nat) (g : Nat → Bool) : PureLL (rbl n g) := pureLL_map _ (fun i => by simp [PureL, Pure]) _
theorem pure_dbl (n : Nat) (g : Nat → Bool) : Pure (dbl n g) := by simp only [dbl, Pure]; exact pure_rbl n g
theorem rbl_all (n : Nat) (g : Nat → Bool) : List.drop 0 (List.take n (rbl n g)) = rbl n g := by rw [List.drop_zero, List.take_of_length_le (by simp)]
theorem dbl_congr {n : Nat} {g g' : Nat → Bool} (h : ∀ i, i < n → g i = g' i) : dbl n g = dbl n g' := by unfold dbl; rw [rbl_congr h]
theorem deep_vec {H : List AObj} {id v n : Nat} {q : Bool} {g : Nat → Bool} (h : H[id]? = some (.vec q v 1 (rbl n g))) : Deep H (.own id v 0 n) (dbl n g) := .own _ _ _ _ _ _ _ _ h (by rw [rbl_all]; exact deepLL_refl _)
/-- What is known of the places ahead of one; what stands there. -/
def curF (T : Nat → Bool) (k : Nat) (o : Bool) : Nat → Bool := fun i => if i < k then T i else if i = k then o else false
@[simp] theorem curF_at (T : Nat → Bool) (k : Nat) (o : Bool) : curF T k o k = o := by simp [curF]
@[simp] theorem underLL_rbl {m n : Nat} (g : Nat → Bool) : UnderLL m (rbl n g) ↔ True := ⟨fun _ => trivial, fun _ => underLL_pure _ (pure_rbl n g)⟩
@[simp] theorem under_dbl {m n : Nat} (g : Nat → Bool) : Under m (dbl n g) ↔ True := ⟨fun _ => trivial, fun _ => under_pure _ (pure_dbl n g)⟩
@[simp] theorem renLL_rbl {ρ : Nat → Nat} {n : Nat} (g : Nat → Bool) : renLL ρ (rbl n g) = rbl n g := renLL_pure _ (pure_rbl n g)
@[simp] theorem ren_dbl {ρ : Nat → Nat} {n : Nat} (g : Nat → Bool) : D.ren ρ (dbl n g) = dbl n g := ren_pure _ (pure_dbl n g)
def c25_1 : PC := .seq (.ops [⟨(some 14), .bin .lss (.tmp 13) (.tmp 12), none, 0⟩] false) (.seq (.cond (.tmp 14) (.skip) (.exit 0)) (.seq (.block 1 (.seq (.ops [⟨(some 15), .move (.tmp 13), none, 0⟩,
    ⟨(some 5), .move (.tmp 15), none, 0⟩] false) (.seq (.ops [⟨(some 16), .move (.tmp 0), none, 0⟩,
    ⟨(some 17), .move (.tmp 5), none, 0⟩,
    ⟨(some 18), .iaddr 1 (.tmp 16) (.tmp 17), none, 3⟩,
    ⟨(some 19), .load1 (.tmp 18), none, 7⟩,
    ⟨(some 20), .move (.tmp 1), none, 0⟩,
    ⟨(some 21), .move (.tmp 5), none, 0⟩,
    ⟨(some 22), .iaddr 1 (.tmp 20) (.tmp 21), none, 48⟩,
    ⟨(some 23), .load1 (.tmp 22), none, 112⟩,
    ⟨(some 24), .eqb true (.tmp 19) (.tmp 23), none, 255⟩] true) (.cond (.tmp 24) (.seq (.ops [⟨(some 4), .move (.const (.bool false)), none, 0⟩] false) (.ret)) (.skip))))) (.ops [⟨(some 25), .bin .add (.tmp 13) (.const (.int .i64 1)), none, 0⟩,
    ⟨(some 13), .move (.tmp 25), none, 0⟩] false)))
def c25 : PC := .seq (.ops [⟨(some 4), .move (.const (.bool false)), none, 0⟩] false) (.seq (.seq (.ops [⟨(some 6), .move (.tmp 0), none, 0⟩,
    ⟨(some 7), .len (.tmp 6), none, 0⟩,
    ⟨(some 8), .move (.tmp 1), none, 0⟩,
    ⟨(some 9), .len (.tmp 8), none, 0⟩,
    ⟨(some 10), .bin .neq (.tmp 7) (.tmp 9), none, 0⟩] false) (.cond (.tmp 10) (.seq (.ops [⟨(some 4), .move (.const (.bool false)), none, 0⟩] false) (.ret)) (.skip))) (.seq (.seq (.ops [⟨(some 11), .move (.tmp 0), none, 0⟩,
    ⟨(some 12), .len (.tmp 11), none, 0⟩,
    ⟨(some 13), .move (.const (.int .i64 0)), none, 0⟩] false) (.block 0 (.loop c25_1))) (.seq (.ops [⟨(some 4), .move (.const (.bool true)), none, 0⟩] false) (.ret))))
set_option maxRecDepth 100000 in
theorem c25_ok : FunOK Try.prog 25 26 [.tmp 4] c25 := ⟨⟨Try.f25, Try.func25, rfl, by kernel_rfl, rfl, by kernel_rfl⟩⟩
theorem eq_bool (n : Nat) (g : Nat → Bool) (hn : n ≤ 1000) : PCall Try.prog 25 [dbl n g, dbl n g] (.sc (.bool true)) := by
  refine pcall_intro c25_ok (by simp) (by simp [PureL, Pure, pure_dbl]) ?_ (by simp [Pure])
  (apply rd_sound; focus (repeat' constructor))
  ((conv=>whnf);repeat(refine And.intro rfl ?_;(conv=>whnf)))
  rw [rbl_len]
  (refine ifK_split (fun h1 => ?_) (fun h1 => ?_) <;> (rw [h1]; ((conv=>whnf);repeat(refine And.intro rfl ?_;(conv=>whnf)))))
  · exfalso; simp at h1
  rw [rbl_len]
  refine pwp_loop (fun k : Nat => [(0, dbl n g), (1, dbl n g), (12, .sc (.int .i64 n)), (13, .sc (.int .i64 k))]) (fun _ => [])
    (fun k => k ≤ n) (fun k => n - k) 0 (by omega) (le_env ⟨rfl, rfl, rfl, rfl, trivial⟩) ?_
  rintro k hk
  (apply rd_sound; focus (repeat' constructor))
  ((conv=>whnf);repeat(refine And.intro rfl ?_;(conv=>whnf)))
  (refine ifK_split (fun h2 => ?_) (fun h2 => ?_) <;> (rw [h2]; ((conv=>whnf);repeat(refine And.intro rfl ?_;(conv=>whnf)))))
  · have hk' : k < n := by ((try simp only [oo, reduceCtorEq] at *) <;> omega)
    obtain ⟨q1, q2⟩ := rbl_atZ (g := g) (z := (k : Int)) k rfl hk'
    refine ⟨q1, _, q2, ?_⟩
    ((conv=>whnf);repeat(refine And.intro rfl ?_;(conv=>whnf)))
    refine ⟨q1, _, q2, ?_⟩
    ((conv=>whnf);repeat(refine And.intro rfl ?_;(conv=>whnf)))
    (refine ifK_split (fun h3 => ?_) (fun h3 => ?_) <;> (rw [h3]; ((conv=>whnf);repeat(refine And.intro rfl ?_;(conv=>whnf)))))
    · exfalso; simp at h3
    · refine .inl ⟨by unfold InR; rw [IntKind.wrap_i64]; omega, ?_⟩
      ((conv=>whnf);repeat(refine And.intro rfl ?_;(conv=>whnf)))
      exact ⟨k + 1, by omega, by dsimp only; omega, le_env ⟨rfl, rfl, rfl, rfl, trivial⟩⟩
  · exact deep_eq rfl
end Go.Proofs.Ytfgklgjbnpjpoaa
