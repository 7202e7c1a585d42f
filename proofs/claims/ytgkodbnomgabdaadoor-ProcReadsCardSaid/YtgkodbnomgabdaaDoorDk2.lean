/-
  More on calls that turn objects, and on what names which objects. No statement is proved here.
-/
import Derived.Test.YtgkodbnomgabdaaDoorDk
namespace Go.Proofs.YtgkodbnomgabdaaDoor
open Go.RowKit
set_option linter.unusedSimpArgs false

section
variable {P : Program} {f : FuncId}
/-- A call that turns some objects, among others. -/
theorem acall_mid {args : List D} {H0 H0' : List AObj} {d : D} (hA : ACall P f args H0 d H0') (L R : List AObj) (hlen : H0'.length = H0.length) (hargs : UnderL H0.length args) (hobj : UnderO H0.length H0)
    {args2 : List D} {d2 : D} {H H2 : List AObj} (e1 : renL (fun i => L.length + i) args = args2) (e2 : D.ren (fun i => L.length + i) d = d2) (e3 : L ++ (H0.map (AObj.ren fun i => L.length + i) ++ R) = H) (e4 : L ++ (H0'.map (AObj.ren fun i => L.length + i) ++ R) = H2) :
    ACall P f args2 H d2 H2 := by
  subst e1 e2 e3 e4
  refine acall_frame (fun i => L.length + i) hA (fun i j _ _ h => by omega) (fun i o h => ?_) (fun i h1 h2 => by omega) (by simp [hlen]) (fun i o h => ?_) (fun j hj hne => ?_) hargs (underO_mem hobj)
  · rw [List.getElem?_append_right (by omega), Nat.add_sub_cancel_left, List.getElem?_append_left (by simpa using get_lt h), List.getElem?_map, h]; rfl
  · rw [List.getElem?_append_right (by omega), Nat.add_sub_cancel_left, List.getElem?_append_left (by simpa using get_lt h), List.getElem?_map, h]; rfl
  · rcases Nat.lt_or_ge j L.length with h | h
    · rw [List.getElem?_append_left h, List.getElem?_append_left h]
    · have : H0.length ≤ j - L.length := by
        rcases Nat.lt_or_ge (j - L.length) H0.length with q | q
        · exact absurd (by omega) (hne (j - L.length) q)
        · exact q
      rw [List.getElem?_append_right h, List.getElem?_append_right h, List.getElem?_append_right (by simp; omega), List.getElem?_append_right (by simp; omega)]
      simp [hlen]
/-- A call that turns the first objects. -/
theorem acall_pre {args : List D} {H0 H0' : List AObj} {d : D} (hA : ACall P f args H0 d H0') (R : List AObj) (hlen : H0'.length = H0.length) (hargs : UnderL H0.length args) (hobj : UnderO H0.length H0) : ACall P f args (H0 ++ R) d (H0' ++ R) := by
  have h : (fun i => ([] : List AObj).length + i) = fun i => i := by funext i; simp
  refine acall_mid hA [] R hlen hargs hobj ?_ ?_ ?_ ?_ <;> rw [h]
  · exact renL_id _
  · exact ren_id _
  · rw [show (AObj.ren fun i => i) = id from funext oren_id]; simp
  · rw [show (AObj.ren fun i => i) = id from funext oren_id]; simp
end
theorem ifK_t {c : Bool} {A B : Prop} (h : c = true) (k : A) : ifK c A B := by subst h; exact k
theorem ifK_f {c : Bool} {A B : Prop} (h : c = false) (k : B) : ifK c A B := by subst h; exact k
/-- Many ways through a piece of code, one state behind it. -/
def cutQ {ι : Type} (L n : Nat) (Q : Post) (E : ι → Env) (O : ι → List AObj) (G : ι → Prop) : Post
  | .normal, env, H => ∃ i, G i ∧ St.leB L n env H (E i) (O i)
  | e, env, H => Q e env H
theorem pwp_cut {P : Program} {n : Nat} {p : PC} {Q : Post} {env : Env} {H : List AObj} {ι : Type} (E : ι → Env) (O : ι → List AObj) (G : ι → Prop) (h1 : PWp P n p (cutQ H.length n Q E O G) env H)
    (h2 : ∀ i, G i → Q .normal (E i) (O i)) : PWp P n p Q env H := pwp_mk fun c hc J F a w hr => by
  refine wp_mono (pwp_out h1 hc hr) fun e a2 w2 ⟨env', H', J', F', q1, q2, q3⟩ => ?_
  cases e with
  | normal =>
    obtain ⟨i, r1, r2⟩ := q1
    obtain ⟨J2, F2, t1, t2, t3, t4, t5⟩ := r2 J' F' a2 w2 q2
    exact ⟨E i, O i, J2, F2, h2 i r1, t1, ext_leB hr.dom q3 t2 t3 t4 t5⟩
  | _ => exact ⟨env', H', J', F', q1, q2, q3⟩
@[simp] theorem under_dtree {m : Nat} (t : Tree) : Under m (dtree t) ↔ True := ⟨fun _ => trivial, fun _ => under_pure _ (pure_dtree t)⟩
@[simp] theorem underL_drow {m : Nat} (t : Tree) : UnderL m (drow t) ↔ True := ⟨fun _ => trivial, fun _ => underL_pure _ (pure_drow t)⟩
@[simp] theorem underLL_dcells {m : Nat} (l : List Tree) : UnderLL m (l.map dcells) ↔ True := ⟨fun _ => trivial, fun _ => underLL_pure _ (pureLL_map _ pure_dcells _)⟩
@[simp] theorem underL_dcells {m : Nat} (t : Tree) : UnderL m (dcells t) ↔ True := ⟨fun _ => trivial, fun _ => underL_pure _ (pure_dcells t)⟩
@[simp] theorem ren_dtree {ρ : Nat → Nat} (t : Tree) : D.ren ρ (dtree t) = dtree t := ren_pure _ (pure_dtree t)
@[simp] theorem renL_drow {ρ : Nat → Nat} (t : Tree) : renL ρ (drow t) = drow t := renL_pure _ (pure_drow t)
@[simp] theorem renLL_dcells {ρ : Nat → Nat} (l : List Tree) : renLL ρ (l.map dcells) = l.map dcells := renLL_pure _ (pureLL_map _ pure_dcells _)
end Go.Proofs.YtgkodbnomgabdaaDoor
