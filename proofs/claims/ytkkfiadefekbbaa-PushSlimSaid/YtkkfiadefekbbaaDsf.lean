/-
  Calls that turn memory of the caller's: a contract over few objects serves among many. No statement is proved here.
-/
import Derived.Test.YtkkfiadefekbbaaDsb
namespace Go.Proofs.Ytkkfiadefekbbaa
open Go.RowKit
set_option linter.unusedSimpArgs false
set_option linter.unusedVariables false

section
variable {P : Program} {n : Nat}
/-- A function that turns its caller's objects, and may make some: the first m objects at its end are handed back. -/
theorem acall_intro {f : FuncId} {rs : List RV} {p : PC} {args : List D} {H : List AObj} {d : D} {H2 : List AObj} (hf : FunOK P f n rs p) (hn : args.length ≤ n) (hlen : H.length ≤ H2.length)
    (h : PWp P n p (retK rs fun r Hf => r = d ∧ Hf.take H2.length = H2 ∧ H2.length ≤ Hf.length) (params 0 args) H) (hd : Under H2.length d) (hH : ∀ o ∈ H2, o.under H2.length) : ACall P f args H d H2 := by
  refine ⟨funOK_ok hf, hlen, fun J F w vs hok hdom hargs => ?_⟩
  obtain ⟨fn, h1, h2, h3, h4, h5⟩ := hf.out
  cases e : fn.body with
  | none => rw [e] at h5; cases h5
  | some c =>
    rw [e] at h5
    simp only [Option.bind_some] at h5
    refine calls_of_wp h1 e ?_
    rw [h2]
    refine wp_mono (pwp_out h h5 (entry_rep hn hargs hok hdom)) fun e' a' w' ⟨env', H', J', F', q1, q2, q3⟩ => ?_
    have fin : e' = .normal ∨ e' = .ret → a'.defers = [] ∧ ∃ v, (results fn a'.tmps).run P w' = .ok v w' ∧ ∃ v' J'' F'', Ending.returned v = Ending.returned v' ∧ StOK J'' F'' w' (fun i => H2[i]?) ∧ (∀ id, J'' id ≠ none → id < H2.length) ∧ rep J'' F'' w' d v' ∧ Ext J F w J'' F'' w' := fun he => by
      obtain ⟨r, v, ⟨rfl, k1, k1'⟩, k2, k3⟩ := results_all h4 q2 he q1
      have hget : ∀ i, i < H2.length → H2[i]? = H'[i]? := fun i hi => by
        conv => lhs; rw [← k1]
        rw [List.getElem?_take, if_pos hi]
      have kle : (keepTo H2.length J').le J' := fun i s hs => by
        unfold keepTo at hs
        split at hs
        · exact ⟨s, hs, Nat.le_refl _, fun _ => rfl⟩
        · cases hs
      refine ⟨q2.defers, v, k2, v, keepTo H2.length J', F', rfl, ⟨fun i s hs => ?_, fun i i' s s' b g1 g2 g3 g4 => ?_, fun i s b o g1 g2 g3 g4 => ?_, q2.ok.lt⟩, fun i hi => ?_, rep_keep _ _ hd k3, ?_⟩
      · unfold keepTo at hs
        split at hs
        · rename_i hi
          obtain ⟨o, g1, g2⟩ := q2.ok.obj i s hs
          have g1' : H2[i]? = some o := by rw [hget i hi]; exact g1
          exact ⟨o, g1', objOK_keep (hH o (List.mem_of_getElem? g1')) g2⟩
        · cases hs
      · unfold keepTo at g1 g2
        split at g1 <;> split at g2
        · exact q2.ok.one i i' s s' b g1 g2 g3 g4
        all_goals first | cases g1 | cases g2
      · unfold keepTo at g1
        split at g1
        · rename_i hi
          exact q2.ok.apart i s b o g1 g2 (by rw [← hget i hi]; exact g3) g4
        · cases g1
      · unfold keepTo at hi
        split at hi
        · assumption
        · exact absurd rfl hi
      · refine ⟨q3.os, q3.tape, q3.output, q3.size, q3.block, q3.frozen, fun i s hs => ?_, q3.grow, fun b ⟨i, s, hs, hb⟩ => ?_, q3.growBack⟩
        · obtain ⟨s', g1, g2, g3⟩ := q3.le i s hs
          have hi : i < H2.length := by have := hdom i (by rw [hs]; simp); omega
          exact ⟨s', by simp [keepTo, hi, g1], g2, g3⟩
        · obtain ⟨s', g1, _⟩ := kle i s hs
          unfold keepTo at hs
          split at hs
          · exact q3.ownsBack b ⟨i, s, hs, hb⟩
          · cases hs
    cases e' with
    | normal => exact fin (.inl rfl)
    | ret => exact fin (.inr rfl)
    | exit id => exact q1.elim
    | goto l => exact q1.elim
    | panic ch => exact q1.elim
    | outgrown => exact q1.elim
end
end Go.Proofs.Ytkkfiadefekbbaa
