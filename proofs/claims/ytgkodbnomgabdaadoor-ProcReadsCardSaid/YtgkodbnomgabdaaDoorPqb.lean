/-
  proc.Print as a call of data. No statement is proved here.
-/
import Derived.Test.YtgkodbnomgabdaaDoorPqa
namespace Go.Proofs.YtgkodbnomgabdaaDoor
open Go.RowKit Go.Shelf
set_option linter.unusedSimpArgs false
set_option linter.unusedVariables false
theorem proc_Print_ok (P : ProcD) (hP : P.Fits) (h0 : P.chk = 0) : PCall Tryd.prog 6 [dproc P] (.tup [.sc (.string (textP P P.flows)), .sc (.int .i64 0)]) where
  ok := ⟨_, Tryd.func6, by kernel_rfl, by kernel_rfl⟩
  run J F w vs hF hR := by
    simp only [repL] at hR
    obtain ⟨v, us, rfl, hv, rfl⟩ := hR
    have hv : rep noInj (fun b => b < w.heap.size) w (dproc P) v := rep_mono (Inj.le_refl _) (fun b hb => hF.lt b hb) (fun b _ => rfl) _ _ (pure_rep _ _ (pure_dproc P) hv)
    have hr := hv
    simp only [dproc, ProcD.cells, rep, repL] at hv
    obtain ⟨vs, rfl, v1, us1, rfl, ⟨A, n, c, rfl, hn, hc, hA⟩, v2, us2, rfl, ⟨A2, n2, c2, rfl, hn2, hc2, hA2⟩, rfl⟩ := hv
    rw [List.length_map] at hn hn2
    subst hn hn2
    have hck := proc_Check P hP
    rw [h0] at hck
    refine (proc_Print_run P h0 hck w A A2 c c2 hr ?_ ?_).mono ?_
    · rcases hA with h | ⟨b, o, e, h1, h2⟩
      · exact .inl (by rw [List.length_eq_zero_iff.1 h]; rfl)
      · exact .inr ⟨b, o, e, h1, h2⟩
    · rcases hA2 with h | ⟨b, o, e, h1, h2⟩
      · exact .inl (by rw [List.length_eq_zero_iff.1 h]; rfl)
      · exact .inr ⟨b, o, e, h1, h2⟩
    · rintro e w' ⟨rfl, hb⟩
      refine ⟨_, F, rfl, fun b hb' => Nat.lt_of_lt_of_le (hF.lt b hb') hb.size, ?_, ?_⟩
      · simp only [rep, repL]
        exact ⟨_, rfl, _, _, rfl, rfl, _, _, rfl, rfl, rfl⟩
      · exact ⟨hb.os, hb.tape, hb.output, hb.size, fun k hk _ => hb.block k hk, fun k hk => hb.block k (hF.lt k hk), Inj.le_refl _, fun _ h => h, fun b h => .inl h, fun b h => .inl h⟩
end Go.Proofs.YtgkodbnomgabdaaDoor
