/-
  Own memory handed to a call of data: it turns no more, the rest does. No statement is proved here.
-/
import Derived.Test.YtfaekhadjlgbbaaQDk
namespace Go.Proofs.Ytfaekhadjlgbbaa
open Go.RowKit
set_option linter.unusedSimpArgs false
set_option linter.unusedVariables false
theorem acall_frz {P : Program} {f : FuncId} {args args' : List D} {d : D} {H : List AObj} (hd : DeepL H args args') (h : PCall P f args' d) : ACall P f args H d (frozenL H) := by
  obtain ⟨hf, hp⟩ := h
  refine ⟨hf, by rw [frozenL_map, List.length_map]; exact Nat.le_refl _, fun J F w vs hok hdom hargs => ?_⟩
  have hlt : ∀ b, F b ∨ Owns J b → b < w.heap.size := fun b hb => hb.elim (hok.lt b) fun ⟨i, s, hi, hs⟩ => hok.blk_lt hi hs
  refine (hp J (fun b => F b ∨ Owns J b) w _ (hok.lt.mono (fun _ h => .inl h) (fun _ _ => rfl) hlt) (deepL_sound hok (fun _ _ h => h) _ _ _ hd hargs)).mono fun e w' hR => ?_
  obtain ⟨v, F', rfl, h1, h2, h3⟩ := hR
  have hblk : ∀ b, b < w.heap.size → w'.heap[b]? = w.heap[b]? := fun b hb => h3.block b hb (noOwns b)
  refine ⟨v, J, F', rfl, ⟨fun i s hs => ?_, hok.one, fun i s b o g1 g2 g3 g4 => ?_, hok.lt.mono (fun b hb => h3.grow b (.inl hb)) (fun b hb => hblk b (hok.lt b hb)) h1⟩, fun id hid => ?_, rep_mono (noInj_le J) (fun _ h => h) (fun _ _ => rfl) _ _ h2, ?_⟩
  · obtain ⟨o, q1, q2⟩ := hok.obj i s hs
    refine ⟨o.frozen, ?_, ?_⟩
    · rw [frozenL_map, List.getElem?_map, q1]; rfl
    · have q3 := ObjOK_mono (J' := J) (F' := F') (w' := w') (Inj.le_refl J) (fun b hb => h3.grow b (.inl hb)) (fun b hb => hblk b (hok.lt b hb)) (fun b hb => hblk b (hok.blk_lt hs hb)) q2
      cases o with
      | row m cs =>
        obtain ⟨k1, k2, k3, k4, k5, b, vals, te, t1, t2, t3, t4, t5⟩ := q3
        exact ⟨k1, k2, k3, k4, k5, b, vals, te, t1, t2, t3, t4, fun _ => h3.grow b (.inr ⟨i, s, hs, by simp [Site.blk, k1, t1]⟩)⟩
      | vec m v e xs =>
        obtain ⟨k1, k2, k3, k4, k5, k6⟩ := q3
        refine ⟨k1, k2, k3, k4, k5, ?_⟩
        by_cases hz : s.cap = 0
        · exact .inl hz
        · rcases k6 with k6 | ⟨b, o, vals, te, t1, t2, t3, t4, t5⟩
          · exact .inl k6
          · exact .inr ⟨b, o, vals, te, t1, t2, t3, t4, fun _ => h3.grow b (.inr ⟨i, s, hs, by simp [Site.blk, k1, hz, t1]⟩)⟩
      | mapo m I => exact q3
  · exfalso
    rw [frozenL_map, List.getElem?_map] at g3
    cases e : H[i]? with
    | none => rw [e] at g3; cases g3
    | some x =>
      rw [e] at g3
      cases x <;> cases g3 <;> cases g4
  · rw [frozenL_map, List.length_map]
    exact hdom id hid
  · exact ⟨h3.os, h3.tape, h3.output, h3.size, fun b hb _ => hblk b hb, fun b hb => hblk b (hok.lt b hb), Inj.le_refl J, fun b hb => h3.grow b (.inl hb), fun b hb => .inl hb, fun b hb => by
      rcases h3.growBack b hb with q | q | q
      · rcases q with q | q
        · exact .inl q
        · exact .inr (.inl q)
      · exact absurd q (noOwns b)
      · exact .inr (.inr q)⟩
/-- A call that reads own lists of data: these turn no more. -/
theorem acallAt_frz {P : Program} {f : FuncId} {args0 args' args : List D} {d : D} {H0 H : List AObj} (hd : DeepL H0 args0 args') (h : PCall P f args' d) (hp : Pure d) (L : List Nat) (hL : L.length = H0.length) (hnd : L.Nodup)
    (hargs : UnderL H0.length args0) (hobj : UnderO H0.length H0) (e1 : renL (fun i => L.getD i 0) args0 = args)
    (h1 : ∀ i o, H0[i]? = some o → H[L.getD i 0]? = some (o.ren fun i => L.getD i 0)) : ACallAt P f args H d (putL H L ((frozenL H0).map (AObj.ren fun i => L.getD i 0))) L :=
  acallAt_of (acall_frz hd h) (by rw [frozenL_map, List.length_map]) L hL hnd hargs hobj e1 (ren_pure _ hp) h1
end Go.Proofs.Ytfaekhadjlgbbaa
