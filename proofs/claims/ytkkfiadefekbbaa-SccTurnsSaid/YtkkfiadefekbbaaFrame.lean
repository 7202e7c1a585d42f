/-
  From what an argument reads as to the words of the walks; the row's last step where only new memory has been written. No statement is proved here.
-/
import Derived.Test.YtkkfiadefekbbaaEq
import Derived.Test.YtkkfiadefekbbaaRows
import Derived.ProofKit
import Derived.OpenShut
import Derived.ShutString
import Derived.ChangeSame
import Derived.Deep.Matrix
import Derived.Deep.Slices
import Derived.Deep.Fields
import Derived.Lib.SmallJoins
namespace Go.Proofs.Ytkkfiadefekbbaa
open Go.ChangeShapes Go.WideShapes Go.ChangeAt Go.RowKit Go.Deep

/-- A law's end: true; nothing that was there has turned. -/
def RetTrue (w : World) (e : Ending) (w' : World) : Prop := e = .returned (.bool true) ∧ Below w.heap.size w w'

section
variable {H : Type} {enc : TypeId × Value → H} {P : Program}
theorem post_of_below {f : Func} {s : ChangeSpec} {apart fresh handsOn again : Bool} {W W' : World} {args : Array Value} {v : Value} {ds gs : List (DataW H)} {before pa pv : List MemPlace}
    (hW : DataW.Whole enc P f.params.toList s.vars apart W args.toList ds gs before)
    (hres : ∀ (b : Nat) (sp : Nat → Bool) (hd : Bool), DataW.TrodAll enc P W' b sp hd f.resultTypes.toList (v.resultList f.resultTypes.size) (s.fn H (ds ++ gs)).results [])
    (hargs : ∀ sp : Nat → Bool, (∀ p ∈ before, sp p.block = true) → DataW.TrodAll enc P W' 0 sp true f.params.toList args.toList (s.fn H (ds ++ gs)).args pa)
    (hvars : ∀ sp : Nat → Bool, (∀ p ∈ before, sp p.block = true) → DataW.TrodVars enc P W' sp s.vars (s.fn H (ds ++ gs)).vars pv)
    (hps : before = pa ++ pv) (hb : Below W.heap.size W W')
    (hok : ∀ (j : Nat) (t : TypeId) (r : Value), f.resultTypes[j]? = some t → (v.resultList f.resultTypes.size)[j]? = some r → Value.okWide P W' .any 0 t r) :
    s.post enc P f apart fresh handsOn again W args v W' := by
  have hlt : ∀ p ∈ before, p.block < W.heap.size := fun p hp => hW.lt p hp
  have hold : ∀ p ∈ before, (fun b => decide (b < W.heap.size)) p.block = true := fun p hp => by simpa using hlt p hp
  refine ⟨ds, gs, before, [], pa, pv, hW, hres _ _ _, hargs _ hold, hvars _ hold, World.keptBut_mono (fun p hp => ⟨hp, ?_⟩) (hb.frame (· ∈ before)), fun _ => ?_⟩
  · rw [hps, List.mem_append] at hp
    exact Or.inr hp
  · obtain ⟨_, _, _, _, _, hz, hn⟩ := hW
    refine ⟨hok, _, _, ([] ++ pa) ++ pv, ⟨[] ++ pa, pv, trodAll_append (hargs _ (fun _ _ => rfl)) (hres _ _ _), hvars _ (fun _ _ => rfl), rfl, ?_, ?_⟩, ?_⟩
    · intro b off hp
      have hin : MemPlace.cell b off ∈ before := by rw [hps]; simpa using hp
      rw [hb.frozen (hlt _ hin)]
      exact hz b off hin
    · intro ha
      have := hn ha
      rw [hps] at this
      simpa using this
    · intro p hp _
      rw [hps]
      simpa using hp

/-- An argument reads behind the call as ahead of it, under whatever test on spare places lets the old ones by. -/
theorem kept_arg {t : TypeId} (hl : laidOutB P = true) (hr : P.readableRec t = true) (hrow : t < P.types.size) {W W' : World} {v : Value} {d : DataW H} {ps : List MemPlace} {sp : Nat → Bool}
    (h : DataW.Trod enc P W 0 (fun _ => true) true t v d ps) (hb : Below W.heap.size W W') (hlt : ∀ x ∈ ps, x.block < W.heap.size) (hsp : ∀ x ∈ ps, sp x.block = true) :
    DataW.Trod enc P W' 0 sp true t v d ps :=
  WideElems.Trod_stays hl hr hrow h (fun x hx => hb.same (hlt x hx)) hsp

theorem reads_of_cells {w : World} {a : Addr} {n m : Nat} {xs : List Value} (hl : xs.length = n) (hm : n ≤ m) (hc : ∀ j, j < m → ∃ u, w.cell? (a.add j) = some u ∧ (j < n → xs[j]? = some u)) : Reads w w.heap.size 1 (some a) n xs := by
  refine ⟨by omega, fun hn => ⟨a, rfl, ?_, fun j u hu => ?_⟩⟩
  · obtain ⟨u, hu, _⟩ := hc 0 (by omega)
    have := World.block_lt_of_cell? _ _ hu
    rwa [block_of_add] at this
  · have hj : j < n := by
      rcases Nat.lt_or_ge j n with h | h
      · exact h
      · rw [List.getElem?_eq_none (by omega)] at hu; cases hu
    obtain ⟨u', hu', hx⟩ := hc j (by omega)
    have := hx hj
    rw [hu] at this
    rw [hu', this]
end

section
variable {H : Type} {enc : TypeId × Value → H} {P : Program} {W : World} {held : Bool}
/-- A slice of slices of ints that came in. -/
def RdGrid (w : World) (v : Value) : Prop := ∃ A n c g a L C, v = .slice A n c ∧ n ≤ 9223372036854775807 ∧ Grid w A n g a L C
theorem rd_grid {t e q : TypeId} {v : Value} {d : DataW H} {ps : List MemPlace} {r : Reach} {b0 : Nat} (ht : P.underlying t = some (.slice e)) (he : P.underlying e = some (.slice q)) (hq : P.underlying q = some (.int .i64)) (ce : P.cellsOf e = 1) (cq : P.cellsOf q = 1)
    (hv : Value.okWide P W r b0 t v) (h : DataW.Trod enc P W 0 (fun _ => true) held t v d ps) : RdGrid W v := by
  obtain ⟨a0, len, cap, rfl⟩ := okWide_slice ht hv
  obtain ⟨fuel, hf⟩ := h
  rcases open_int_rows ht he hq ce cq hf with ⟨hcs, hx⟩ | ⟨a, len', cap', A, L, C, Z, hcs, _, hl, hm, hx, hrows⟩
  · simp [Value.cells] at hcs
    obtain ⟨rfl, rfl, rfl⟩ := hcs
    exact ⟨none, 0, 0, [], fun _ => none, fun _ => 0, fun _ => 0, rfl, by omega, ⟨rfl, Reads.none_, fun _ h => absurd h (by omega), fun _ h => absurd h (by omega)⟩⟩
  · simp [Value.cells] at hcs
    obtain ⟨rfl, rfl, rfl⟩ := hcs
    refine ⟨some a, len, cap, (List.range len).map fun i => (Z i).take (L i), A, L, C, rfl, by unfold maxLen at hm; omega, ⟨by simp, ?_, fun i hi => ?_, fun i hi => ?_⟩⟩
    · refine reads_of_cells (m := cap) (by simp) hl fun j hj => ⟨_, (hrows j hj).1, fun hjl => ?_⟩
      rw [List.getElem?_map, List.getElem?_range hjl]; rfl
    · have hi' : i < cap := by omega
      obtain ⟨_, h1, h2, h3, _, h4, h5⟩ := hrows i hi'
      have hrow : rowAt ((List.range len).map fun i => (Z i).take (L i)) i = (Z i).take (L i) := by
        rw [rowAt_get (by simpa using hi)]; simp
      rw [hrow]
      cases hA : A i with
      | none =>
        have := h4 hA
        have e1 : L i = 0 := by omega
        rw [e1]; exact Reads.none_
      | some a' =>
        refine reads_of_cells (m := C i) (by simp [ints]; omega) h1 fun j hj => ⟨_, (h5 a' hA).2 j hj, fun hjl => ?_⟩
        have hjz : j < (Z i).length := by omega
        rw [ints, List.getElem?_map, List.getElem?_take, if_pos hjl, List.getElem?_eq_getElem hjz]
        simp [List.getD, List.getElem?_eq_getElem hjz]
    · have := (hrows i (by omega)).2.1
      have := (hrows i (by omega)).2.2.1
      unfold maxLen at *; omega
end

theorem Try.own : ownKnob Try.prog.godebug = none := by kernel_rfl
set_option maxRecDepth 100000 in
theorem Try.laidOut : laidOutB Try.prog = true := by kernel_rfl
theorem Try.cells3 : Try.prog.cellsOf 3 = 1 := by kernel_rfl
theorem Try.cells24 : Try.prog.cellsOf 24 = 1 := by kernel_rfl
theorem Try.cells25 : Try.prog.cellsOf 25 = 1 := by kernel_rfl
set_option maxRecDepth 100000 in
theorem rdGrid {H : Type} {enc : TypeId × Value → H} {W : World} {held : Bool} {v : Value} {d : DataW H} {ps : List MemPlace} {r : Reach} {b0 : Nat} (hv : Value.okWide Try.prog W r b0 25 v) (h : DataW.Trod enc Try.prog W 0 (fun _ => true) held 25 v d ps) : RdGrid W v :=
  rd_grid Try.underlying25 Try.underlying24 Try.underlying3 Try.cells24 Try.cells3 hv h
end Go.Proofs.Ytkkfiadefekbbaa
