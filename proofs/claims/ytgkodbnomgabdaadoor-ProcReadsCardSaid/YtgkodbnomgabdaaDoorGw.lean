/-
  What a row's condition on a package variable gives: an array of integers, cell by cell. No statement is proved here.
-/
import Derived.Test.YtgkodbnomgabdaaDoorDC
import Derived.Test.YtgkodbnomgabdaaDoorDk
import Derived.OpenShut
import Derived.FnData
import Derived.LaidLaws
import Derived.LaidHandle
import Derived.Lay
import Derived.Stop.Joined
namespace Go.Proofs.YtgkodbnomgabdaaDoor
open Go.RowKit
set_option linter.unusedSimpArgs false
set_option linter.unusedVariables false
theorem glob_cells {P : Program} {W : World} {name : String} {g t e n : Nat} {ns : List Int} (hg : P.globalNamed name = some g) (ht : (P.globals[g]?).map (·.type) = some t) (hu : P.underlying t = some (.array n e)) (he : P.underlying e = some (.int .i64)) (hc : P.cellsOf e = 1)
    (h : laidMet P [(name, .agg (ns.map fun n => .lit (.int .i64 n)))] W) : ns.length = n ∧ ∀ (i : Nat) (k : Int), ns[i]? = some k → W.cell? ⟨g, i, none⟩ = some (.int .i64 k) := by
  obtain ⟨ps, ⟨g', t', cs, fuel, p, q, h1, h2, h3, h4, h5, h6⟩, h7, h8⟩ := h
  rw [hg] at h1; cases h1
  rw [ht] at h2; cases h2
  obtain ⟨xs, m, k1, k2, k3, k4, k5⟩ := DataW.trod_array hu h4
  have k2' : ns.map (fun n => (DataW.lit (.int .i64 n) : DataW Unit)) = xs.map (·.1) := by
    have := congrArg Prod.fst k2
    simpa using this
  have hl : ns.length = xs.length := by simpa using congrArg List.length k2'
  refine ⟨by omega, fun i k hi => ?_⟩
  have hi' : i < ns.length := get_lt hi
  have k6 := k5 i (by omega)
  rw [hc, Nat.mul_one] at k6
  rw [List.getElem?_eq_getElem (show i < xs.length by omega)] at k6
  obtain ⟨z, z1, z2, z3⟩ := DataW.trod_int he k6
  have z4 : xs[i].1 = .lit (.int .i64 z) := by rw [z2]
  have z5 : (DataW.lit (.int .i64 k) : DataW Unit) = xs[i].1 := by
    have a1 : (ns.map (fun n => (DataW.lit (.int .i64 n) : DataW Unit)))[i]? = some (.lit (.int .i64 k)) := by rw [List.getElem?_map, hi]; rfl
    rw [k2', List.getElem?_map, List.getElem?_eq_getElem (show i < xs.length by omega)] at a1
    exact (Option.some.inj a1).symm
  have z6 : k = z := by
    rw [z4] at z5
    injection z5 with z5
    injection z5 with _ z5
  subst z6
  rw [World.var?_cell hg h3 i, ← Array.getElem?_toList]
  have : ((cs.toList.drop i).take 1)[0]? = some (Value.int .i64 k) := by rw [z1]; rfl
  rw [List.getElem?_take, if_pos (by omega), List.getElem?_drop, Nat.add_zero] at this
  exact this
theorem glob_ints {P : Program} {W : World} {name : String} {g t e n : Nat} {ns : List Int} (hg : P.globalNamed name = some g) (ht : (P.globals[g]?).map (·.type) = some t) (hu : P.underlying t = some (.array n e)) (he : P.underlying e = some (.int .i64)) (hc : P.cellsOf e = 1)
    (h : laidMet P [(name, .agg (ns.map fun n => .lit (.int .i64 n)))] W) : (0 < ns.length → There W g) ∧ repCells (fun _ => none) (There W) W g (ns.map fun n => .sc (.int .i64 n)) 0 := by
  obtain ⟨_, h1⟩ := glob_cells hg ht hu he hc h
  refine ⟨fun h0 => ?_, repCells_mk _ _ fun k c hk => ?_⟩
  · exact World.block_lt_of_cell? W ⟨g, 0, none⟩ (h1 0 _ (List.getElem?_eq_getElem h0))
  · rw [List.getElem?_map] at hk
    obtain ⟨z, hz, rfl⟩ := Option.map_eq_some_iff.1 hk
    exact ⟨_, by rw [Nat.zero_add]; exact h1 k z hz, rfl, by simp only [rep]⟩
end Go.Proofs.YtgkodbnomgabdaaDoor
