/-
  What comes in a graph that is turned round. Plain Lean. No statement is proved here.
-/
import Derived.Test.YtfaekhadjlgbbaaQWyA
namespace Go.Proofs.Ytfaekhadjlgbbaa
theorem Rch.one (g : List (List Int)) (v : Nat) : Rch g [(v : Int)] v := by
  have := Rch.base (g := g) (from_ := [(v : Int)]) (x := (v : Int)) (by simp)
  rwa [Int.toNat_natCast] at this
theorem Rch.trans {g : List (List Int)} {a : List Int} {u v : Nat} (h : Rch g a u) (k : Rch g [(u : Int)] v) : Rch g a v := by
  induction k with
  | base hx =>
    rw [List.mem_singleton] at hx
    subst hx
    simpa using h
  | step _ hx ih => exact .step ih hx
end Go.Proofs.Ytfaekhadjlgbbaa
