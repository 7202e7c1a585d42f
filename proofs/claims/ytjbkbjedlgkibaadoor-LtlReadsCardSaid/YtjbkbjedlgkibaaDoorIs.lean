/-
  errors.Is between two listed errors of one text each, over deep values (after the kit's worked example of it). No statement is proved here.
-/
import Derived.Test.YtjbkbjedlgkibaaDoorDk2
import Derived.Test.YtjbkbjedlgkibaaDoorProg
import Derived.WalkKit
import Derived.LaidEql
import Derived.Stop.Asserts
import Derived.RowKitTokens
namespace Go.Proofs.YtjbkbjedlgkibaaDoor
open Go.RowKit Go.Extern.Stop Go.Stop Go.Extern
set_option linter.unusedSimpArgs false
set_option linter.unusedVariables false
theorem is_typeOf (v : Value) (w : World) : (Extern.ReflectliteType.typeOf #[.iface 108 v]).run Tryd.prog w = .ok (.iface 84 (.agg #[.pointer (some ⟨4, 108, none⟩)])) w := by kernel_rfl
theorem is_comparable (w : World) : ((Extern.ReflectliteType.method fun t => do Rtype.noPackHeld "Comparable" t; (fun a => Value.bool a.comparable) <$> typeInfo t) #[.agg #[.pointer (some ⟨4, 108, none⟩)]]).run Tryd.prog w = .ok (.bool true) w := by kernel_rfl
theorem is_mComparable (v : Value) (w : World) : (Go.method 242 84 v "Comparable").run Tryd.prog w = .ok (80, v) w := by kernel_rfl
theorem is_comp : (Tryd.prog.info? 108).map (·.comparable) = some true := by kernel_rfl
theorem is_size : (Tryd.prog.info? 130).map (·.size) = some 1 := by kernel_rfl
theorem is_noIs (v : Value) (xT : TypeId) (w : World) : (Instr.typeAssert (.iface 108 v) xT 100 true).run Tryd.prog w = .ok (.tuple #[.nilIface, .bool false]) w := run_typeAssert_lacksB Tryd.underlying100 (by kernel_rfl) (by kernel_rfl) v xT w
theorem is_noUnwrap (v : Value) (xT : TypeId) (w : World) : (Instr.typeAssert (.iface 108 v) xT 91 true).run Tryd.prog w = .ok (.tuple #[.nilIface, .bool false]) w := run_typeAssert_lacksB Tryd.underlying91 (by kernel_rfl) (by kernel_rfl) v xT w
theorem is_noUnwraps (v : Value) (xT : TypeId) (w : World) : (Instr.typeAssert (.iface 108 v) xT 93 true).run Tryd.prog w = .ok (.tuple #[.nilIface, .bool false]) w := run_typeAssert_lacksB Tryd.underlying93 (by kernel_rfl) (by kernel_rfl) v xT w
set_option maxRecDepth 1000000 in
theorem is_two {W : World} (a b : Addr) (ca cb : Array Value) (ta tb : TypeId) (ha : W.heap[a.block]? = some (.cells ca ta (0, 0))) (hb : W.heap[b.block]? = some (.cells cb tb (0, 0))) :
    Calls Tryd.prog 35 #[.iface 108 (.pointer (some a)), .iface 108 (.pointer (some b)), .bool true] W fun e w' => e = .returned (.bool (decide (a = b))) ∧ w' = W := by
  obtain ⟨i, hi, hcmp⟩ := Option.map_eq_some_iff.1 is_comp
  obtain ⟨j, hj, hjs⟩ := Option.map_eq_some_iff.1 is_size
  have nE := is_noIs
  have uE := is_noUnwrap
  have vE := is_noUnwraps
  go_enter Tryd.func35, Tryd.ntmps35
  go_wp2
  refine wp_loop_rounds 1 ?_
  rw [rounds_succ]
  by_cases hab : a = b
  · subst hab
    have heq := run_eql_iface_ptr_same (P := Tryd.prog) W a Tryd.underlying35 Tryd.underlying108 hi hcmp hj
    go_wp2
    go_ret
    exact ⟨by simp, rfl⟩
  · have heq := run_eql_iface_ptr_other (P := Tryd.prog) W Tryd.underlying35 Tryd.underlying108 hi hcmp hj (by rw [hjs]; decide) hab ha hb
    go_wp2
    go_ret
    exact ⟨by simp [hab], rfl⟩
set_option maxRecDepth 1000000 in
theorem errIs_two {W : World} (a b : Addr) (ca cb : Array Value) (ta tb : TypeId) (ha : W.heap[a.block]? = some (.cells ca ta (0, 0))) (hb : W.heap[b.block]? = some (.cells cb tb (0, 0))) :
    Calls Tryd.prog 21 #[.iface 108 (.pointer (some a)), .iface 108 (.pointer (some b))] W fun e w' => e = .returned (.bool (decide (a = b))) ∧ w' = W := by
  have h1 := @run_callFunc_extern Tryd.prog 34 _ ReflectliteType.typeOf Tryd.func34 (by kernel_rfl) (by kernel_rfl) (by kernel_rfl) (by kernel_rfl)
  have h2 := @run_callFunc_extern Tryd.prog 80 _ (ReflectliteType.method fun t => do Rtype.noPackHeld "Comparable" t; pure (.bool (← typeInfo t).comparable)) Tryd.func80 (by kernel_rfl) (by kernel_rfl) (by kernel_rfl) (by kernel_rfl)
  have tO := is_typeOf
  have mC := is_mComparable
  have cC := is_comparable
  go_enter Tryd.func21, Tryd.ntmps21
  go_wp2_with (go_at_call 35; refine (is_two a b ca cb ta tb ha hb).mono ?_; rintro e w' ⟨rfl, rfl⟩)
  go_ret
  exact ⟨rfl, rfl⟩
theorem errors_Is {g h : Nat} {x y : ByteArray} (hg : (g, 108, x) ∈ theSents) (hh : (h, 108, y) ∈ theSents) (hd : g = h ∨ x ≠ y) : PCall Tryd.prog 21 [.gv g, .gv h] (.sc (.bool (decide (g = h)))) where
  ok := ⟨_, Tryd.func21, by kernel_rfl, by kernel_rfl⟩
  run J F w vs hF hR := by
    simp only [repL, rep] at hR
    obtain ⟨v, us, rfl, ⟨_, hv, _⟩, v2, us2, rfl, ⟨_, hv2, _⟩, rfl⟩ := hR
    obtain ⟨_, b, o, vals, te, h1, _, h2, h3⟩ := hF.se _ _ _ hg
    obtain ⟨_, b', o', vals', te', k1, _, k2, k3⟩ := hF.se _ _ _ hh
    rw [hv] at h1
    rw [hv2] at k1
    cases h1
    cases k1
    refine (errIs_two ⟨b, o, none⟩ ⟨b', o', none⟩ vals vals' te te' h2 k2).mono fun e w' ⟨he, hw⟩ => ?_
    subst hw
    refine ⟨_, F, he, hF.lt, ?_, Ext.refl _ _ _⟩
    simp only [rep]
    congr 1
    rw [decide_eq_decide]
    constructor
    · intro e
      rcases hd with q | q
      · exact q
      · rw [e, k3] at h3
        exact absurd (by cases h3; rfl) q
    · intro e
      subst e
      rw [hv] at hv2
      cases hv2
      rfl
end Go.Proofs.YtjbkbjedlgkibaaDoor
