/-
  errors.As at a target of type **ltl.Fault, over deep values (after the kit's worked example of it). No statement is proved here.
-/
import Derived.Test.YtjbkbjedlgkibaaDoorDk2
import Derived.Test.YtjbkbjedlgkibaaDoorProg
import Derived.WalkKit
import Derived.LaidEql
import Derived.Stop.Asserts
import Derived.RowKitTokens
namespace Go.Proofs.YtjbkbjedlgkibaaDoor
open Go.RowKit Go.Extern.Stop Go.Stop Go.Extern
set_option linter.unusedSimpArgs false
set_option linter.unusedVariables false

/-- errors.As(nil, target). -/
theorem as_nil (t : Value) (w : World) :
    Calls Tryd.prog 10 #[.nilIface, t] w fun e w' => e = .returned (.bool false) ∧ w' = w := by
  go_enter Tryd.func10, Tryd.ntmps10
  go_wp2
  go_ret
  exact ⟨rfl, rfl⟩
theorem as_valueOfT (t : Addr) (w : World) : (ReflectliteValue.unpack (.iface 41 (.pointer (some t)))).run Tryd.prog w
    = .ok (.agg #[.pointer (some ⟨4, 41, none⟩), .pointer (some ⟨w.heap.size, 0, none⟩), .int .u64 150]) (w.alloc (.cells #[.pointer (some t)] 41)) := by kernel_rfl
theorem as_typeT (a : Addr) (w : World) : (ReflectliteValue.methodAny (ReflectliteValue.valueError "reflectlite.Value.Type" 0) (fun t _ _ _ => ReflectliteType.toType t) #[.agg #[.pointer (some ⟨4, 41, none⟩), .pointer (some a), .int .u64 150]]).run Tryd.prog w
    = .ok (.iface 84 (.agg #[.pointer (some ⟨4, 41, none⟩)])) w := by kernel_rfl
theorem as_mKind (h : Value) (w : World) : (Go.method 242 84 (.agg #[h]) "Kind").run Tryd.prog w = .ok (70, h) w := by kernel_rfl
theorem as_kindT (w : World) : ((ReflectliteType.abiMethod fun t => (fun a : Nat => Value.int IntKind.u8 (a : Int)) <$> Rtype.kind t) #[.pointer (some ⟨4, 41, none⟩)]).run Tryd.prog w = .ok (.int .u8 22) w := by kernel_rfl
theorem as_kindE (w : World) : ((ReflectliteType.abiMethod fun t => (fun a : Nat => Value.int IntKind.u8 (a : Int)) <$> Rtype.kind t) #[.pointer (some ⟨4, 39, none⟩)]).run Tryd.prog w = .ok (.int .u8 22) w := by kernel_rfl
theorem rlm (z : Sem Value) (f : TypeId → Addr → Nat → Nat → Sem Value) (v : Value) :
    ReflectliteValue.method z f #[v] = (do match ← ReflectliteValue.parts v with | none => z | some (t, a, fl) => f t a fl (fl % 32)) := rfl
theorem as_partsT (a : Addr) (w : World) : (ReflectliteValue.parts (.agg #[.pointer (some ⟨4, 41, none⟩), .pointer (some a), .int .u64 150])).run Tryd.prog w = .ok (some (41, a, 150)) w := by kernel_rfl
theorem as_isNil (a p : Addr) (W : World) (ha : W.cell? a = some (.pointer (some p))) :
    (ReflectliteValue.method (ReflectliteValue.valueError "reflectlite.Value.IsNil" 0) ReflectliteValue.isNil #[.agg #[.pointer (some ⟨4, 41, none⟩), .pointer (some a), .int .u64 150]]).run Tryd.prog W = .ok (.bool false) W := by
  rw [rlm]
  simp only [Sem.run_bind, as_partsT, Result.andThen]
  simp [ReflectliteValue.isNil, loadVar, isAgg, underlying, Tryd.underlying41, ha, Result.andThen]
theorem as_mElem (h : Value) (w : World) : (Go.method 242 84 (.agg #[h]) "Elem").run Tryd.prog w = .ok (81, .agg #[h]) w := by kernel_rfl
theorem as_mImpl (h : Value) (w : World) : (Go.method 242 84 (.agg #[h]) "Implements").run Tryd.prog w = .ok (82, .agg #[h]) w := by kernel_rfl
theorem as_mAssign (h : Value) (w : World) : (Go.method 242 84 (.agg #[h]) "AssignableTo").run Tryd.prog w = .ok (79, .agg #[h]) w := by kernel_rfl
theorem as_elem (w : World) : (ReflectliteType.method ReflectliteType.elem #[.agg #[.pointer (some ⟨4, 41, none⟩)]]).run Tryd.prog w = .ok (.iface 84 (.agg #[.pointer (some ⟨4, 39, none⟩)])) w := by kernel_rfl
theorem as_impl (w : World) : (ReflectliteType.relation "Implements" ReflectliteType.implements_ #[.agg #[.pointer (some ⟨4, 39, none⟩)], .iface 84 (.agg #[.pointer (some ⟨4, 35, none⟩)])]).run Tryd.prog w = .ok (.bool true) w := by kernel_rfl
theorem as_typeOf (v : Value) (w : World) : (ReflectliteType.typeOf #[.iface 39 v]).run Tryd.prog w = .ok (.iface 84 (.agg #[.pointer (some ⟨4, 39, none⟩)])) w := by kernel_rfl
theorem as_assign (w : World) : (ReflectliteType.relation "AssignableTo" ReflectliteType.assignableTo #[.agg #[.pointer (some ⟨4, 39, none⟩)], .iface 84 (.agg #[.pointer (some ⟨4, 39, none⟩)])]).run Tryd.prog w = .ok (.bool true) w := by kernel_rfl
theorem as_valueOfE (e : Addr) (w : World) : (ReflectliteValue.unpack (.iface 39 (.pointer (some e)))).run Tryd.prog w
    = .ok (.agg #[.pointer (some ⟨4, 39, none⟩), .pointer (some ⟨w.heap.size, 0, none⟩), .int .u64 150]) (w.alloc (.cells #[.pointer (some e)] 39)) := by kernel_rfl
theorem as_elemOf (w : World) : (Rtype.elem? 41).run Tryd.prog w = .ok (some 39) w := by kernel_rfl
theorem as_mkE (p : Addr) (w : World) : (ReflectliteValue.mk 39 p ReflectliteValue.flagAddr).run Tryd.prog w = .ok (.agg #[.pointer (some ⟨4, 39, none⟩), .pointer (some p), .int .u64 406]) w := by kernel_rfl
theorem as_elemV (a p : Addr) (W : World) (ha : W.cell? a = some (.pointer (some p))) :
    (ReflectliteValue.method (ReflectliteValue.valueError "reflectlite.Value.Elem" 0) ReflectliteValue.elem #[.agg #[.pointer (some ⟨4, 41, none⟩), .pointer (some a), .int .u64 150]]).run Tryd.prog W
      = .ok (.agg #[.pointer (some ⟨4, 39, none⟩), .pointer (some p), .int .u64 406]) W := by
  rw [rlm]
  simp only [Sem.run_bind, as_partsT, Result.andThen]
  simp [ReflectliteValue.elem, loadVar, isAgg, underlying, Tryd.underlying41, ha, Result.andThen, as_elemOf, as_mkE]
theorem rls (v x : Value) : ReflectliteValue.set #[v, x] = (do
    let (some (dst, a, fl), some (src, b, _)) := (← ReflectliteValue.parts v, ← ReflectliteValue.parts x)
      | unsupported (.noEntry "extern/(internal/reflectlite.Value).Set.zeroValue")
    if fl / ReflectliteValue.flagAddr % 2 == 0 then unsupported (.noEntry "extern/(internal/reflectlite.Value).Set.unaddressable")
    let val ← loadVar src b
    if ← Rtype.directlyAssignable dst src then storeVar dst a val
    else if ← Rtype.implements dst src then
      if (← Rtype.kind src) == 20 then
        match val with
        | .nilIface => unsupported (.noEntry "extern/reflectlite: a nil value of one interface type handed on as a value of another")
        | _ => storeVar dst a val
      else storeVar dst a (.iface src val)
    else panicString ("reflectlite.Set: value of type " ++ (← Rtype.spelt src) ++ " is not assignable to type " ++ (← Rtype.spelt dst))
    pure (.tuple #[])) := rfl
theorem as_partsA (a : Addr) (w : World) : (ReflectliteValue.parts (.agg #[.pointer (some ⟨4, 39, none⟩), .pointer (some a), .int .u64 406])).run Tryd.prog w = .ok (some (39, a, 406)) w := by kernel_rfl
theorem as_partsE (a : Addr) (w : World) : (ReflectliteValue.parts (.agg #[.pointer (some ⟨4, 39, none⟩), .pointer (some a), .int .u64 150])).run Tryd.prog w = .ok (some (39, a, 150)) w := by kernel_rfl
theorem as_direct (w : World) : (Rtype.directlyAssignable 39 39).run Tryd.prog w = .ok true w := by kernel_rfl
theorem as_size (w : World) : (sizeOf 39).run Tryd.prog w = .ok 1 w := by kernel_rfl
theorem as_set (ta b e : Addr) (old : Value) (W : World) (hb : W.cell? b = some (.pointer (some e))) (ht : W.cell? ta = some old) (hf : W.frozen? ta = false) :
    (ReflectliteValue.set #[.agg #[.pointer (some ⟨4, 39, none⟩), .pointer (some ta), .int .u64 406], .agg #[.pointer (some ⟨4, 39, none⟩), .pointer (some b), .int .u64 150]]).run Tryd.prog W
      = .ok (.tuple #[]) (W.setCell ta (.pointer (some e))) := by
  rw [rls]
  simp only [Sem.run_bind, as_partsA, as_partsE, Result.andThen]
  simp [ReflectliteValue.flagAddr, loadVar, isAgg, underlying, Tryd.underlying39, hb, Result.andThen, as_direct, storeVar, Value.cells, storeCells, Addr.add]
  rw [run_store Tryd.prog W ta _ _ (by rfl)]
  simp [ht, hf]
set_option maxHeartbeats 4000000 in
set_option maxRecDepth 100000 in
theorem as_hit (e t : Addr) (old : Value) (w : World) (hg : w.cell? ⟨3, 0, none⟩ = some (.iface 84 (.agg #[.pointer (some ⟨4, 35, none⟩)]))) (ht0 : w.cell? t = some old) (hf0 : w.frozen? t = false) :
    Calls Tryd.prog 10 #[.iface 39 (.pointer (some e)), .iface 41 (.pointer (some t))] w fun ev w' => ev = .returned (.bool true) ∧ w' = ((((w.alloc (.cells #[.pointer (some t)] 41)).alloc (.cells #[.pointer (some ⟨4, 41, none⟩), .pointer (some ⟨w.heap.size, 0, none⟩), .int .u64 150] 60)).alloc (.cells #[.pointer (some ⟨4, 41, none⟩), .pointer (some ⟨w.heap.size, 0, none⟩), .int .u64 150] 60)).alloc (.cells #[.pointer (some e)] 39)).setCell t (.pointer (some e)) := by
  have h6 := @run_callFunc_extern Tryd.prog 22 _ (fun args => ReflectliteValue.unpack (args.getD 0 (.tuple #[]))) Tryd.func22 (by kernel_rfl) (by kernel_rfl) (by kernel_rfl) (by kernel_rfl)
  have h7 := @run_callFunc_extern Tryd.prog 23 _ (ReflectliteValue.methodAny (ReflectliteValue.valueError "reflectlite.Value.Type" 0) (fun t _ _ _ => ReflectliteType.toType t)) Tryd.func23 (by kernel_rfl) (by kernel_rfl) (by kernel_rfl) (by kernel_rfl)
  have h8 := @run_callFunc_extern Tryd.prog 24 _ (ReflectliteValue.method (ReflectliteValue.valueError "reflectlite.Value.IsNil" 0) ReflectliteValue.isNil) Tryd.func24 (by kernel_rfl) (by kernel_rfl) (by kernel_rfl) (by kernel_rfl)
  have h27 := @run_callFunc_extern Tryd.prog 70 _ (ReflectliteType.abiMethod fun t => do pure (.int .u8 (← Rtype.kind t))) Tryd.func70 (by kernel_rfl) (by kernel_rfl) (by kernel_rfl) (by kernel_rfl)
  have h37 := @run_callFunc_extern Tryd.prog 81 _ (ReflectliteType.method ReflectliteType.elem) Tryd.func81 (by kernel_rfl) (by kernel_rfl) (by kernel_rfl) (by kernel_rfl)
  have h38 := @run_callFunc_extern Tryd.prog 82 _ (ReflectliteType.relation "Implements" ReflectliteType.implements_) Tryd.func82 (by kernel_rfl) (by kernel_rfl) (by kernel_rfl) (by kernel_rfl)
  have h10 := @run_callFunc_extern Tryd.prog 34 _ ReflectliteType.typeOf Tryd.func34 (by kernel_rfl) (by kernel_rfl) (by kernel_rfl) (by kernel_rfl)
  have h35 := @run_callFunc_extern Tryd.prog 79 _ (ReflectliteType.relation "AssignableTo" ReflectliteType.assignableTo) Tryd.func79 (by kernel_rfl) (by kernel_rfl) (by kernel_rfl) (by kernel_rfl)
  have h11 := @run_callFunc_extern Tryd.prog 36 _ (ReflectliteValue.method (ReflectliteValue.valueError "reflectlite.Value.Elem" 0) ReflectliteValue.elem) Tryd.func36 (by kernel_rfl) (by kernel_rfl) (by kernel_rfl) (by kernel_rfl)
  have h12 := @run_callFunc_extern Tryd.prog 37 _ ReflectliteValue.set Tryd.func37 (by kernel_rfl) (by kernel_rfl) (by kernel_rfl) (by kernel_rfl)
  have tO := as_typeOf
  have mA := as_mAssign
  have a25 := as_assign
  have v25 := as_valueOfE
  have f6 := as_valueOfT
  have f7 := as_typeT
  have mK := as_mKind
  have mE := as_mElem
  have mI := as_mImpl
  have k27 := as_kindT
  have k25 := as_kindE
  have e27 := as_elem
  have i25 := as_impl
  have n8 := as_isNil ⟨w.heap.size, 0, none⟩ t ((w.alloc (.cells #[.pointer (some t)] 41)).alloc (.cells #[.pointer (some ⟨4, 41, none⟩), .pointer (some ⟨w.heap.size, 0, none⟩), .int .u64 150] 60)) (by simp)
  have hlt : 3 < w.heap.size := World.block_lt_of_cell? w ⟨3, 0, none⟩ hg
  have hg2 : ((w.alloc (.cells #[.pointer (some t)] 41)).alloc (.cells #[.pointer (some ⟨4, 41, none⟩), .pointer (some ⟨w.heap.size, 0, none⟩), .int .u64 150] 60)).cell? ⟨3, 0, none⟩ = some (.iface 84 (.agg #[.pointer (some ⟨4, 35, none⟩)])) := by
    rw [World.cell?_alloc_lt _ _ ⟨3, 0, none⟩ (by simp; omega), World.cell?_alloc_lt _ _ ⟨3, 0, none⟩ hlt]; exact hg
  have htl : t.block < w.heap.size := by
    rcases Nat.lt_or_ge t.block w.heap.size with h | h
    · exact h
    · simp [World.cell?, Array.getElem?_eq_none h] at ht0
  have el := as_elemV ⟨w.heap.size, 0, none⟩ t (((w.alloc (.cells #[.pointer (some t)] 41)).alloc (.cells #[.pointer (some ⟨4, 41, none⟩), .pointer (some ⟨w.heap.size, 0, none⟩), .int .u64 150] 60)).alloc (.cells #[.pointer (some ⟨4, 41, none⟩), .pointer (some ⟨w.heap.size, 0, none⟩), .int .u64 150] 60)) (by rw [World.cell?_alloc_lt _ _ ⟨w.heap.size, 0, none⟩ (by simp; omega)]; simp)
  have st := as_set t ⟨w.heap.size + 1 + 1 + 1, 0, none⟩ e old ((((w.alloc (.cells #[.pointer (some t)] 41)).alloc (.cells #[.pointer (some ⟨4, 41, none⟩), .pointer (some ⟨w.heap.size, 0, none⟩), .int .u64 150] 60)).alloc (.cells #[.pointer (some ⟨4, 41, none⟩), .pointer (some ⟨w.heap.size, 0, none⟩), .int .u64 150] 60)).alloc (.cells #[.pointer (some e)] 39))
    (by rw [World.cell?_alloc_at _ _ _ _ (by simp)]; rfl)
    (by rw [World.cell?_alloc_lt _ _ t (by simp; omega), World.cell?_alloc_lt _ _ t (by simp; omega), World.cell?_alloc_lt _ _ t (by simp; omega), World.cell?_alloc_lt _ _ t htl]; exact ht0)
    (by rw [World.frozen?_alloc_old _ _ t (by simp; omega), World.frozen?_alloc_old _ _ t (by simp; omega), World.frozen?_alloc_old _ _ t (by simp; omega), World.frozen?_alloc_old _ _ t (Nat.ne_of_lt htl)]; exact hf0)
  go_enter Tryd.func10, Tryd.ntmps10
  go_wp2
  refine wp_loop_rounds 1 ?_
  rw [rounds_succ]
  go_wp2
  go_ret
  exact ⟨rfl, rfl⟩
theorem errors_As_nil (x : D) : ACall Tryd.prog 10 [.sc .nilIface, .ifc 41 (.loc 0 0)] [.row true [x]] (.sc (.bool false)) [.row true [x]] where
  ok := ⟨_, Tryd.func10, by kernel_rfl, by kernel_rfl⟩
  len := Nat.le_refl _
  run J F w vs hst hdom hR := by
    simp only [repL, rep] at hR
    obtain ⟨v, us, rfl, rfl, v2, us2, rfl, h2, rfl⟩ := hR
    exact (as_nil v2 w).mono fun e w' ⟨he, hw⟩ => by
      subst he hw
      exact ⟨_, J, F, rfl, hst, hdom, rfl, Ext.refl _ _ _⟩
theorem errors_As_hit (x : D) (cs : List D) : ACall Tryd.prog 10 [.ifc 39 (.ipt cs), .ifc 41 (.loc 0 0)] [.row true [x]] (.sc (.bool true)) [.row true [.ipt cs]] where
  ok := ⟨_, Tryd.func10, by kernel_rfl, by kernel_rfl⟩
  len := Nat.le_refl _
  run J F w vs hst hdom hR := by
    simp only [repL, rep] at hR
    obtain ⟨v, us, rfl, ⟨u1, rfl, b, o, rfl, hFb, hcs⟩, v2, us2, rfl, ⟨u2, rfl, s, b2, hJ, hrow, had, rfl⟩, rfl⟩ := hR
    obtain ⟨ob, ho, hO⟩ := hst.obj 0 s hJ
    have ho : AObj.row true [x] = ob := Option.some.inj ho
    subst ho
    simp only [ObjOK] at hO
    obtain ⟨_, hver, hesz, hlen, hcap, b', vals, te, had', hheap, hvs, hcells, _⟩ := hO
    rw [had] at had'
    have : b2 = b' := by have := Option.some.inj had'; injection this
    subst this
    obtain ⟨hgF, hgc⟩ := hst.lt.gl 3 _ (by unfold theGlobs; repeat (first | exact List.Mem.head _ | apply List.Mem.tail))
    simp only [repCells, rep] at hgc
    obtain ⟨⟨u0, hu0, _, rfl⟩, _⟩ := hgc
    have hblk : s.blk = some b2 := by unfold Site.blk; rw [if_neg (by simp [hrow]), had]; rfl
    have hnF : ¬ F b2 := hst.apart 0 s b2 _ hJ hblk rfl rfl
    have hb2 : b2 < w.heap.size := (Array.getElem?_eq_some_iff.1 hheap).1
    obtain ⟨old, hold⟩ : ∃ old, w.cell? ⟨b2, 0, none⟩ = some old := by
      simp only [World.cell?, hheap]
      have : 0 < vals.size := by rw [hvs]; simp
      exact ⟨vals[0], by simp [this]⟩
    refine (as_hit ⟨b, o, none⟩ ⟨b2, 0, none⟩ old w hu0 hold (by simp [World.frozen?, hheap])).mono fun e w' ⟨he, hw⟩ => ?_
    generalize hw4 : (((w.alloc _).alloc _).alloc _).alloc _ = w4 at hw
    have h4 : ∀ k, k < w.heap.size → w4.heap[k]? = w.heap[k]? := fun k hk => by
      rw [← hw4, heap_push_lt _ _ (by simp; omega), heap_push_lt _ _ (by simp; omega), heap_push_lt _ _ (by simp; omega), heap_push_lt _ _ hk]
    have hs4 : w.heap.size ≤ w4.heap.size := by rw [← hw4]; simp; omega
    have hos : w4.os = w.os ∧ w4.tape = w.tape ∧ w4.output = w.output := by rw [← hw4]; exact ⟨rfl, rfl, rfl⟩
    have hset := heap_setCell_same w4 b2 0 vals te (.pointer (some ⟨b, o, none⟩)) (by rw [h4 b2 hb2]; exact hheap)
    rw [← hw] at hset
    have hoth : ∀ k, k < w.heap.size → k ≠ b2 → w'.heap[k]? = w.heap[k]? := fun k h1 h2 => by
      rw [hw, Below.heap_setCell _ _ _ _ h2, h4 k h1]
    have hsz : w.heap.size ≤ w'.heap.size := by rw [hw]; simpa [World.setCell] using hs4
    have hfr : ∀ k, F k → w'.heap[k]? = w.heap[k]? := fun k hk => hoth k (hst.lt k hk) fun e => hnF (e ▸ hk)
    refine ⟨_, J, F, he, ?_, hdom, rfl, ?_⟩
    · refine hst.update 0 s (.row true [.ipt cs]) (fun i => ?_) (fun i => ?_) (Inj.le_refl J) hfr hsz ?_ (fun b3 h3 => .inr ⟨s, hJ, h3⟩) (fun i s3 b3 h1 h2 => hst.blk_lt h1 h2) ?_ ?_
      · by_cases e : i = 0
        · subst e; rw [if_pos rfl, hJ]
        · rw [if_neg e]
      · by_cases e : i = 0
        · subst e; rfl
        · rw [if_neg e]
          cases i with
          | zero => exact absurd rfl e
          | succ i => rfl
      · intro i s3 b3 hi h1 h3
        refine hoth b3 (hst.blk_lt h1 h3) fun e => hi ?_
        subst e
        exact hst.one i 0 s3 s b3 h1 hJ h3 hblk
      · intro b3 h1 _
        rw [hblk] at h1
        cases h1
        exact hnF
      · simp only [ObjOK]
        refine ⟨hrow, hver, hesz, hlen, hcap, b2, _, te, had, hset, by simp [hvs], ?_, fun h => by cases h⟩
        simp only [repCells, rep]
        refine ⟨⟨.pointer (some ⟨b, o, none⟩), ?_, rfl, b, o, rfl, hFb, repCells_mono (Inj.le_refl J) (fun _ h => h) hfr b (cell_of_heap (hfr b hFb)) cs o hcs⟩, trivial⟩
        have : 0 < vals.size := by rw [hvs]; simp
        simp only [World.cell?, hset]
        simp [this]
    · exact ⟨by rw [hw]; exact hos.1, by rw [hw]; exact hos.2.1, by rw [hw]; exact hos.2.2, hsz, fun k hk ho => hoth k hk fun e => ho ⟨0, s, hJ, e ▸ hblk⟩, hfr, Inj.le_refl J, fun _ h => h, fun _ h => .inl h, fun _ h => .inl h⟩
end Go.Proofs.YtjbkbjedlgkibaaDoor
