/-
  Processes over deep values: nodes, flows in and out. No statement is proved here.
-/
import Derived.Test.YtikdngjdhncioaaPr0
import Derived.Test.YtikdngjdhncioaaTx
import Derived.Test.YtikdngjdhncioaaSc2
namespace Go.Proofs.Ytikdngjdhncioaa
open Go.RowKit
set_option linter.unusedSimpArgs false
set_option linter.unusedVariables false
def nrow (x : ByteArray × Int) : List D := [.sc (.string x.1), .sc (.int .i64 x.2)]
def frow (x : Int × Int) : List D := [.sc (.int .i64 x.1), .sc (.int .i64 x.2)]
def ProcD.cells (P : ProcD) : List D := [.lst 2 (P.nodes.map nrow), .lst 2 (P.flows.map frow)]
def dproc (P : ProcD) : D := .agg P.cells
theorem pure_nrow (x : ByteArray × Int) : PureL (nrow x) := by simp [nrow, PureL, Pure]
theorem pure_frow (x : Int × Int) : PureL (frow x) := by simp [frow, PureL, Pure]
theorem pure_pcells' (P : ProcD) : PureL P.cells := by simp [ProcD.cells, PureL, Pure, pure_nrow, pure_frow]
theorem pure_dproc (P : ProcD) : Pure (dproc P) := by simp [dproc, Pure, pure_pcells']
@[simp] theorem underL_proc {m : Nat} (P : ProcD) : UnderL m P.cells ↔ True := ⟨fun _ => trivial, fun _ => underL_pure _ (pure_pcells' P)⟩
@[simp] theorem underL_nrow {m : Nat} (x : ByteArray × Int) : UnderL m (nrow x) ↔ True := ⟨fun _ => trivial, fun _ => underL_pure _ (pure_nrow x)⟩
@[simp] theorem underL_frow {m : Nat} (x : Int × Int) : UnderL m (frow x) ↔ True := ⟨fun _ => trivial, fun _ => underL_pure _ (pure_frow x)⟩
theorem node_at (P : ProcD) {z k : Nat} (hz : z = k) (h : k < P.nodes.length) : (P.nodes.map nrow)[z]? = some [.sc (.string (P.name k)), .sc (.int .i64 (P.kind k))] := by
  subst hz
  rw [List.getElem?_map, List.getElem?_eq_getElem h]
  unfold ProcD.name ProcD.kind
  rw [List.getD_eq_getElem?_getD, List.getElem?_eq_getElem h]
  rfl
theorem flow_at (P : ProcD) {z k : Nat} (hz : z = k) (h : k < P.flows.length) : (P.flows.map frow)[z]? = some [.sc (.int .i64 (P.src k)), .sc (.int .i64 (P.dst k))] := by
  subst hz
  rw [List.getElem?_map, List.getElem?_eq_getElem h]
  unfold ProcD.src ProcD.dst
  rw [List.getD_eq_getElem?_getD, List.getElem?_eq_getElem h]
  rfl
/-- What can be counted. -/
structure ProcD.Fits (P : ProcD) : Prop where
  nodes : P.nodes.length ≤ 9223372036854775807
  flows : P.flows.length ≤ 9223372036854775807
  name : ∀ x ∈ P.nodes, x.1.size ≤ 9223372036854775807
theorem ProcD.Fits.at {P : ProcD} (h : P.Fits) {i : Nat} (hi : i < P.nodes.length) : (P.name i).size ≤ 9223372036854775807 := by
  unfold ProcD.name
  rw [List.getD_eq_getElem?_getD, List.getElem?_eq_getElem hi]
  exact h.name _ (List.getElem_mem hi)
theorem i64s_snoc {l : List Int} {c : Nat} {x : Int} (h : c = l.length) : List.drop 0 (List.take c (i64s l)) ++ [[D.sc (.int .i64 x)]] = i64s (l ++ [x]) := by
  subst h
  rw [drop_take_all (by simp [i64s])]
  simp [i64s]
theorem deep_ints {H : List AObj} {id v n : Nat} {q : Bool} {l : List Int} (hn : n = l.length) (h : H[id]? = some (.vec q v 1 (i64s l))) : Deep H (.own id v 0 n) (dints l) := by
  subst hn
  exact .own _ _ _ _ _ _ _ _ h (by rw [drop_take_all (by simp [i64s])]; exact deepLL_refl _)
/-! ### Flows in and out -/
def c76_1 : PC := .seq (.ops [⟨(some 12), .bin .lss (.tmp 11) (.tmp 10), none, 0⟩] false) (.seq (.cond (.tmp 12) (.skip) (.exit 0)) (.seq (.block 1 (.seq (.ops [⟨(some 13), .move (.tmp 11), none, 0⟩,
    ⟨(some 14), .iaddr 2 (.tmp 9) (.tmp 11), none, 0⟩,
    ⟨(some 15), .loadA 2 (.tmp 14), none, 0⟩,
    ⟨(some 7), .alloc [(.int .i64 0), (.int .i64 0)], none, 0⟩,
    ⟨(some 6), .move (.tmp 13), none, 0⟩,
    ⟨none, .store 2 (.tmp 7) (.tmp 15), none, 0⟩] false) (.seq (.ops [⟨(some 16), .faddr 1 (.tmp 7), none, 0⟩,
    ⟨(some 17), .load1 (.tmp 16), none, 0⟩,
    ⟨(some 18), .move (.tmp 1), none, 0⟩,
    ⟨(some 19), .bin .eql (.tmp 17) (.tmp 18), none, 0⟩] false) (.cond (.tmp 19) (.ops [⟨(some 20), .move (.tmp 5), none, 0⟩,
    ⟨(some 21), .move (.tmp 6), none, 0⟩,
    ⟨(some 22), .bslice 1 1 [(.tmp 21)], none, 0⟩,
    ⟨(some 23), .append 1 8 (.tmp 20) (.tmp 22), none, 0⟩,
    ⟨(some 5), .move (.tmp 23), none, 0⟩] false) (.skip))))) (.ops [⟨(some 24), .bin .add (.tmp 11) (.const (.int .i64 1)), none, 0⟩,
    ⟨(some 11), .move (.tmp 24), none, 0⟩] false)))
def c76 : PC := .seq (.ops [⟨(some 2), .box (.tmp 0), none, 0⟩,
    ⟨(some 4), .move (.const (.slice none 0 0)), none, 0⟩] false) (.seq (.ops [⟨(some 5), .move (.const (.slice none 0 0)), none, 0⟩] false) (.seq (.seq (.ops [⟨(some 8), .faddr 1 (.tmp 2), none, 0⟩,
    ⟨(some 9), .load1 (.tmp 8), none, 0⟩,
    ⟨(some 10), .len (.tmp 9), none, 0⟩,
    ⟨(some 11), .move (.const (.int .i64 0)), none, 0⟩] false) (.block 0 (.loop c76_1))) (.seq (.ops [⟨(some 25), .move (.tmp 5), none, 0⟩,
    ⟨(some 4), .move (.tmp 25), none, 0⟩] false) (.ret))))
set_option maxRecDepth 100000 in
theorem c76_ok : FunOK Try.prog 76 26 [.tmp 4] c76 := ⟨⟨Try.f76, Try.func76, rfl, by kernel_rfl, rfl, by kernel_rfl⟩⟩
theorem proc_ins (P : ProcD) (hP : P.Fits) (hf : P.flows.length ≤ 1000) (v : Int) : PCall Try.prog 76 [dproc P, .sc (.int .i64 v)] (dints (P.inL v)) := by
  have b := hP.flows
  refine pcall_intro c76_ok (by simp) (by simp [PureL, Pure, pure_dproc]) ?_ (pure_dints _)
  (apply red_sound; focus (repeat' (first | exact Red.skip | exact Red.ret | exact RedO.nil | exact RedD.nil | exact Red.exit _ | exact Red.loop _ | exact Red.stop _ | apply Red.ops | apply Red.draw | apply Red.seq | apply Red.cond | apply Red.block | apply RedO.cons | apply RedD.cons | exact (0 : Nat))))
  ((conv => whnf); repeat (refine And.intro rfl ?_; (conv => whnf)))
  rw [List.length_map]
  refine pwp_ghostB (leB_nil 5 1 (by simp) rfl) ?_
  refine pwp_for [1, 9, 10] (fun ((k, c, l) : Nat × Nat × List Int) => [(5, .own 1 c 0 c), (11, .sc (.int .i64 k))]) (fun (k, c, l) => [(1, .vec true c 1 (i64s l))]) (fun (k, c, l) => k ≤ P.flows.length ∧ c = l.length ∧ c ≤ k ∧ l = ProcD.pick (fun i => P.dst i == v) k) (fun (k, c, l) => P.flows.length - k) (0, 0, []) ?_
  ((conv => whnf); repeat (refine And.intro rfl ?_; (conv => whnf)))
  refine ⟨⟨by omega, rfl, by omega, rfl⟩, by (repeat' (first | exact trivial | refine And.intro rfl ?_)), rfl, ?_⟩
  rintro ⟨k, c, l⟩ ⟨hk, hc, hck, hl⟩
  ((conv => whnf); repeat (refine And.intro rfl ?_; (conv => whnf)))
  (apply red_sound; focus (repeat' (first | exact Red.skip | exact Red.ret | exact RedO.nil | exact RedD.nil | exact Red.exit _ | exact Red.loop _ | exact Red.stop _ | apply Red.ops | apply Red.draw | apply Red.seq | apply Red.cond | apply Red.block | apply RedO.cons | apply RedD.cons | exact (0 : Nat))))
  ((conv => whnf); repeat (refine And.intro rfl ?_; (conv => whnf)))
  (refine ifK_split (fun h => ?_) (fun h => ?_) <;> (rw [h]; ((conv => whnf); repeat (refine And.intro rfl ?_; (conv => whnf)))))
  · have hk' : k < P.flows.length := by ((try simp only [oo, reduceCtorEq] at *) <;> omega)
    refine ⟨by omega, _, flow_at P (k := k) (by omega) hk', ?_⟩
    ((conv => whnf); repeat (refine And.intro rfl ?_; (conv => whnf)))
    (refine ifK_split (fun h2 => ?_) (fun h2 => ?_) <;> (rw [h2]; ((conv => whnf); repeat (refine And.intro rfl ?_; (conv => whnf)))))
    · refine ⟨(by unfold sliceAppend; simp only [ll]; omega), ?_⟩
      ((conv => whnf); repeat (refine And.intro rfl ?_; (conv => whnf)))
      (refine .inl ⟨by (unfold InR; rw [IntKind.wrap_i64]; omega), ?_⟩; ((conv => whnf); repeat (refine And.intro rfl ?_; (conv => whnf))))
      refine ⟨(k + 1, c + 1, l ++ [(k : Int)]), ⟨by omega, by simp [hc], by omega, by rw [hl]; simp [ProcD.pick, h2]⟩, by dsimp only; omega, ?_⟩
      (refine leB_close 2 (by simp) rfl ?_ ?_ <;> (repeat' (first | exact trivial | exact rfl | exact DeepM.refl _ | exact DeepML.refl _ | exact DeepMLL.refl _ | refine And.intro ?_ ?_ | (simp [Under, UnderL, UnderLL, -List.map_take, -List.map_drop]; done))))
      exact deepMLL_eq (i64s_snoc hc)
    · (refine .inl ⟨by (unfold InR; rw [IntKind.wrap_i64]; omega), ?_⟩; ((conv => whnf); repeat (refine And.intro rfl ?_; (conv => whnf))))
      refine ⟨(k + 1, c, l), ⟨by omega, hc, by omega, by rw [hl]; simp [ProcD.pick, h2]⟩, by dsimp only; omega, ?_⟩
      (refine leB_close 2 (by simp) rfl ?_ ?_ <;> (repeat' (first | exact trivial | exact rfl | exact DeepM.refl _ | exact DeepML.refl _ | exact DeepMLL.refl _ | refine And.intro ?_ ?_ | (simp [Under, UnderL, UnderLL, -List.map_take, -List.map_drop]; done))))
  · have hk' : k = P.flows.length := by have : ¬ k < P.flows.length := by ((try simp only [oo, reduceCtorEq] at *) <;> omega)
                                        omega
    subst hk'
    subst hl
    exact deep_ints hc rfl
def c77_1 : PC := .seq (.ops [⟨(some 12), .bin .lss (.tmp 11) (.tmp 10), none, 0⟩] false) (.seq (.cond (.tmp 12) (.skip) (.exit 0)) (.seq (.block 1 (.seq (.ops [⟨(some 13), .move (.tmp 11), none, 0⟩,
    ⟨(some 14), .iaddr 2 (.tmp 9) (.tmp 11), none, 0⟩,
    ⟨(some 15), .loadA 2 (.tmp 14), none, 0⟩,
    ⟨(some 7), .alloc [(.int .i64 0), (.int .i64 0)], none, 0⟩,
    ⟨(some 6), .move (.tmp 13), none, 0⟩,
    ⟨none, .store 2 (.tmp 7) (.tmp 15), none, 0⟩] false) (.seq (.ops [⟨(some 16), .faddr 0 (.tmp 7), none, 0⟩,
    ⟨(some 17), .load1 (.tmp 16), none, 0⟩,
    ⟨(some 18), .move (.tmp 1), none, 0⟩,
    ⟨(some 19), .bin .eql (.tmp 17) (.tmp 18), none, 0⟩] false) (.cond (.tmp 19) (.ops [⟨(some 20), .move (.tmp 5), none, 0⟩,
    ⟨(some 21), .move (.tmp 6), none, 0⟩,
    ⟨(some 22), .bslice 1 1 [(.tmp 21)], none, 0⟩,
    ⟨(some 23), .append 1 8 (.tmp 20) (.tmp 22), none, 0⟩,
    ⟨(some 5), .move (.tmp 23), none, 0⟩] false) (.skip))))) (.ops [⟨(some 24), .bin .add (.tmp 11) (.const (.int .i64 1)), none, 0⟩,
    ⟨(some 11), .move (.tmp 24), none, 0⟩] false)))
def c77 : PC := .seq (.ops [⟨(some 2), .box (.tmp 0), none, 0⟩,
    ⟨(some 4), .move (.const (.slice none 0 0)), none, 0⟩] false) (.seq (.ops [⟨(some 5), .move (.const (.slice none 0 0)), none, 0⟩] false) (.seq (.seq (.ops [⟨(some 8), .faddr 1 (.tmp 2), none, 0⟩,
    ⟨(some 9), .load1 (.tmp 8), none, 0⟩,
    ⟨(some 10), .len (.tmp 9), none, 0⟩,
    ⟨(some 11), .move (.const (.int .i64 0)), none, 0⟩] false) (.block 0 (.loop c77_1))) (.seq (.ops [⟨(some 25), .move (.tmp 5), none, 0⟩,
    ⟨(some 4), .move (.tmp 25), none, 0⟩] false) (.ret))))
set_option maxRecDepth 100000 in
theorem c77_ok : FunOK Try.prog 77 26 [.tmp 4] c77 := ⟨⟨Try.f77, Try.func77, rfl, by kernel_rfl, rfl, by kernel_rfl⟩⟩
theorem proc_outs (P : ProcD) (hP : P.Fits) (hf : P.flows.length ≤ 1000) (v : Int) : PCall Try.prog 77 [dproc P, .sc (.int .i64 v)] (dints (P.outL v)) := by
  have b := hP.flows
  refine pcall_intro c77_ok (by simp) (by simp [PureL, Pure, pure_dproc]) ?_ (pure_dints _)
  (apply red_sound; focus (repeat' (first | exact Red.skip | exact Red.ret | exact RedO.nil | exact RedD.nil | exact Red.exit _ | exact Red.loop _ | exact Red.stop _ | apply Red.ops | apply Red.draw | apply Red.seq | apply Red.cond | apply Red.block | apply RedO.cons | apply RedD.cons | exact (0 : Nat))))
  ((conv => whnf); repeat (refine And.intro rfl ?_; (conv => whnf)))
  rw [List.length_map]
  refine pwp_ghostB (leB_nil 5 1 (by simp) rfl) ?_
  refine pwp_for [1, 9, 10] (fun ((k, c, l) : Nat × Nat × List Int) => [(5, .own 1 c 0 c), (11, .sc (.int .i64 k))]) (fun (k, c, l) => [(1, .vec true c 1 (i64s l))]) (fun (k, c, l) => k ≤ P.flows.length ∧ c = l.length ∧ c ≤ k ∧ l = ProcD.pick (fun i => P.src i == v) k) (fun (k, c, l) => P.flows.length - k) (0, 0, []) ?_
  ((conv => whnf); repeat (refine And.intro rfl ?_; (conv => whnf)))
  refine ⟨⟨by omega, rfl, by omega, rfl⟩, by (repeat' (first | exact trivial | refine And.intro rfl ?_)), rfl, ?_⟩
  rintro ⟨k, c, l⟩ ⟨hk, hc, hck, hl⟩
  ((conv => whnf); repeat (refine And.intro rfl ?_; (conv => whnf)))
  (apply red_sound; focus (repeat' (first | exact Red.skip | exact Red.ret | exact RedO.nil | exact RedD.nil | exact Red.exit _ | exact Red.loop _ | exact Red.stop _ | apply Red.ops | apply Red.draw | apply Red.seq | apply Red.cond | apply Red.block | apply RedO.cons | apply RedD.cons | exact (0 : Nat))))
  ((conv => whnf); repeat (refine And.intro rfl ?_; (conv => whnf)))
  (refine ifK_split (fun h => ?_) (fun h => ?_) <;> (rw [h]; ((conv => whnf); repeat (refine And.intro rfl ?_; (conv => whnf)))))
  · have hk' : k < P.flows.length := by ((try simp only [oo, reduceCtorEq] at *) <;> omega)
    refine ⟨by omega, _, flow_at P (k := k) (by omega) hk', ?_⟩
    ((conv => whnf); repeat (refine And.intro rfl ?_; (conv => whnf)))
    (refine ifK_split (fun h2 => ?_) (fun h2 => ?_) <;> (rw [h2]; ((conv => whnf); repeat (refine And.intro rfl ?_; (conv => whnf)))))
    · refine ⟨(by unfold sliceAppend; simp only [ll]; omega), ?_⟩
      ((conv => whnf); repeat (refine And.intro rfl ?_; (conv => whnf)))
      (refine .inl ⟨by (unfold InR; rw [IntKind.wrap_i64]; omega), ?_⟩; ((conv => whnf); repeat (refine And.intro rfl ?_; (conv => whnf))))
      refine ⟨(k + 1, c + 1, l ++ [(k : Int)]), ⟨by omega, by simp [hc], by omega, by rw [hl]; simp [ProcD.pick, h2]⟩, by dsimp only; omega, ?_⟩
      (refine leB_close 2 (by simp) rfl ?_ ?_ <;> (repeat' (first | exact trivial | exact rfl | exact DeepM.refl _ | exact DeepML.refl _ | exact DeepMLL.refl _ | refine And.intro ?_ ?_ | (simp [Under, UnderL, UnderLL, -List.map_take, -List.map_drop]; done))))
      exact deepMLL_eq (i64s_snoc hc)
    · (refine .inl ⟨by (unfold InR; rw [IntKind.wrap_i64]; omega), ?_⟩; ((conv => whnf); repeat (refine And.intro rfl ?_; (conv => whnf))))
      refine ⟨(k + 1, c, l), ⟨by omega, hc, by omega, by rw [hl]; simp [ProcD.pick, h2]⟩, by dsimp only; omega, ?_⟩
      (refine leB_close 2 (by simp) rfl ?_ ?_ <;> (repeat' (first | exact trivial | exact rfl | exact DeepM.refl _ | exact DeepML.refl _ | exact DeepMLL.refl _ | refine And.intro ?_ ?_ | (simp [Under, UnderL, UnderLL, -List.map_take, -List.map_drop]; done))))
  · have hk' : k = P.flows.length := by have : ¬ k < P.flows.length := by ((try simp only [oo, reduceCtorEq] at *) <;> omega)
                                        omega
    subst hk'
    subst hl
    exact deep_ints hc rfl
def c49_1 : PC := .seq (.seq (.ops [⟨(some 7), .move (.tmp 6), none, 0⟩,
    ⟨(some 8), .faddr 1 (.tmp 2), none, 0⟩,
    ⟨(some 9), .load1 (.tmp 8), none, 0⟩,
    ⟨(some 10), .len (.tmp 9), none, 0⟩,
    ⟨(some 11), .bin .lss (.tmp 7) (.tmp 10), none, 0⟩] false) (.cond (.tmp 11) (.skip) (.exit 0))) (.seq (.block 1 (.seq (.ops [⟨(some 14), .faddr 1 (.tmp 2), none, 0⟩,
    ⟨(some 15), .load1 (.tmp 14), none, 0⟩,
    ⟨(some 16), .move (.tmp 6), none, 0⟩,
    ⟨(some 17), .iaddr 2 (.tmp 15) (.tmp 16), none, 0⟩,
    ⟨(some 18), .faddr 1 (.tmp 17), none, 0⟩,
    ⟨(some 19), .load1 (.tmp 18), none, 0⟩,
    ⟨(some 20), .move (.tmp 1), none, 0⟩,
    ⟨(some 21), .bin .eql (.tmp 19) (.tmp 20), none, 0⟩] false) (.cond (.tmp 21) (.ops [⟨(some 22), .move (.tmp 5), none, 0⟩,
    ⟨(some 23), .move (.tmp 6), none, 0⟩,
    ⟨(some 24), .bslice 1 1 [(.tmp 23)], none, 0⟩,
    ⟨(some 25), .append 1 8 (.tmp 22) (.tmp 24), none, 0⟩,
    ⟨(some 5), .move (.tmp 25), none, 0⟩] false) (.skip)))) (.ops [⟨(some 12), .move (.tmp 6), none, 0⟩,
    ⟨(some 13), .bin .add (.tmp 12) (.const (.int .i64 1)), none, 0⟩,
    ⟨(some 6), .move (.tmp 13), none, 0⟩] false))
def c49 : PC := .seq (.ops [⟨(some 2), .box (.tmp 0), none, 0⟩,
    ⟨(some 4), .move (.const (.slice none 0 0)), none, 0⟩] false) (.seq (.ops [⟨(some 5), .move (.const (.slice none 0 0)), none, 0⟩] false) (.seq (.seq (.ops [⟨(some 6), .move (.const (.int .i64 0)), none, 0⟩] false) (.block 0 (.loop c49_1))) (.seq (.ops [⟨(some 26), .move (.tmp 5), none, 0⟩,
    ⟨(some 4), .move (.tmp 26), none, 0⟩] false) (.ret))))
set_option maxRecDepth 100000 in
theorem c49_ok : FunOK Try.prog 49 27 [.tmp 4] c49 := ⟨⟨Try.f49, Try.func49, rfl, by kernel_rfl, rfl, by kernel_rfl⟩⟩
theorem ref_FlowsIn (P : ProcD) (hP : P.Fits) (hf : P.flows.length ≤ 1000) (v : Int) : PCall Try.prog 49 [dproc P, .sc (.int .i64 v)] (dints (P.inL v)) := by
  have b := hP.flows
  refine pcall_intro c49_ok (by simp) (by simp [PureL, Pure, pure_dproc]) ?_ (pure_dints _)
  (apply red_sound; focus (repeat' (first | exact Red.skip | exact Red.ret | exact RedO.nil | exact RedD.nil | exact Red.exit _ | exact Red.loop _ | exact Red.stop _ | apply Red.ops | apply Red.draw | apply Red.seq | apply Red.cond | apply Red.block | apply RedO.cons | apply RedD.cons | exact (0 : Nat))))
  ((conv => whnf); repeat (refine And.intro rfl ?_; (conv => whnf)))
  refine pwp_ghostB (leB_nil 5 1 (by simp) rfl) ?_
  refine pwp_for [1, 2] (fun ((k, c, l) : Nat × Nat × List Int) => [(5, .own 1 c 0 c), (6, .sc (.int .i64 k))]) (fun (k, c, l) => [(1, .vec true c 1 (i64s l))]) (fun (k, c, l) => k ≤ P.flows.length ∧ c = l.length ∧ c ≤ k ∧ l = ProcD.pick (fun i => P.dst i == v) k) (fun (k, c, l) => P.flows.length - k) (0, 0, []) ?_
  ((conv => whnf); repeat (refine And.intro rfl ?_; (conv => whnf)))
  refine ⟨⟨by omega, rfl, by omega, rfl⟩, by (repeat' (first | exact trivial | refine And.intro rfl ?_)), rfl, ?_⟩
  rintro ⟨k, c, l⟩ ⟨hk, hc, hck, hl⟩
  ((conv => whnf); repeat (refine And.intro rfl ?_; (conv => whnf)))
  (apply red_sound; focus (repeat' (first | exact Red.skip | exact Red.ret | exact RedO.nil | exact RedD.nil | exact Red.exit _ | exact Red.loop _ | exact Red.stop _ | apply Red.ops | apply Red.draw | apply Red.seq | apply Red.cond | apply Red.block | apply RedO.cons | apply RedD.cons | exact (0 : Nat))))
  ((conv => whnf); repeat (refine And.intro rfl ?_; (conv => whnf)))
  rw [List.length_map]
  (refine ifK_split (fun h => ?_) (fun h => ?_) <;> (rw [h]; ((conv => whnf); repeat (refine And.intro rfl ?_; (conv => whnf)))))
  · have hk' : k < P.flows.length := by ((try simp only [oo, reduceCtorEq] at *) <;> omega)
    refine ⟨by omega, _, flow_at P (k := k) (by omega) hk', ?_⟩
    ((conv => whnf); repeat (refine And.intro rfl ?_; (conv => whnf)))
    (refine ifK_split (fun h2 => ?_) (fun h2 => ?_) <;> (rw [h2]; ((conv => whnf); repeat (refine And.intro rfl ?_; (conv => whnf)))))
    · refine ⟨(by unfold sliceAppend; simp only [ll]; omega), ?_⟩
      ((conv => whnf); repeat (refine And.intro rfl ?_; (conv => whnf)))
      (refine .inl ⟨by (unfold InR; rw [IntKind.wrap_i64]; omega), ?_⟩; ((conv => whnf); repeat (refine And.intro rfl ?_; (conv => whnf))))
      refine ⟨(k + 1, c + 1, l ++ [(k : Int)]), ⟨by omega, by simp [hc], by omega, by rw [hl]; simp [ProcD.pick, h2]⟩, by dsimp only; omega, ?_⟩
      (refine leB_close 2 (by simp) rfl ?_ ?_ <;> (repeat' (first | exact trivial | exact rfl | exact DeepM.refl _ | exact DeepML.refl _ | exact DeepMLL.refl _ | refine And.intro ?_ ?_ | (simp [Under, UnderL, UnderLL, -List.map_take, -List.map_drop]; done))))
      exact deepMLL_eq (i64s_snoc hc)
    · (refine .inl ⟨by (unfold InR; rw [IntKind.wrap_i64]; omega), ?_⟩; ((conv => whnf); repeat (refine And.intro rfl ?_; (conv => whnf))))
      refine ⟨(k + 1, c, l), ⟨by omega, hc, by omega, by rw [hl]; simp [ProcD.pick, h2]⟩, by dsimp only; omega, ?_⟩
      (refine leB_close 2 (by simp) rfl ?_ ?_ <;> (repeat' (first | exact trivial | exact rfl | exact DeepM.refl _ | exact DeepML.refl _ | exact DeepMLL.refl _ | refine And.intro ?_ ?_ | (simp [Under, UnderL, UnderLL, -List.map_take, -List.map_drop]; done))))
  · have hk' : k = P.flows.length := by have : ¬ k < P.flows.length := by ((try simp only [oo, reduceCtorEq] at *) <;> omega)
                                        omega
    subst hk'
    subst hl
    exact deep_ints hc rfl
def c50_1 : PC := .seq (.seq (.ops [⟨(some 7), .move (.tmp 6), none, 0⟩,
    ⟨(some 8), .faddr 1 (.tmp 2), none, 0⟩,
    ⟨(some 9), .load1 (.tmp 8), none, 0⟩,
    ⟨(some 10), .len (.tmp 9), none, 0⟩,
    ⟨(some 11), .bin .lss (.tmp 7) (.tmp 10), none, 0⟩] false) (.cond (.tmp 11) (.skip) (.exit 0))) (.seq (.block 1 (.seq (.ops [⟨(some 14), .faddr 1 (.tmp 2), none, 0⟩,
    ⟨(some 15), .load1 (.tmp 14), none, 0⟩,
    ⟨(some 16), .move (.tmp 6), none, 0⟩,
    ⟨(some 17), .iaddr 2 (.tmp 15) (.tmp 16), none, 0⟩,
    ⟨(some 18), .faddr 0 (.tmp 17), none, 0⟩,
    ⟨(some 19), .load1 (.tmp 18), none, 0⟩,
    ⟨(some 20), .move (.tmp 1), none, 0⟩,
    ⟨(some 21), .bin .eql (.tmp 19) (.tmp 20), none, 0⟩] false) (.cond (.tmp 21) (.ops [⟨(some 22), .move (.tmp 5), none, 0⟩,
    ⟨(some 23), .move (.tmp 6), none, 0⟩,
    ⟨(some 24), .bslice 1 1 [(.tmp 23)], none, 0⟩,
    ⟨(some 25), .append 1 8 (.tmp 22) (.tmp 24), none, 0⟩,
    ⟨(some 5), .move (.tmp 25), none, 0⟩] false) (.skip)))) (.ops [⟨(some 12), .move (.tmp 6), none, 0⟩,
    ⟨(some 13), .bin .add (.tmp 12) (.const (.int .i64 1)), none, 0⟩,
    ⟨(some 6), .move (.tmp 13), none, 0⟩] false))
def c50 : PC := .seq (.ops [⟨(some 2), .box (.tmp 0), none, 0⟩,
    ⟨(some 4), .move (.const (.slice none 0 0)), none, 0⟩] false) (.seq (.ops [⟨(some 5), .move (.const (.slice none 0 0)), none, 0⟩] false) (.seq (.seq (.ops [⟨(some 6), .move (.const (.int .i64 0)), none, 0⟩] false) (.block 0 (.loop c50_1))) (.seq (.ops [⟨(some 26), .move (.tmp 5), none, 0⟩,
    ⟨(some 4), .move (.tmp 26), none, 0⟩] false) (.ret))))
set_option maxRecDepth 100000 in
theorem c50_ok : FunOK Try.prog 50 27 [.tmp 4] c50 := ⟨⟨Try.f50, Try.func50, rfl, by kernel_rfl, rfl, by kernel_rfl⟩⟩
theorem ref_FlowsOut (P : ProcD) (hP : P.Fits) (hf : P.flows.length ≤ 1000) (v : Int) : PCall Try.prog 50 [dproc P, .sc (.int .i64 v)] (dints (P.outL v)) := by
  have b := hP.flows
  refine pcall_intro c50_ok (by simp) (by simp [PureL, Pure, pure_dproc]) ?_ (pure_dints _)
  (apply red_sound; focus (repeat' (first | exact Red.skip | exact Red.ret | exact RedO.nil | exact RedD.nil | exact Red.exit _ | exact Red.loop _ | exact Red.stop _ | apply Red.ops | apply Red.draw | apply Red.seq | apply Red.cond | apply Red.block | apply RedO.cons | apply RedD.cons | exact (0 : Nat))))
  ((conv => whnf); repeat (refine And.intro rfl ?_; (conv => whnf)))
  refine pwp_ghostB (leB_nil 5 1 (by simp) rfl) ?_
  refine pwp_for [1, 2] (fun ((k, c, l) : Nat × Nat × List Int) => [(5, .own 1 c 0 c), (6, .sc (.int .i64 k))]) (fun (k, c, l) => [(1, .vec true c 1 (i64s l))]) (fun (k, c, l) => k ≤ P.flows.length ∧ c = l.length ∧ c ≤ k ∧ l = ProcD.pick (fun i => P.src i == v) k) (fun (k, c, l) => P.flows.length - k) (0, 0, []) ?_
  ((conv => whnf); repeat (refine And.intro rfl ?_; (conv => whnf)))
  refine ⟨⟨by omega, rfl, by omega, rfl⟩, by (repeat' (first | exact trivial | refine And.intro rfl ?_)), rfl, ?_⟩
  rintro ⟨k, c, l⟩ ⟨hk, hc, hck, hl⟩
  ((conv => whnf); repeat (refine And.intro rfl ?_; (conv => whnf)))
  (apply red_sound; focus (repeat' (first | exact Red.skip | exact Red.ret | exact RedO.nil | exact RedD.nil | exact Red.exit _ | exact Red.loop _ | exact Red.stop _ | apply Red.ops | apply Red.draw | apply Red.seq | apply Red.cond | apply Red.block | apply RedO.cons | apply RedD.cons | exact (0 : Nat))))
  ((conv => whnf); repeat (refine And.intro rfl ?_; (conv => whnf)))
  rw [List.length_map]
  (refine ifK_split (fun h => ?_) (fun h => ?_) <;> (rw [h]; ((conv => whnf); repeat (refine And.intro rfl ?_; (conv => whnf)))))
  · have hk' : k < P.flows.length := by ((try simp only [oo, reduceCtorEq] at *) <;> omega)
    refine ⟨by omega, _, flow_at P (k := k) (by omega) hk', ?_⟩
    ((conv => whnf); repeat (refine And.intro rfl ?_; (conv => whnf)))
    (refine ifK_split (fun h2 => ?_) (fun h2 => ?_) <;> (rw [h2]; ((conv => whnf); repeat (refine And.intro rfl ?_; (conv => whnf)))))
    · refine ⟨(by unfold sliceAppend; simp only [ll]; omega), ?_⟩
      ((conv => whnf); repeat (refine And.intro rfl ?_; (conv => whnf)))
      (refine .inl ⟨by (unfold InR; rw [IntKind.wrap_i64]; omega), ?_⟩; ((conv => whnf); repeat (refine And.intro rfl ?_; (conv => whnf))))
      refine ⟨(k + 1, c + 1, l ++ [(k : Int)]), ⟨by omega, by simp [hc], by omega, by rw [hl]; simp [ProcD.pick, h2]⟩, by dsimp only; omega, ?_⟩
      (refine leB_close 2 (by simp) rfl ?_ ?_ <;> (repeat' (first | exact trivial | exact rfl | exact DeepM.refl _ | exact DeepML.refl _ | exact DeepMLL.refl _ | refine And.intro ?_ ?_ | (simp [Under, UnderL, UnderLL, -List.map_take, -List.map_drop]; done))))
      exact deepMLL_eq (i64s_snoc hc)
    · (refine .inl ⟨by (unfold InR; rw [IntKind.wrap_i64]; omega), ?_⟩; ((conv => whnf); repeat (refine And.intro rfl ?_; (conv => whnf))))
      refine ⟨(k + 1, c, l), ⟨by omega, hc, by omega, by rw [hl]; simp [ProcD.pick, h2]⟩, by dsimp only; omega, ?_⟩
      (refine leB_close 2 (by simp) rfl ?_ ?_ <;> (repeat' (first | exact trivial | exact rfl | exact DeepM.refl _ | exact DeepML.refl _ | exact DeepMLL.refl _ | refine And.intro ?_ ?_ | (simp [Under, UnderL, UnderLL, -List.map_take, -List.map_drop]; done))))
  · have hk' : k = P.flows.length := by have : ¬ k < P.flows.length := by ((try simp only [oo, reduceCtorEq] at *) <;> omega)
                                        omega
    subst hk'
    subst hl
    exact deep_ints hc rfl
def c75 : PC := .seq (.ops [⟨(some 6), .move (.const (.bool false)), none, 0⟩] false) (.seq (.seq (.ops [⟨(some 7), .move (.tmp 0), none, 0⟩] false) (.block 0 (.seq (.block 5 (.seq (.block 4 (.seq (.block 3 (.seq (.block 2 (.seq (.block 1 (.seq (.seq (.seq (.ops [⟨(some 9), .bin .eql (.tmp 7) (.const (.int .i64 1)), none, 0⟩,
    ⟨(some 8), .move (.tmp 9), none, 0⟩] false) (.cond (.tmp 8) (.exit 1) (.skip))) (.seq (.seq (.seq (.ops [⟨(some 11), .bin .eql (.tmp 7) (.const (.int .i64 2)), none, 0⟩,
    ⟨(some 10), .move (.tmp 11), none, 0⟩] false) (.cond (.tmp 10) (.skip) (.ops [⟨(some 12), .bin .eql (.tmp 7) (.const (.int .i64 3)), none, 0⟩,
    ⟨(some 10), .move (.tmp 12), none, 0⟩] false))) (.cond (.tmp 10) (.exit 2) (.skip))) (.seq (.seq (.ops [⟨(some 14), .bin .eql (.tmp 7) (.const (.int .i64 4)), none, 0⟩,
    ⟨(some 13), .move (.tmp 14), none, 0⟩] false) (.cond (.tmp 13) (.exit 3) (.skip))) (.seq (.seq (.ops [⟨(some 16), .bin .eql (.tmp 7) (.const (.int .i64 7)), none, 0⟩,
    ⟨(some 15), .move (.tmp 16), none, 0⟩] false) (.cond (.tmp 15) (.exit 4) (.skip))) (.seq (.seq (.ops [⟨(some 18), .bin .eql (.tmp 7) (.const (.int .i64 5)), none, 0⟩,
    ⟨(some 17), .move (.tmp 18), none, 0⟩] false) (.cond (.tmp 17) (.skip) (.ops [⟨(some 19), .bin .eql (.tmp 7) (.const (.int .i64 6)), none, 0⟩,
    ⟨(some 17), .move (.tmp 19), none, 0⟩] false))) (.cond (.tmp 17) (.exit 5) (.skip))))))) (.exit 0))) (.seq (.seq (.ops [⟨(some 20), .move (.tmp 1), none, 0⟩,
    ⟨(some 21), .bin .eql (.tmp 20) (.const (.int .i64 0)), none, 0⟩,
    ⟨(some 22), .move (.tmp 21), none, 0⟩,
    ⟨(some 23), .move (.tmp 2), (some (22, true)), 0⟩,
    ⟨(some 24), .bin .eql (.tmp 23) (.const (.int .i64 1)), (some (22, true)), 0⟩,
    ⟨(some 25), .pick (.tmp 22) (.tmp 24) (.const (.bool false)), none, 0⟩,
    ⟨(some 6), .move (.tmp 25), none, 0⟩] false) (.ret)) (.exit 0)))) (.seq (.seq (.ops [⟨(some 26), .move (.tmp 1), none, 0⟩,
    ⟨(some 27), .bin .gtr (.tmp 26) (.const (.int .i64 0)), none, 0⟩,
    ⟨(some 28), .move (.tmp 27), none, 0⟩,
    ⟨(some 29), .move (.tmp 2), (some (28, true)), 0⟩,
    ⟨(some 30), .bin .eql (.tmp 29) (.const (.int .i64 0)), (some (28, true)), 0⟩,
    ⟨(some 31), .pick (.tmp 28) (.tmp 30) (.const (.bool false)), none, 0⟩,
    ⟨(some 6), .move (.tmp 31), none, 0⟩] false) (.ret)) (.exit 0)))) (.seq (.seq (.ops [⟨(some 32), .move (.tmp 1), none, 0⟩,
    ⟨(some 33), .bin .gtr (.tmp 32) (.const (.int .i64 0)), none, 0⟩,
    ⟨(some 34), .move (.tmp 33), none, 0⟩,
    ⟨(some 35), .move (.tmp 2), (some (34, true)), 0⟩,
    ⟨(some 36), .bin .eql (.tmp 35) (.const (.int .i64 1)), (some (34, true)), 0⟩,
    ⟨(some 37), .pick (.tmp 34) (.tmp 36) (.const (.bool false)), none, 0⟩,
    ⟨(some 6), .move (.tmp 37), none, 0⟩] false) (.ret)) (.exit 0)))) (.seq (.ops [⟨(some 38), .move (.tmp 2), none, 0⟩,
    ⟨(some 39), .bin .gtr (.tmp 38) (.const (.int .i64 4)), none, 0⟩] false) (.cond (.tmp 39) (.seq (.ops [⟨(some 6), .move (.const (.bool false)), none, 0⟩] false) (.ret)) (.skip))))) (.seq (.seq (.ops [⟨(some 40), .move (.tmp 1), none, 0⟩,
    ⟨(some 41), .bin .gtr (.tmp 40) (.const (.int .i64 0)), none, 0⟩,
    ⟨(some 42), .move (.tmp 41), none, 0⟩,
    ⟨(some 43), .move (.tmp 2), (some (42, true)), 0⟩,
    ⟨(some 44), .bin .gtr (.tmp 43) (.const (.int .i64 0)), (some (42, true)), 0⟩,
    ⟨(some 45), .pick (.tmp 42) (.tmp 44) (.const (.bool false)), none, 0⟩,
    ⟨(some 6), .move (.tmp 45), none, 0⟩] false) (.ret)) (.exit 0))))) (.seq (.ops [⟨(some 6), .move (.const (.bool false)), none, 0⟩] false) (.ret)))
set_option maxRecDepth 100000 in
theorem c75_ok : FunOK Try.prog 75 46 [.tmp 6] c75 := ⟨⟨Try.f75, Try.func75, rfl, by kernel_rfl, rfl, by kernel_rfl⟩⟩
theorem proc_counts (k i o : Int) : PCall Try.prog 75 [.sc (.int .i64 k), .sc (.int .i64 i), .sc (.int .i64 o)] (.sc (.bool (ProcD.countsB k i o))) := by
  refine pcall_intro c75_ok (by simp) (by simp [PureL, Pure]) ?_ (by simp [Pure])
  (apply red_sound; focus (repeat' (first | exact Red.skip | exact Red.ret | exact RedO.nil | exact RedD.nil | exact Red.exit _ | exact Red.loop _ | exact Red.stop _ | apply Red.ops | apply Red.draw | apply Red.seq | apply Red.cond | apply Red.block | apply RedO.cons | apply RedD.cons | exact (0 : Nat))))
  ((conv => whnf); repeat (refine And.intro rfl ?_; (conv => whnf)))
  repeat' (first | (refine ifK_split (fun h => ?_) (fun h => ?_) <;> (rw [h]; ((conv => whnf); repeat (refine And.intro rfl ?_; (conv => whnf))))) | exact deep_eq (by unfold ProcD.countsB; simp_all; try omega))
def c98_1 : PC := .seq (.ops [⟨(some 9), .bin .lss (.tmp 8) (.tmp 7), none, 0⟩] false) (.seq (.cond (.tmp 9) (.skip) (.exit 0)) (.seq (.block 1 (.seq (.ops [⟨(some 10), .move (.tmp 8), none, 0⟩,
    ⟨(some 5), .move (.tmp 10), none, 0⟩] false) (.seq (.ops [⟨(some 11), .move (.tmp 1), none, 0⟩,
    ⟨(some 12), .move (.tmp 0), none, 0⟩,
    ⟨(some 13), .move (.tmp 5), none, 0⟩,
    ⟨(some 14), .iaddr 2 (.tmp 12) (.tmp 13), none, 0⟩,
    ⟨(some 15), .loadA 2 (.tmp 14), none, 0⟩,
    ⟨(some 16), .callv (.tmp 11) [(.tmp 15)], none, 0⟩] false) (.cond (.tmp 16) (.seq (.ops [⟨(some 17), .move (.tmp 5), none, 0⟩,
    ⟨(some 4), .move (.tmp 17), none, 0⟩] false) (.ret)) (.skip))))) (.ops [⟨(some 18), .bin .add (.tmp 8) (.const (.int .i64 1)), none, 0⟩,
    ⟨(some 8), .move (.tmp 18), none, 0⟩] false)))
def c98 : PC := .seq (.ops [⟨(some 4), .move (.const (.int .i64 0)), none, 0⟩] false) (.seq (.seq (.ops [⟨(some 6), .move (.tmp 0), none, 0⟩,
    ⟨(some 7), .len (.tmp 6), none, 0⟩,
    ⟨(some 8), .move (.const (.int .i64 0)), none, 0⟩] false) (.block 0 (.loop c98_1))) (.seq (.ops [⟨(some 4), .move (.const (.int .i64 (-1))), none, 0⟩] false) (.ret)))
set_option maxRecDepth 100000 in
theorem c98_ok : FunOK Try.prog 98 19 [.tmp 4] c98 := ⟨⟨Try.f98, Try.func98, rfl, by kernel_rfl, rfl, by kernel_rfl⟩⟩
def c88 : PC := .seq (.ops [⟨(some 4), .move (.const (.bool false)), none, 0⟩] false) (.seq (.ops [⟨(some 5), .move (.tmp 0), none, 0⟩,
    ⟨(some 6), .move (.tmp 1), none, 0⟩,
    ⟨(some 7), .call 98 [(.tmp 5), (.tmp 6)], none, 0⟩,
    ⟨(some 8), .bin .geq (.tmp 7) (.const (.int .i64 0)), none, 0⟩,
    ⟨(some 4), .move (.tmp 8), none, 0⟩] false) (.ret))
set_option maxRecDepth 100000 in
theorem c88_ok : FunOK Try.prog 88 9 [.tmp 4] c88 := ⟨⟨Try.f88, Try.func88, rfl, by kernel_rfl, rfl, by kernel_rfl⟩⟩
theorem indexF_node (l : List (ByteArray × Int)) (hl : l.length ≤ 9223372036854775807) (p : ByteArray × Int → Bool) (cl : FuncId) (cap : List D) (hp : PureL cap) (hc : ∀ a ∈ l, PCall Try.prog cl (.agg (nrow a) :: cap) (.sc (.bool (p a)))) :
    PCall Try.prog 98 [.lst 2 (l.map nrow), .fn (.func cl) [] cap] (.sc (.int .i64 (idxF p l))) := by
  refine pcall_intro c98_ok (by simp) (by simp [PureL, Pure, hp, pure_nrow]) ?_ (by simp [Pure])
  (apply red_sound; focus (repeat' (first | exact Red.skip | exact Red.ret | exact RedO.nil | exact RedD.nil | exact Red.exit _ | exact Red.loop _ | exact Red.stop _ | apply Red.ops | apply Red.draw | apply Red.seq | apply Red.cond | apply Red.block | apply RedO.cons | apply RedD.cons | exact (0 : Nat))))
  ((conv => whnf); repeat (refine And.intro rfl ?_; (conv => whnf)))
  rw [List.length_map]
  have fin : ∀ {z : Int}, z = idxF p l → Deep [] (.sc (.int .i64 z)) (.sc (.int .i64 (idxF p l))) := fun h => h ▸ .refl _
  refine pwp_for [0, 1, 7] (fun k : Nat => [(8, .sc (.int .i64 k))]) (fun _ => []) (fun k => k ≤ l.length ∧ ∀ j (hj : j < k) (hl : j < l.length), p l[j] = false) (fun k => l.length - k) 0 ?_
  ((conv => whnf); repeat (refine And.intro rfl ?_; (conv => whnf)))
  refine ⟨⟨by omega, fun j hj => by omega⟩, by (repeat' (first | exact trivial | refine And.intro rfl ?_)), rfl, ?_⟩
  rintro k ⟨hk, hno⟩
  ((conv => whnf); repeat (refine And.intro rfl ?_; (conv => whnf)))
  (apply red_sound; focus (repeat' (first | exact Red.skip | exact Red.ret | exact RedO.nil | exact RedD.nil | exact Red.exit _ | exact Red.loop _ | exact Red.stop _ | apply Red.ops | apply Red.draw | apply Red.seq | apply Red.cond | apply Red.block | apply RedO.cons | apply RedD.cons | exact (0 : Nat))))
  ((conv => whnf); repeat (refine And.intro rfl ?_; (conv => whnf)))
  (refine ifK_split (fun h => ?_) (fun h => ?_) <;> (rw [h]; ((conv => whnf); repeat (refine And.intro rfl ?_; (conv => whnf)))))
  · have hk' : k < l.length := by ((try simp only [oo, reduceCtorEq] at *) <;> omega)
    refine ⟨by omega, nrow l[k], by rw [List.getElem?_map, Int.toNat_natCast, List.getElem?_eq_getElem hk']; rfl, ?_⟩
    ((conv => whnf); repeat (refine And.intro rfl ?_; (conv => whnf)))
    (refine .inl ⟨_, (hc _ (List.getElem_mem hk')), ?_⟩; ((conv => whnf); repeat (refine And.intro rfl ?_; (conv => whnf))))
    (refine ifK_split (fun h2 => ?_) (fun h2 => ?_) <;> (rw [h2]; ((conv => whnf); repeat (refine And.intro rfl ?_; (conv => whnf)))))
    · exact fin (idxF_hit hk' h2 fun j hj => hno j hj (by omega)).symm
    · (refine .inl ⟨by (unfold InR; rw [IntKind.wrap_i64]; omega), ?_⟩; ((conv => whnf); repeat (refine And.intro rfl ?_; (conv => whnf))))
      refine ⟨k + 1, ⟨by omega, fun j hj hl => ?_⟩, by dsimp only; omega, leB_envH (by (repeat' (first | exact trivial | refine And.intro rfl ?_))) rfl⟩
      by_cases e : j = k
      · subst e; exact h2
      · exact hno j (by omega) hl
  · have hk' : ¬ k < l.length := by ((try simp only [oo, reduceCtorEq] at *) <;> omega)
    exact fin (idxF_none fun j hj => hno j (by omega) hj).symm
theorem containsF_node (l : List (ByteArray × Int)) (hl : l.length ≤ 9223372036854775807) (p : ByteArray × Int → Bool) (cl : FuncId) (cap : List D) (hp : PureL cap) (hc : ∀ a ∈ l, PCall Try.prog cl (.agg (nrow a) :: cap) (.sc (.bool (p a)))) :
    PCall Try.prog 88 [.lst 2 (l.map nrow), .fn (.func cl) [] cap] (.sc (.bool (l.any p))) := by
  refine pcall_intro c88_ok (by simp) (by simp [PureL, Pure, hp, pure_nrow]) ?_ (by simp [Pure])
  (apply red_sound; focus (repeat' (first | exact Red.skip | exact Red.ret | exact RedO.nil | exact RedD.nil | exact Red.exit _ | exact Red.loop _ | exact Red.stop _ | apply Red.ops | apply Red.draw | apply Red.seq | apply Red.cond | apply Red.block | apply RedO.cons | apply RedD.cons | exact (0 : Nat))))
  ((conv => whnf); repeat (refine And.intro rfl ?_; (conv => whnf)))
  (refine .inl ⟨_, (indexF_node l hl p cl cap hp hc), ?_⟩; ((conv => whnf); repeat (refine And.intro rfl ?_; (conv => whnf))))
  rw [idxF_any]
  exact .refl _
theorem take_any (P : ProcD) (f : ByteArray → Bool) : ∀ i, i ≤ P.nodes.length → ((P.nodes.take i).any fun m => f m.1) = (List.range i).any fun k => f (P.name k)
  | 0, _ => rfl
  | i + 1, h => by
    rw [List.take_succ_eq_append_getElem (by omega), List.any_append, take_any P f i (by omega), List.range_succ, List.any_append]
    congr 1
    simp only [List.any_cons, List.any_nil, Bool.or_false]
    unfold ProcD.name
    rw [List.getD_eq_getElem?_getD, List.getElem?_eq_getElem (by omega)]
    rfl
def c89 : PC := .seq (.ops [⟨(some 2), .box (.tmp 0), none, 0⟩,
    ⟨(some 3), .move (.const (.bool false)), none, 0⟩] false) (.seq (.ops [⟨(some 4), .faddr 0 (.tmp 2), none, 0⟩,
    ⟨(some 5), .load1 (.tmp 4), none, 0⟩,
    ⟨(some 6), .faddr 0 (.tmp 1), none, 0⟩,
    ⟨(some 7), .load1 (.tmp 6), none, 0⟩,
    ⟨(some 8), .bin .eql (.tmp 5) (.tmp 7), none, 0⟩,
    ⟨(some 3), .move (.tmp 8), none, 0⟩] false) (.ret))
set_option maxRecDepth 100000 in
theorem c89_ok : FunOK Try.prog 89 9 [.tmp 3] c89 := ⟨⟨Try.f89, Try.func89, rfl, by kernel_rfl, rfl, by kernel_rfl⟩⟩
def c74_1 : PC := .seq (.ops [⟨(some 9), .bin .lss (.tmp 8) (.tmp 7), none, 0⟩] false) (.seq (.cond (.tmp 9) (.skip) (.exit 0)) (.seq (.block 1 (.seq (.ops [⟨(some 10), .move (.tmp 8), none, 0⟩,
    ⟨(some 11), .iaddr 2 (.tmp 6) (.tmp 8), none, 0⟩,
    ⟨(some 12), .loadA 2 (.tmp 11), none, 0⟩,
    ⟨(some 4), .alloc [(.string ⟨#[]⟩), (.int .i64 0)], none, 0⟩,
    ⟨(some 3), .move (.tmp 10), none, 0⟩,
    ⟨none, .store 2 (.tmp 4) (.tmp 12), none, 0⟩] false) (.seq (.seq (.ops [⟨(some 13), .faddr 0 (.tmp 4), none, 0⟩,
    ⟨(some 14), .load1 (.tmp 13), none, 0⟩,
    ⟨(some 15), .call 87 [(.tmp 14)], none, 0⟩,
    ⟨(some 16), .un .not (.tmp 15), none, 0⟩,
    ⟨(some 17), .move (.tmp 16), none, 0⟩,
    ⟨(some 18), .faddr 1 (.tmp 4), (some (17, false)), 0⟩,
    ⟨(some 19), .load1 (.tmp 18), (some (17, false)), 0⟩,
    ⟨(some 20), .bin .lss (.tmp 19) (.const (.int .i64 1)), (some (17, false)), 0⟩,
    ⟨(some 21), .pick (.tmp 17) (.const (.bool true)) (.tmp 20), none, 0⟩,
    ⟨(some 22), .move (.tmp 21), none, 0⟩,
    ⟨(some 23), .faddr 1 (.tmp 4), (some (22, false)), 0⟩,
    ⟨(some 24), .load1 (.tmp 23), (some (22, false)), 0⟩,
    ⟨(some 25), .bin .gtr (.tmp 24) (.const (.int .i64 7)), (some (22, false)), 0⟩,
    ⟨(some 26), .pick (.tmp 22) (.const (.bool true)) (.tmp 25), none, 0⟩] false) (.cond (.tmp 26) (.seq (.ops [⟨(some 2), .move (.const (.int .i64 1)), none, 0⟩] false) (.ret)) (.skip))) (.seq (.ops [⟨(some 27), .faddr 0 (.tmp 1), none, 0⟩,
    ⟨(some 28), .load1 (.tmp 27), none, 0⟩,
    ⟨(some 29), .move (.tmp 3), none, 0⟩,
    ⟨(some 30), .slc 2 (.tmp 28) none (some (.tmp 29)) none, none, 0⟩,
    ⟨(some 31), .mkfn (.func 89) [] [(.tmp 4)], none, 0⟩,
    ⟨(some 32), .call 88 [(.tmp 30), (.tmp 31)], none, 0⟩] false) (.cond (.tmp 32) (.seq (.ops [⟨(some 2), .move (.const (.int .i64 4)), none, 0⟩] false) (.ret)) (.skip)))))) (.ops [⟨(some 33), .bin .add (.tmp 8) (.const (.int .i64 1)), none, 0⟩,
    ⟨(some 8), .move (.tmp 33), none, 0⟩] false)))
def c74 : PC := .seq (.ops [⟨(some 1), .box (.tmp 0), none, 0⟩,
    ⟨(some 2), .move (.const (.int .i64 0)), none, 0⟩] false) (.seq (.seq (.ops [⟨(some 5), .faddr 0 (.tmp 1), none, 0⟩,
    ⟨(some 6), .load1 (.tmp 5), none, 0⟩,
    ⟨(some 7), .len (.tmp 6), none, 0⟩,
    ⟨(some 8), .move (.const (.int .i64 0)), none, 0⟩] false) (.block 0 (.loop c74_1))) (.seq (.ops [⟨(some 2), .move (.const (.int .i64 0)), none, 0⟩] false) (.ret)))
set_option maxRecDepth 100000 in
theorem c74_ok : FunOK Try.prog 74 34 [.tmp 2] c74 := ⟨⟨Try.f74, Try.func74, rfl, by kernel_rfl, rfl, by kernel_rfl⟩⟩
theorem proc_nodes1 (m n : ByteArray × Int) : PCall Try.prog 89 [.agg (nrow m), .ipt (nrow n)] (.sc (.bool (eqS m.1 n.1))) := by
  refine pcall_intro c89_ok (by simp) (by simp [PureL, Pure, pure_nrow]) ?_ (by simp [Pure])
  (apply red_sound; focus (repeat' (first | exact Red.skip | exact Red.ret | exact RedO.nil | exact RedD.nil | exact Red.exit _ | exact Red.loop _ | exact Red.stop _ | apply Red.ops | apply Red.draw | apply Red.seq | apply Red.cond | apply Red.block | apply RedO.cons | apply RedD.cons | exact (0 : Nat))))
  ((conv => whnf); repeat (refine And.intro rfl ?_; (conv => whnf)))
  exact .refl _
theorem proc_nodes (P : ProcD) (hP : P.Fits) : PCall Try.prog 74 [dproc P] (.sc (.int .i64 P.nodesE)) := by
  have b := hP.nodes
  refine pcall_intro c74_ok (by simp) (by simp [PureL, Pure, pure_dproc]) ?_ (by simp [Pure])
  (apply red_sound; focus (repeat' (first | exact Red.skip | exact Red.ret | exact RedO.nil | exact RedD.nil | exact Red.exit _ | exact Red.loop _ | exact Red.stop _ | apply Red.ops | apply Red.draw | apply Red.seq | apply Red.cond | apply Red.block | apply RedO.cons | apply RedD.cons | exact (0 : Nat))))
  ((conv => whnf); repeat (refine And.intro rfl ?_; (conv => whnf)))
  rw [List.length_map]
  have hit : ∀ {H : List AObj} {z : Int} (k : Nat), k < P.nodes.length → (∀ j, j < k → P.nodeE j = 0) → P.nodeE k = z → z ≠ 0 → Deep H (.sc (.int .i64 z)) (.sc (.int .i64 P.nodesE)) := fun k h1 h2 h3 h4 => by
    unfold ProcD.nodesE
    rw [ProcD.firstE_hit h1 h2 (by rw [h3]; exact h4), h3]
    exact .refl _
  refine pwp_for [1, 6, 7] (fun k : Nat => [(8, .sc (.int .i64 k))]) (fun _ => []) (fun k => k ≤ P.nodes.length ∧ ∀ j, j < k → P.nodeE j = 0) (fun k => P.nodes.length - k) 0 ?_
  ((conv => whnf); repeat (refine And.intro rfl ?_; (conv => whnf)))
  refine ⟨⟨by omega, fun j hj => by omega⟩, by (repeat' (first | exact trivial | refine And.intro rfl ?_)), rfl, ?_⟩
  rintro k ⟨hk, hall⟩
  ((conv => whnf); repeat (refine And.intro rfl ?_; (conv => whnf)))
  (apply red_sound; focus (repeat' (first | exact Red.skip | exact Red.ret | exact RedO.nil | exact RedD.nil | exact Red.exit _ | exact Red.loop _ | exact Red.stop _ | apply Red.ops | apply Red.draw | apply Red.seq | apply Red.cond | apply Red.block | apply RedO.cons | apply RedD.cons | exact (0 : Nat))))
  ((conv => whnf); repeat (refine And.intro rfl ?_; (conv => whnf)))
  (refine ifK_split (fun h => ?_) (fun h => ?_) <;> (rw [h]; ((conv => whnf); repeat (refine And.intro rfl ?_; (conv => whnf)))))
  · have hk' : k < P.nodes.length := by ((try simp only [oo, reduceCtorEq] at *) <;> omega)
    refine ⟨by omega, _, node_at P (k := k) (by omega) hk', ?_⟩
    ((conv => whnf); repeat (refine And.intro rfl ?_; (conv => whnf)))
    (refine .inl ⟨_, (proc_Named (P.name k) (hP.at hk')), ?_⟩; ((conv => whnf); repeat (refine And.intro rfl ?_; (conv => whnf))))
    (refine ifK_split (fun h1 => ?_) (fun h1 => ?_) <;> (rw [h1]; ((conv => whnf); repeat (refine And.intro rfl ?_; (conv => whnf)))))
    · exact hit k hk' hall (by unfold ProcD.nodeE; rw [if_pos (.inl (by simpa using h1))]) (by decide)
    have h1 : namedB (P.name k) = true := by simpa using h1
    (refine ifK_split (fun h2 => ?_) (fun h2 => ?_) <;> (rw [h2]; ((conv => whnf); repeat (refine And.intro rfl ?_; (conv => whnf)))))
    · exact hit k hk' hall (by unfold ProcD.nodeE; rw [if_pos (.inr (.inl (by ((try simp only [oo, reduceCtorEq] at *) <;> omega))))]) (by decide)
    (refine ifK_split (fun h3 => ?_) (fun h3 => ?_) <;> (rw [h3]; ((conv => whnf); repeat (refine And.intro rfl ?_; (conv => whnf)))))
    · exact hit k hk' hall (by unfold ProcD.nodeE; rw [if_pos (.inr (.inr (by ((try simp only [oo, reduceCtorEq] at *) <;> omega))))]) (by decide)
    have c1 : ¬ (namedB (P.name k) = false ∨ P.kind k < 1 ∨ 7 < P.kind k) := by
      rintro (q | q | q)
      · rw [h1] at q; cases q
      · ((try simp only [oo, reduceCtorEq] at *) <;> omega)
      · ((try simp only [oo, reduceCtorEq] at *) <;> omega)
    refine ⟨by omega, by omega, by rw [List.length_map]; omega, ?_⟩
    ((conv => whnf); repeat (refine And.intro rfl ?_; (conv => whnf)))
    rw [List.drop_zero, Int.toNat_natCast, ← List.map_take]
    (refine .inr (.inl ⟨_, _, (by (repeat' (first | exact Deep.refl _ | exact Deep.none _ | exact deep_row _ | exact DeepL.nil | exact DeepLL.nil | refine Deep.agg _ _ ?_ | refine Deep.tup _ _ ?_ | refine Deep.own _ _ _ _ _ _ _ _ rfl ?_ | refine Deep.loc _ _ _ _ _ rfl ?_ | refine Deep.ifc _ _ _ ?_ | refine Deep.fn _ _ _ _ _ ?_ ?_ | refine DeepL.cons _ _ _ _ ?_ ?_ | refine DeepLL.cons _ _ _ _ ?_ ?_))), (containsF_node (P.nodes.take k) (by rw [List.length_take]; omega) (fun m => eqS m.1 (P.name k)) 89 [.ipt (nrow (P.name k, P.kind k))] (by simp [PureL, Pure, pure_nrow]) fun a _ => proc_nodes1 a _), rfl, ?_⟩); ((conv => whnf); repeat (refine And.intro rfl ?_; (conv => whnf))))
    rw [take_any P (fun s => eqS s (P.name k)) k (by omega)]
    (refine ifK_split (fun h4 => ?_) (fun h4 => ?_) <;> (rw [h4]; ((conv => whnf); repeat (refine And.intro rfl ?_; (conv => whnf)))))
    · exact hit k hk' hall (by unfold ProcD.nodeE; rw [if_neg c1, if_pos h4]) (by decide)
    · (refine .inl ⟨by (unfold InR; rw [IntKind.wrap_i64]; omega), ?_⟩; ((conv => whnf); repeat (refine And.intro rfl ?_; (conv => whnf))))
      refine ⟨k + 1, ⟨by omega, fun j hj => ?_⟩, by dsimp only; omega, ?_⟩
      · by_cases e : j = k
        · subst e; unfold ProcD.nodeE; rw [if_neg c1, if_neg (by rw [h4]; simp)]
        · exact hall j (by omega)
      · (refine leB_close 1 (by simp) rfl ?_ ?_ <;> (repeat' (first | exact trivial | exact rfl | exact DeepM.refl _ | exact DeepML.refl _ | exact DeepMLL.refl _ | refine And.intro ?_ ?_ | (simp [Under, UnderL, UnderLL, -List.map_take, -List.map_drop]; done))))
  · have hk' : k = P.nodes.length := by have : ¬ k < P.nodes.length := by ((try simp only [oo, reduceCtorEq] at *) <;> omega)
                                        omega
    subst hk'
    have e : P.nodesE = 0 := ProcD.firstE_zero.2 hall
    rw [e]
    exact .refl _
end Go.Proofs.Ytikdngjdhncioaa
