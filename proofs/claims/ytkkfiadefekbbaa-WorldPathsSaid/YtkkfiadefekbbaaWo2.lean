/-
  Words of paths, over deep values. No statement is proved here.
-/
import Derived.Test.YtkkfiadefekbbaaWo
import Derived.Test.YtkkfiadefekbbaaLas3
namespace Go.Proofs.Ytkkfiadefekbbaa
open Go.RowKit
set_option linter.unusedSimpArgs false
set_option linter.unusedVariables false
def pcells (s l : List Int) : List D := [dints s, dints l]
def dpath (s l : List Int) : D := .agg (pcells s l)
theorem pure_pcells (s l : List Int) : PureL (pcells s l) := by simp [pcells, PureL, pure_dints]
theorem pure_dpath (s l : List Int) : Pure (dpath s l) := by simp [dpath, Pure, pure_pcells]
@[simp] theorem under_dlet {m : Nat} (l : List Int) : Under m (dlet l) ↔ True := ⟨fun _ => trivial, fun _ => under_pure _ (pure_dlet l)⟩
@[simp] theorem underL_pcells {m : Nat} (s l : List Int) : UnderL m (pcells s l) ↔ True := ⟨fun _ => trivial, fun _ => underL_pure _ (pure_pcells s l)⟩
@[simp] theorem underL_wocells {m : Nat} (W : WorldD) : UnderL m W.cells ↔ True := ⟨fun _ => trivial, fun _ => underL_pure _ (pure_wocells W)⟩
/-- Letters of states. -/
def WorldD.lts (W : WorldD) (l : List Int) : List Int := l.map fun x => W.label.getD x.toNat 0
theorem lts_len (W : WorldD) (l : List Int) : (W.lts l).length = l.length := by simp [WorldD.lts]
def u64s (l : List Int) : List (List D) := l.map fun n => [.sc (.int .u64 n)]
theorem u64s_len (l : List Int) : (u64s l).length = l.length := by simp [u64s]
theorem u64_at {l : List Int} {z k : Nat} (hz : z = k) (h : k < l.length) : (l.map fun n => [D.sc (.int .u64 n)])[z]? = some [.sc (.int .u64 (l.getD k 0))] := by
  subst hz
  exact let_at h
theorem lts_snoc (W : WorldD) (l : List Int) (k : Nat) (hk : k < l.length) : List.drop 0 (List.take k (u64s ((W.lts l).take k))) ++ [[D.sc (.int .u64 (W.label.getD (l[k]).toNat 0))]] = u64s ((W.lts l).take (k + 1)) := by
  rw [drop_take_all (by simp [u64s]; omega), List.take_add_one]
  have : (W.lts l)[k]? = some (W.label.getD (l[k]).toNat 0) := by
    unfold WorldD.lts
    rw [List.getElem?_map, List.getElem?_eq_getElem hk]
    rfl
  rw [this]
  simp [u64s]
@[simp] theorem underLL_u64s {m : Nat} (l : List Int) : UnderLL m (u64s l) ↔ True := by simp [u64s, UnderL, Under]
theorem deep_u64 {H : List AObj} {id v n : Nat} {q : Bool} {l : List Int} (hn : l.length ≤ n) (h : H[id]? = some (.vec q v 1 (u64s l))) : Deep H (.own id v 0 n) (dlet l) := .own _ _ _ _ _ _ _ _ h (by rw [drop_take_all (by rw [u64s_len]; exact hn)]; exact deepLL_refl _)
def c46_1 : PC := .seq (.seq (.ops [⟨(some 8), .move (.tmp 6), none, 0⟩,
    ⟨(some 9), .faddr 0 (.tmp 3), none, 0⟩,
    ⟨(some 10), .load1 (.tmp 9), none, 0⟩,
    ⟨(some 11), .len (.tmp 10), none, 0⟩,
    ⟨(some 12), .bin .lss (.tmp 8) (.tmp 11), none, 0⟩] false) (.cond (.tmp 12) (.skip) (.exit 0))) (.seq (.block 1 (.ops [⟨(some 15), .faddr 0 (.tmp 5), none, 0⟩,
    ⟨(some 16), .load1 (.tmp 15), none, 1⟩,
    ⟨(some 17), .faddr 2 (.tmp 2), none, 0⟩,
    ⟨(some 18), .load1 (.tmp 17), none, 4⟩,
    ⟨(some 19), .faddr 0 (.tmp 3), none, 0⟩,
    ⟨(some 20), .load1 (.tmp 19), none, 16⟩,
    ⟨(some 21), .move (.tmp 6), none, 0⟩,
    ⟨(some 22), .iaddr 1 (.tmp 20) (.tmp 21), none, 112⟩,
    ⟨(some 23), .load1 (.tmp 22), none, 240⟩,
    ⟨(some 24), .iaddr 1 (.tmp 18) (.tmp 23), none, 508⟩,
    ⟨(some 25), .load1 (.tmp 24), none, 1020⟩,
    ⟨(some 26), .bslice 1 1 [(.tmp 25)], none, 2044⟩,
    ⟨(some 27), .append 1 8 (.tmp 16) (.tmp 26), none, 4095⟩,
    ⟨(some 28), .faddr 0 (.tmp 5), none, 8191⟩,
    ⟨none, .store 1 (.tmp 28) (.tmp 27), none, 16383⟩] true)) (.ops [⟨(some 13), .move (.tmp 6), none, 0⟩,
    ⟨(some 14), .bin .add (.tmp 13) (.const (.int .i64 1)), none, 0⟩,
    ⟨(some 6), .move (.tmp 14), none, 0⟩] false))
def c46_2 : PC := .seq (.seq (.ops [⟨(some 29), .move (.tmp 7), none, 0⟩,
    ⟨(some 30), .faddr 1 (.tmp 3), none, 0⟩,
    ⟨(some 31), .load1 (.tmp 30), none, 0⟩,
    ⟨(some 32), .len (.tmp 31), none, 0⟩,
    ⟨(some 33), .bin .lss (.tmp 29) (.tmp 32), none, 0⟩] false) (.cond (.tmp 33) (.skip) (.exit 2))) (.seq (.block 3 (.ops [⟨(some 36), .faddr 1 (.tmp 5), none, 0⟩,
    ⟨(some 37), .load1 (.tmp 36), none, 1⟩,
    ⟨(some 38), .faddr 2 (.tmp 2), none, 0⟩,
    ⟨(some 39), .load1 (.tmp 38), none, 4⟩,
    ⟨(some 40), .faddr 1 (.tmp 3), none, 0⟩,
    ⟨(some 41), .load1 (.tmp 40), none, 16⟩,
    ⟨(some 42), .move (.tmp 7), none, 0⟩,
    ⟨(some 43), .iaddr 1 (.tmp 41) (.tmp 42), none, 112⟩,
    ⟨(some 44), .load1 (.tmp 43), none, 240⟩,
    ⟨(some 45), .iaddr 1 (.tmp 39) (.tmp 44), none, 508⟩,
    ⟨(some 46), .load1 (.tmp 45), none, 1020⟩,
    ⟨(some 47), .bslice 1 1 [(.tmp 46)], none, 2044⟩,
    ⟨(some 48), .append 1 8 (.tmp 37) (.tmp 47), none, 4095⟩,
    ⟨(some 49), .faddr 1 (.tmp 5), none, 8191⟩,
    ⟨none, .store 1 (.tmp 49) (.tmp 48), none, 16383⟩] true)) (.ops [⟨(some 34), .move (.tmp 7), none, 0⟩,
    ⟨(some 35), .bin .add (.tmp 34) (.const (.int .i64 1)), none, 0⟩,
    ⟨(some 7), .move (.tmp 35), none, 0⟩] false))
def c46 : PC := .seq (.ops [⟨(some 2), .box (.tmp 0), none, 0⟩,
    ⟨(some 3), .box (.tmp 1), none, 0⟩,
    ⟨(some 4), .alloc [(.slice none 0 0), (.slice none 0 0)], none, 0⟩] false) (.seq (.ops [⟨(some 5), .alloc [(.slice none 0 0), (.slice none 0 0)], none, 0⟩] false) (.seq (.seq (.ops [⟨(some 6), .move (.const (.int .i64 0)), none, 0⟩] false) (.block 0 (.loop c46_1))) (.seq (.seq (.ops [⟨(some 7), .move (.const (.int .i64 0)), none, 0⟩] false) (.block 2 (.loop c46_2))) (.seq (.ops [⟨(some 50), .loadA 2 (.tmp 5), none, 0⟩,
    ⟨none, .store 2 (.tmp 4) (.tmp 50), none, 0⟩] false) (.ret)))))
set_option maxRecDepth 100000 in
theorem c46_ok : FunOK Try.prog 46 51 [.agg 4 2] c46 := ⟨⟨Try.f46, Try.func46, rfl, by kernel_rfl, rfl, by kernel_rfl⟩⟩
theorem ref_WordOf (W : WorldD) (hW : W.Fits) (hlab : W.label.length = W.next.length) (s l : List Int) (hs : s.length ≤ 17592186043904) (hl : l.length ≤ 17592186043904) (is : inB s W.next.length = true) (il : inB l W.next.length = true) :
    PCall Try.prog 46 [dworld W, dpath s l] (dword (W.lts s) (W.lts l)) := by
  refine pcall_intro c46_ok (by simp) (by simp [PureL, pure_dworld, pure_dpath]) ?_ (pure_dword _ _)
  (apply red_sound; focus (repeat' (first | exact Red.skip | exact Red.ret | exact RedO.nil | exact RedD.nil | exact Red.exit _ | exact Red.loop _ | exact Red.stop _ | apply Red.ops | apply Red.draw | apply Red.seq | apply Red.cond | apply Red.block | apply RedO.cons | apply RedD.cons | exact (0 : Nat))))
  ((conv => whnf); repeat (refine And.intro rfl ?_; (conv => whnf)))
  refine pwp_ghostB (leB_nilc 3 0 1 (by simp) rfl rfl) ?_
  refine pwp_for [2, 3, 4, 5] (fun k : Nat => [(6, .sc (.int .i64 k))]) (fun k => [(3, .row true [.own 4 k 0 k, .sc (.slice none 0 0)]), (4, .vec true k 1 (u64s ((W.lts s).take k)))]) (fun k => k ≤ s.length) (fun k => s.length - k) 0 ?_
  ((conv => whnf); repeat (refine And.intro rfl ?_; (conv => whnf)))
  refine ⟨by omega, by (repeat' (first | exact trivial | refine And.intro rfl ?_)), rfl, ?_⟩
  rintro k hk
  ((conv => whnf); repeat (refine And.intro rfl ?_; (conv => whnf)))
  (apply red_sound; focus (repeat' (first | exact Red.skip | exact Red.ret | exact RedO.nil | exact RedD.nil | exact Red.exit _ | exact Red.loop _ | exact Red.stop _ | apply Red.ops | apply Red.draw | apply Red.seq | apply Red.cond | apply Red.block | apply RedO.cons | apply RedD.cons | exact (0 : Nat))))
  ((conv => whnf); repeat (refine And.intro rfl ?_; (conv => whnf)))
  rw [List.length_map]
  (refine ifK_split (fun h => ?_) (fun h => ?_) <;> (rw [h]; ((conv => whnf); repeat (refine And.intro rfl ?_; (conv => whnf)))))
  · have hk' : k < s.length := by ((try simp only [bne_iff_ne, ne_eq, bne_eq_false_iff_eq, beq_iff_eq, beq_eq_false_iff_ne, decide_eq_true_eq, decide_eq_false_iff_not, List.length_map, Bool.not_eq_true, Bool.not_eq_false, Bool.and_eq_true, Bool.or_eq_true, Bool.and_eq_false_iff, Bool.or_eq_false_iff, Bool.not_eq_true', Bool.not_eq_false', Bool.not_true, Bool.not_false, Bool.not_eq_eq_eq_not, not_true_eq_false, not_false_eq_true, reduceCtorEq, Bool.true_or, Bool.false_or, Bool.or_true, Bool.or_false, Bool.true_and, Bool.and_true, Bool.false_and, Bool.and_false, true_and, and_true, or_false, false_or, true_or, or_true, false_and, and_false, Bool.true_eq_false, Bool.false_eq_true] at *) <;> omega)
    have b := inB_get is hk'
    refine ⟨by omega, _, ints_at (k := k) (by omega) hk', ?_⟩
    ((conv => whnf); repeat (refine And.intro rfl ?_; (conv => whnf)))
    refine ⟨b.1, _, u64_at (k := (s[k]).toNat) rfl (by omega), ?_⟩
    ((conv => whnf); repeat (refine And.intro rfl ?_; (conv => whnf)))
    refine ⟨(by unfold sliceAppend; simp only [List.length_map, List.length_cons, List.length_nil, List.length_append, List.length_take, List.length_drop, List.drop_zero, List.take_succ_cons, List.take_zero]; omega), ?_⟩
    ((conv => whnf); repeat (refine And.intro rfl ?_; (conv => whnf)))
    (refine .inl ⟨by (unfold InR; rw [IntKind.wrap_i64]; omega), ?_⟩; ((conv => whnf); repeat (refine And.intro rfl ?_; (conv => whnf))))
    refine ⟨k + 1, by omega, by dsimp only; omega, ?_⟩
    (refine leB_close 5 (by simp) rfl ?_ ?_ <;> (repeat' (first | exact trivial | exact rfl | exact DeepM.refl _ | exact DeepML.refl _ | exact DeepMLL.refl _ | refine And.intro ?_ ?_ | (simp [Under, UnderL, UnderLL]; done))))
    exact deepMLL_eq (lts_snoc W s k hk')
  have hks : k = s.length := by have : ¬ k < s.length := by ((try simp only [bne_iff_ne, ne_eq, bne_eq_false_iff_eq, beq_iff_eq, beq_eq_false_iff_ne, decide_eq_true_eq, decide_eq_false_iff_not, List.length_map, Bool.not_eq_true, Bool.not_eq_false, Bool.and_eq_true, Bool.or_eq_true, Bool.and_eq_false_iff, Bool.or_eq_false_iff, Bool.not_eq_true', Bool.not_eq_false', Bool.not_true, Bool.not_false, Bool.not_eq_eq_eq_not, not_true_eq_false, not_false_eq_true, reduceCtorEq, Bool.true_or, Bool.false_or, Bool.or_true, Bool.or_false, Bool.true_and, Bool.and_true, Bool.false_and, Bool.and_false, true_and, and_true, or_false, false_or, true_or, or_true, false_and, and_false, Bool.true_eq_false, Bool.false_eq_true] at *) <;> omega)
                                omega
  subst hks
  clear h hk
  refine pwp_ghostB (leB_nilc 3 1 1 (by simp) rfl rfl) ?_
  refine pwp_for [2, 3, 4, 5] (fun k : Nat => [(7, .sc (.int .i64 k))]) (fun k => [(3, .row true [.own 4 s.length 0 s.length, .own 5 k 0 k]), (5, .vec true k 1 (u64s ((W.lts l).take k)))]) (fun k => k ≤ l.length) (fun k => l.length - k) 0 ?_
  ((conv => whnf); repeat (refine And.intro rfl ?_; (conv => whnf)))
  refine ⟨by omega, by (repeat' (first | exact trivial | refine And.intro rfl ?_)), rfl, ?_⟩
  rintro k hk
  ((conv => whnf); repeat (refine And.intro rfl ?_; (conv => whnf)))
  (apply red_sound; focus (repeat' (first | exact Red.skip | exact Red.ret | exact RedO.nil | exact RedD.nil | exact Red.exit _ | exact Red.loop _ | exact Red.stop _ | apply Red.ops | apply Red.draw | apply Red.seq | apply Red.cond | apply Red.block | apply RedO.cons | apply RedD.cons | exact (0 : Nat))))
  ((conv => whnf); repeat (refine And.intro rfl ?_; (conv => whnf)))
  rw [List.length_map]
  (refine ifK_split (fun h => ?_) (fun h => ?_) <;> (rw [h]; ((conv => whnf); repeat (refine And.intro rfl ?_; (conv => whnf)))))
  · have hk' : k < l.length := by ((try simp only [bne_iff_ne, ne_eq, bne_eq_false_iff_eq, beq_iff_eq, beq_eq_false_iff_ne, decide_eq_true_eq, decide_eq_false_iff_not, List.length_map, Bool.not_eq_true, Bool.not_eq_false, Bool.and_eq_true, Bool.or_eq_true, Bool.and_eq_false_iff, Bool.or_eq_false_iff, Bool.not_eq_true', Bool.not_eq_false', Bool.not_true, Bool.not_false, Bool.not_eq_eq_eq_not, not_true_eq_false, not_false_eq_true, reduceCtorEq, Bool.true_or, Bool.false_or, Bool.or_true, Bool.or_false, Bool.true_and, Bool.and_true, Bool.false_and, Bool.and_false, true_and, and_true, or_false, false_or, true_or, or_true, false_and, and_false, Bool.true_eq_false, Bool.false_eq_true] at *) <;> omega)
    have b := inB_get il hk'
    refine ⟨by omega, _, ints_at (k := k) (by omega) hk', ?_⟩
    ((conv => whnf); repeat (refine And.intro rfl ?_; (conv => whnf)))
    refine ⟨b.1, _, u64_at (k := (l[k]).toNat) rfl (by omega), ?_⟩
    ((conv => whnf); repeat (refine And.intro rfl ?_; (conv => whnf)))
    refine ⟨(by unfold sliceAppend; simp only [List.length_map, List.length_cons, List.length_nil, List.length_append, List.length_take, List.length_drop, List.drop_zero, List.take_succ_cons, List.take_zero]; omega), ?_⟩
    ((conv => whnf); repeat (refine And.intro rfl ?_; (conv => whnf)))
    (refine .inl ⟨by (unfold InR; rw [IntKind.wrap_i64]; omega), ?_⟩; ((conv => whnf); repeat (refine And.intro rfl ?_; (conv => whnf))))
    refine ⟨k + 1, by omega, by dsimp only; omega, ?_⟩
    (refine leB_close 6 (by simp) rfl ?_ ?_ <;> (repeat' (first | exact trivial | exact rfl | exact DeepM.refl _ | exact DeepML.refl _ | exact DeepMLL.refl _ | refine And.intro ?_ ?_ | (simp [Under, UnderL, UnderLL]; done))))
    exact deepMLL_eq (lts_snoc W l k hk')
  have hkl : k = l.length := by have : ¬ k < l.length := by ((try simp only [bne_iff_ne, ne_eq, bne_eq_false_iff_eq, beq_iff_eq, beq_eq_false_iff_ne, decide_eq_true_eq, decide_eq_false_iff_not, List.length_map, Bool.not_eq_true, Bool.not_eq_false, Bool.and_eq_true, Bool.or_eq_true, Bool.and_eq_false_iff, Bool.or_eq_false_iff, Bool.not_eq_true', Bool.not_eq_false', Bool.not_true, Bool.not_false, Bool.not_eq_eq_eq_not, not_true_eq_false, not_false_eq_true, reduceCtorEq, Bool.true_or, Bool.false_or, Bool.or_true, Bool.or_false, Bool.true_and, Bool.and_true, Bool.false_and, Bool.and_false, true_and, and_true, or_false, false_or, true_or, or_true, false_and, and_false, Bool.true_eq_false, Bool.false_eq_true] at *) <;> omega)
                                omega
  subst hkl
  rw [List.take_of_length_le (by rw [lts_len]; omega), List.take_of_length_le (by rw [lts_len]; omega)]
  exact .agg _ _ (.cons _ _ _ _ (deep_u64 (by rw [lts_len]; omega) rfl) (.cons _ _ _ _ (deep_u64 (by rw [lts_len]; omega) rfl) .nil))
end Go.Proofs.Ytkkfiadefekbbaa
