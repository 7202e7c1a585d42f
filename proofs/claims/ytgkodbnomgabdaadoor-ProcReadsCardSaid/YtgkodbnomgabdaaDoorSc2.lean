/-
  What comes from some nodes, over deep values: the program's search. No statement is proved here.
-/
import Derived.Test.YtgkodbnomgabdaaDoorSc
import Derived.Test.YtgkodbnomgabdaaDoorGr
import Derived.Test.YtgkodbnomgabdaaDoorBo
namespace Go.Proofs.YtgkodbnomgabdaaDoor
open Go.RowKit
set_option linter.unusedSimpArgs false
set_option linter.unusedVariables false
@[simp] theorem pureL_ints (l : List Int) : PureLL (l.map fun n => [D.sc (.int .i64 n)]) ↔ True := by simp [PureL, Pure]
theorem rbl_mark {n z : Nat} {s : Nat → Bool} {v : Nat} (hz : z = v) : (rbl n s).set z [.sc (.bool true)] = rbl n (mark s v) := by
  subst hz
  rw [rbl_set]
  rfl
/-- What is known while one looks for what comes. -/
structure RchI (g : List (List Int)) (from_ : List Int) (B : Nat) (s : Nat → Bool) (T : List Int) : Prop where
  todo : inB T g.length = true
  comes : ∀ x ∈ T, Rch g from_ x.toNat
  seen : ∀ v, s v = true → Rch g from_ v
  start : ∀ x ∈ from_, s x.toNat = true ∨ x ∈ T
  closed : ∀ v, s v = true → ∀ x ∈ g.getD v [], s x.toNat = true ∨ x ∈ T
  room : T.length + potG g s ≤ B
theorem int_eq_of_toNat {x y : Int} (hx : 0 ≤ x) (hy : 0 ≤ y) (h : x.toNat = y.toNat) : x = y := by omega
theorem inB_mem {l : List Int} {n : Nat} (h : inB l n = true) {x : Int} (hx : x ∈ l) : 0 ≤ x ∧ x < (n : Int) := by
  have := List.all_eq_true.1 h x hx
  simpa using this
theorem inB_of {l : List Int} {n : Nat} (h : ∀ x ∈ l, 0 ≤ x ∧ x < (n : Int)) : inB l n = true := by
  unfold inB
  rw [List.all_eq_true]
  intro x hx
  simpa using h x hx
/-- The last one is seen already. -/
theorem RchI.pop {g : List (List Int)} {from_ : List Int} {B : Nat} {s : Nat → Bool} {T : List Int} {x : Int} (h : RchI g from_ B s (T ++ [x])) (hs : s x.toNat = true) : RchI g from_ B s T where
  todo := inB_of fun y hy => inB_mem h.todo (by simp [hy])
  comes y hy := h.comes y (by simp [hy])
  seen := h.seen
  start y hy := by
    rcases h.start y hy with q | q
    · exact .inl q
    · rcases List.mem_append.1 q with q | q
      · exact .inr q
      · rw [List.mem_singleton] at q; subst q; exact .inl hs
  closed v hv y hy := by
    rcases h.closed v hv y hy with q | q
    · exact .inl q
    · rcases List.mem_append.1 q with q | q
      · exact .inr q
      · rw [List.mem_singleton] at q; subst q; exact .inl hs
  room := by have := h.room; rw [List.length_append] at this; omega
/-- The last one is looked at. -/
theorem RchI.push {g : List (List Int)} {from_ : List Int} {B : Nat} {s : Nat → Bool} {T : List Int} {x : Int} (hg : ∀ l ∈ g, inB l g.length = true) (h : RchI g from_ B s (T ++ [x])) (hs : s x.toNat = false) : RchI g from_ B (mark s x.toNat) (T ++ g.getD x.toNat []) where
  todo := inB_of fun y hy => by
    rcases List.mem_append.1 hy with q | q
    · exact inB_mem h.todo (by simp [q])
    · exact inB_mem (inB_row hg _) q
  comes y hy := by
    rcases List.mem_append.1 hy with q | q
    · exact h.comes y (by simp [q])
    · exact .step (h.comes x (by simp)) q
  seen v hv := by
    rcases mark_iff.1 hv with q | q
    · subst q; exact h.comes x (by simp)
    · exact h.seen v q
  start y hy := by
    rcases h.start y hy with q | q
    · exact .inl (mark_of q)
    · rcases List.mem_append.1 q with q | q
      · exact .inr (by simp [q])
      · rw [List.mem_singleton] at q; subst q; exact .inl (mark_self _ _)
  closed v hv y hy := by
    rcases mark_iff.1 hv with q | q
    · subst q; exact .inr (List.mem_append_right _ hy)
    · rcases h.closed v q y hy with q | q
      · exact .inl (mark_of q)
      · rcases List.mem_append.1 q with q | q
        · exact .inr (by simp [q])
        · rw [List.mem_singleton] at q; subst q; exact .inl (mark_self _ _)
  room := by
    have h1 := h.room
    have h2 := inB_mem h.todo (x := x) (by simp)
    have h3 := potG_mark (g := g) (v := x.toNat) (by omega) hs
    rw [List.length_append] at h1 ⊢
    simp only [List.length_cons, List.length_nil] at h1
    omega
theorem RchI.done {g : List (List Int)} {from_ : List Int} {B : Nat} {s : Nat → Bool} (h : RchI g from_ B s []) (v : Nat) : s v = rchB g from_ v := rchB_eq ⟨h.seen v, rch_closed (fun x hx => (h.start x hx).resolve_right (by simp)) (fun v hv x hx => (h.closed v hv x hx).resolve_right (by simp)) v⟩
theorem RchI.begin {g : List (List Int)} {from_ : List Int} {B : Nat} (hf : inB from_ g.length = true) (hB : from_.length + potG g (fun _ => false) ≤ B) : RchI g from_ B (fun _ => false) from_ where
  todo := hf
  comes _ hx := .base hx
  seen v h := by cases h
  start _ hx := .inr hx
  closed v h := by cases h
  room := hB
def i64s (l : List Int) : List (List D) := l.map fun n => [.sc (.int .i64 n)]
@[simp] theorem underLL_i64s {m : Nat} (l : List Int) : UnderLL m (i64s l) ↔ True := by simp [i64s, UnderL, Under]
theorem i64s_cut {Z l : List Int} {z h : Nat} (hz : z = h) : List.drop (0 + 0) (List.take z (i64s Z)) ++ l.map (fun n => [D.sc (.int .i64 n)]) = i64s (Z.take h ++ l) := by
  subst hz
  unfold i64s
  rw [Nat.zero_add, List.drop_zero, List.map_append, List.map_take]
theorem take_last {l : List Int} {h : Nat} (h1 : 1 ≤ h) (h2 : h ≤ l.length) : l.take h = l.take (h - 1) ++ [l.getD (h - 1) 0] := by
  obtain ⟨k, rfl⟩ : ∃ k, h = k + 1 := ⟨h - 1, by omega⟩
  rw [List.take_add_one, List.getElem?_eq_getElem (by omega), Nat.add_sub_cancel, List.getD_eq_getElem?_getD, List.getElem?_eq_getElem (by omega)]
  rfl
def c43_1 : PC := .seq (.seq (.ops [qm 13 6,q 14 (.len (.tmp 13)),q 15 (.bin .gtr (.tmp 14) (.const (.int .i64 0)))] false) (.cond (.tmp 15) (.skip) (.exit 0))) (.block 1 (.seq (.ops [qm 16 6,qm 17 6,q 18 (.len (.tmp 17)),q 19 (.bin .sub (.tmp 18) (.const (.int .i64 1))),q 20 (.iaddr 1 (.tmp 16) (.tmp 19)),q 21 (.load1 (.tmp 20)),qm 7 21] false) (.seq (.ops [qm 22 6,qm 23 6,q 24 (.len (.tmp 23)),q 25 (.bin .sub (.tmp 24) (.const (.int .i64 1))),q 26 (.slc 1 (.tmp 22) none (some (.tmp 25)) none),qm 6 26] false) (.seq (.ops [qm 27 5,qm 28 7,q 29 (.iaddr 1 (.tmp 27) (.tmp 28)),q 30 (.load1 (.tmp 29)),q 31 (.un .not (.tmp 30))] false) (.cond (.tmp 31) (.seq (.ops [qm 32 5,qm 33 7,q 34 (.iaddr 1 (.tmp 32) (.tmp 33)),qn (.store 1 (.tmp 34) (.const (.bool true)))] false) (.ops [qm 35 6,qm 36 0,qm 37 7,q 38 (.iaddr 1 (.tmp 36) (.tmp 37)),q 39 (.load1 (.tmp 38)),q 40 (.append 1 8 (.tmp 35) (.tmp 39)),qm 6 40] false)) (.skip))))))
def c43 : PC := .seq (.ops [q 4 (.move (.const (.slice none 0 0)))] false) (.seq (.ops [qm 8 0,q 9 (.len (.tmp 8)),q 10 (.mslice 1 1 [(.bool false)] (.tmp 9) (.tmp 9)),qm 5 10] false) (.seq (.ops [qm 11 1,q 12 (.call 49 [(.tmp 11)]),qm 6 12] false) (.seq (.block 0 (.loop c43_1)) (.seq (.ops [qm 41 5,qm 4 41] false) (.ret)))))
set_option maxRecDepth 100000 in
theorem c43_ok : FunOK Tryd.prog 43 42 [.tmp 4] c43 := ⟨⟨Tryd.f43, Tryd.func43, rfl, by kernel_rfl, rfl, by kernel_rfl⟩⟩
theorem scc_reach (g : List (List Int)) (hg : chkG g = 0) (hF : FitsG g) (from_ : List Int) (hf : inB from_ g.length = true) (hB : from_.length + potG g (fun _ => false) ≤ 1000000000000) :
    PCall Tryd.prog 43 [dgrid g, dints from_] (dbl g.length (rchB g from_)) := by
  obtain ⟨hn, hin⟩ := chkG_zero.1 hg
  refine pcall_intro c43_ok (by simp) (by simp [PureL, Pure, pure_dgrid, pure_dints]) ?_ (pure_dbl _ _)
  unfold dgrid
  (apply rd_sound; focus (repeat' constructor))
  ((conv=>whnf);repeat(refine⟨rfl,?_⟩;conv=>whnf))
  rw [List.length_map]
  refine ⟨by omega, by omega, by omega, ?_⟩
  rw [Int.toNat_natCast]
  ((conv=>whnf);repeat(refine⟨rfl,?_⟩;conv=>whnf))
  (refine .inr (.inr (.inr (.inr (.inl ⟨_, _, _, (acallAt_new (cloneO_int from_ (by omega)) (by simp [PureL, Pure]) [1] rfl rfl (by simp [AObj.ren, renL, D.ren]; rfl)), ?_⟩)))); ((conv=>whnf);repeat(refine⟨rfl,?_⟩;conv=>whnf)))
  refine pwp_for [0, 5] (fun ((s, Z, h, ver) : (Nat → Bool) × List Int × Nat × Nat) => [(6, .own 1 ver 0 h)]) (fun (s, Z, h, ver) => [(0, .vec true 0 1 (rbl g.length s)), (1, .vec true ver 1 (i64s Z))])
    (fun (s, Z, h, ver) => h ≤ Z.length ∧ RchI g from_ 1000000000000 s (Z.take h)) (fun (s, Z, h, ver) => h + potG g s) ((fun _ => false), from_, from_.length, 1) ?_
  ((conv=>whnf);repeat(refine⟨rfl,?_⟩;conv=>whnf))
  refine ⟨⟨by simp, by rw [List.take_length]; exact RchI.begin hf hB⟩, by (repeat' (first | exact trivial | refine And.intro rfl ?_)), by rw [rbl_rep]; rfl, ?_⟩
  rintro ⟨s, Z, h, ver⟩ ⟨hh, hI⟩
  ((conv=>whnf);repeat(refine⟨rfl,?_⟩;conv=>whnf))
  (apply rd_sound; focus (repeat' constructor))
  ((conv=>whnf);repeat(refine⟨rfl,?_⟩;conv=>whnf))
  (refine ifK_split (fun h1 => ?_) (fun h1 => ?_) <;> (rw [h1]; ((conv=>whnf);repeat(refine⟨rfl,?_⟩;conv=>whnf))))
  · have h1 : 1 ≤ h := by ((try simp only[oo,reduceCtorEq]at*)<;>omega)
    rw [take_last h1 hh] at hI
    have hx := inB_mem hI.todo (x := Z.getD (h - 1) 0) (by simp)
    have room := hI.room
    rw [List.length_append, List.length_take] at room
    (refine .inl ⟨by (unfold InR; rw [IntKind.wrap_i64]; omega), ?_⟩; ((conv=>whnf);repeat(refine⟨rfl,?_⟩;conv=>whnf)))
    (refine ⟨by omega, (by first | omega | (simp; done) | (simp; omega) | (simp only [ll]; omega)), ?_⟩; ((conv=>whnf);repeat(refine⟨rfl,?_⟩;conv=>whnf)))
    refine ⟨_, intsD_at (l := Z) (k := h - 1) (by omega) (by omega), ?_⟩
    ((conv=>whnf);repeat(refine⟨rfl,?_⟩;conv=>whnf))
    generalize hv : Z.getD (h - 1) 0 = x at hx hI
    (refine .inl ⟨by (unfold InR; rw [IntKind.wrap_i64]; omega), ?_⟩; ((conv=>whnf);repeat(refine⟨rfl,?_⟩;conv=>whnf)))
    refine ⟨by omega, by omega, by omega, ?_⟩
    ((conv=>whnf);repeat(refine⟨rfl,?_⟩;conv=>whnf))
    (refine ⟨by omega, (by first | omega | (simp; done) | (simp; omega) | (simp only [ll]; omega)), ?_⟩; ((conv=>whnf);repeat(refine⟨rfl,?_⟩;conv=>whnf)))
    refine ⟨_, rbl_atN x.toNat (by omega) (by omega), ?_⟩
    ((conv=>whnf);repeat(refine⟨rfl,?_⟩;conv=>whnf))
    cases hs : s x.toNat
    · ((conv=>whnf);repeat(refine⟨rfl,?_⟩;conv=>whnf))
      (refine ⟨by omega, (by first | omega | (simp; done) | (simp; omega) | (simp only [ll]; omega)), ?_⟩; ((conv=>whnf);repeat(refine⟨rfl,?_⟩;conv=>whnf)))
      refine ⟨_, rbl_atN x.toNat (by omega) (by omega), ?_⟩
      ((conv=>whnf);repeat(refine⟨rfl,?_⟩;conv=>whnf))
      refine ⟨by omega, _, gridD_at (k := x.toNat) (by omega) (by omega), ?_⟩
      ((conv=>whnf);repeat(refine⟨rfl,?_⟩;conv=>whnf))
      have lx := hF.at x.toNat
      have key := potG_mark (g := g) (s := s) (v := x.toNat) (by omega) hs
      have hP := hI.push hin hs
      refine ⟨(by unfold sliceAppend; simp only [ll]; omega), ?_⟩
      ((conv=>whnf);repeat(refine⟨rfl,?_⟩;conv=>whnf))
      refine ⟨(mark s x.toNat, Z.take (h - 1) ++ g.getD x.toNat [], (h - 1) + (g.getD x.toNat []).length, ver + 1), ⟨by simp; omega, ?_⟩, ?_, ?_⟩
      · rw [List.take_of_length_le (by simp; omega)]
        exact hP
      · dsimp only
        omega
      · refine leB_envH ⟨congrArg (D.own 1 (ver + 1) 0) (by simp only [List.length_map]; omega), by (repeat' (first | exact trivial | refine And.intro rfl ?_))⟩ ?_
        rw [rbl_mark (v := x.toNat) (by omega), i64s_cut (h := h - 1) (by omega)]
        rfl
    · ((conv=>whnf);repeat(refine⟨rfl,?_⟩;conv=>whnf))
      refine ⟨(s, Z, h - 1, ver), ⟨by omega, hI.pop hs⟩, by dsimp only; omega, ?_⟩
      exact leB_envH ⟨congrArg (D.own 1 ver 0) (by omega), by (repeat' (first | exact trivial | refine And.intro rfl ?_))⟩ rfl
  · have h0 : h = 0 := by ((try simp only[oo,reduceCtorEq]at*)<;>omega)
    subst h0
    rw [List.take_zero] at hI
    rw [rbl_congr (g' := rchB g from_) fun i _ => hI.done i]
    exact deep_vec rfl
def c32 : PC := .seq (.ops [q 4 (.move (.const (.slice none 0 0))),q 5 (.move (.const (.int .i64 0)))] false) (.seq (.seq (.ops [qm 7 0,q 8 (.call 41 [(.tmp 7)]),qm 6 8] false) (.seq (.ops [qm 9 6,q 10 (.bin .neq (.tmp 9) (.const (.int .i64 0)))] false) (.cond (.tmp 10) (.seq (.ops [qm 11 6,q 4 (.move (.const (.slice none 0 0))),qm 5 11] false) (.ret)) (.skip)))) (.seq (.seq (.ops [qm 12 0,qm 13 1,q 14 (.call 42 [(.tmp 12), (.tmp 13)])] false) (.cond (.tmp 14) (.seq (.ops [q 4 (.move (.const (.slice none 0 0))),q 5 (.move (.const (.int .i64 1)))] false) (.ret)) (.skip))) (.seq (.ops [qm 15 0,qm 16 1,q 17 (.call 43 [(.tmp 15), (.tmp 16)]),qm 4 17,q 5 (.move (.const (.int .i64 0)))] false) (.ret))))
set_option maxRecDepth 100000 in
theorem c32_ok : FunOK Tryd.prog 32 18 [.tmp 4, .tmp 5] c32 := ⟨⟨Tryd.f32, Tryd.func32, rfl, by kernel_rfl, rfl, by kernel_rfl⟩⟩
theorem scc_Reach (g : List (List Int)) (hg : chkG g = 0) (hF : FitsG g) (from_ : List Int) (hf : inB from_ g.length = true) (hB : from_.length + potG g (fun _ => false) ≤ 1000000000000) :
    PCall Tryd.prog 32 [dgrid g, dints from_] (.tup [dbl g.length (rchB g from_), .sc (.int .i64 0)]) := by
  refine pcall_intro c32_ok (by simp) (by simp [PureL, Pure, pure_dgrid, pure_dints]) ?_ (by simp [Pure, PureL, pure_dbl])
  (apply rd_sound; focus (repeat' constructor))
  ((conv=>whnf);repeat(refine⟨rfl,?_⟩;conv=>whnf))
  (refine .inl ⟨_, (scc_Check g hF), ?_⟩; ((conv=>whnf);repeat(refine⟨rfl,?_⟩;conv=>whnf)))
  (refine ifK_split (fun h1 => ?_) (fun h1 => ?_) <;> (rw [h1]; ((conv=>whnf);repeat(refine⟨rfl,?_⟩;conv=>whnf))))
  · exfalso; ((try simp only[oo,reduceCtorEq]at*)<;>omega)
  (refine .inl ⟨_, (scc_odd g from_ (by omega)), ?_⟩; ((conv=>whnf);repeat(refine⟨rfl,?_⟩;conv=>whnf)))
  rw [hf]
  ((conv=>whnf);repeat(refine⟨rfl,?_⟩;conv=>whnf))
  (refine .inl ⟨_, (scc_reach g hg hF from_ hf hB), ?_⟩; ((conv=>whnf);repeat(refine⟨rfl,?_⟩;conv=>whnf)))
  exact .refl _
end Go.Proofs.YtgkodbnomgabdaaDoor
