/-
  Is a process sound?: the program's functions, over deep values. No statement is proved here.
-/
import Derived.Test.YtjnfahdolkgnoaaQSo0
import Derived.Test.YtjnfahdolkgnoaaQSpB
namespace Go.Proofs.Ytjnfahdolkgnoaa
open Go.RowKit
set_option linter.unusedSimpArgs false
set_option linter.unusedVariables false
/-! ### A space's graph, while it is built -/
def rowT (N : List (List EdgeD)) (i : Nat) : List Int := (N.getD i []).map fun x => x.2
@[simp] theorem rowT_len (N : List (List EdgeD)) (i : Nat) : (rowT N i).length = (N.getD i []).length := by simp [rowT]
theorem rowT_at {N : List (List EdgeD)} {i k : Nat} (h : k < (N.getD i []).length) : (rowT N i).getD k 0 = ((N.getD i []).getD k (0, 0)).2 := by
  unfold rowT
  generalize N.getD i [] = l at h
  rw [List.getD_eq_getElem?_getD, List.getElem?_map, List.getD_eq_getElem?_getD, List.getElem?_eq_getElem h]
  rfl
def gToF (N : List (List EdgeD)) (n k i : Nat) : List Int := if i < n then rowT N i else if i = n then (rowT N i).take k else []
def gTo (N : List (List EdgeD)) (n k : Nat) : List (List Int) := (List.range N.length).map (gToF N n k)
@[simp] theorem gTo_len (N : List (List EdgeD)) (n k : Nat) : (gTo N n k).length = N.length := by simp [gTo]
theorem gTo_get {N : List (List EdgeD)} {n k i : Nat} (h : i < N.length) : (gTo N n k)[i]? = some (gToF N n k i) := by
  simp [gTo, List.getElem?_map, List.getElem?_range h]
theorem gTo_row {N : List (List EdgeD)} {n k : Nat} (h : n < N.length) : (gTo N n k).getD n [] = (rowT N n).take k := by
  rw [List.getD_eq_getElem?_getD, gTo_get h]
  simp [gToF]
theorem gTo_ext {N : List (List EdgeD)} {n k n' k' : Nat} (h : ∀ i, i < N.length → gToF N n k i = gToF N n' k' i) : gTo N n k = gTo N n' k' := by
  unfold gTo
  exact List.map_congr_left fun i hi => h i (List.mem_range.1 hi)
theorem gTo_set {N : List (List EdgeD)} {n k : Nat} (h : n < N.length) (hk : k < (N.getD n []).length) : (gTo N n k).set n ((rowT N n).take k ++ [((N.getD n []).getD k (0, 0)).2]) = gTo N n (k + 1) := by
  apply List.ext_getElem?
  intro i
  by_cases hi : i < N.length
  · rw [gTo_get hi]
    by_cases e : i = n
    · subst e
      rw [List.getElem?_set_self (by simpa using hi)]
      unfold gToF
      rw [if_neg (by omega), if_pos rfl, List.take_add_one, List.getElem?_eq_getElem (by simpa using hk), ← rowT_at hk, List.getD_eq_getElem?_getD, List.getElem?_eq_getElem (by simpa using hk)]
      rfl
    · rw [List.getElem?_set_ne (fun q => e q.symm), gTo_get hi]
      unfold gToF
      by_cases q : i < n
      · rw [if_pos q, if_pos q]
      · rw [if_neg q, if_neg q, if_neg e, if_neg e]
  · rw [List.getElem?_eq_none (by simp; omega), List.getElem?_eq_none (by simp; omega)]
theorem gTo_zero (N : List (List EdgeD)) : gTo N 0 0 = List.replicate N.length [] := by
  apply List.ext_getElem?
  intro i
  by_cases hi : i < N.length
  · rw [gTo_get hi, List.getElem?_replicate, if_pos hi]
    unfold gToF
    rw [if_neg (by omega)]
    split <;> simp
  · rw [List.getElem?_eq_none (by simp; omega), List.getElem?_eq_none (by simp; omega)]
theorem gTo_next (N : List (List EdgeD)) (n : Nat) : gTo N n (N.getD n []).length = gTo N (n + 1) 0 := gTo_ext fun i _ => by
  unfold gToF
  by_cases q : i < n
  · rw [if_pos q, if_pos (by omega)]
  · rw [if_neg q]
    by_cases e : i = n
    · subst e
      rw [if_pos rfl, if_pos (by omega), List.take_of_length_le (by simp)]
    · rw [if_neg e, if_neg (by omega)]
      split <;> simp
theorem gTo_all (N : List (List EdgeD)) : gTo N N.length 0 = gN N := by
  apply List.ext_getElem?
  intro i
  by_cases hi : i < N.length
  · rw [gTo_get hi]
    unfold gToF gN rowT
    rw [if_pos hi, List.getElem?_map, List.getElem?_eq_getElem hi, List.getD_eq_getElem?_getD, List.getElem?_eq_getElem hi]
    rfl
  · rw [List.getElem?_eq_none (by simp; omega), List.getElem?_eq_none (by simp; omega)]
theorem erowD_at {L : List (List EdgeD)} {z k : Nat} (hz : z = k) (h : k < L.length) : (erows L)[z]? = some [dpairs (L.getD k [])] := by
  rw [erow_at hz h, List.getD_eq_getElem?_getD, List.getElem?_eq_getElem h]
  rfl
def scells (M : List (List Int)) (N : List (List EdgeD)) : List D := [dgrid M, .lst 1 (erows N)]
def c20 : PC := .seq (.ops [⟨(some 2), .move (.const (.slice none 0 0)), none, 0⟩,
    ⟨(some 3), .move (.const (.int .i64 0)), none, 0⟩] false) (.seq (.seq (.ops [⟨(some 5), .move (.tmp 0), none, 0⟩,
    ⟨(some 6), .call 59 [(.tmp 5)], none, 0⟩,
    ⟨(some 4), .move (.tmp 6), none, 0⟩] false) (.seq (.ops [⟨(some 7), .move (.tmp 4), none, 0⟩,
    ⟨(some 8), .bin .neq (.tmp 7) (.const (.int .i64 0)), none, 0⟩] false) (.cond (.tmp 8) (.seq (.ops [⟨(some 9), .move (.tmp 4), none, 0⟩,
    ⟨(some 2), .move (.const (.slice none 0 0)), none, 0⟩,
    ⟨(some 3), .move (.tmp 9), none, 0⟩] false) (.ret)) (.skip)))) (.seq (.ops [⟨(some 10), .move (.tmp 0), none, 0⟩,
    ⟨(some 11), .call 60 [(.tmp 10)], none, 0⟩,
    ⟨(some 2), .move (.tmp 11), none, 0⟩,
    ⟨(some 3), .move (.const (.int .i64 0)), none, 0⟩] false) (.ret)))
set_option maxRecDepth 100000 in
theorem c20_ok : FunOK Try.prog 20 12 [.tmp 2, .tmp 3] c20 := ⟨⟨Try.f20, Try.func20, rfl, by kernel_rfl, rfl, by kernel_rfl⟩⟩
theorem scc_Turn (g : List (List Int)) (hg : chkG g = 0) (hF : FitsG g) : PCall Try.prog 20 [dgrid g] (.tup [dgrid (turnG g g.length), .sc (.int .i64 0)]) := by
  refine pcall_intro c20_ok (by simp) (by simp [PureL, Pure, pure_dgrid]) ?_ (by simp [Pure, PureL, pure_dgrid])
  (apply rd_sound; focus (repeat' constructor))
  ((conv=>whnf);repeat(refine And.intro rfl ?_;(conv=>whnf)))
  (refine .inl ⟨_, (scc_Check g hF), ?_⟩; ((conv=>whnf);repeat(refine And.intro rfl ?_;(conv=>whnf))))
  (refine ifK_split (fun h1 => ?_) (fun h1 => ?_) <;> (rw [h1]; ((conv=>whnf);repeat(refine And.intro rfl ?_;(conv=>whnf)))))
  · exfalso; ((try simp only [oo, reduceCtorEq] at *) <;> omega)
  (refine .inl ⟨_, (scc_turnD g hg hF), ?_⟩; ((conv=>whnf);repeat(refine And.intro rfl ?_;(conv=>whnf))))
  exact .refl _
def c21_2 : PC := .seq (.ops [⟨(some 23), .bin .lss (.tmp 22) (.tmp 21), none, 0⟩] false) (.seq (.cond (.tmp 23) (.skip) (.exit 2)) (.seq (.block 3 (.seq (.ops [⟨(some 24), .iaddr 2 (.tmp 20) (.tmp 22), none, 0⟩,
    ⟨(some 25), .loadA 2 (.tmp 24), none, 0⟩,
    ⟨(some 7), .alloc [(.int .i64 0), (.int .i64 0)], none, 0⟩,
    ⟨none, .store 2 (.tmp 7) (.tmp 25), none, 0⟩] false) (.ops [⟨(some 26), .move (.tmp 3), none, 0⟩,
    ⟨(some 27), .move (.tmp 4), none, 0⟩,
    ⟨(some 28), .move (.tmp 3), none, 0⟩,
    ⟨(some 29), .move (.tmp 4), none, 0⟩,
    ⟨(some 30), .iaddr 1 (.tmp 28) (.tmp 29), none, 12⟩,
    ⟨(some 31), .load1 (.tmp 30), none, 28⟩,
    ⟨(some 32), .faddr 1 (.tmp 7), none, 0⟩,
    ⟨(some 33), .load1 (.tmp 32), none, 64⟩,
    ⟨(some 34), .bslice 1 1 [(.tmp 33)], none, 192⟩,
    ⟨(some 35), .append 1 8 (.tmp 31) (.tmp 34), none, 508⟩,
    ⟨(some 36), .iaddr 1 (.tmp 26) (.tmp 27), none, 1023⟩,
    ⟨none, .store 1 (.tmp 36) (.tmp 35), none, 2047⟩] true))) (.ops [⟨(some 37), .bin .add (.tmp 22) (.const (.int .i64 1)), none, 0⟩,
    ⟨(some 22), .move (.tmp 37), none, 0⟩] false)))
def c21_1 : PC := .seq (.ops [⟨(some 16), .bin .lss (.tmp 15) (.tmp 14), none, 0⟩] false) (.seq (.cond (.tmp 16) (.skip) (.exit 0)) (.seq (.block 1 (.seq (.ops [⟨(some 17), .move (.tmp 15), none, 0⟩,
    ⟨(some 18), .iaddr 1 (.tmp 13) (.tmp 15), none, 0⟩,
    ⟨(some 19), .load1 (.tmp 18), none, 0⟩,
    ⟨(some 4), .move (.tmp 17), none, 0⟩,
    ⟨(some 5), .move (.tmp 19), none, 0⟩] false) (.seq (.ops [⟨(some 20), .move (.tmp 5), none, 0⟩,
    ⟨(some 21), .len (.tmp 20), none, 0⟩,
    ⟨(some 22), .move (.const (.int .i64 0)), none, 0⟩] false) (.block 2 (.loop c21_2))))) (.ops [⟨(some 38), .bin .add (.tmp 15) (.const (.int .i64 1)), none, 0⟩,
    ⟨(some 15), .move (.tmp 38), none, 0⟩] false)))
def c21 : PC := .seq (.ops [⟨(some 1), .box (.tmp 0), none, 0⟩,
    ⟨(some 2), .move (.const (.slice none 0 0)), none, 0⟩] false) (.seq (.ops [⟨(some 8), .faddr 1 (.tmp 1), none, 0⟩,
    ⟨(some 9), .load1 (.tmp 8), none, 0⟩,
    ⟨(some 10), .len (.tmp 9), none, 0⟩,
    ⟨(some 11), .mslice 1 24 [(.slice none 0 0)] (.tmp 10) (.tmp 10), none, 0⟩,
    ⟨(some 3), .move (.tmp 11), none, 0⟩] false) (.seq (.seq (.ops [⟨(some 12), .faddr 1 (.tmp 1), none, 0⟩,
    ⟨(some 13), .load1 (.tmp 12), none, 0⟩,
    ⟨(some 14), .len (.tmp 13), none, 0⟩,
    ⟨(some 15), .move (.const (.int .i64 0)), none, 0⟩] false) (.block 0 (.loop c21_1))) (.seq (.ops [⟨(some 39), .move (.tmp 3), none, 0⟩,
    ⟨(some 2), .move (.tmp 39), none, 0⟩] false) (.ret))))
set_option maxRecDepth 100000 in
theorem c21_ok : FunOK Try.prog 21 40 [.tmp 2] c21 := ⟨⟨Try.f21, Try.func21, rfl, by kernel_rfl, rfl, by kernel_rfl⟩⟩
set_option maxRecDepth 100000 in
theorem so_graph (M : List (List Int)) (N : List (List EdgeD)) (hN : N.length ≤ 100000) (hr : ∀ i, (N.getD i []).length ≤ 100000) : PCall Try.prog 21 [dspace M N] (dgrid (gN N)) := by
  refine pcall_intro c21_ok (by simp) (by simp [PureL, pure_dspace]) ?_ (pure_dgrid _)
  (apply rd_sound; focus (repeat' constructor))
  ((conv=>whnf);repeat(refine And.intro rfl ?_;(conv=>whnf)))
  rw [erows_len]
  refine ⟨by omega, by omega, by omega, ?_⟩
  rw [Int.toNat_natCast]
  ((conv=>whnf);repeat(refine And.intro rfl ?_;(conv=>whnf)))
  rw [erows_len]
  refine pwp_ghostB (leB_nils 1 1 N.length 0 (by simp) rfl) ?_
  refine pwp_forH [3, 13, 14] (fun n : Nat => [(15, .sc (.int .i64 n))]) (fun n => .row true (scells M N) :: .vec true 0 1 (ogRows 2 (gTo N n 0)) :: ogObjs 1 wcell (gTo N n 0)) (fun n => n ≤ N.length) (fun n => N.length - n) 0 ?_
  ((conv=>whnf);repeat(refine And.intro rfl ?_;(conv=>whnf)))
  refine ⟨by omega, by (repeat' (first | exact trivial | refine And.intro rfl ?_)), ?_, ?_⟩
  · show _ :: _ :: _ = _ :: _ :: _
    rw [ogObjs_nils 1 _ wcell, gTo_zero]
    exact congrArg (fun x => AObj.row true (scells M N) :: AObj.vec true 0 1 x :: _) (ogRows_nils (α := Int) 2 _)
  rintro n hnn
  ((conv=>whnf);repeat(refine And.intro rfl ?_;(conv=>whnf)))
  (apply rd_sound; focus (repeat' constructor))
  ((conv=>whnf);repeat(refine And.intro rfl ?_;(conv=>whnf)))
  (refine ifK_split (fun h1 => ?_) (fun h1 => ?_) <;> (rw [h1]; ((conv=>whnf);repeat(refine And.intro rfl ?_;(conv=>whnf)))))
  · have hn' : n < N.length := by ((try simp only [oo, reduceCtorEq] at *) <;> omega)
    refine ⟨by omega, _, erowD_at (k := n) (by omega) hn', ?_⟩
    ((conv=>whnf);repeat(refine And.intro rfl ?_;(conv=>whnf)))
    rw [prows_len]
    have lx := hr n
    refine pwp_forH [3, 4, 13, 14, 15, 20, 21] (fun k : Nat => [(22, .sc (.int .i64 k))]) (fun k => .row true (scells M N) :: .vec true 0 1 (ogRows 2 (gTo N n k)) :: ogObjs 1 wcell (gTo N n k)) (fun k => k ≤ (N.getD n []).length) (fun k => (N.getD n []).length - k) 0 ?_
    ((conv=>whnf);repeat(refine And.intro rfl ?_;(conv=>whnf)))
    refine ⟨by omega, by (repeat' (first | exact trivial | refine And.intro rfl ?_)), rfl, ?_⟩
    rintro k hk
    have lG := gTo_len N n k
    ((conv=>whnf);repeat(refine And.intro rfl ?_;(conv=>whnf)))
    (apply rd_sound; focus (repeat' constructor))
    ((conv=>whnf);repeat(refine And.intro rfl ?_;(conv=>whnf)))
    (refine ifK_split (fun h2 => ?_) (fun h2 => ?_) <;> (rw [h2]; ((conv=>whnf);repeat(refine And.intro rfl ?_;(conv=>whnf)))))
    · have hk' : k < (N.getD n []).length := by ((try simp only [oo, reduceCtorEq] at *) <;> omega)
      have hset := gTo_set hn' hk'
      have hrow := gTo_row (k := k) hn'
      have lrow : ((rowT N n).take k).length = k := by rw [List.length_take, rowT_len]; omega
      refine ⟨by omega, _, prows_at (k := k) (by omega) hk', ?_⟩
      ((conv=>whnf);repeat(refine And.intro rfl ?_;(conv=>whnf)))
      generalize ((N.getD n []).getD k (0, 0)) = e at hset
      refine og_push ?_
      ((conv=>whnf);repeat(refine And.intro rfl ?_;(conv=>whnf)))
      (repeat (first | (refine og_getE 0 rfl ?_; ((conv=>whnf);repeat(refine And.intro rfl ?_;(conv=>whnf)))) | (refine og_putE 0 rfl ?_; ((conv=>whnf);repeat(refine And.intro rfl ?_;(conv=>whnf)))) | (refine og_getE 1 rfl ?_; ((conv=>whnf);repeat(refine And.intro rfl ?_;(conv=>whnf)))) | (refine og_putE 1 rfl ?_; ((conv=>whnf);repeat(refine And.intro rfl ?_;(conv=>whnf))))))
      (refine ⟨by omega, (by first | omega | (simp; done) | (simp; omega) | (simp only [ll]; omega)), ?_⟩; ((conv=>whnf);repeat(refine And.intro rfl ?_;(conv=>whnf))))
      refine ⟨_, ogRows_at (i := n) (by omega) (by omega), ?_⟩
      ((conv=>whnf);repeat(refine And.intro rfl ?_;(conv=>whnf)))
      (repeat (first | (refine og_getE 0 rfl ?_; ((conv=>whnf);repeat(refine And.intro rfl ?_;(conv=>whnf)))) | (refine og_putE 0 rfl ?_; ((conv=>whnf);repeat(refine And.intro rfl ?_;(conv=>whnf)))) | (refine og_getE 1 rfl ?_; ((conv=>whnf);repeat(refine And.intro rfl ?_;(conv=>whnf)))) | (refine og_putE 1 rfl ?_; ((conv=>whnf);repeat(refine And.intro rfl ?_;(conv=>whnf))))))
      refine og_pushT ?_
      ((conv=>whnf);repeat(refine And.intro rfl ?_;(conv=>whnf)))
      (repeat (first | (refine og_getE 0 rfl ?_; ((conv=>whnf);repeat(refine And.intro rfl ?_;(conv=>whnf)))) | (refine og_putE 0 rfl ?_; ((conv=>whnf);repeat(refine And.intro rfl ?_;(conv=>whnf)))) | (refine og_getE 1 rfl ?_; ((conv=>whnf);repeat(refine And.intro rfl ?_;(conv=>whnf)))) | (refine og_putE 1 rfl ?_; ((conv=>whnf);repeat(refine And.intro rfl ?_;(conv=>whnf))))))
      refine og_getT (by omega) ?_
      ((conv=>whnf);repeat(refine And.intro rfl ?_;(conv=>whnf)))
      rw [hrow]
      refine ⟨by unfold sliceAppend; simp only [List.length_drop, List.length_take, List.length_cons, List.length_nil]; omega, ?_⟩
      ((conv=>whnf);repeat(refine And.intro rfl ?_;(conv=>whnf)))
      refine og_putT ((rowT N n).take k ++ [e.2]) (by omega) ?_ ?_
      · exact og_app
      ((conv=>whnf);repeat(refine And.intro rfl ?_;(conv=>whnf)))
      (refine ⟨by omega, (by first | omega | (simp; done) | (simp; omega) | (simp only [ll]; omega)), ?_⟩; ((conv=>whnf);repeat(refine And.intro rfl ?_;(conv=>whnf))))
      refine ⟨_, ogRows_at (i := n) (by omega) (by omega), ?_⟩
      ((conv=>whnf);repeat(refine And.intro rfl ?_;(conv=>whnf)))
      (refine .inl ⟨by (unfold InR; rw [IntKind.wrap_i64]; omega), ?_⟩; ((conv=>whnf);repeat(refine And.intro rfl ?_;(conv=>whnf))))
      refine ⟨k + 1, by omega, by dsimp only; omega, ?_⟩
      dsimp only
      rw [← hset]
      refine leB_close (N.length + 2) (by simp) (by simp) (by (repeat' (first | exact trivial | exact rfl | exact DeepM.refl _ | exact DeepML.refl _ | exact DeepMLL.refl _ | refine And.intro ?_ ?_ | (simp [Under, UnderL, UnderLL, -List.map_take, -List.map_drop]; done)))) ⟨⟨rfl, .refl _, by simp [scells, UnderL, Under]⟩, ⟨rfl, rfl, rfl, deepMLL_eq ?_, underLL_ogRows (by simp; omega)⟩, closeH_og under_wcell⟩
      exact ogRows_set (by omega) (by omega) _ (by simp)
    · have hk' : k = (N.getD n []).length := by have : ¬ k < (N.getD n []).length := by ((try simp only [oo, reduceCtorEq] at *) <;> omega)
                                                omega
      subst hk'
      (refine .inl ⟨by (unfold InR; rw [IntKind.wrap_i64]; omega), ?_⟩; ((conv=>whnf);repeat(refine And.intro rfl ?_;(conv=>whnf))))
      refine ⟨n + 1, by omega, by dsimp only; omega, ?_⟩
      rw [gTo_next]
      exact leB_envH (by (repeat' (first | exact trivial | refine And.intro rfl ?_))) rfl
  · have hn' : n = N.length := by have : ¬ n < N.length := by ((try simp only [oo, reduceCtorEq] at *) <;> omega)
                                  omega
    subst hn'
    rw [gTo_all]
    have := deep_ogRows (H := AObj.row true (scells M N) :: AObj.vec true 0 1 (ogRows 2 (gN N)) :: ogObjs 1 wcell (gN N)) (b := 2) (esz := 1) (c := wcell) (L := gN N) (fun i hi => by
      rw [List.getElem?_cons_succ, List.getElem?_cons_succ]
      exact ogObjs_at hi)
    refine .own _ _ _ _ _ _ _ _ rfl ?_
    rw [drop_take_all (by simp)]
    exact this
def c58 : PC := .seq (.ops [⟨(some 2), .move (.const (.bool false)), none, 0⟩] false) (.seq (.ops [⟨(some 3), .move (.tmp 0), none, 0⟩,
    ⟨(some 4), .bin .gtr (.tmp 3) (.const (.int .i64 0)), none, 0⟩,
    ⟨(some 2), .move (.tmp 4), none, 0⟩] false) (.ret))
set_option maxRecDepth 100000 in
theorem c58_ok : FunOK Try.prog 58 5 [.tmp 2] c58 := ⟨⟨Try.f58, Try.func58, rfl, by kernel_rfl, rfl, by kernel_rfl⟩⟩
theorem so_empty1 (x : Int) : PCall Try.prog 58 [.sc (.int .i64 x)] (.sc (.bool (decide (x > 0)))) := by
  refine pcall_intro c58_ok (by simp) (by simp [PureL, Pure]) ?_ (by simp [Pure])
  (apply rd_sound; focus (repeat' constructor))
  ((conv=>whnf);repeat(refine And.intro rfl ?_;(conv=>whnf)))
  exact .refl _
def c19 : PC := .seq (.ops [⟨(some 2), .move (.const (.bool false)), none, 0⟩] false) (.seq (.ops [⟨(some 3), .move (.tmp 0), none, 0⟩,
    ⟨(some 4), .call 57 [(.tmp 3), (.func 58)], none, 0⟩,
    ⟨(some 5), .un .not (.tmp 4), none, 0⟩,
    ⟨(some 2), .move (.tmp 5), none, 0⟩] false) (.ret))
set_option maxRecDepth 100000 in
theorem c19_ok : FunOK Try.prog 19 6 [.tmp 2] c19 := ⟨⟨Try.f19, Try.func19, rfl, by kernel_rfl, rfl, by kernel_rfl⟩⟩
def emptyB (m : List Int) : Bool := !(m.any fun x => decide (x > 0))
theorem so_empty (m : List Int) (hm : m.length ≤ 100000) : PCall Try.prog 19 [dints m] (.sc (.bool (emptyB m))) := by
  refine pcall_intro c19_ok (by simp) (by simp [PureL, pure_dints]) ?_ (by simp [Pure])
  (apply rd_sound; focus (repeat' constructor))
  ((conv=>whnf);repeat(refine And.intro rfl ?_;(conv=>whnf)))
  (refine .inl ⟨_, (containsF_int (fun n => .sc (.int .i64 n)) (fun _ => by simp [Pure]) m (by omega) (fun x => decide (x > 0)) 58 [] (by simp [PureL]) fun a _ => so_empty1 a), ?_⟩; ((conv=>whnf);repeat(refine And.intro rfl ?_;(conv=>whnf))))
  exact .refl _
def c65_2 : PC := .seq (.ops [⟨(some 26), .bin .lss (.tmp 25) (.tmp 24), none, 0⟩] false) (.seq (.cond (.tmp 26) (.skip) (.exit 2)) (.seq (.block 3 (.seq (.ops [⟨(some 27), .iaddr 2 (.tmp 23) (.tmp 25), none, 0⟩,
    ⟨(some 28), .loadA 2 (.tmp 27), none, 0⟩,
    ⟨(some 8), .alloc [(.int .i64 0), (.int .i64 0)], none, 0⟩,
    ⟨none, .store 2 (.tmp 8) (.tmp 28), none, 0⟩] false) (.seq (.ops [⟨(some 29), .faddr 1 (.tmp 8), none, 0⟩,
    ⟨(some 30), .load1 (.tmp 29), none, 1⟩,
    ⟨(some 31), .move (.tmp 1), none, 0⟩,
    ⟨(some 32), .move (.tmp 6), none, 0⟩,
    ⟨(some 33), .iaddr 1 (.tmp 31) (.tmp 32), none, 12⟩,
    ⟨(some 34), .load1 (.tmp 33), none, 28⟩,
    ⟨(some 35), .bin .eql (.tmp 30) (.tmp 34), none, 63⟩] true) (.cond (.tmp 35) (.seq (.ops [⟨(some 36), .move (.tmp 5), none, 0⟩,
    ⟨(some 37), .faddr 0 (.tmp 8), none, 0⟩,
    ⟨(some 38), .load1 (.tmp 37), none, 0⟩,
    ⟨(some 39), .bslice 1 1 [(.tmp 38)], none, 0⟩,
    ⟨(some 40), .append 1 8 (.tmp 36) (.tmp 39), none, 0⟩,
    ⟨(some 5), .move (.tmp 40), none, 0⟩] false) (.exit 2)) (.skip))))) (.ops [⟨(some 41), .bin .add (.tmp 25) (.const (.int .i64 1)), none, 0⟩,
    ⟨(some 25), .move (.tmp 41), none, 0⟩] false)))
def c65_1 : PC := .seq (.seq (.ops [⟨(some 9), .move (.tmp 6), none, 0⟩,
    ⟨(some 10), .move (.tmp 1), none, 0⟩,
    ⟨(some 11), .len (.tmp 10), none, 0⟩,
    ⟨(some 12), .bin .lss (.tmp 9) (.tmp 11), none, 0⟩] false) (.cond (.tmp 12) (.skip) (.exit 0))) (.seq (.block 1 (.seq (.ops [⟨(some 15), .faddr 1 (.tmp 2), none, 0⟩,
    ⟨(some 16), .load1 (.tmp 15), none, 1⟩,
    ⟨(some 17), .move (.tmp 1), none, 0⟩,
    ⟨(some 18), .move (.tmp 6), none, 0⟩,
    ⟨(some 19), .bin .sub (.tmp 18) (.const (.int .i64 1)), none, 8⟩,
    ⟨(some 20), .iaddr 1 (.tmp 17) (.tmp 19), none, 28⟩,
    ⟨(some 21), .load1 (.tmp 20), none, 60⟩,
    ⟨(some 22), .iaddr 1 (.tmp 16) (.tmp 21), none, 127⟩,
    ⟨(some 23), .load1 (.tmp 22), none, 255⟩,
    ⟨(some 24), .len (.tmp 23), none, 511⟩,
    ⟨(some 25), .move (.const (.int .i64 0)), none, 0⟩] true) (.block 2 (.loop c65_2)))) (.ops [⟨(some 13), .move (.tmp 6), none, 0⟩,
    ⟨(some 14), .bin .add (.tmp 13) (.const (.int .i64 1)), none, 0⟩,
    ⟨(some 6), .move (.tmp 14), none, 0⟩] false))
def c65 : PC := .seq (.ops [⟨(some 2), .box (.tmp 0), none, 0⟩,
    ⟨(some 4), .move (.const (.slice none 0 0)), none, 0⟩] false) (.seq (.ops [⟨(some 5), .move (.const (.slice none 0 0)), none, 0⟩] false) (.seq (.seq (.ops [⟨(some 6), .move (.const (.int .i64 1)), none, 0⟩] false) (.block 0 (.loop c65_1))) (.seq (.ops [⟨(some 42), .move (.tmp 5), none, 0⟩,
    ⟨(some 4), .move (.tmp 42), none, 0⟩] false) (.ret))))
set_option maxRecDepth 100000 in
theorem c65_ok : FunOK Try.prog 65 43 [.tmp 4] c65 := ⟨⟨Try.f65, Try.func65, rfl, by kernel_rfl, rfl, by kernel_rfl⟩⟩
set_option maxRecDepth 100000 in
theorem so_along (M : List (List Int)) (N : List (List EdgeD)) (way : List Int) (hw : way.length ≤ 100000) (hr : ∀ i, (N.getD i []).length ≤ 100000) (hn : ∀ k, k < way.length → 0 ≤ way.getD k 0 ∧ way.getD k 0 < (N.length : Int))
    (he : ∀ i, i + 1 < way.length → way.getD (i + 1) 0 ∈ (gN N).getD (way.getD i 0).toNat []) : PCall Try.prog 65 [dspace M N, dints way] (dints (alongL N way)) := by
  refine pcall_intro c65_ok (by simp) (by simp [PureL, pure_dspace, pure_dints]) ?_ (pure_dints _)
  (apply rd_sound; focus (repeat' constructor))
  ((conv=>whnf);repeat(refine And.intro rfl ?_;(conv=>whnf)))
  refine pwp_ghostB (leB_nil 5 1 (by simp) rfl) ?_
  refine pwp_for [1, 2] (fun ((k, c, l) : Nat × Nat × List Int) => [(5, .own 1 c 0 c), (6, .sc (.int .i64 ((k : Int) + 1)))]) (fun (k, c, l) => [(1, .vec true c 1 (i64s l))]) (fun (k, c, l) => k ≤ way.length - 1 ∧ c = l.length ∧ c = k ∧ l = alongTo N way k) (fun (k, c, l) => way.length - k) (0, 0, []) ?_
  ((conv=>whnf);repeat(refine And.intro rfl ?_;(conv=>whnf)))
  refine ⟨⟨by omega, rfl, by omega, rfl⟩, by (repeat' (first | exact trivial | refine And.intro rfl ?_)), rfl, ?_⟩
  rintro ⟨k, c, l⟩ ⟨hk, hc, hck, hl⟩
  ((conv=>whnf);repeat(refine And.intro rfl ?_;(conv=>whnf)))
  (apply rd_sound; focus (repeat' constructor))
  ((conv=>whnf);repeat(refine And.intro rfl ?_;(conv=>whnf)))
  rw [List.length_map]
  (refine ifK_split (fun h1 => ?_) (fun h1 => ?_) <;> (rw [h1]; ((conv=>whnf);repeat(refine And.intro rfl ?_;(conv=>whnf)))))
  · have hk' : k + 1 < way.length := by ((try simp only [oo, reduceCtorEq] at *) <;> omega)
    have hn1 := hn k (by omega)
    have hn2 := hn (k + 1) hk'
    have hmem := he k hk'
    have eA : alongTo N way (k + 1) = alongTo N way k ++ [stepTo (N.getD (way.getD k 0).toNat []) (way.getD (k + 1) 0)] := rfl
    have hA1 := intsD_at (l := way) (z := k) (k := k) rfl (by omega)
    have hA2 := intsD_at (l := way) (z := k + 1) (k := k + 1) rfl hk'
    generalize way.getD k 0 = a at hn1 hmem eA hA1
    generalize way.getD (k + 1) 0 = b at hn2 hmem eA hA2
    rw [gN_at] at hmem
    have lx := hr a.toNat
    (refine .inl ⟨by (unfold InR; rw [IntKind.wrap_i64]; omega), ?_⟩; ((conv=>whnf);repeat(refine And.intro rfl ?_;(conv=>whnf))))
    refine ⟨by omega, _, (by rw [show ((k : Int) + 1 - 1).toNat = k by omega]; exact hA1), ?_⟩
    ((conv=>whnf);repeat(refine And.intro rfl ?_;(conv=>whnf)))
    refine ⟨by omega, _, erowD_at (k := a.toNat) (by omega) (by omega), ?_⟩
    ((conv=>whnf);repeat(refine And.intro rfl ?_;(conv=>whnf)))
    rw [prows_len]
    generalize N.getD a.toNat [] = es at hmem eA lx
    refine pwp_for [1, 2, 6, 23, 24] (fun j : Nat => [(5, .own 1 c 0 c), (25, .sc (.int .i64 j))]) (fun _ => [(1, .vec true c 1 (i64s l))]) (fun j => j ≤ es.length ∧ ∀ q, q < j → (es.getD q (0, 0)).2 ≠ b) (fun j => es.length - j) 0 ?_
    ((conv=>whnf);repeat(refine And.intro rfl ?_;(conv=>whnf)))
    refine ⟨⟨by omega, fun q hq => by omega⟩, by (repeat' (first | exact trivial | refine And.intro rfl ?_)), rfl, ?_⟩
    rintro j ⟨hj, hno⟩
    ((conv=>whnf);repeat(refine And.intro rfl ?_;(conv=>whnf)))
    (apply rd_sound; focus (repeat' constructor))
    ((conv=>whnf);repeat(refine And.intro rfl ?_;(conv=>whnf)))
    (refine ifK_split (fun h2 => ?_) (fun h2 => ?_) <;> (rw [h2]; ((conv=>whnf);repeat(refine And.intro rfl ?_;(conv=>whnf)))))
    · have hj' : j < es.length := by ((try simp only [oo, reduceCtorEq] at *) <;> omega)
      refine ⟨by omega, _, prows_at (k := j) (by omega) hj', ?_⟩
      ((conv=>whnf);repeat(refine And.intro rfl ?_;(conv=>whnf)))
      have hhit := fun h => stepTo_hit (l := es) (t := b) hj' h hno
      have hno' : (es.getD j (0, 0)).2 ≠ b → ∀ q, q < j + 1 → (es.getD q (0, 0)).2 ≠ b := fun h q hq => by
        by_cases e : q = j
        · subst e; exact h
        · exact hno q (by omega)
      generalize es.getD j (0, 0) = e at hhit hno'
      refine ⟨by omega, _, (by rw [show ((k : Int) + 1).toNat = k + 1 by omega]; exact hA2), ?_⟩
      ((conv=>whnf);repeat(refine And.intro rfl ?_;(conv=>whnf)))
      (refine ifK_split (fun h3 => ?_) (fun h3 => ?_) <;> (rw [h3]; ((conv=>whnf);repeat(refine And.intro rfl ?_;(conv=>whnf)))))
      · have h3 : e.2 = b := by ((try simp only [oo, reduceCtorEq] at *) <;> omega)
        refine ⟨(by unfold sliceAppend; simp only [ll]; omega), ?_⟩
        ((conv=>whnf);repeat(refine And.intro rfl ?_;(conv=>whnf)))
        (refine .inl ⟨by (unfold InR; rw [IntKind.wrap_i64]; omega), ?_⟩; ((conv=>whnf);repeat(refine And.intro rfl ?_;(conv=>whnf))))
        rw [hhit h3] at eA
        refine ⟨(k + 1, c + 1, l ++ [e.1]), ⟨by omega, by simp [hc], by omega, by rw [eA, hl]⟩, by dsimp only; omega, ?_⟩
        (refine leB_close 2 (by simp) rfl ?_ ?_ <;> (repeat' (first | exact trivial | exact rfl | exact DeepM.refl _ | exact DeepML.refl _ | exact DeepMLL.refl _ | refine And.intro ?_ ?_ | (simp [Under, UnderL, UnderLL, -List.map_take, -List.map_drop]; done))))
        exact deepMLL_eq (i64s_snoc hc)
      · have h3 : e.2 ≠ b := by ((try simp only [oo, reduceCtorEq] at *) <;> omega)
        (refine .inl ⟨by (unfold InR; rw [IntKind.wrap_i64]; omega), ?_⟩; ((conv=>whnf);repeat(refine And.intro rfl ?_;(conv=>whnf))))
        refine ⟨j + 1, ⟨by omega, hno' h3⟩, by dsimp only; omega, ?_⟩
        (refine leB_close 2 (by simp) rfl ?_ ?_ <;> (repeat' (first | exact trivial | exact rfl | exact DeepM.refl _ | exact DeepML.refl _ | exact DeepMLL.refl _ | refine And.intro ?_ ?_ | (simp [Under, UnderL, UnderLL, -List.map_take, -List.map_drop]; done))))
    · exfalso
      have hj' : j = es.length := by have : ¬ j < es.length := by ((try simp only [oo, reduceCtorEq] at *) <;> omega)
                                     omega
      obtain ⟨x, hx, hxb⟩ := List.mem_map.1 hmem
      obtain ⟨q, hq, rfl⟩ := List.mem_iff_getElem.1 hx
      refine hno q (by omega) ?_
      rw [List.getD_eq_getElem?_getD, List.getElem?_eq_getElem hq]
      exact hxb
  · have hk' : k = way.length - 1 := by have : ¬ k + 1 < way.length := by ((try simp only [oo, reduceCtorEq] at *) <;> omega)
                                        omega
    subst hk'
    unfold alongL
    rw [← hl]
    exact .own _ _ _ _ _ _ _ _ rfl (by rw [List.drop_zero, List.take_of_length_le (by simp; omega)]; exact deepLL_refl _)
def c24 : PC := .seq (.ops [⟨(some 2), .box (.tmp 0), none, 0⟩,
    ⟨(some 4), .move (.const (.int .i64 0)), none, 0⟩,
    ⟨(some 5), .move (.const (.slice none 0 0)), none, 0⟩] false) (.seq (.ops [⟨(some 11), .move (.tmp 1), none, 0⟩,
    ⟨(some 12), .call 63 [(.tmp 11), (.const (.bool true))], none, 0⟩,
    ⟨(some 6), .move (.tmp 12), none, 0⟩] false) (.seq (.seq (.ops [⟨(some 13), .move (.tmp 6), none, 0⟩,
    ⟨(some 14), .bin .lss (.tmp 13) (.const (.int .i64 0)), none, 0⟩] false) (.cond (.tmp 14) (.seq (.ops [⟨(some 4), .move (.const (.int .i64 (-1))), none, 0⟩,
    ⟨(some 5), .move (.const (.slice none 0 0)), none, 0⟩] false) (.ret)) (.skip))) (.seq (.ops [⟨(some 15), .move (.tmp 1), none, 0⟩,
    ⟨(some 16), .len (.tmp 15), none, 0⟩,
    ⟨(some 17), .mslice 1 1 [(.bool false)] (.tmp 16) (.tmp 16), none, 0⟩,
    ⟨(some 7), .move (.tmp 17), none, 0⟩] false) (.seq (.ops [⟨(some 18), .move (.tmp 7), none, 0⟩,
    ⟨(some 19), .move (.tmp 6), none, 0⟩,
    ⟨(some 20), .iaddr 1 (.tmp 18) (.tmp 19), none, 0⟩,
    ⟨none, .store 1 (.tmp 20) (.const (.bool true)), none, 0⟩] false) (.seq (.ops [⟨(some 22), .loadA 2 (.tmp 2), none, 0⟩,
    ⟨(some 23), .call 21 [(.tmp 22)], none, 0⟩,
    ⟨(some 24), .bslice 1 1 [(.const (.int .i64 0))], none, 0⟩,
    ⟨(some 25), .move (.tmp 7), none, 0⟩,
    ⟨(some 26), .call 64 [(.tmp 23), (.tmp 24), (.tmp 25)], none, 0⟩,
    ⟨(some 21), .move (.tmp 26), none, 0⟩,
    ⟨(some 27), .ext 0 (.tmp 21), none, 0⟩,
    ⟨(some 28), .ext 1 (.tmp 21), none, 0⟩,
    ⟨(some 29), .ext 2 (.tmp 21), none, 0⟩,
    ⟨(some 8), .move (.tmp 27), none, 0⟩,
    ⟨(some 9), .move (.tmp 28), none, 0⟩,
    ⟨(some 10), .move (.tmp 29), none, 0⟩] false) (.seq (.ops [⟨(some 30), .move (.tmp 6), none, 0⟩,
    ⟨(some 31), .loadA 2 (.tmp 2), none, 0⟩,
    ⟨(some 32), .move (.tmp 8), none, 0⟩,
    ⟨(some 33), .call 65 [(.tmp 31), (.tmp 32)], none, 0⟩,
    ⟨(some 4), .move (.tmp 30), none, 0⟩,
    ⟨(some 5), .move (.tmp 33), none, 0⟩] false) (.ret)))))))
set_option maxRecDepth 100000 in
theorem c24_ok : FunOK Try.prog 24 34 [.tmp 4, .tmp 5] c24 := ⟨⟨Try.f24, Try.func24, rfl, by kernel_rfl, rfl, by kernel_rfl⟩⟩
theorem idx_frst {n : Nat} {p : Nat → Bool} : idxF (fun a => true == a) ((List.range n).map p) = frst p n n := by
  rcases frst_spec (p := p) (n := n) n (Nat.le_refl _) with ⟨h1, h2⟩ | ⟨k, h1, h2, h3, h4, h5⟩
  · rw [h1]
    exact idxF_none fun j hj => by
      have := h2 j (by omega) (by simpa using hj)
      simp [this]
  · rw [h1]
    exact idxF_hit (by simpa using h3) (by simp [h4]) fun j hj => by
      have := h5 j (by omega) hj
      simp [this]
/-- The way to a node, by steps. -/
noncomputable def leadL (N : List (List EdgeD)) (to : Int) : List Int := if to < 0 then [] else alongL N (wayL (gN N) [0] fun i => decide ((i : Int) = to))
theorem pot_le {g : List (List Int)} {c : Nat} (h : ∀ i, (g.getD i []).length ≤ c) : potG g (fun _ => false) ≤ g.length * c := by
  have := sumTo_const (f := fun v => if false = true then 0 else (g.getD v []).length) (c := c) g.length fun j _ => by
    simp only [Bool.false_eq_true, if_false]
    exact h j
  exact this
theorem rbl_one {n : Nat} {to : Int} {z : Nat} (hz : (z : Int) = to) : (rbl n fun _ => false).set (0 + to.toNat) [.sc (.bool true)] = rbl n fun i => decide ((i : Int) = to) := by
  rw [show 0 + to.toNat = z by omega, rbl_set]
  refine rbl_congr fun i _ => ?_
  by_cases e : i = z
  · subst e; simp [hz]
  · rw [if_neg e]
    exact (decide_eq_false (by omega)).symm
set_option maxRecDepth 100000 in
theorem so_first (M : List (List Int)) (N : List (List EdgeD)) (s : Nat) (hS : SpN M N s) (is_ : Nat → Bool) : PCall Try.prog 24 [dspace M N, dbl M.length is_] (.tup [.sc (.int .i64 (frst is_ M.length M.length)), dints (leadL N (frst is_ M.length M.length))]) := by
  have hf := hS.few
  have hp := hS.pos
  have hl := hS.len
  obtain ⟨g1, g2⟩ := hS.graph
  have hI := index_bool ((List.range M.length).map is_) (by simp; omega) true
  rw [← rbl_map, idx_frst] at hI
  have hG := so_graph M N (by omega) (fun i => by have := hS.rowAt i; omega)
  have hfr : frst is_ M.length M.length = -1 ∨ ∃ k : Nat, frst is_ M.length M.length = (k : Int) ∧ k < M.length := by
    rcases frst_spec (p := is_) (n := M.length) M.length (Nat.le_refl _) with ⟨h1, _⟩ | ⟨k, h1, _, h3, _⟩
    · exact .inl h1
    · exact .inr ⟨k, h1, h3⟩
  generalize frst is_ M.length M.length = f at hI hfr
  refine pcall_intro c24_ok (by simp) (by simp [PureL, pure_dspace, pure_dbl]) ?_ (by simp [Pure, PureL, pure_dints])
  (apply rd_sound; focus (repeat' constructor))
  ((conv=>whnf);repeat(refine And.intro rfl ?_;(conv=>whnf)))
  (refine .inl ⟨_, hI, ?_⟩; ((conv=>whnf);repeat(refine And.intro rfl ?_;(conv=>whnf))))
  (refine ifK_split (fun h1 => ?_) (fun h1 => ?_) <;> (rw [h1]; ((conv=>whnf);repeat(refine And.intro rfl ?_;(conv=>whnf)))))
  · have h1 : f < 0 := by ((try simp only [oo, reduceCtorEq] at *) <;> omega)
    have : f = -1 := by omega
    subst this
    exact .tup _ _ (.cons _ _ _ _ (.refl _) (.cons _ _ _ _ (by unfold leadL; rw [if_pos (by omega)]; exact .none _) .nil))
  have h1 : ¬ f < 0 := by ((try simp only [oo, reduceCtorEq] at *) <;> omega)
  obtain ⟨k, hk, hkl⟩ := hfr.resolve_left (by omega)
  rw [rbl_len]
  refine ⟨by omega, by omega, by omega, ?_⟩
  rw [Int.toNat_natCast, show List.map D.sc [Value.bool false] = [D.sc (.bool false)] from rfl, rbl_rep]
  ((conv=>whnf);repeat(refine And.intro rfl ?_;(conv=>whnf)))
  (refine ⟨by omega, (by first | omega | (simp; done) | (simp; omega) | (simp only [ll]; omega)), ?_⟩; ((conv=>whnf);repeat(refine And.intro rfl ?_;(conv=>whnf))))
  refine ⟨_, rbl_atN k (by omega) hkl, ?_⟩
  ((conv=>whnf);repeat(refine And.intro rfl ?_;(conv=>whnf)))
  rw [rbl_one hk.symm]
  (refine .inl ⟨_, hG, ?_⟩; ((conv=>whnf);repeat(refine And.intro rfl ?_;(conv=>whnf))))
  have hto : ∀ i, (gN N).length ≤ i → (fun i : Nat => decide ((i : Int) = f)) i = false := fun i hi => decide_eq_false (by rw [gN_len] at hi; omega)
  have h0 : inB [0] (gN N).length = true := inB_of fun x hx => by rw [List.mem_singleton] at hx; subst hx; rw [gN_len]; omega
  have hW := scc_Way (gN N) g1 g2 [0] h0 (by simp) _ hto
  have hin := (chkG_zero.1 g1).2
  obtain ⟨w1, w2, w3⟩ := way_ok hin h0 (to := fun i : Nat => decide ((i : Int) = f))
  have eL : leadL N f = alongL N (wayL (gN N) [0] fun i => decide ((i : Int) = f)) := by unfold leadL; rw [if_neg h1]
  rw [eL]
  rw [show (gN N).length = M.length by rw [gN_len, hl]] at hW w2 w3
  generalize (wayL (gN N) [0] fun i => decide ((i : Int) = f)) = way at hW w1 w2 w3
  refine .inr (.inr (.inr (.inr (.inr ⟨rfl, _, _, .cons _ _ _ _ (.refl _) (.cons _ _ _ _ (.own _ _ _ _ _ _ _ _ rfl (deepLL_refl _)) (.cons _ _ _ _ (deep_vec rfl) .nil)), hW, ?_⟩))))
  ((conv=>whnf);repeat(refine And.intro rfl ?_;(conv=>whnf)))
  (refine .inl ⟨_, (so_along M N way (by omega) (fun i => by have := hS.rowAt i; omega) (fun k hk => by have := w2 _ (mem_getD hk); omega) w1), ?_⟩; ((conv=>whnf);repeat(refine And.intro rfl ?_;(conv=>whnf))))
  exact .refl _
end Go.Proofs.Ytjnfahdolkgnoaa
