/-
  The parts of a graph: the reference's Parts, over deep values. No statement is proved here.
-/
import Derived.Test.YtfgklgjbnpjpoaaQTj6
import Derived.Test.YtfgklgjbnpjpoaaQCm
import Derived.Test.YtfgklgjbnpjpoaaQFz
namespace Go.Proofs.Ytfgklgjbnpjpoaa
open Go.RowKit
set_option linter.unusedSimpArgs false
set_option linter.unusedVariables false
/-- Truths by two places, as far as they are told. -/
def bgl (n k : Nat) (f : Nat → Nat → Bool) : List (List D) := (List.range n).map fun a => if a < k then [dbl n (f a)] else [.sc (.slice none 0 0)]
@[simp] theorem bgl_len (n k : Nat) (f : Nat → Nat → Bool) : (bgl n k f).length = n := by simp [bgl]
theorem bgl_nil (n : Nat) (f : Nat → Nat → Bool) : List.replicate n [D.sc (.slice none 0 0)] = bgl n 0 f := by
  refine List.ext_getElem? fun i => ?_
  by_cases h : i < n
  · rw [List.getElem?_eq_getElem (by simpa using h), List.getElem?_eq_getElem (by simpa using h)]
    simp [bgl]
  · rw [List.getElem?_eq_none (by simp; omega), List.getElem?_eq_none (by simp; omega)]
theorem bgl_get {n k a : Nat} {f : Nat → Nat → Bool} (h : a < n) : (bgl n k f)[a]? = some (if a < k then [dbl n (f a)] else [.sc (.slice none 0 0)]) := by
  rw [List.getElem?_eq_getElem (by simpa using h)]; simp [bgl]
theorem bgl_at {n k a z : Nat} {f : Nat → Nat → Bool} (hz : z = a) (h : a < k) (hk : k ≤ n) : (bgl n k f)[z]? = some [dbl n (f a)] := by
  subst hz; rw [bgl_get (by omega), if_pos h]
theorem bgl_here {n k z : Nat} {f : Nat → Nat → Bool} (hz : z = k) (h : k < n) : (bgl n k f)[z]? = some [.sc (.slice none 0 0)] := by
  subst hz; rw [bgl_get h, if_neg (by omega)]
theorem bgl_set {n k z : Nat} {f : Nat → Nat → Bool} (hz : z = k) (h : k < n) : (bgl n k f).set z [dbl n (f k)] = bgl n (k + 1) f := by
  subst hz
  refine List.ext_getElem? fun i => ?_
  rw [List.getElem?_set]
  by_cases e : z = i
  · subst e
    rw [if_pos rfl, if_pos (by simpa using h), bgl_get h, if_pos (by omega)]
  · rw [if_neg e]
    by_cases hi : i < n
    · rw [bgl_get hi, bgl_get hi]
      by_cases q : i < z
      · rw [if_pos q, if_pos (by omega)]
      · rw [if_neg q, if_neg (by omega)]
    · rw [List.getElem?_eq_none (by simp; omega), List.getElem?_eq_none (by simp; omega)]
theorem pure_bgl (n k : Nat) (f : Nat → Nat → Bool) : PureLL (bgl n k f) := pureLL_map _ (fun a => by split <;> simp [PureL, Pure, pure_dbl]) _
@[simp] theorem underLL_bgl {m n k : Nat} {f : Nat → Nat → Bool} : UnderLL m (bgl n k f) ↔ True := ⟨fun _ => trivial, fun _ => underLL_pure _ (pure_bgl n k f)⟩
def oF (T : Nat → Int) (k : Nat) (o : Int) : Nat → Int := fun i => if i < k then T i else if i = k then o else 0
theorem oF_put {T : Nat → Int} {k : Nat} {o v : Int} : putA (oF T k o) k v = oF T k v := by
  funext i
  unfold putA oF
  by_cases e : i = k
  · subst e; rw [if_pos rfl, if_neg (by omega), if_pos rfl]
  · rw [if_neg e]
    by_cases q : i < k
    · rw [if_pos q, if_pos q]
    · rw [if_neg q, if_neg q, if_neg e, if_neg e]
theorem oF_new {T : Nat → Int} {k : Nat} {v : Int} : putA (fun i => if i < k then T i else 0) k v = oF T k v := by
  funext i
  unfold putA oF
  by_cases e : i = k
  · subst e; rw [if_pos rfl, if_neg (by omega), if_pos rfl]
  · rw [if_neg e]
    by_cases q : i < k
    · rw [if_pos q]; exact if_pos q
    · rw [if_neg q, if_neg e]; exact if_neg q
theorem oF_fin {T : Nat → Int} {k : Nat} : oF T k (T k) = fun i => if i < k + 1 then T i else 0 := by
  funext i
  unfold oF
  by_cases q : i < k
  · rw [if_pos q, if_pos (by omega)]
  · rw [if_neg q]
    by_cases e : i = k
    · subst e; rw [if_pos rfl, if_pos (by omega)]
    · rw [if_neg e, if_neg (by omega)]
theorem oF_at {T : Nat → Int} {k : Nat} {o : Int} : oF T k o k = o := by unfold oF; rw [if_neg (by omega), if_pos rfl]
theorem oF_lt {T : Nat → Int} {k b : Nat} {o : Int} (h : b < k) : oF T k o b = T b := if_pos h
def c23_1 : PC := .seq (.seq (.ops [⟨(some 12), .move (.tmp 4), none, 0⟩,
    ⟨(some 13), .move (.tmp 0), none, 0⟩,
    ⟨(some 14), .len (.tmp 13), none, 0⟩,
    ⟨(some 15), .bin .lss (.tmp 12) (.tmp 14), none, 0⟩] false) (.cond (.tmp 15) (.skip) (.exit 0))) (.seq (.block 1 (.ops [⟨(some 18), .move (.tmp 3), none, 0⟩,
    ⟨(some 19), .move (.tmp 4), none, 0⟩,
    ⟨(some 20), .move (.tmp 0), none, 0⟩,
    ⟨(some 21), .move (.tmp 4), none, 0⟩,
    ⟨(some 22), .bslice 1 1 [(.tmp 21)], none, 0⟩,
    ⟨(some 23), .call 26 [(.tmp 20), (.tmp 22)], none, 0⟩,
    ⟨(some 24), .iaddr 1 (.tmp 18) (.tmp 19), none, 0⟩,
    ⟨none, .store 1 (.tmp 24) (.tmp 23), none, 0⟩] false)) (.ops [⟨(some 16), .move (.tmp 4), none, 0⟩,
    ⟨(some 17), .bin .add (.tmp 16) (.const (.int .i64 1)), none, 0⟩,
    ⟨(some 4), .move (.tmp 17), none, 0⟩] false))
def c23_3 : PC := .seq (.seq (.ops [⟨(some 37), .move (.tmp 8), none, 0⟩,
    ⟨(some 38), .move (.tmp 7), none, 0⟩,
    ⟨(some 39), .bin .lss (.tmp 37) (.tmp 38), none, 0⟩,
    ⟨(some 40), .move (.tmp 39), none, 0⟩,
    ⟨(some 41), .move (.tmp 5), (some (40, true)), 0⟩,
    ⟨(some 42), .move (.tmp 7), (some (40, true)), 0⟩,
    ⟨(some 43), .iaddr 1 (.tmp 41) (.tmp 42), (some (40, true)), 0⟩,
    ⟨(some 44), .load1 (.tmp 43), (some (40, true)), 0⟩,
    ⟨(some 45), .bin .lss (.tmp 44) (.const (.int .i64 0)), (some (40, true)), 0⟩,
    ⟨(some 46), .pick (.tmp 40) (.tmp 45) (.const (.bool false)), none, 0⟩] false) (.cond (.tmp 46) (.skip) (.exit 4))) (.seq (.block 5 (.seq (.ops [⟨(some 49), .move (.tmp 3), none, 0⟩,
    ⟨(some 50), .move (.tmp 7), none, 0⟩,
    ⟨(some 51), .iaddr 1 (.tmp 49) (.tmp 50), none, 0⟩,
    ⟨(some 52), .load1 (.tmp 51), none, 0⟩,
    ⟨(some 53), .move (.tmp 8), none, 0⟩,
    ⟨(some 54), .iaddr 1 (.tmp 52) (.tmp 53), none, 0⟩,
    ⟨(some 55), .load1 (.tmp 54), none, 0⟩,
    ⟨(some 56), .move (.tmp 55), none, 0⟩,
    ⟨(some 57), .move (.tmp 3), (some (56, true)), 0⟩,
    ⟨(some 58), .move (.tmp 8), (some (56, true)), 0⟩,
    ⟨(some 59), .iaddr 1 (.tmp 57) (.tmp 58), (some (56, true)), 0⟩,
    ⟨(some 60), .load1 (.tmp 59), (some (56, true)), 0⟩,
    ⟨(some 61), .move (.tmp 7), (some (56, true)), 0⟩,
    ⟨(some 62), .iaddr 1 (.tmp 60) (.tmp 61), (some (56, true)), 0⟩,
    ⟨(some 63), .load1 (.tmp 62), (some (56, true)), 0⟩,
    ⟨(some 64), .pick (.tmp 56) (.tmp 63) (.const (.bool false)), none, 0⟩] false) (.cond (.tmp 64) (.ops [⟨(some 65), .move (.tmp 5), none, 0⟩,
    ⟨(some 66), .move (.tmp 7), none, 0⟩,
    ⟨(some 67), .move (.tmp 5), none, 0⟩,
    ⟨(some 68), .move (.tmp 8), none, 0⟩,
    ⟨(some 69), .iaddr 1 (.tmp 67) (.tmp 68), none, 0⟩,
    ⟨(some 70), .load1 (.tmp 69), none, 0⟩,
    ⟨(some 71), .iaddr 1 (.tmp 65) (.tmp 66), none, 0⟩,
    ⟨none, .store 1 (.tmp 71) (.tmp 70), none, 0⟩] false) (.skip)))) (.ops [⟨(some 47), .move (.tmp 8), none, 0⟩,
    ⟨(some 48), .bin .add (.tmp 47) (.const (.int .i64 1)), none, 0⟩,
    ⟨(some 8), .move (.tmp 48), none, 0⟩] false))
def c23_2 : PC := .seq (.seq (.ops [⟨(some 28), .move (.tmp 7), none, 0⟩,
    ⟨(some 29), .move (.tmp 0), none, 0⟩,
    ⟨(some 30), .len (.tmp 29), none, 0⟩,
    ⟨(some 31), .bin .lss (.tmp 28) (.tmp 30), none, 0⟩] false) (.cond (.tmp 31) (.skip) (.exit 2))) (.seq (.block 3 (.seq (.ops [⟨(some 34), .move (.tmp 5), none, 0⟩,
    ⟨(some 35), .move (.tmp 7), none, 0⟩,
    ⟨(some 36), .iaddr 1 (.tmp 34) (.tmp 35), none, 0⟩,
    ⟨none, .store 1 (.tmp 36) (.const (.int .i64 (-1))), none, 0⟩] false) (.seq (.seq (.ops [⟨(some 8), .move (.const (.int .i64 0)), none, 0⟩] false) (.block 4 (.loop c23_3))) (.seq (.ops [⟨(some 72), .move (.tmp 5), none, 0⟩,
    ⟨(some 73), .move (.tmp 7), none, 0⟩,
    ⟨(some 74), .iaddr 1 (.tmp 72) (.tmp 73), none, 0⟩,
    ⟨(some 75), .load1 (.tmp 74), none, 0⟩,
    ⟨(some 76), .bin .lss (.tmp 75) (.const (.int .i64 0)), none, 0⟩] false) (.cond (.tmp 76) (.seq (.ops [⟨(some 77), .move (.tmp 5), none, 0⟩,
    ⟨(some 78), .move (.tmp 7), none, 0⟩,
    ⟨(some 79), .move (.tmp 6), none, 0⟩,
    ⟨(some 80), .iaddr 1 (.tmp 77) (.tmp 78), none, 0⟩,
    ⟨none, .store 1 (.tmp 80) (.tmp 79), none, 0⟩] false) (.ops [⟨(some 81), .move (.tmp 6), none, 0⟩,
    ⟨(some 82), .bin .add (.tmp 81) (.const (.int .i64 1)), none, 0⟩,
    ⟨(some 6), .move (.tmp 82), none, 0⟩] false)) (.skip)))))) (.ops [⟨(some 32), .move (.tmp 7), none, 0⟩,
    ⟨(some 33), .bin .add (.tmp 32) (.const (.int .i64 1)), none, 0⟩,
    ⟨(some 7), .move (.tmp 33), none, 0⟩] false))
def c23 : PC := .seq (.ops [⟨(some 2), .move (.const (.slice none 0 0)), none, 0⟩] false) (.seq (.ops [⟨(some 9), .move (.tmp 0), none, 0⟩,
    ⟨(some 10), .len (.tmp 9), none, 0⟩,
    ⟨(some 11), .mslice 1 24 [(.slice none 0 0)] (.tmp 10) (.tmp 10), none, 0⟩,
    ⟨(some 3), .move (.tmp 11), none, 0⟩] false) (.seq (.seq (.ops [⟨(some 4), .move (.const (.int .i64 0)), none, 0⟩] false) (.block 0 (.loop c23_1))) (.seq (.ops [⟨(some 25), .move (.tmp 0), none, 0⟩,
    ⟨(some 26), .len (.tmp 25), none, 0⟩,
    ⟨(some 27), .mslice 1 8 [(.int .i64 0)] (.tmp 26) (.tmp 26), none, 0⟩,
    ⟨(some 5), .move (.tmp 27), none, 0⟩] false) (.seq (.ops [⟨(some 6), .move (.const (.int .i64 0)), none, 0⟩] false) (.seq (.seq (.ops [⟨(some 7), .move (.const (.int .i64 0)), none, 0⟩] false) (.block 2 (.loop c23_2))) (.seq (.ops [⟨(some 83), .move (.tmp 5), none, 0⟩,
    ⟨(some 2), .move (.tmp 83), none, 0⟩] false) (.ret)))))))
set_option maxRecDepth 100000 in
theorem c23_ok : FunOK Try.prog 23 84 [.tmp 2] c23 := ⟨⟨Try.f23, Try.func23, rfl, by kernel_rfl, rfl, by kernel_rfl⟩⟩
set_option maxRecDepth 100000 in
theorem ref_Parts (g : List (List Int)) (hg : chkG g = 0) (hF : FitsG g) : PCall Try.prog 23 [dgrid g] (dints (partsL g)) := by
  obtain ⟨hn, hin0⟩ := chkG_zero.1 hg
  have hC := fun a (ha : a < g.length) => ref_Comes g hg hF [(a : Int)] (inB_of fun x hx => by rw [List.mem_singleton] at hx; omega) (by simp)
  refine pcall_intro c23_ok (by simp) (by simp [PureL, pure_dgrid]) ?_ (pure_dints _)
  have hq := eqv_mut g g.length
  unfold dgrid at *
  (apply rd_sound; focus (repeat' constructor))
  ((conv=>whnf);repeat(refine And.intro rfl ?_;(conv=>whnf)))
  rw [List.length_map]
  refine ⟨by omega, by omega, by omega, ?_⟩
  rw [Int.toNat_natCast, show List.map D.sc [Value.slice none 0 0] = [D.sc (.slice none 0 0)] from rfl, bgl_nil _ (fun a => rchB g [(a : Int)])]
  ((conv=>whnf);repeat(refine And.intro rfl ?_;(conv=>whnf)))
  refine pwp_for [0, 3] (fun k : Nat => [(4, .sc (.int .i64 k))]) (fun k => [(0, .vec true 0 1 (bgl g.length k fun a => rchB g [(a : Int)]))]) (fun k => k ≤ g.length) (fun k => g.length - k) 0 ?_
  ((conv=>whnf);repeat(refine And.intro rfl ?_;(conv=>whnf)))
  refine ⟨by omega, by (repeat' (first | exact trivial | refine And.intro rfl ?_)), rfl, ?_⟩
  rintro k hk
  ((conv=>whnf);repeat(refine And.intro rfl ?_;(conv=>whnf)))
  (apply rd_sound; focus (repeat' constructor))
  ((conv=>whnf);repeat(refine And.intro rfl ?_;(conv=>whnf)))
  rw [List.length_map]
  (refine ifK_split (fun q0 => ?_) (fun q0 => ?_) <;> (rw [q0]; ((conv=>whnf);repeat(refine And.intro rfl ?_;(conv=>whnf)))))
  · have q0 : k < g.length := by ((try simp only [oo, reduceCtorEq] at *) <;> omega)
    (refine .inr (.inr (.inr (.inr (.inl ⟨_, _, _, (acallAt_frz1 (pre := [.lst 1 (g.map fun l => [dints l])]) (post := []) (xs := [[.sc (.int .i64 k)]]) (hC k q0) (pure_dbl _ _) ⟨pure_dgrid g, trivial⟩ trivial (by simp [PureLL, PureL, Pure]) rfl), ?_⟩)))); ((conv=>whnf);repeat(refine And.intro rfl ?_;(conv=>whnf))))
    (refine ⟨by omega, (by first | omega | (simp; done) | (simp; omega) | (simp only [ll]; omega)), ?_⟩; ((conv=>whnf);repeat(refine And.intro rfl ?_;(conv=>whnf))))
    refine ⟨_, bgl_here (by omega) q0, ?_⟩
    ((conv=>whnf);repeat(refine And.intro rfl ?_;(conv=>whnf)))
    (refine .inl ⟨by (unfold InR; rw [IntKind.wrap_i64]; omega), ?_⟩; ((conv=>whnf);repeat(refine And.intro rfl ?_;(conv=>whnf))))
    refine ⟨k + 1, by omega, by dsimp only; omega, ?_⟩
    dsimp only
    (refine leB_close 1 (by simp) rfl ?_ ?_ <;> (repeat' (first | exact trivial | exact rfl | exact DeepM.refl _ | exact DeepML.refl _ | exact DeepMLL.refl _ | refine And.intro ?_ ?_ | (simp [Under, UnderL, UnderLL, -List.map_take, -List.map_drop]; done))))
    exact deepMLL_eq (bgl_set (f := fun a => rchB g [(a : Int)]) (by omega) q0)
  have q0 : k = g.length := by have : ¬ k < g.length := by ((try simp only [oo, reduceCtorEq] at *) <;> omega)
                               omega
  subst q0
  rw [List.length_map]
  refine ⟨by omega, by omega, by omega, ?_⟩
  rw [Int.toNat_natCast, show List.map D.sc [Value.int .i64 0] = [D.sc (.int .i64 0)] from rfl, gl_rep]
  ((conv=>whnf);repeat(refine And.intro rfl ?_;(conv=>whnf)))
  refine pwp_for [0, 3, 5] (fun k : Nat => [(6, .sc (.int .i64 ((pcnt (mutB g) k : Nat) : Int))), (7, .sc (.int .i64 k))]) (fun k => [(1, .vec true 0 1 (i64s (gl g.length fun i => if i < k then partsG g i else 0)))]) (fun k => k ≤ g.length) (fun k => g.length - k) 0 ?_
  ((conv=>whnf);repeat(refine And.intro rfl ?_;(conv=>whnf)))
  refine ⟨by omega, by (repeat' (first | exact trivial | refine And.intro rfl ?_)), by simp; rfl, ?_⟩
  rintro k hk
  have hpc := pcnt_le (mutB g) k
  ((conv=>whnf);repeat(refine And.intro rfl ?_;(conv=>whnf)))
  (apply rd_sound; focus (repeat' constructor))
  ((conv=>whnf);repeat(refine And.intro rfl ?_;(conv=>whnf)))
  rw [List.length_map]
  (refine ifK_split (fun q0 => ?_) (fun q0 => ?_) <;> (rw [q0]; ((conv=>whnf);repeat(refine And.intro rfl ?_;(conv=>whnf)))))
  · have q0 : k < g.length := by ((try simp only [oo, reduceCtorEq] at *) <;> omega)
    (refine ⟨by omega, (by first | omega | (simp; done) | (simp; omega) | (simp only [ll]; omega)), ?_⟩; ((conv=>whnf);repeat(refine And.intro rfl ?_;(conv=>whnf))))
    refine ⟨_, gl_atN k (by omega) q0, ?_⟩
    ((conv=>whnf);repeat(refine And.intro rfl ?_;(conv=>whnf)))
    rw [gl_set (k := k) (by omega), oF_new]
    refine pwp_for [0, 3, 5, 6, 7] (fun ((b, o) : Nat × Int) => [(8, .sc (.int .i64 b))]) (fun (b, o) => [(1, .vec true 0 1 (i64s (gl g.length (oF (partsG g) k o))))])
      (fun (b, o) => b ≤ k ∧ ((o = -1 ∧ ∀ c, c < b → mutB g c k = false) ∨ (0 ≤ o ∧ o = partsG g k ∧ pcnt (mutB g) (k + 1) = pcnt (mutB g) k))) (fun (b, o) => k - b) (0, -1) ?_
    ((conv=>whnf);repeat(refine And.intro rfl ?_;(conv=>whnf)))
    refine ⟨⟨by omega, .inl ⟨rfl, fun c hc => by omega⟩⟩, by (repeat' (first | exact trivial | refine And.intro rfl ?_)), rfl, ?_⟩
    rintro ⟨b, o⟩ ⟨hb, ho⟩
    ((conv=>whnf);repeat(refine And.intro rfl ?_;(conv=>whnf)))
    (apply rd_sound; focus (repeat' constructor))
    ((conv=>whnf);repeat(refine And.intro rfl ?_;(conv=>whnf)))
    have fin1 : 0 ≤ o → o = partsG g k ∧ pcnt (mutB g) (k + 1) = pcnt (mutB g) k := fun q => by
      rcases ho with ⟨h1, h2⟩ | ⟨h1, h2⟩
      · omega
      · exact h2
    (refine ifK_split (fun q1 => ?_) (fun q1 => ?_) <;> (rw [q1]; ((conv=>whnf);repeat(refine And.intro rfl ?_;(conv=>whnf)))))
    · have q1 : b < k := by ((try simp only [oo, reduceCtorEq] at *) <;> omega)
      (refine ⟨by omega, (by first | omega | (simp; done) | (simp; omega) | (simp only [ll]; omega)), ?_⟩; ((conv=>whnf);repeat(refine And.intro rfl ?_;(conv=>whnf))))
      refine ⟨_, gl_atN k (by omega) q0, ?_⟩
      ((conv=>whnf);repeat(refine And.intro rfl ?_;(conv=>whnf)))
      rw [oF_at]
      (refine ifK_split (fun q2 => ?_) (fun q2 => ?_) <;> (rw [q2]; ((conv=>whnf);repeat(refine And.intro rfl ?_;(conv=>whnf)))))
      · have q2 : o < 0 := by ((try simp only [oo, reduceCtorEq] at *) <;> omega)
        have hno : o = -1 ∧ ∀ c, c < b → mutB g c k = false := by
          rcases ho with h | h
          · exact h
          · omega
        (refine ⟨by omega, (by first | omega | (simp; done) | (simp; omega) | (simp only [ll]; omega)), ?_⟩; ((conv=>whnf);repeat(refine And.intro rfl ?_;(conv=>whnf))))
        refine ⟨_, bgl_at (a := k) (by omega) q0 (Nat.le_refl _), ?_⟩
        ((conv=>whnf);repeat(refine And.intro rfl ?_;(conv=>whnf)))
        refine ⟨by omega, _, rbl_atN b (by omega) (by omega), ?_⟩
        ((conv=>whnf);repeat(refine And.intro rfl ?_;(conv=>whnf)))
        have em : mutB g b k = (rchB g [(k : Int)] b && rchB g [(b : Int)] k) := by unfold mutB; rw [Bool.and_comm]
        have skip : mutB g b k = false → ∀ c, c < b + 1 → mutB g c k = false := fun q c hc => by
          by_cases e : c = b
          · subst e; exact q
          · exact hno.2 c (by omega)
        cases r1 : rchB g [(k : Int)] b
        · rw [r1, Bool.false_and] at em
          ((conv=>whnf);repeat(refine And.intro rfl ?_;(conv=>whnf)))
          (refine .inl ⟨by (unfold InR; rw [IntKind.wrap_i64]; omega), ?_⟩; ((conv=>whnf);repeat(refine And.intro rfl ?_;(conv=>whnf))))
          exact ⟨(b + 1, o), ⟨by omega, .inl ⟨hno.1, skip em⟩⟩, by dsimp only; omega, leB_envH (by (repeat' (first | exact trivial | refine And.intro rfl ?_))) rfl⟩
        · rw [r1, Bool.true_and] at em
          ((conv=>whnf);repeat(refine And.intro rfl ?_;(conv=>whnf)))
          (refine ⟨by omega, (by first | omega | (simp; done) | (simp; omega) | (simp only [ll]; omega)), ?_⟩; ((conv=>whnf);repeat(refine And.intro rfl ?_;(conv=>whnf))))
          refine ⟨_, bgl_at (a := b) (by omega) (by omega) (Nat.le_refl _), ?_⟩
          ((conv=>whnf);repeat(refine And.intro rfl ?_;(conv=>whnf)))
          refine ⟨by omega, _, rbl_atN k (by omega) (by omega), ?_⟩
          ((conv=>whnf);repeat(refine And.intro rfl ?_;(conv=>whnf)))
          cases r2 : rchB g [(b : Int)] k
          · rw [r2] at em
            ((conv=>whnf);repeat(refine And.intro rfl ?_;(conv=>whnf)))
            (refine .inl ⟨by (unfold InR; rw [IntKind.wrap_i64]; omega), ?_⟩; ((conv=>whnf);repeat(refine And.intro rfl ?_;(conv=>whnf))))
            exact ⟨(b + 1, o), ⟨by omega, .inl ⟨hno.1, skip em⟩⟩, by dsimp only; omega, leB_envH (by (repeat' (first | exact trivial | refine And.intro rfl ?_))) rfl⟩
          · rw [r2] at em
            obtain ⟨n1, n2⟩ := pnum_old hq q0 q1 em
            have n3 : pcnt (mutB g) (k + 1) = pcnt (mutB g) k := by simp [pcnt, n2]
            have n4 : partsG g b = partsG g k := by unfold partsG gn; rw [n1]
            have n5 : (0 : Int) ≤ partsG g k := by unfold partsG gn; omega
            ((conv=>whnf);repeat(refine And.intro rfl ?_;(conv=>whnf)))
            (refine ⟨by omega, (by first | omega | (simp; done) | (simp; omega) | (simp only [ll]; omega)), ?_⟩; ((conv=>whnf);repeat(refine And.intro rfl ?_;(conv=>whnf))))
            refine ⟨_, gl_atN b (by omega) (by omega), ?_⟩
            ((conv=>whnf);repeat(refine And.intro rfl ?_;(conv=>whnf)))
            rw [oF_lt q1]
            (refine ⟨by omega, (by first | omega | (simp; done) | (simp; omega) | (simp only [ll]; omega)), ?_⟩; ((conv=>whnf);repeat(refine And.intro rfl ?_;(conv=>whnf))))
            refine ⟨_, gl_atN k (by omega) q0, ?_⟩
            ((conv=>whnf);repeat(refine And.intro rfl ?_;(conv=>whnf)))
            (refine .inl ⟨by (unfold InR; rw [IntKind.wrap_i64]; omega), ?_⟩; ((conv=>whnf);repeat(refine And.intro rfl ?_;(conv=>whnf))))
            refine ⟨(b + 1, partsG g k), ⟨by omega, .inr ⟨n5, rfl, n3⟩⟩, by dsimp only; omega, leB_envH (by (repeat' (first | exact trivial | refine And.intro rfl ?_))) ?_⟩
            rw [gl_set (k := k) (by omega), oF_put, n4]
            rfl
      · have q2 : 0 ≤ o := by have : ¬ o < 0 := by ((try simp only [oo, reduceCtorEq] at *) <;> omega)
                              omega
        have pno : o < 0 → ∀ c, c < k → mutB g c k = false := fun q => by omega
        (refine ⟨by omega, (by first | omega | (simp; done) | (simp; omega) | (simp only [ll]; omega)), ?_⟩; ((conv=>whnf);repeat(refine And.intro rfl ?_;(conv=>whnf))))
        refine ⟨_, gl_atN k (by omega) q0, ?_⟩
        ((conv=>whnf);repeat(refine And.intro rfl ?_;(conv=>whnf)))
        rw [oF_at]
        (refine ifK_split (fun q3 => ?_) (fun q3 => ?_) <;> (rw [q3]; ((conv=>whnf);repeat(refine And.intro rfl ?_;(conv=>whnf)))))
        · have q3 : o < 0 := by ((try simp only [oo, reduceCtorEq] at *) <;> omega)
          have hno : ∀ c, c < k → mutB g c k = false := pno q3
          obtain ⟨n1, n2⟩ := pnum_new hno
          have n3 : pcnt (mutB g) (k + 1) = pcnt (mutB g) k + 1 := by simp [pcnt, n2]
          have n4 : ((pcnt (mutB g) k : Nat) : Int) = partsG g k := by unfold partsG gn; rw [n1]
          (refine ⟨by omega, (by first | omega | (simp; done) | (simp; omega) | (simp only [ll]; omega)), ?_⟩; ((conv=>whnf);repeat(refine And.intro rfl ?_;(conv=>whnf))))
          refine ⟨_, gl_atN k (by omega) q0, ?_⟩
          ((conv=>whnf);repeat(refine And.intro rfl ?_;(conv=>whnf)))
          (refine .inl ⟨by (unfold InR; rw [IntKind.wrap_i64]; omega), ?_⟩; ((conv=>whnf);repeat(refine And.intro rfl ?_;(conv=>whnf))))
          (refine .inl ⟨by (unfold InR; rw [IntKind.wrap_i64]; omega), ?_⟩; ((conv=>whnf);repeat(refine And.intro rfl ?_;(conv=>whnf))))
          have e6 : D.sc (.int .i64 (((pcnt (mutB g) k : Nat) : Int) + 1)) = D.sc (.int .i64 ((pcnt (mutB g) (k + 1) : Nat) : Int)) := by rw [n3]; rfl
          refine ⟨k + 1, by omega, by dsimp only; omega, leB_envH ⟨e6, by (repeat' (first | exact trivial | refine And.intro rfl ?_))⟩ ?_⟩
          rw [gl_set (k := k) (by omega), oF_put, n4, oF_fin]
          rfl
        · have q3 : 0 ≤ o := by have : ¬ o < 0 := by ((try simp only [oo, reduceCtorEq] at *) <;> omega)
                                omega
          obtain ⟨f1, f2⟩ := fin1 q3
          (refine .inl ⟨by (unfold InR; rw [IntKind.wrap_i64]; omega), ?_⟩; ((conv=>whnf);repeat(refine And.intro rfl ?_;(conv=>whnf))))
          have e6 : D.sc (.int .i64 ((pcnt (mutB g) k : Nat) : Int)) = D.sc (.int .i64 ((pcnt (mutB g) (k + 1) : Nat) : Int)) := by rw [f2]
          refine ⟨k + 1, by omega, by dsimp only; omega, leB_envH ⟨e6, by (repeat' (first | exact trivial | refine And.intro rfl ?_))⟩ ?_⟩
          rw [f1, oF_fin]
          rfl
    · have q1 : b = k := by have : ¬ b < k := by ((try simp only [oo, reduceCtorEq] at *) <;> omega)
                            omega
      have pno : o < 0 → ∀ c, c < k → mutB g c k = false := fun q => by
        rcases ho with h | h
        · rw [q1] at h; exact h.2
        · omega
      clear q1
      (refine ⟨by omega, (by first | omega | (simp; done) | (simp; omega) | (simp only [ll]; omega)), ?_⟩; ((conv=>whnf);repeat(refine And.intro rfl ?_;(conv=>whnf))))
      refine ⟨_, gl_atN k (by omega) q0, ?_⟩
      ((conv=>whnf);repeat(refine And.intro rfl ?_;(conv=>whnf)))
      rw [oF_at]
      (refine ifK_split (fun q3 => ?_) (fun q3 => ?_) <;> (rw [q3]; ((conv=>whnf);repeat(refine And.intro rfl ?_;(conv=>whnf)))))
      · have q3 : o < 0 := by ((try simp only [oo, reduceCtorEq] at *) <;> omega)
        have hno : ∀ c, c < k → mutB g c k = false := pno q3
        obtain ⟨n1, n2⟩ := pnum_new hno
        have n3 : pcnt (mutB g) (k + 1) = pcnt (mutB g) k + 1 := by simp [pcnt, n2]
        have n4 : ((pcnt (mutB g) k : Nat) : Int) = partsG g k := by unfold partsG gn; rw [n1]
        (refine ⟨by omega, (by first | omega | (simp; done) | (simp; omega) | (simp only [ll]; omega)), ?_⟩; ((conv=>whnf);repeat(refine And.intro rfl ?_;(conv=>whnf))))
        refine ⟨_, gl_atN k (by omega) q0, ?_⟩
        ((conv=>whnf);repeat(refine And.intro rfl ?_;(conv=>whnf)))
        (refine .inl ⟨by (unfold InR; rw [IntKind.wrap_i64]; omega), ?_⟩; ((conv=>whnf);repeat(refine And.intro rfl ?_;(conv=>whnf))))
        (refine .inl ⟨by (unfold InR; rw [IntKind.wrap_i64]; omega), ?_⟩; ((conv=>whnf);repeat(refine And.intro rfl ?_;(conv=>whnf))))
        have e6 : D.sc (.int .i64 (((pcnt (mutB g) k : Nat) : Int) + 1)) = D.sc (.int .i64 ((pcnt (mutB g) (k + 1) : Nat) : Int)) := by rw [n3]; rfl
        refine ⟨k + 1, by omega, by dsimp only; omega, leB_envH ⟨e6, by (repeat' (first | exact trivial | refine And.intro rfl ?_))⟩ ?_⟩
        rw [gl_set (k := k) (by omega), oF_put, n4, oF_fin]
        rfl
      · have q3 : 0 ≤ o := by have : ¬ o < 0 := by ((try simp only [oo, reduceCtorEq] at *) <;> omega)
                              omega
        obtain ⟨f1, f2⟩ := fin1 q3
        (refine .inl ⟨by (unfold InR; rw [IntKind.wrap_i64]; omega), ?_⟩; ((conv=>whnf);repeat(refine And.intro rfl ?_;(conv=>whnf))))
        have e6 : D.sc (.int .i64 ((pcnt (mutB g) k : Nat) : Int)) = D.sc (.int .i64 ((pcnt (mutB g) (k + 1) : Nat) : Int)) := by rw [f2]
        refine ⟨k + 1, by omega, by dsimp only; omega, leB_envH ⟨e6, by (repeat' (first | exact trivial | refine And.intro rfl ?_))⟩ ?_⟩
        rw [f1, oF_fin]
        rfl
  have q0 : k = g.length := by have : ¬ k < g.length := by ((try simp only [oo, reduceCtorEq] at *) <;> omega)
                               omega
  subst q0
  rw [gl_congr (g' := partsG g) fun i hi => if_pos hi]
  exact deep_gl rfl
end Go.Proofs.Ytfgklgjbnpjpoaa
