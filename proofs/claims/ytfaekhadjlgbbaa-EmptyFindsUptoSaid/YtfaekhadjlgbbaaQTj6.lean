/-
  The parts of a graph: the program's Split, over deep values. No statement is proved here.
-/
import Derived.Test.YtfaekhadjlgbbaaQTj5
namespace Go.Proofs.Ytfaekhadjlgbbaa
open Go.RowKit
set_option linter.unusedSimpArgs false
set_option linter.unusedVariables false
noncomputable def partsG (g : List (List Int)) : Nat → Int := gn (pnum (mutB g))
noncomputable def partsL (g : List (List Int)) : List Int := gl g.length (partsG g)
/-- The names of the parts, after so many nodes: 0 where none has come. -/
def nameT (same : Nat → Nat → Bool) (part : Nat → Int) (name : Nat → Int) (k : Nat) : Prop := ∀ i : Nat, (∃ b, b < k ∧ part b = (i : Int) ∧ name i = (pnum same b : Int) + 1) ∨ ((∀ b, b < k → part b ≠ (i : Int)) ∧ name i = 0)
theorem nameT_new {same : Nat → Nat → Bool} {part : Nat → Int} {name : Nat → Int} {n k : Nat} (hk : k < n) (h : nameT same part name k) (hp : ∀ i, i < n → 0 ≤ part i) (hs : ∀ i j, i < n → j < n → (part i = part j ↔ same i j = true)) (h0 : name (part k).toNat = 0) :
    pnum same k = pcnt same k ∧ pcnt same (k + 1) = pcnt same k + 1 ∧ nameT same part (putA name (part k).toNat ((pcnt same k : Int) + 1)) (k + 1) := by
  have hk0 := hp k hk
  have hno : ∀ c, c < k → same c k = false := fun c hc => by
    rw [Bool.eq_false_iff]
    intro q
    have e := (hs c k (by omega) hk).2 q
    rcases h (part k).toNat with ⟨b, b1, b2, b3⟩ | ⟨b1, b2⟩
    · omega
    · exact b1 c hc (by omega)
  obtain ⟨e1, e2⟩ := pnum_new hno
  refine ⟨e1, by simp [pcnt, e2], fun i => ?_⟩
  unfold putA
  by_cases e : i = (part k).toNat
  · left
    refine ⟨k, by omega, by omega, by rw [if_pos e, e1]⟩
  · rw [if_neg e]
    rcases h i with ⟨b, b1, b2, b3⟩ | ⟨b1, b2⟩
    · exact .inl ⟨b, by omega, b2, b3⟩
    · refine .inr ⟨fun b hb q => ?_, b2⟩
      by_cases eb : b = k
      · subst eb; omega
      · exact b1 b (by omega) q
theorem nameT_old {same : Nat → Nat → Bool} {part : Nat → Int} {name : Nat → Int} {n k : Nat} (he : Eqv same n) (hk : k < n) (h : nameT same part name k) (hp : ∀ i, i < n → 0 ≤ part i) (hs : ∀ i j, i < n → j < n → (part i = part j ↔ same i j = true)) (h0 : name (part k).toNat ≠ 0) :
    name (part k).toNat = (pnum same k : Int) + 1 ∧ pcnt same (k + 1) = pcnt same k ∧ nameT same part name (k + 1) := by
  have hk0 := hp k hk
  rcases h (part k).toNat with ⟨b, b1, b2, b3⟩ | ⟨b1, b2⟩
  · obtain ⟨e1, e2⟩ := pnum_old he hk b1 ((hs b k (by omega) hk).1 (by omega))
    refine ⟨by rw [b3, e1], by simp [pcnt, e2], fun i => ?_⟩
    rcases h i with ⟨c, c1, c2, c3⟩ | ⟨c1, c2⟩
    · exact .inl ⟨c, by omega, c2, c3⟩
    · refine .inr ⟨fun c hc q => ?_, c2⟩
      by_cases ec : c = k
      · subst ec
        have : i = (part c).toNat := by omega
        subst this
        exact h0 c2
      · exact c1 c (by omega) q
  · exact absurd b2 h0
def c56_1 : PC := .seq (.ops [⟨some 24,.bin .lss (.tmp 23) (.tmp 22),none,0⟩] false) (.seq (.cond (.tmp 24) (.skip) (.exit 0)) (.seq (.block 1 (.seq (.ops [⟨some 25,.move (.tmp 23),none,0⟩,
 ⟨some 5,.move (.tmp 25),none,0⟩] false) (.ops [⟨some 26,.move (.tmp 4),none,0⟩,
 ⟨some 27,.nilchk (.tmp 26),none,0⟩,
 ⟨some 28,.faddr 3 (.tmp 27),none,0⟩,
 ⟨some 29,.load1 (.tmp 28),none,0⟩,
 ⟨some 30,.move (.tmp 5),none,0⟩,
 ⟨some 31,.iaddr 1 (.tmp 29) (.tmp 30),none,0⟩,
 ⟨none,.store 1 (.tmp 31) (.const (.int .i64 (-1))),none,0⟩] false))) (.ops [⟨some 32,.bin .add (.tmp 23) (.const (.int .i64 1)),none,0⟩,
 ⟨some 23,.move (.tmp 32),none,0⟩] false)))
def c56_2 : PC := .seq (.ops [⟨some 35,.bin .lss (.tmp 34) (.tmp 33),none,0⟩] false) (.seq (.cond (.tmp 35) (.skip) (.exit 2)) (.seq (.block 3 (.seq (.ops [⟨some 36,.move (.tmp 34),none,0⟩,
 ⟨some 6,.move (.tmp 36),none,0⟩] false) (.seq (.ops [⟨some 37,.move (.tmp 4),none,0⟩,
 ⟨some 38,.nilchk (.tmp 37),none,0⟩,
 ⟨some 39,.faddr 1 (.tmp 38),none,0⟩,
 ⟨some 40,.load1 (.tmp 39),none,0⟩,
 ⟨some 41,.move (.tmp 6),none,0⟩,
 ⟨some 42,.iaddr 1 (.tmp 40) (.tmp 41),none,0⟩,
 ⟨some 43,.load1 (.tmp 42),none,0⟩,
 ⟨some 44,.bin .eql (.tmp 43) (.const (.int .i64 0)),none,0⟩] false) (.cond (.tmp 44) (.ops [⟨some 45,.move (.tmp 4),none,0⟩,
 ⟨some 46,.move (.tmp 6),none,0⟩,
 ⟨some 47,.call 105 [(.tmp 45), (.tmp 46)],none,0⟩] false) (.skip))))) (.ops [⟨some 48,.bin .add (.tmp 34) (.const (.int .i64 1)),none,0⟩,
 ⟨some 34,.move (.tmp 48),none,0⟩] false)))
def c56_3 : PC := .seq (.ops [⟨some 58,.bin .lss (.tmp 57) (.tmp 56),none,0⟩] false) (.seq (.cond (.tmp 58) (.skip) (.exit 4)) (.seq (.block 5 (.seq (.ops [⟨some 59,.move (.tmp 57),none,0⟩,
 ⟨some 10,.move (.tmp 59),none,0⟩] false) (.seq (.seq (.ops [⟨some 60,.move (.tmp 7),none,0⟩,
 ⟨some 61,.move (.tmp 4),none,0⟩,
 ⟨some 62,.nilchk (.tmp 61),none,0⟩,
 ⟨some 63,.faddr 3 (.tmp 62),none,0⟩,
 ⟨some 64,.load1 (.tmp 63),none,0⟩,
 ⟨some 65,.move (.tmp 10),none,0⟩,
 ⟨some 66,.iaddr 1 (.tmp 64) (.tmp 65),none,0⟩,
 ⟨some 67,.load1 (.tmp 66),none,0⟩,
 ⟨some 68,.iaddr 1 (.tmp 60) (.tmp 67),none,0⟩,
 ⟨some 69,.load1 (.tmp 68),none,0⟩,
 ⟨some 70,.bin .eql (.tmp 69) (.const (.int .i64 0)),none,0⟩] false) (.cond (.tmp 70) (.seq (.ops [⟨some 71,.move (.tmp 8),none,0⟩,
 ⟨some 72,.bin .add (.tmp 71) (.const (.int .i64 1)),none,0⟩,
 ⟨some 8,.move (.tmp 72),none,0⟩] false) (.ops [⟨some 73,.move (.tmp 7),none,0⟩,
 ⟨some 74,.move (.tmp 4),none,0⟩,
 ⟨some 75,.nilchk (.tmp 74),none,0⟩,
 ⟨some 76,.faddr 3 (.tmp 75),none,0⟩,
 ⟨some 77,.load1 (.tmp 76),none,0⟩,
 ⟨some 78,.move (.tmp 10),none,0⟩,
 ⟨some 79,.iaddr 1 (.tmp 77) (.tmp 78),none,0⟩,
 ⟨some 80,.load1 (.tmp 79),none,0⟩,
 ⟨some 81,.move (.tmp 8),none,0⟩,
 ⟨some 82,.iaddr 1 (.tmp 73) (.tmp 80),none,0⟩,
 ⟨none,.store 1 (.tmp 82) (.tmp 81),none,0⟩] false)) (.skip))) (.ops [⟨some 83,.move (.tmp 9),none,0⟩,
 ⟨some 84,.move (.tmp 10),none,0⟩,
 ⟨some 85,.move (.tmp 7),none,0⟩,
 ⟨some 86,.move (.tmp 4),none,0⟩,
 ⟨some 87,.nilchk (.tmp 86),none,0⟩,
 ⟨some 88,.faddr 3 (.tmp 87),none,0⟩,
 ⟨some 89,.load1 (.tmp 88),none,0⟩,
 ⟨some 90,.move (.tmp 10),none,0⟩,
 ⟨some 91,.iaddr 1 (.tmp 89) (.tmp 90),none,0⟩,
 ⟨some 92,.load1 (.tmp 91),none,0⟩,
 ⟨some 93,.iaddr 1 (.tmp 85) (.tmp 92),none,0⟩,
 ⟨some 94,.load1 (.tmp 93),none,0⟩,
 ⟨some 95,.bin .sub (.tmp 94) (.const (.int .i64 1)),none,0⟩,
 ⟨some 96,.iaddr 1 (.tmp 83) (.tmp 84),none,0⟩,
 ⟨none,.store 1 (.tmp 96) (.tmp 95),none,0⟩] false)))) (.ops [⟨some 97,.bin .add (.tmp 57) (.const (.int .i64 1)),none,0⟩,
 ⟨some 57,.move (.tmp 97),none,0⟩] false)))
def c56 : PC := .seq (.ops [⟨some 2,.move (.const (.slice none 0 0)),none,0⟩] false) (.seq (.ops [⟨some 11,.move (.tmp 0),none,0⟩,
 ⟨some 12,.len (.tmp 11),none,0⟩,
 ⟨some 3,.move (.tmp 12),none,0⟩] false) (.seq (.ops [⟨some 13,.move (.tmp 0),none,0⟩,
 ⟨some 14,.move (.tmp 3),none,0⟩,
 ⟨some 15,.mslice 1 8 [(.int .i64 0)] (.tmp 14) (.tmp 14),none,2⟩,
 ⟨some 16,.move (.tmp 3),none,0⟩,
 ⟨some 17,.mslice 1 8 [(.int .i64 0)] (.tmp 16) (.tmp 16),none,8⟩,
 ⟨some 18,.move (.tmp 3),none,0⟩,
 ⟨some 19,.mslice 1 8 [(.int .i64 0)] (.tmp 18) (.tmp 18),none,32⟩,
 ⟨some 20,.build [(.slice none 0 0), (.slice none 0 0), (.slice none 0 0), (.slice none 0 0), (.slice none 0 0), (.int .i64 0), (.int .i64 0)] [(0, 1, (.tmp 13)), (1, 1, (.tmp 15)), (2, 1, (.tmp 17)), (3, 1, (.tmp 19))],none,127⟩,
 ⟨some 21,.box (.tmp 20),none,255⟩,
 ⟨some 4,.move (.tmp 21),none,511⟩] true) (.seq (.seq (.ops [⟨some 22,.move (.tmp 3),none,0⟩,
 ⟨some 23,.move (.const (.int .i64 0)),none,0⟩] false) (.block 0 (.loop c56_1))) (.seq (.seq (.ops [⟨some 33,.move (.tmp 3),none,0⟩,
 ⟨some 34,.move (.const (.int .i64 0)),none,0⟩] false) (.block 2 (.loop c56_2))) (.seq (.ops [⟨some 49,.move (.tmp 4),none,0⟩,
 ⟨some 50,.nilchk (.tmp 49),none,0⟩,
 ⟨some 51,.faddr 6 (.tmp 50),none,0⟩,
 ⟨some 52,.load1 (.tmp 51),none,0⟩,
 ⟨some 53,.mslice 1 8 [(.int .i64 0)] (.tmp 52) (.tmp 52),none,0⟩,
 ⟨some 7,.move (.tmp 53),none,0⟩] false) (.seq (.ops [⟨some 8,.move (.const (.int .i64 0)),none,0⟩] false) (.seq (.ops [⟨some 54,.move (.tmp 3),none,0⟩,
 ⟨some 55,.mslice 1 8 [(.int .i64 0)] (.tmp 54) (.tmp 54),none,0⟩,
 ⟨some 9,.move (.tmp 55),none,0⟩] false) (.seq (.seq (.ops [⟨some 56,.move (.tmp 3),none,0⟩,
 ⟨some 57,.move (.const (.int .i64 0)),none,0⟩] false) (.block 4 (.loop c56_3))) (.seq (.ops [⟨some 98,.move (.tmp 9),none,0⟩,
 ⟨some 2,.move (.tmp 98),none,0⟩] false) (.ret))))))))))
set_option maxRecDepth 100000 in
theorem c56_ok : FunOK Try.prog 56 99 [.tmp 2] c56 := ⟨⟨Try.f56, Try.func56, rfl, by kernel_rfl, rfl, by kernel_rfl⟩⟩
set_option maxRecDepth 100000 in
theorem scc_Split (g : List (List Int)) (hn : g.length ≤ 1000000000) (hin0 : ∀ l ∈ g, inB l g.length = true) (hF : FitsG g) : PCall Try.prog 56 [dgrid g] (dints (partsL g)) := by
  have hrow := fun k => inB_row hin0 k
  have hin : ∀ v x, x ∈ g.getD v [] → x.toNat < g.length := fun v x hx => by have := inB_mem (hrow v) hx; omega
  refine pcall_intro c56_ok (by simp) (by simp [PureL, pure_dgrid]) ?_ (pure_dints _)
  have hV := fun k (hk : k < g.length) h0 => tj_visit g hn hin0 hF (splitT g k) (splitT_ok hin k (by omega)).1 (splitT_ok hin k (by omega)).2.1 k hk h0
  have hSp := fun k hk => splitT_ok hin k hk
  have e00 : ∀ k, List.replicate k (List.map D.sc [Value.int .i64 0]) = i64s (gl k fun _ => 0) := gl_rep
  unfold dgrid
  (apply rd_sound; focus (repeat' constructor))
  ((conv=>whnf);repeat(refine .intro rfl ?_;conv=>whnf))
  rw [List.length_map]
  refine ⟨by omega, by omega, by omega, ?_⟩
  rw [Int.toNat_natCast]
  ((conv=>whnf);repeat(refine .intro rfl ?_;conv=>whnf))
  refine ⟨by omega, by omega, by omega, ?_⟩
  rw [Int.toNat_natCast]
  ((conv=>whnf);repeat(refine .intro rfl ?_;conv=>whnf))
  refine ⟨by omega, by omega, by omega, ?_⟩
  rw [Int.toNat_natCast]
  ((conv=>whnf);repeat(refine .intro rfl ?_;conv=>whnf))
  refine pwp_for [3, 4, 22] (fun k : Nat => [(23, .sc (.int .i64 k))]) (fun k => [(2, .vec true 0 1 (i64s (gl g.length fun i => if i < k then -1 else 0)))]) (fun k => k ≤ g.length) (fun k => g.length - k) 0 ?_
  ((conv=>whnf);repeat(refine .intro rfl ?_;conv=>whnf))
  refine ⟨by omega, by (repeat' (first | exact trivial | refine And.intro rfl ?_)), by rw [e00]; simp; rfl, ?_⟩
  rintro k hk
  ((conv=>whnf);repeat(refine .intro rfl ?_;conv=>whnf))
  (apply rd_sound; focus (repeat' constructor))
  ((conv=>whnf);repeat(refine .intro rfl ?_;conv=>whnf))
  (refine ifK_split (fun q0 => ?_) (fun q0 => ?_) <;> (rw [q0]; ((conv=>whnf);repeat(refine .intro rfl ?_;conv=>whnf))))
  · have q0 : k < g.length := by ((try simp only[oo,reduceCtorEq]at*)<;>omega)
    (refine ⟨by omega, (by first | omega | (simp; done) | (simp; omega) | (simp only [ll]; omega)), ?_⟩; ((conv=>whnf);repeat(refine .intro rfl ?_;conv=>whnf)))
    refine ⟨_, gl_atN k (by omega) q0, ?_⟩
    ((conv=>whnf);repeat(refine .intro rfl ?_;conv=>whnf))
    (refine .inl ⟨by (unfold InR; rw [IntKind.wrap_i64]; omega), ?_⟩; ((conv=>whnf);repeat(refine .intro rfl ?_;conv=>whnf)))
    refine ⟨k + 1, by omega, by dsimp only; omega, leB_envH (by (repeat' (first | exact trivial | refine And.intro rfl ?_))) ?_⟩
    rw [gl_set (k := k) (by omega), gl_congr (g' := fun i => if i < k + 1 then -1 else 0) fun i _ => by
      show putA (fun i => if i < k then -1 else 0) k (-1) i = if i < k + 1 then -1 else 0
      unfold putA
      by_cases e : i = k
      · subst e; simp
      · by_cases e2 : i < k
        · rw [if_neg e, if_pos (show i < k + 1 by omega)]; exact if_pos e2
        · rw [if_neg e, if_neg (show ¬ i < k + 1 by omega)]; exact if_neg e2]
    rfl
  have q0 : k = g.length := by have : ¬ k < g.length := by ((try simp only[oo,reduceCtorEq]at*)<;>omega)
                               omega
  subst q0
  rw [gl_congr (g' := fun _ => -1) fun i hi => if_pos hi]
  refine pwp_ghostB (leB_nilc 3 4 1 (by simp) rfl rfl) ?_
  have e0 : List.replicate g.length (List.map D.sc [Value.int .i64 0]) = i64s (gl g.length (gn fun _ => 0)) := gl_rep _
  rw [e0]
  refine pwp_forH [3, 4, 33] (fun k : Nat => [(34, .sc (.int .i64 k))]) (fun k => theapR g (splitT g k)) (fun k => k ≤ g.length) (fun k => g.length - k) 0 ?_
  ((conv=>whnf);repeat(refine .intro rfl ?_;conv=>whnf))
  refine ⟨by omega, by (repeat' (first | exact trivial | refine And.intro rfl ?_)), rfl, ?_⟩
  rintro k hk
  obtain ⟨s1, s2, s3⟩ := hSp k hk
  unfold theapR theap dgrid at hV ⊢
  ((conv=>whnf);repeat(refine .intro rfl ?_;conv=>whnf))
  (apply rd_sound; focus (repeat' constructor))
  ((conv=>whnf);repeat(refine .intro rfl ?_;conv=>whnf))
  (refine ifK_split (fun q0 => ?_) (fun q0 => ?_) <;> (rw [q0]; ((conv=>whnf);repeat(refine .intro rfl ?_;conv=>whnf))))
  · have q0 : k < g.length := by ((try simp only[oo,reduceCtorEq]at*)<;>omega)
    have hVk := hV k q0
    (refine ⟨by omega, (by first | omega | (simp; done) | (simp; omega) | (simp only [ll]; omega)), ?_⟩; ((conv=>whnf);repeat(refine .intro rfl ?_;conv=>whnf)))
    refine ⟨_, gl_atN k (by omega) q0, ?_⟩
    ((conv=>whnf);repeat(refine .intro rfl ?_;conv=>whnf))
    rw [show gn (splitT g k).S.num k = ((splitT g k).S.num k : Int) from rfl]
    (refine ifK_split (fun h0 => ?_) (fun h0 => ?_) <;> (rw [h0]; ((conv=>whnf);repeat(refine .intro rfl ?_;conv=>whnf))))
    · have h0 : (splitT g k).S.num k = 0 := by ((try simp only[oo,reduceCtorEq]at*)<;>omega)
      (refine .inr (.inr (.inl ⟨rfl, _, _, (hVk h0), ?_⟩)); ((conv=>whnf);repeat(refine .intro rfl ?_;conv=>whnf)))
      (refine .inl ⟨by (unfold InR; rw [IntKind.wrap_i64]; omega), ?_⟩; ((conv=>whnf);repeat(refine .intro rfl ?_;conv=>whnf)))
      refine ⟨k + 1, by omega, by dsimp only; omega, leB_envH (by (repeat' (first | exact trivial | refine And.intro rfl ?_))) ?_⟩
      dsimp only
      rw [show splitT g (k + 1) = visitT g (splitT g k) k from if_pos h0]
    · have h0 : ¬ (splitT g k).S.num k = 0 := by ((try simp only[oo,reduceCtorEq]at*)<;>omega)
      (refine .inl ⟨by (unfold InR; rw [IntKind.wrap_i64]; omega), ?_⟩; ((conv=>whnf);repeat(refine .intro rfl ?_;conv=>whnf)))
      refine ⟨k + 1, by omega, by dsimp only; omega, leB_envH (by (repeat' (first | exact trivial | refine And.intro rfl ?_))) ?_⟩
      dsimp only
      rw [show splitT g (k + 1) = splitT g k from if_neg h0]
  have q0 : k = g.length := by have : ¬ k < g.length := by ((try simp only[oo,reduceCtorEq]at*)<;>omega)
                               omega
  subst q0
  obtain ⟨f1, f2, f3⟩ := split_fin hin
  clear hV hSp s1 s2 s3 e0
  generalize (splitT g g.length).S.num = num at *
  generalize (splitT g g.length).S.low = low at *
  generalize (splitT g g.length).S.part = part at *
  generalize (splitT g g.length).S.got = got at *
  generalize (splitT g g.length).S.count = count at *
  generalize (splitT g g.length).S.stack.length = h at *
  generalize (splitT g g.length).ver = ver at *
  generalize (splitT g g.length).Z = Z at *
  refine ⟨by omega, by omega, by omega, ?_⟩
  rw [Int.toNat_natCast]
  ((conv=>whnf);repeat(refine .intro rfl ?_;conv=>whnf))
  refine ⟨by omega, by omega, by omega, ?_⟩
  rw [Int.toNat_natCast]
  ((conv=>whnf);repeat(refine .intro rfl ?_;conv=>whnf))
  have e0 : ∀ k, List.replicate k (List.map D.sc [Value.int .i64 0]) = i64s (gl k fun _ => 0) := gl_rep
  rw [e0, e0]
  have hq := eqv_mut g g.length
  have hp := fun i hi => (f1 i hi).1
  refine pwp_for [4, 7, 9, 56] (fun ((k, name) : Nat × (Nat → Int)) => [(8, .sc (.int .i64 ((pcnt (mutB g) k : Nat) : Int))), (57, .sc (.int .i64 k))]) (fun (k, name) => [(5, .vec true 0 1 (i64s (gl got name))), (6, .vec true 0 1 (i64s (gl g.length fun i => if i < k then partsG g i else 0)))])
    (fun (k, name) => k ≤ g.length ∧ nameT (mutB g) part name k) (fun (k, name) => g.length - k) (0, fun _ => 0) ?_
  ((conv=>whnf);repeat(refine .intro rfl ?_;conv=>whnf))
  refine ⟨⟨by omega, fun i => .inr ⟨fun b hb => by omega, rfl⟩⟩, by (repeat' (first | exact trivial | refine And.intro rfl ?_)), by simp; rfl, ?_⟩
  rintro ⟨k, name⟩ ⟨hk, hN⟩
  have hpc := pcnt_le (mutB g) k
  ((conv=>whnf);repeat(refine .intro rfl ?_;conv=>whnf))
  (apply rd_sound; focus (repeat' constructor))
  ((conv=>whnf);repeat(refine .intro rfl ?_;conv=>whnf))
  (refine ifK_split (fun q0 => ?_) (fun q0 => ?_) <;> (rw [q0]; ((conv=>whnf);repeat(refine .intro rfl ?_;conv=>whnf))))
  · have q0 : k < g.length := by ((try simp only[oo,reduceCtorEq]at*)<;>omega)
    have hpk := f1 k q0
    have hnew := nameT_new q0 hN hp f2
    have hold := nameT_old hq q0 hN hp f2
    obtain ⟨pk, hpk'⟩ : ∃ pk : Nat, part k = pk := ⟨(part k).toNat, by omega⟩
    rw [hpk'] at hpk hnew hold
    rw [Int.toNat_natCast] at hnew hold
    (refine ⟨by omega, (by first | omega | (simp; done) | (simp; omega) | (simp only [ll]; omega)), ?_⟩; ((conv=>whnf);repeat(refine .intro rfl ?_;conv=>whnf)))
    refine ⟨_, gl_atN k (by omega) q0, ?_⟩
    rw [hpk']
    ((conv=>whnf);repeat(refine .intro rfl ?_;conv=>whnf))
    (refine ⟨by omega, (by first | omega | (simp; done) | (simp; omega) | (simp only [ll]; omega)), ?_⟩; ((conv=>whnf);repeat(refine .intro rfl ?_;conv=>whnf)))
    refine ⟨_, gl_atN pk (by omega) (by omega), ?_⟩
    ((conv=>whnf);repeat(refine .intro rfl ?_;conv=>whnf))
    have hout : ∀ v, v = partsG g k → i64s (gl g.length (putA (fun i => if i < k then partsG g i else 0) k v)) = i64s (gl g.length fun i => if i < k + 1 then partsG g i else 0) := fun v hv => by
      rw [gl_congr fun i _ => ?_]
      show putA (fun i => if i < k then partsG g i else 0) k v i = if i < k + 1 then partsG g i else 0
      unfold putA
      by_cases e : i = k
      · subst e; rw [if_pos rfl, if_pos (by omega), hv]
      · by_cases e2 : i < k
        · rw [if_neg e, if_pos (show i < k + 1 by omega)]; exact if_pos e2
        · rw [if_neg e, if_neg (show ¬ i < k + 1 by omega)]; exact if_neg e2
    (refine ifK_split (fun h0 => ?_) (fun h0 => ?_) <;> (rw [h0]; ((conv=>whnf);repeat(refine .intro rfl ?_;conv=>whnf))))
    · have h0 : name pk = 0 := by ((try simp only[oo,reduceCtorEq]at*)<;>omega)
      obtain ⟨n1, n2, n3⟩ := hnew h0
      (refine .inl ⟨by (unfold InR; rw [IntKind.wrap_i64]; omega), ?_⟩; ((conv=>whnf);repeat(refine .intro rfl ?_;conv=>whnf)))
      (refine ⟨by omega, (by first | omega | (simp; done) | (simp; omega) | (simp only [ll]; omega)), ?_⟩; ((conv=>whnf);repeat(refine .intro rfl ?_;conv=>whnf)))
      refine ⟨_, gl_atN k (by omega) q0, ?_⟩
      rw [hpk']
      ((conv=>whnf);repeat(refine .intro rfl ?_;conv=>whnf))
      (refine ⟨by omega, (by first | omega | (simp; done) | (simp; omega) | (simp only [ll]; omega)), ?_⟩; ((conv=>whnf);repeat(refine .intro rfl ?_;conv=>whnf)))
      refine ⟨_, gl_atN pk (by omega) (by omega), ?_⟩
      ((conv=>whnf);repeat(refine .intro rfl ?_;conv=>whnf))
      rw [gl_set (k := pk) (by omega)]
      (refine ⟨by omega, (by first | omega | (simp; done) | (simp; omega) | (simp only [ll]; omega)), ?_⟩; ((conv=>whnf);repeat(refine .intro rfl ?_;conv=>whnf)))
      refine ⟨_, gl_atN k (by omega) q0, ?_⟩
      rw [hpk']
      ((conv=>whnf);repeat(refine .intro rfl ?_;conv=>whnf))
      (refine ⟨by omega, (by first | omega | (simp; done) | (simp; omega) | (simp only [ll]; omega)), ?_⟩; ((conv=>whnf);repeat(refine .intro rfl ?_;conv=>whnf)))
      refine ⟨_, gl_atN pk (by omega) (by omega), ?_⟩
      ((conv=>whnf);repeat(refine .intro rfl ?_;conv=>whnf))
      rw [putA_self]
      (refine .inl ⟨by (unfold InR; rw [IntKind.wrap_i64]; omega), ?_⟩; ((conv=>whnf);repeat(refine .intro rfl ?_;conv=>whnf)))
      (refine ⟨by omega, (by first | omega | (simp; done) | (simp; omega) | (simp only [ll]; omega)), ?_⟩; ((conv=>whnf);repeat(refine .intro rfl ?_;conv=>whnf)))
      refine ⟨_, gl_atN k (by omega) q0, ?_⟩
      ((conv=>whnf);repeat(refine .intro rfl ?_;conv=>whnf))
      (refine .inl ⟨by (unfold InR; rw [IntKind.wrap_i64]; omega), ?_⟩; ((conv=>whnf);repeat(refine .intro rfl ?_;conv=>whnf)))
      have e8 : D.sc (.int .i64 (((pcnt (mutB g) k : Nat) : Int) + 1)) = D.sc (.int .i64 ((pcnt (mutB g) (k + 1) : Nat) : Int)) := by rw [n2]; rfl
      refine ⟨(k + 1, putA name pk ((pcnt (mutB g) k : Int) + 1)), ⟨by omega, n3⟩, by dsimp only; omega, leB_envH ⟨e8, by (repeat' (first | exact trivial | refine And.intro rfl ?_))⟩ ?_⟩
      dsimp only
      rw [gl_set (k := k) (by omega), hout _ (by unfold partsG gn; rw [n1]; omega)]
      rfl
    · have h0 : ¬ name pk = 0 := by ((try simp only[oo,reduceCtorEq]at*)<;>omega)
      obtain ⟨n1, n2, n3⟩ := hold h0
      (refine ⟨by omega, (by first | omega | (simp; done) | (simp; omega) | (simp only [ll]; omega)), ?_⟩; ((conv=>whnf);repeat(refine .intro rfl ?_;conv=>whnf)))
      refine ⟨_, gl_atN k (by omega) q0, ?_⟩
      rw [hpk']
      ((conv=>whnf);repeat(refine .intro rfl ?_;conv=>whnf))
      (refine ⟨by omega, (by first | omega | (simp; done) | (simp; omega) | (simp only [ll]; omega)), ?_⟩; ((conv=>whnf);repeat(refine .intro rfl ?_;conv=>whnf)))
      refine ⟨_, gl_atN pk (by omega) (by omega), ?_⟩
      ((conv=>whnf);repeat(refine .intro rfl ?_;conv=>whnf))
      have hpl := pnum_lt hq q0
      rw [n1]
      (refine .inl ⟨by (unfold InR; rw [IntKind.wrap_i64]; omega), ?_⟩; ((conv=>whnf);repeat(refine .intro rfl ?_;conv=>whnf)))
      (refine ⟨by omega, (by first | omega | (simp; done) | (simp; omega) | (simp only [ll]; omega)), ?_⟩; ((conv=>whnf);repeat(refine .intro rfl ?_;conv=>whnf)))
      refine ⟨_, gl_atN k (by omega) q0, ?_⟩
      ((conv=>whnf);repeat(refine .intro rfl ?_;conv=>whnf))
      (refine .inl ⟨by (unfold InR; rw [IntKind.wrap_i64]; omega), ?_⟩; ((conv=>whnf);repeat(refine .intro rfl ?_;conv=>whnf)))
      have e8 : D.sc (.int .i64 ((pcnt (mutB g) k : Nat) : Int)) = D.sc (.int .i64 ((pcnt (mutB g) (k + 1) : Nat) : Int)) := by rw [n2]
      refine ⟨(k + 1, name), ⟨by omega, n3⟩, by dsimp only; omega, leB_envH ⟨e8, by (repeat' (first | exact trivial | refine And.intro rfl ?_))⟩ ?_⟩
      dsimp only
      rw [gl_set (k := k) (by omega), hout _ (by unfold partsG gn; omega)]
      rfl
  · have q0 : k = g.length := by have : ¬ k < g.length := by ((try simp only[oo,reduceCtorEq]at*)<;>omega)
                                 omega
    subst q0
    rw [gl_congr (g' := partsG g) fun i hi => if_pos hi]
    exact deep_gl rfl
end Go.Proofs.Ytfaekhadjlgbbaa
