/-
  The reference's automaton of a formula: what holds at a state (its two closures), over deep values. No statement is proved here.
-/
import Derived.Test.YtihgbinhidppdaaTa5
namespace Go.Proofs.Ytihgbinhidppdaa
open Go.RowKit
set_option linter.unusedSimpArgs false
set_option linter.unusedVariables false
theorem idxF_app_left {α : Type} {p : α → Bool} {a b : List α} {k : Nat} (h : idxF p a = (k : Int)) : idxF p (a ++ b) = (k : Int) := by
  obtain ⟨j, e, hj, h1, h2⟩ := idxF_lt (p := p) (l := a) (by omega)
  have : j = k := by omega
  subst this
  refine idxF_hit (k := j) (by simp; omega) (by rw [List.getElem_append_left hj]; exact h1) fun i hi => ?_
  rw [List.getElem_append_left (by omega)]
  exact h2 i hi
theorem idxF_app_right {α : Type} {p : α → Bool} {a b : List α} {k : Nat} (ha : ∀ x ∈ a, p x = false) (h : idxF p b = (k : Int)) : idxF p (a ++ b) = ((a.length + k : Nat) : Int) := by
  obtain ⟨j, e, hj, h1, h2⟩ := idxF_lt (p := p) (l := b) (by omega)
  have : j = k := by omega
  subst this
  refine idxF_hit (k := a.length + j) (by simp; omega) (by rw [List.getElem_append_right (by omega)]; simpa using h1) fun i hi => ?_
  by_cases q : i < a.length
  · rw [List.getElem_append_left q]; exact ha _ (List.getElem_mem q)
  · rw [List.getElem_append_right (by omega)]; exact h2 _ (by omega)
theorem eqT_atom (a b : Int) : eqT (atomT a) (atomT b) = (a == b) := by
  rw [Bool.eq_iff_iff, eqT_iff, beq_iff_eq]
  constructor
  · intro h
    have : (atomT a).num = (atomT b).num := by rw [h]
    exact this
  · rintro rfl; rfl
theorem idx_atoms (n : Int) (A : List Int) : idxF (eqT (atomT n)) (atomTs A) = idxF (fun a => n == a) A := by
  unfold idxF atomTs
  rw [List.findIdx?_map, show eqT (atomT n) ∘ atomT = fun a => n == a from funext fun a => eqT_atom n a]
/-- The place of an element in the list of all. -/
theorem pos_el {A : List Int} {P : List Tree} {g : Tree} (hT : Told A P g) (hw : g.wf lKids) (hk : g.kind = 3 ∨ g.kind = 7 ∨ g.kind = 8 ∨ g.kind = 9) : idxF (eqT g) (atomTs A ++ P) = (posE A P g : Int) ∧ posE A P g < A.length + P.length := by
  by_cases k3 : g.kind = 3
  · obtain ⟨k, h1, h2⟩ := idx_mem (hT.atom k3)
    have e : posE A P g = k := by unfold posE; rw [if_pos k3, h2]; rfl
    rw [e]
    refine ⟨idxF_app_left ?_, by omega⟩
    rw [atom_eq hw k3, idx_atoms]
    exact h2
  · obtain ⟨k, h1, h2⟩ := idx_part (hT.part (by omega))
    have e : posE A P g = A.length + k := by unfold posE; rw [if_neg k3, h2]; rfl
    rw [e]
    refine ⟨?_, by omega⟩
    rw [← atomTs_len A]
    refine idxF_app_right (fun x hx => ?_) h2
    obtain ⟨a, _, rfl⟩ := List.mem_map.1 hx
    rw [Bool.eq_false_iff]
    intro h
    rw [eqT_iff] at h
    exact k3 (h ▸ rfl)
def elD (E : List Tree) : D := .ipt [.lst 3 (trows E)]
def c29 : PC := .seq (.ops [⟨some 2,.box (.tmp 0),none,0⟩,
 ⟨some 3,.move (.const (.bool false)),none,0⟩] false) (.seq (.ops [⟨some 4,.loadA 3 (.tmp 1),none,0⟩,
 ⟨some 5,.loadA 3 (.tmp 2),none,0⟩,
 ⟨some 6,.call 30 [(.tmp 4), (.tmp 5)],none,0⟩,
 ⟨some 3,.move (.tmp 6),none,0⟩] false) (.ret))
set_option maxRecDepth 100000 in
theorem c29_ok : FunOK Try.prog 29 7 [.tmp 3] c29 := ⟨⟨Try.f29, Try.func29, rfl, by kernel_rfl, rfl, by kernel_rfl⟩⟩
def c27 : PC := .seq (.ops [⟨some 3,.box (.tmp 0),none,0⟩,
 ⟨some 5,.move (.const (.bool false)),none,0⟩] false) (.seq (.ops [⟨some 7,.load1 (.tmp 2),none,0⟩,
 ⟨some 8,.mkfn (.func 29) [] [(.tmp 3)],none,0⟩,
 ⟨some 9,.call 28 [(.tmp 7), (.tmp 8)],none,0⟩,
 ⟨some 6,.move (.tmp 9),none,0⟩] false) (.seq (.ops [⟨some 10,.move (.tmp 1),none,0⟩,
 ⟨some 11,.move (.tmp 6),none,0⟩,
 ⟨some 12,.bin .shr (.tmp 10) (.tmp 11),none,0⟩,
 ⟨some 13,.bin .rem (.tmp 12) (.const (.int .i64 2)),none,0⟩,
 ⟨some 14,.bin .eql (.tmp 13) (.const (.int .i64 1)),none,0⟩,
 ⟨some 5,.move (.tmp 14),none,0⟩] false) (.ret)))
set_option maxRecDepth 100000 in
theorem c27_ok : FunOK Try.prog 27 15 [.tmp 5] c27 := ⟨⟨Try.f27, Try.func27, rfl, by kernel_rfl, rfl, by kernel_rfl⟩⟩
def c31 : PC := .seq (.ops [⟨some 4,.box (.tmp 0),none,0⟩,
 ⟨some 6,.move (.const (.bool false)),none,0⟩] false) (.seq (.seq (.ops [⟨some 7,.faddr 0 (.tmp 4),none,0⟩,
 ⟨some 8,.load1 (.tmp 7),none,0⟩] false) (.block 0 (.seq (.seq (.ops [⟨some 10,.bin .eql (.tmp 8) (.const (.int .i64 1)),none,0⟩,
 ⟨some 9,.move (.tmp 10),none,0⟩] false) (.cond (.tmp 9) (.skip) (.ops [⟨some 11,.bin .eql (.tmp 8) (.const (.int .i64 2)),none,0⟩,
 ⟨some 9,.move (.tmp 11),none,0⟩] false))) (.cond (.tmp 9) (.seq (.ops [⟨some 12,.faddr 0 (.tmp 4),none,0⟩,
 ⟨some 13,.load1 (.tmp 12),none,0⟩,
 ⟨some 14,.bin .eql (.tmp 13) (.const (.int .i64 1)),none,0⟩,
 ⟨some 6,.move (.tmp 14),none,0⟩] false) (.ret)) (.seq (.ops [⟨some 16,.bin .eql (.tmp 8) (.const (.int .i64 4)),none,0⟩,
 ⟨some 15,.move (.tmp 16),none,0⟩] false) (.cond (.tmp 15) (.seq (.ops [⟨some 17,.load1 (.tmp 2),none,0⟩,
 ⟨some 18,.faddr 2 (.tmp 4),none,0⟩,
 ⟨some 19,.load1 (.tmp 18),none,2⟩,
 ⟨some 20,.iaddr 3 (.tmp 19) (.const (.int .i64 0)),none,6⟩,
 ⟨some 21,.loadA 3 (.tmp 20),none,14⟩,
 ⟨some 22,.move (.tmp 1),none,0⟩,
 ⟨some 23,.callv (.tmp 17) [(.tmp 21), (.tmp 22)],none,63⟩,
 ⟨some 24,.un .not (.tmp 23),none,127⟩,
 ⟨some 6,.move (.tmp 24),none,255⟩] true) (.ret)) (.seq (.ops [⟨some 26,.bin .eql (.tmp 8) (.const (.int .i64 5)),none,0⟩,
 ⟨some 25,.move (.tmp 26),none,0⟩] false) (.cond (.tmp 25) (.seq (.ops [⟨some 27,.load1 (.tmp 2),none,0⟩,
 ⟨some 28,.faddr 2 (.tmp 4),none,0⟩,
 ⟨some 29,.load1 (.tmp 28),none,2⟩,
 ⟨some 30,.iaddr 3 (.tmp 29) (.const (.int .i64 0)),none,6⟩,
 ⟨some 31,.loadA 3 (.tmp 30),none,14⟩,
 ⟨some 32,.move (.tmp 1),none,0⟩,
 ⟨some 33,.callv (.tmp 27) [(.tmp 31), (.tmp 32)],none,63⟩,
 ⟨some 34,.move (.tmp 33),none,127⟩,
 ⟨some 35,.load1 (.tmp 2),some (34,true),255⟩,
 ⟨some 36,.faddr 2 (.tmp 4),some (34,true),255⟩,
 ⟨some 37,.load1 (.tmp 36),some (34,true),767⟩,
 ⟨some 38,.iaddr 3 (.tmp 37) (.const (.int .i64 1)),some (34,true),1791⟩,
 ⟨some 39,.loadA 3 (.tmp 38),some (34,true),3839⟩,
 ⟨some 40,.move (.tmp 1),some (34,true),255⟩,
 ⟨some 41,.callv (.tmp 35) [(.tmp 39), (.tmp 40)],some (34,true),16383⟩,
 ⟨some 42,.pick (.tmp 34) (.tmp 41) (.const (.bool false)),none,32767⟩,
 ⟨some 6,.move (.tmp 42),none,65535⟩] true) (.ret)) (.seq (.ops [⟨some 44,.bin .eql (.tmp 8) (.const (.int .i64 6)),none,0⟩,
 ⟨some 43,.move (.tmp 44),none,0⟩] false) (.cond (.tmp 43) (.seq (.ops [⟨some 45,.load1 (.tmp 2),none,0⟩,
 ⟨some 46,.faddr 2 (.tmp 4),none,0⟩,
 ⟨some 47,.load1 (.tmp 46),none,2⟩,
 ⟨some 48,.iaddr 3 (.tmp 47) (.const (.int .i64 0)),none,6⟩,
 ⟨some 49,.loadA 3 (.tmp 48),none,14⟩,
 ⟨some 50,.move (.tmp 1),none,0⟩,
 ⟨some 51,.callv (.tmp 45) [(.tmp 49), (.tmp 50)],none,63⟩,
 ⟨some 52,.move (.tmp 51),none,127⟩,
 ⟨some 53,.load1 (.tmp 2),some (52,false),255⟩,
 ⟨some 54,.faddr 2 (.tmp 4),some (52,false),255⟩,
 ⟨some 55,.load1 (.tmp 54),some (52,false),767⟩,
 ⟨some 56,.iaddr 3 (.tmp 55) (.const (.int .i64 1)),some (52,false),1791⟩,
 ⟨some 57,.loadA 3 (.tmp 56),some (52,false),3839⟩,
 ⟨some 58,.move (.tmp 1),some (52,false),255⟩,
 ⟨some 59,.callv (.tmp 53) [(.tmp 57), (.tmp 58)],some (52,false),16383⟩,
 ⟨some 60,.pick (.tmp 52) (.const (.bool true)) (.tmp 59),none,32767⟩,
 ⟨some 6,.move (.tmp 60),none,65535⟩] true) (.ret)) (.seq (.ops [⟨some 62,.bin .eql (.tmp 8) (.const (.int .i64 8)),none,0⟩,
 ⟨some 61,.move (.tmp 62),none,0⟩] false) (.cond (.tmp 61) (.seq (.ops [⟨some 63,.load1 (.tmp 2),none,0⟩,
 ⟨some 64,.faddr 2 (.tmp 4),none,0⟩,
 ⟨some 65,.load1 (.tmp 64),none,2⟩,
 ⟨some 66,.iaddr 3 (.tmp 65) (.const (.int .i64 1)),none,6⟩,
 ⟨some 67,.loadA 3 (.tmp 66),none,14⟩,
 ⟨some 68,.move (.tmp 1),none,0⟩,
 ⟨some 69,.callv (.tmp 63) [(.tmp 67), (.tmp 68)],none,63⟩,
 ⟨some 70,.move (.tmp 69),none,127⟩,
 ⟨some 71,.load1 (.tmp 2),some (70,false),255⟩,
 ⟨some 72,.faddr 2 (.tmp 4),some (70,false),255⟩,
 ⟨some 73,.load1 (.tmp 72),some (70,false),767⟩,
 ⟨some 74,.iaddr 3 (.tmp 73) (.const (.int .i64 0)),some (70,false),1791⟩,
 ⟨some 75,.loadA 3 (.tmp 74),some (70,false),3839⟩,
 ⟨some 76,.move (.tmp 1),some (70,false),255⟩,
 ⟨some 77,.callv (.tmp 71) [(.tmp 75), (.tmp 76)],some (70,false),16383⟩,
 ⟨some 78,.move (.tmp 77),some (70,false),32767⟩,
 ⟨some 79,.load1 (.tmp 3),some (78,true),65535⟩,
 ⟨some 80,.loadA 3 (.tmp 4),some (78,true),65535⟩,
 ⟨some 81,.move (.tmp 1),some (78,true),65535⟩,
 ⟨some 82,.callv (.tmp 79) [(.tmp 80), (.tmp 81)],some (78,true),524287⟩,
 ⟨some 83,.pick (.tmp 78) (.tmp 82) (.const (.bool false)),some (70,false),1048575⟩,
 ⟨some 84,.pick (.tmp 70) (.const (.bool true)) (.tmp 83),none,2097151⟩,
 ⟨some 6,.move (.tmp 84),none,4194303⟩] true) (.ret)) (.seq (.ops [⟨some 86,.bin .eql (.tmp 8) (.const (.int .i64 9)),none,0⟩,
 ⟨some 85,.move (.tmp 86),none,0⟩] false) (.cond (.tmp 85) (.seq (.ops [⟨some 87,.load1 (.tmp 2),none,0⟩,
 ⟨some 88,.faddr 2 (.tmp 4),none,0⟩,
 ⟨some 89,.load1 (.tmp 88),none,2⟩,
 ⟨some 90,.iaddr 3 (.tmp 89) (.const (.int .i64 1)),none,6⟩,
 ⟨some 91,.loadA 3 (.tmp 90),none,14⟩,
 ⟨some 92,.move (.tmp 1),none,0⟩,
 ⟨some 93,.callv (.tmp 87) [(.tmp 91), (.tmp 92)],none,63⟩,
 ⟨some 94,.move (.tmp 93),none,127⟩,
 ⟨some 95,.load1 (.tmp 2),some (94,true),255⟩,
 ⟨some 96,.faddr 2 (.tmp 4),some (94,true),255⟩,
 ⟨some 97,.load1 (.tmp 96),some (94,true),767⟩,
 ⟨some 98,.iaddr 3 (.tmp 97) (.const (.int .i64 0)),some (94,true),1791⟩,
 ⟨some 99,.loadA 3 (.tmp 98),some (94,true),3839⟩,
 ⟨some 100,.move (.tmp 1),some (94,true),255⟩,
 ⟨some 101,.callv (.tmp 95) [(.tmp 99), (.tmp 100)],some (94,true),16383⟩,
 ⟨some 102,.move (.tmp 101),some (94,true),32767⟩,
 ⟨some 103,.load1 (.tmp 3),some (102,false),65535⟩,
 ⟨some 104,.loadA 3 (.tmp 4),some (102,false),65535⟩,
 ⟨some 105,.move (.tmp 1),some (102,false),65535⟩,
 ⟨some 106,.callv (.tmp 103) [(.tmp 104), (.tmp 105)],some (102,false),524287⟩,
 ⟨some 107,.pick (.tmp 102) (.const (.bool true)) (.tmp 106),some (94,true),1048575⟩,
 ⟨some 108,.pick (.tmp 94) (.tmp 107) (.const (.bool false)),none,2097151⟩,
 ⟨some 6,.move (.tmp 108),none,4194303⟩] true) (.ret)) (.skip))))))))))))))) (.seq (.ops [⟨some 109,.load1 (.tmp 3),none,0⟩,
 ⟨some 110,.loadA 3 (.tmp 4),none,0⟩,
 ⟨some 111,.move (.tmp 1),none,0⟩,
 ⟨some 112,.callv (.tmp 109) [(.tmp 110), (.tmp 111)],none,0⟩,
 ⟨some 6,.move (.tmp 112),none,0⟩] false) (.ret)))
set_option maxRecDepth 100000 in
theorem c31_ok : FunOK Try.prog 31 113 [.tmp 6] c31 := ⟨⟨Try.f31, Try.func31, rfl, by kernel_rfl, rfl, by kernel_rfl⟩⟩
/-- The box of the closure that looks up an element. -/
def chD (E : List Tree) : D := .ipt [.fn (.func 27) [] [elD E]]
theorem pure_chD (E : List Tree) : Pure (chD E) := by simp [chD, elD, Pure, PureL, pure_trows]
theorem tab_same (f : Tree) (hf : Small f) (g : Tree) : PCall Try.prog 29 [dtree g, .ipt (drow f)] (.sc (.bool (eqT f g))) := by
  refine pcall_intro c29_ok (by simp) (by simp [PureL, Pure, pure_dtree, pure_drow]) ?_ (by simp [Pure])
  (apply rd_sound; focus (repeat' constructor))
  ((conv=>whnf);repeat(refine .intro rfl ?_;conv=>whnf))
  (refine .inl ⟨_, (ref_SameLtl f g hf), ?_⟩; ((conv=>whnf);repeat(refine .intro rfl ?_;conv=>whnf)))
  exact .refl _
theorem tab_chosen (A : List Int) (P : List Tree) (hf : A.length + P.length ≤ 10) (g : Tree) (hs : Small g) (hT : Told A P g) (hw : g.wf lKids) (hk : g.kind = 3 ∨ g.kind = 7 ∨ g.kind = 8 ∨ g.kind = 9) (s : Nat) :
    PCall Try.prog 27 [dtree g, .sc (.int .i64 s), elD (atomTs A ++ P)] (.sc (.bool (chE A P s g))) := by
  obtain ⟨h1, h2⟩ := pos_el hT hw hk
  refine pcall_intro c27_ok (by simp) (by simp [PureL, Pure, elD, pure_dtree, pure_trows]) ?_ (by simp [Pure])
  have hi := indexF_ltl (atomTs A ++ P) (by simp; omega) (eqT g) 29 [.ipt (drow g)] (by simp [PureL, Pure, pure_drow]) fun a _ => tab_same g hs a
  rw [h1] at hi
  have e : chE A P s g = s.testBit (posE A P g) := rfl
  rw [e, ← bit_R s (posE A P g) (by omega)]
  unfold elD
  (apply rd_sound; focus (repeat' constructor))
  ((conv=>whnf);repeat(refine .intro rfl ?_;conv=>whnf))
  (refine .inr (.inl ⟨_, _, (by (repeat' (first | exact Deep.refl _ | exact Deep.none _ | exact deep_row _ | exact DeepL.nil | exact DeepLL.nil | refine Deep.agg _ _ ?_ | refine Deep.tup _ _ ?_ | refine Deep.own _ _ _ _ _ _ _ _ rfl ?_ | refine Deep.loc _ _ _ _ _ rfl ?_ | refine Deep.ifc _ _ _ ?_ | refine Deep.fn _ _ _ _ _ ?_ ?_ | refine DeepL.cons _ _ _ _ ?_ ?_ | refine DeepLL.cons _ _ _ _ ?_ ?_ | exact deepLL_refl _))), hi, rfl, ?_⟩); ((conv=>whnf);repeat(refine .intro rfl ?_;conv=>whnf)))
  refine ⟨by omega, ?_⟩
  ((conv=>whnf);repeat(refine .intro rfl ?_;conv=>whnf))
  refine ⟨by omega, ?_⟩
  ((conv=>whnf);repeat(refine .intro rfl ?_;conv=>whnf))
  exact .refl _
/-- The closure that says what holds, with its own box. -/
def isF (E : List Tree) (m : Nat) : D := .fn (.func 31) [] [.loc m 0, chD E]
set_option maxRecDepth 100000 in
theorem tab_is (A : List Int) (P : List Tree) (hI : TabI A P) (s : Nat) : ∀ g : Tree, g.wf pKids → Told A P g →
    ACall Try.prog 31 [dtree g, .sc (.int .i64 s), .loc 0 0, chD (atomTs A ++ P)] [.row true [isF (atomTs A ++ P) 0]] (.sc (.bool (holdsT (chE A P s) g))) [.row true [isF (atomTs A ++ P) 0]] := by
  intro f
  induction f using Tree.ind with
  | h f ih =>
    intro hwf hT
    have hs := wf_small f (wf_p hwf)
    have hsz := hs.width
    have hK := p_kind hwf
    have hE := holdsT_eq (chE A P s) f
    have hch := fun hk => tab_chosen A P hI.few f hs hT (wf_p hwf) hk s
    have hcp := pure_chD (atomTs A ++ P)
    refine acall_introD c31_ok (by simp) (by simp) ?_ trivial
    have ha : ∀ j, j < f.width → (f.kids.map (holdsT (chE A P s))).getD j false = holdsT (chE A P s) (f.kid j) := fun j hj => holds_kid _ hj
    have hR : ∀ j, (hj : j < f.width) → ARead Try.prog 31 [dtree (f.kid j), .sc (.int .i64 s), .loc 0 0, chD (atomTs A ++ P)] [.row true [isF (atomTs A ++ P) 0], .row true (drow f)] (.sc (.bool (holdsT (chE A P s) (f.kid j)))) [0] := fun j hj =>
      aread_of (ih j hj (wf_kid hwf hj) (hT.kid hj)) [0] rfl (by simp) (by simp [UnderL, Under, under_pure _ (pure_dtree _), under_pure _ hcp]) (by simp [UnderO, AObj.under, isF, UnderL, Under, under_pure _ hcp]) (by simp [renL, D.ren, ren_pure _ hcp]) (by simp [D.ren]) (fun i o ho => by
        match i, ho with
        | 0, ho => cases ho; simp [AObj.ren, isF, renL, D.ren, ren_pure _ hcp]
        | i + 1, ho => simp at ho) 0 (by simp) rfl (by simp) (by simp)
    have hbu : ∀ o ∈ [AObj.row true [isF (atomTs A ++ P) 0]], o.under 1 := fun o ho => by rw [List.mem_singleton] at ho; subst ho; simp [AObj.under, isF, UnderL, Under, under_pure _ hcp]
    have fin : ∀ {b : Bool}, b = holdsN f.kind (chE A P s f) (f.kids.map (holdsT (chE A P s))) → endD (.sc (.bool (holdsT (chE A P s) f))) [.row true [isF (atomTs A ++ P) 0]] (.sc (.bool b)) [.row true [isF (atomTs A ++ P) 0], .row true (drow f)] := fun h => by
      rw [hE, h]
      exact ⟨.refl _, closeH_same [_] [_] hbu⟩
    unfold isF at *
    (apply rd_sound; focus (repeat' constructor))
    ((conv=>whnf);repeat(refine .intro rfl ?_;conv=>whnf))
    (refine ifK_split (fun h1 => ?_) (fun h1 => ?_) <;> (rw [h1]; ((conv=>whnf);repeat(refine .intro rfl ?_;conv=>whnf))))
    · have h1 : f.kind = 1 := by simpa using h1
      refine fin ?_; rw [h1]; rfl
    (refine ifK_split (fun h2 => ?_) (fun h2 => ?_) <;> (rw [h2]; ((conv=>whnf);repeat(refine .intro rfl ?_;conv=>whnf))))
    · have h2 : f.kind = 2 := by simpa using h2
      rw [h2]
      refine fin ?_; rw [h2]; rfl
    (refine ifK_split (fun h4 => ?_) (fun h4 => ?_) <;> (rw [h4]; ((conv=>whnf);repeat(refine .intro rfl ?_;conv=>whnf))))
    · have h4 : f.kind = 4 := by simpa using h4
      have w0 : 0 < f.width := by omega
      have e0 := ha 0 w0
      refine ⟨by omega, _, kid_at w0, ?_⟩; ((conv=>whnf);repeat(refine .intro rfl ?_;conv=>whnf))
      (refine .inr (.inr (.inr (.inr (.inr (.inr ⟨_, _, (hR 0 w0), ?_⟩))))); ((conv=>whnf);repeat(refine .intro rfl ?_;conv=>whnf)))
      refine fin ?_; rw [h4, ← e0]; rfl
    (refine ifK_split (fun h5 => ?_) (fun h5 => ?_) <;> (rw [h5]; ((conv=>whnf);repeat(refine .intro rfl ?_;conv=>whnf))))
    · have h5 : f.kind = 5 := by simpa using h5
      have w0 : 0 < f.width := by omega
      have w1 : 1 < f.width := by omega
      have e0 := ha 0 w0
      have e1 := ha 1 w1
      have r0 := hR 0 w0
      have r1 := hR 1 w1
      rw [h5] at fin
      unfold holdsN at fin
      rw [← e0] at r0
      rw [← e1] at r1
      generalize (f.kids.map (holdsT (chE A P s))).getD 0 false = b0 at *
      generalize (f.kids.map (holdsT (chE A P s))).getD 1 false = b1 at *
      refine ⟨by omega, _, kid_at w0, ?_⟩; ((conv=>whnf);repeat(refine .intro rfl ?_;conv=>whnf))
      (refine .inr (.inr (.inr (.inr (.inr (.inr ⟨_, _, r0, ?_⟩))))); ((conv=>whnf);repeat(refine .intro rfl ?_;conv=>whnf)))
      cases b0
      · ((conv=>whnf);repeat(refine .intro rfl ?_;conv=>whnf))
        refine fin ?_; simp
      · ((conv=>whnf);repeat(refine .intro rfl ?_;conv=>whnf))
        refine ⟨by omega, _, kid_at w1, ?_⟩; ((conv=>whnf);repeat(refine .intro rfl ?_;conv=>whnf))
        (refine .inr (.inr (.inr (.inr (.inr (.inr ⟨_, _, r1, ?_⟩))))); ((conv=>whnf);repeat(refine .intro rfl ?_;conv=>whnf)))
        refine fin ?_; simp
    (refine ifK_split (fun h6 => ?_) (fun h6 => ?_) <;> (rw [h6]; ((conv=>whnf);repeat(refine .intro rfl ?_;conv=>whnf))))
    · have h6 : f.kind = 6 := by simpa using h6
      have w0 : 0 < f.width := by omega
      have w1 : 1 < f.width := by omega
      have e0 := ha 0 w0
      have e1 := ha 1 w1
      have r0 := hR 0 w0
      have r1 := hR 1 w1
      rw [h6] at fin
      unfold holdsN at fin
      rw [← e0] at r0
      rw [← e1] at r1
      generalize (f.kids.map (holdsT (chE A P s))).getD 0 false = b0 at *
      generalize (f.kids.map (holdsT (chE A P s))).getD 1 false = b1 at *
      refine ⟨by omega, _, kid_at w0, ?_⟩; ((conv=>whnf);repeat(refine .intro rfl ?_;conv=>whnf))
      (refine .inr (.inr (.inr (.inr (.inr (.inr ⟨_, _, r0, ?_⟩))))); ((conv=>whnf);repeat(refine .intro rfl ?_;conv=>whnf)))
      cases b0
      · ((conv=>whnf);repeat(refine .intro rfl ?_;conv=>whnf))
        refine ⟨by omega, _, kid_at w1, ?_⟩; ((conv=>whnf);repeat(refine .intro rfl ?_;conv=>whnf))
        (refine .inr (.inr (.inr (.inr (.inr (.inr ⟨_, _, r1, ?_⟩))))); ((conv=>whnf);repeat(refine .intro rfl ?_;conv=>whnf)))
        refine fin ?_; simp
      · ((conv=>whnf);repeat(refine .intro rfl ?_;conv=>whnf))
        refine fin ?_; simp
    (refine ifK_split (fun h8 => ?_) (fun h8 => ?_) <;> (rw [h8]; ((conv=>whnf);repeat(refine .intro rfl ?_;conv=>whnf))))
    · have h8 : f.kind = 8 := by simpa using h8
      have w0 : 0 < f.width := by omega
      have w1 : 1 < f.width := by omega
      have e0 := ha 0 w0
      have e1 := ha 1 w1
      have r0 := hR 0 w0
      have r1 := hR 1 w1
      rw [h8] at fin
      unfold holdsN at fin
      rw [← e0] at r0
      rw [← e1] at r1
      generalize (f.kids.map (holdsT (chE A P s))).getD 0 false = b0 at *
      generalize (f.kids.map (holdsT (chE A P s))).getD 1 false = b1 at *
      refine ⟨by omega, _, kid_at w1, ?_⟩; ((conv=>whnf);repeat(refine .intro rfl ?_;conv=>whnf))
      (refine .inr (.inr (.inr (.inr (.inr (.inr ⟨_, _, r1, ?_⟩))))); ((conv=>whnf);repeat(refine .intro rfl ?_;conv=>whnf)))
      cases b1
      · ((conv=>whnf);repeat(refine .intro rfl ?_;conv=>whnf))
        refine ⟨by omega, _, kid_at w0, ?_⟩; ((conv=>whnf);repeat(refine .intro rfl ?_;conv=>whnf))
        (refine .inr (.inr (.inr (.inr (.inr (.inr ⟨_, _, r0, ?_⟩))))); ((conv=>whnf);repeat(refine .intro rfl ?_;conv=>whnf)))
        cases b0
        · ((conv=>whnf);repeat(refine .intro rfl ?_;conv=>whnf))
          refine fin ?_; simp
        · ((conv=>whnf);repeat(refine .intro rfl ?_;conv=>whnf))
          (refine .inl ⟨_, (hch (by omega)), ?_⟩; ((conv=>whnf);repeat(refine .intro rfl ?_;conv=>whnf)))
          refine fin ?_; simp
      · ((conv=>whnf);repeat(refine .intro rfl ?_;conv=>whnf))
        refine fin ?_; simp
    (refine ifK_split (fun h9 => ?_) (fun h9 => ?_) <;> (rw [h9]; ((conv=>whnf);repeat(refine .intro rfl ?_;conv=>whnf))))
    · have h9 : f.kind = 9 := by simpa using h9
      have w0 : 0 < f.width := by omega
      have w1 : 1 < f.width := by omega
      have e0 := ha 0 w0
      have e1 := ha 1 w1
      have r0 := hR 0 w0
      have r1 := hR 1 w1
      rw [h9] at fin
      unfold holdsN at fin
      rw [← e0] at r0
      rw [← e1] at r1
      generalize (f.kids.map (holdsT (chE A P s))).getD 0 false = b0 at *
      generalize (f.kids.map (holdsT (chE A P s))).getD 1 false = b1 at *
      refine ⟨by omega, _, kid_at w1, ?_⟩; ((conv=>whnf);repeat(refine .intro rfl ?_;conv=>whnf))
      (refine .inr (.inr (.inr (.inr (.inr (.inr ⟨_, _, r1, ?_⟩))))); ((conv=>whnf);repeat(refine .intro rfl ?_;conv=>whnf)))
      cases b1
      · ((conv=>whnf);repeat(refine .intro rfl ?_;conv=>whnf))
        refine fin ?_; simp
      · ((conv=>whnf);repeat(refine .intro rfl ?_;conv=>whnf))
        refine ⟨by omega, _, kid_at w0, ?_⟩; ((conv=>whnf);repeat(refine .intro rfl ?_;conv=>whnf))
        (refine .inr (.inr (.inr (.inr (.inr (.inr ⟨_, _, r0, ?_⟩))))); ((conv=>whnf);repeat(refine .intro rfl ?_;conv=>whnf)))
        cases b0
        · ((conv=>whnf);repeat(refine .intro rfl ?_;conv=>whnf))
          (refine .inl ⟨_, (hch (by omega)), ?_⟩; ((conv=>whnf);repeat(refine .intro rfl ?_;conv=>whnf)))
          refine fin ?_; simp
        · ((conv=>whnf);repeat(refine .intro rfl ?_;conv=>whnf))
          refine fin ?_; simp
    have h3 : f.kind = 3 ∨ f.kind = 7 := by
      simp only [beq_eq_false_iff_ne] at h1 h2 h4 h5 h6 h8 h9
      omega
    (refine .inl ⟨_, (hch (by omega)), ?_⟩; ((conv=>whnf);repeat(refine .intro rfl ?_;conv=>whnf)))
    refine fin ?_; rcases h3 with h3 | h3 <;> rw [h3] <;> rfl
end Go.Proofs.Ytihgbinhidppdaa
