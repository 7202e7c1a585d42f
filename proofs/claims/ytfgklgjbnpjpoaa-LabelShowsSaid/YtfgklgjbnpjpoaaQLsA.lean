/-
  Ls0 Ls1 Ls2 Ls3 Ls4 Ls5 Ls6 Ls7 joined. No statement is proved here.
-/
import Derived.Test.YtfgklgjbnpjpoaaQWi
import Derived.Test.YtfgklgjbnpjpoaaQWxA
import Derived.Test.YtfgklgjbnpjpoaaQLaA
import Derived.Test.YtfgklgjbnpjpoaaQWpl
import Derived.Test.YtfgklgjbnpjpoaaQWo5
import Derived.Test.YtfgklgjbnpjpoaaQLrA
namespace Go.Proofs.Ytfgklgjbnpjpoaa
/-! ### XLs0 -/
section
open Go.RowKit
set_option linter.unusedSimpArgs false
set_option linter.unusedVariables false
/-- Each one goes to the next. -/
def Chn (g : List (List Int)) : List Int → Prop
  | [] => True
  | [_] => True
  | a :: b :: r => b ∈ g.getD a.toNat [] ∧ Chn g (b :: r)
theorem chn_app {g : List (List Int)} {x : Int} {m : List Int} (k : Chn g (x :: m)) : ∀ {l : List Int}, Chn g (l ++ [x]) → Chn g (l ++ x :: m)
  | [], _ => k
  | [a], h => ⟨h.1, k⟩
  | a :: b :: l, h => ⟨h.1, chn_app k (l := b :: l) h.2⟩
theorem chn_mono {g h : List (List Int)} (m : ∀ v x, x ∈ g.getD v [] → x ∈ h.getD v []) : ∀ {l : List Int}, Chn g l → Chn h l
  | [], _ => trivial
  | [_], _ => trivial
  | _ :: b :: l, q => ⟨m _ _ q.1, chn_mono m (l := b :: l) q.2⟩
theorem chn_at {g : List (List Int)} : ∀ {l : List Int} {i : Nat}, Chn g l → i + 1 < l.length → l.getD (i + 1) 0 ∈ g.getD (l.getD i 0).toNat []
  | a :: b :: l, 0, h, _ => h.1
  | a :: b :: l, i + 1, h, hi => by
    have := chn_at (l := b :: l) (i := i) h.2 (by simpa using hi)
    simpa using this
  | [], _, _, h => by simp at h
  | [_], _, _, h => by simp at h
/-- In a chain each one but the last goes on. -/
theorem chn_out {g : List (List Int)} {x : Int} : ∀ {l : List Int}, Chn g (l ++ [x]) → ∀ y ∈ l, ∃ z, z ∈ g.getD y.toNat []
  | [], _, y, hy => by cases hy
  | [a], h, y, hy => by rw [List.mem_singleton] at hy; subst hy; exact ⟨_, h.1⟩
  | a :: b :: l, h, y, hy => by
    rcases List.mem_cons.1 hy with e | e
    · subst e; exact ⟨_, h.1⟩
    · exact chn_out (l := b :: l) h.2 y e
theorem wlk_back {g : List (List Int)} {to : Nat → Bool} {u v : Nat} (h : To g u v) (k : ∃ d, Wlk g to d v) : ∃ d, Wlk g to d u := by
  unfold To at h
  generalize hw : v = w at h
  induction h generalizing v with
  | base m => simp only [List.mem_singleton] at m; subst m; subst hw; simpa using k
  | step q m ih =>
    subst hw
    obtain ⟨d, hd⟩ := k
    exact ih ⟨d + 1, _, m, hd⟩ rfl
theorem wlk_to {g : List (List Int)} {to : Nat → Bool} {u v : Nat} (h : To g u v) (k : to v = true) : ∃ d, Wlk g to d u := wlk_back h ⟨0, k⟩
theorem walk_ok {g : List (List Int)} (hin : ∀ l ∈ g, inB l g.length = true) {to : Nat → Bool} : ∀ (d : Nat) (a : Int), 0 ≤ a → a < (g.length : Int) → dis g to a.toNat = (d : Int) →
    ∃ init last, walkW g (dis g to) d a = init ++ [last] ∧ (init ++ [last]).getD 0 0 = a ∧ to last.toNat = true ∧ Chn g (init ++ [last]) ∧ ∀ x ∈ init ++ [last], 0 ≤ x ∧ x < (g.length : Int)
  | 0, a, h0, h1, hd => ⟨[], a, rfl, rfl, far_zero.1 (dis_far.2 hd), trivial, fun x hx => by simp at hx; subst hx; exact ⟨h0, h1⟩⟩
  | d + 1, a, h0, h1, hd => by
    obtain ⟨b0, b1, b2⟩ := next_ok hin (to := to) (a := a.toNat) (d := d) (by omega)
    have hB := inB_row hin a.toNat
    have hmem : bestTo (fun n => decide (dis g to n = (d : Int))) (g.getD a.toNat []) (g.getD a.toNat []).length ∈ g.getD a.toNat [] := by
      rcases bestTo_ok (p := fun n => decide (dis g to n = (d : Int))) (fun k hk => (inB_getD hB hk).1) (g.getD a.toNat []).length (Nat.le_refl _) with ⟨q, _⟩ | ⟨_, _, ⟨i, q3, q4⟩, _⟩
      · omega
      · rw [← q4]; exact mem_getD q3
    rw [walkW_succ]
    generalize bestTo (fun n => decide (dis g to n = (d : Int))) (g.getD a.toNat []) (g.getD a.toNat []).length = b at *
    obtain ⟨init, last, e1, e2, e3, e4, e5⟩ := walk_ok hin d b b0 b1 b2
    refine ⟨a :: init, last, by rw [e1]; rfl, rfl, e3, ?_, fun x hx => ?_⟩
    · cases init with
      | nil => simp at e2; subst e2; exact ⟨hmem, trivial⟩
      | cons c r => simp at e2; subst e2; exact ⟨hmem, e4⟩
    · rcases List.mem_cons.1 hx with e | e
      · subst e; exact ⟨h0, h1⟩
      · exact e5 x e
/-- A shortest way that there is. -/
theorem way_ok {g : List (List Int)} (hin : ∀ l ∈ g, inB l g.length = true) {from_ : List Int} (hf : inB from_ g.length = true) {to : Nat → Bool} (h : ∃ x ∈ from_, ∃ d, Wlk g to d x.toNat) :
    0 ≤ wayS g from_ to ∧ ∃ init last, wayL g from_ to = init ++ [last] ∧ (init ++ [last]).getD 0 0 ∈ from_ ∧ to last.toNat = true ∧ Chn g (init ++ [last]) ∧ (∀ x ∈ init ++ [last], 0 ≤ x ∧ x < (g.length : Int)) ∧ init.length < g.length := by
  obtain ⟨x, hx, d, hd⟩ := h
  obtain ⟨e, _, hfar⟩ := far_of hd
  have hdx := dis_far.1 hfar
  have hx' := inB_mem hf hx
  have h0 : ∀ k, k < from_.length → 0 ≤ from_.getD k 0 := fun k hk => (inB_getD hf hk).1
  rcases startTo_ok (o := dis g to) h0 from_.length (Nat.le_refl _) with ⟨_, q⟩ | ⟨q1, q2, ⟨j, q3, q4⟩, _⟩
  · obtain ⟨j, hj, rfl⟩ := getD_mem hx
    have := q j hj
    omega
  · have hs : 0 ≤ wayS g from_ to := q1
    obtain ⟨s1, s2⟩ := start_ok hf hs
    obtain ⟨init, last, e1, e2, e3, e4, e5⟩   := walk_ok hin (to := to) (dis g to (wayS g from_ to).toNat).toNat (wayS g from_ to) hs s1 (by omega)
    refine ⟨hs, init, last, by unfold wayL; rw [if_pos hs]; exact e1, ?_, e3, e4, e5, ?_⟩
    · rw [e2]
      show startTo _ _ _ ∈ _
      rw [← q4]; exact mem_getD q3
    · have hl := walkW_len g (dis g to) (dis g to (wayS g from_ to).toNat).toNat (wayS g from_ to)
      rw [e1, List.length_append, List.length_singleton] at hl
      have := dis_lt hin (to := to) (n := (wayS g from_ to).toNat) (by omega)
      omega
/-- A way between two of a part stays in it. -/
theorem to_part {g : List (List Int)} {z : Nat → Bool} {e u v : Nat} (hz : ∀ w, To g e w → To g w e → z w = true) (hu : To g e u) (h : To g u v) (hv : To g v e) : To (resG g z) u v := by
  unfold To at h
  generalize hw : v = w at h
  induction h generalizing v with
  | base m => simp only [List.mem_singleton] at m; subst m; simpa using to_refl _ u
  | step q m ih =>
    subst hw
    have q' : To g u _ := q
    exact .step (ih (to_trans (to_edge m) hv) rfl) (mem_resG.2 ⟨m, hz _ (to_trans hu q') (to_trans (to_edge m) hv), hz _ (to_trans hu (to_trans q' (to_edge m))) hv⟩)
/-! ### Round a part -/
def lastD (l : List Int) : Int := l.getD (l.length - 1) 0
theorem lastD_app (l : List Int) (x : Int) : lastD (l ++ [x]) = x := by
  unfold lastD
  rw [List.length_append, List.length_singleton, Nat.add_sub_cancel, List.getD_eq_getElem?_getD, List.getElem?_append_right (Nat.le_refl _)]
  simp
theorem getD0_app {l m : List Int} (h : l ≠ []) : (l ++ m).getD 0 0 = l.getD 0 0 := by
  cases l with
  | nil => exact absurd rfl h
  | cons a r => rfl
noncomputable def zpF (g : List (List Int)) (e : Nat) : Nat → Bool := fun v => partsG g v == partsG g e
theorem zp_iff {g : List (List Int)} {e v : Nat} (hv : v < g.length) (he : e < g.length) : zpF g e v = true ↔ To g e v ∧ To g v e := by
  unfold zpF
  rw [beq_iff_eq, parts_eq hv he, mutB_iff]
  exact and_comm
def toS (l : List Int) (z : Nat → Bool) : Nat → Bool := fun v => setB l v && z v
noncomputable def rndS (h F : List (List Int)) (z : Nat → Bool) (e : Int) : Nat → List Int
  | 0 => [e]
  | k + 1 => if (rndS h F z e k).any (fun x => (F.getD k []).contains x) = true then rndS h F z e k else rndS h F z e k ++ (wayL h [lastD (rndS h F z e k)] (toS (F.getD k []) z)).drop 1
structure RndI (g F : List (List Int)) (e k : Nat) (o : List Int) : Prop where
  ex : ∃ init last, o = init ++ [last]
  head : o.getD 0 0 = (e : Int)
  chn : Chn (resG g (zpF g e)) o
  rng : ∀ x ∈ o, 0 ≤ x ∧ x < (g.length : Int) ∧ zpF g e x.toNat = true
  len : o.length ≤ 1 + k * g.length
  met : ∀ j, j < k → o.any (fun x => (F.getD j []).contains x) = true
/-- What one knows of a part in which one may go round fairly. -/
structure RndH (g F : List (List Int)) (e : Nat) : Prop where
  hin : ∀ l ∈ g, inB l g.length = true
  he : e < g.length
  non : Nontriv g e
  sets : ∀ l ∈ F, ∃ d, setB l d = true ∧ To g e d ∧ To g d e
theorem RndH.lt {g F : List (List Int)} {e : Nat} (H : RndH g F e) (v : Nat) (x : Int) (hx : x ∈ g.getD v []) : 0 ≤ x ∧ x.toNat < g.length := by
  have := inB_mem (inB_row H.hin v) hx
  omega
theorem RndH.hinH {g F : List (List Int)} {e : Nat} (H : RndH g F e) : ∀ l ∈ resG g (zpF g e), inB l (resG g (zpF g e)).length = true := resG_in H.hin _
theorem RndH.to {g F : List (List Int)} {e : Nat} (H : RndH g F e) {u v : Nat} (h1 : To g e u) (h2 : To g u v) (h3 : To g v e) : To (resG g (zpF g e)) u v :=
  to_part (e := e) (fun w w1 w2 => (zp_iff (to_lt (fun v x hx => (H.lt v x hx).2) H.he w1) H.he).2 ⟨w1, w2⟩) h1 h2 h3
theorem RndI.begin {g F : List (List Int)} {e : Nat} (H : RndH g F e) : RndI g F e 0 [(e : Int)] where
  ex := ⟨[], _, rfl⟩
  head := rfl
  chn := trivial
  rng x hx := by
    rw [List.mem_singleton] at hx
    subst hx
    exact ⟨by omega, by have := H.he; omega, by unfold zpF; simp⟩
  len := by simp
  met j hj := by omega
theorem RndI.last {g F : List (List Int)} {e k : Nat} {o : List Int} (h : RndI g F e k o) : lastD o ∈ o ∧ o ≠ [] := by
  obtain ⟨i, x, rfl⟩ := h.ex
  rw [lastD_app]
  simp
theorem RndI.mut {g F : List (List Int)} {e k : Nat} {o : List Int} (H : RndH g F e) (h : RndI g F e k o) {x : Int} (hx : x ∈ o) : x.toNat < g.length ∧ To g e x.toNat ∧ To g x.toNat e := by
  obtain ⟨h1, h2, h3⟩ := h.rng x hx
  have hl : x.toNat < g.length := by omega
  exact ⟨hl, (zp_iff hl H.he).1 h3⟩
theorem RndI.way {g F : List (List Int)} {e k : Nat} {o : List Int} (H : RndH g F e) (h : RndI g F e k o) (hk : k < F.length) :
    ∃ x ∈ [lastD o], ∃ d, Wlk (resG g (zpF g e)) (toS (F.getD k []) (zpF g e)) d x.toNat := by
  obtain ⟨l1, l2, l3⟩ := h.mut H h.last.1
  have hm : F.getD k [] ∈ F := by rw [List.getD_eq_getElem?_getD, List.getElem?_eq_getElem hk]; exact List.getElem_mem hk
  obtain ⟨d, d1, d2, d3⟩ := H.sets _ hm
  refine ⟨_, List.mem_singleton.2 rfl, wlk_to (H.to l2 (to_trans l3 d2) d3) ?_⟩
  unfold toS
  rw [d1, (zp_iff (to_lt (fun v x hx => (H.lt v x hx).2) H.he d2) H.he).2 ⟨d2, d3⟩]
  rfl
theorem RndI.inl {g F : List (List Int)} {e k : Nat} {o : List Int} (h : RndI g F e k o) : inB [lastD o] (resG g (zpF g e)).length = true := by
  rw [resG_len]
  have := h.rng _ h.last.1
  exact inB_of fun x hx => by rw [List.mem_singleton] at hx; subst hx; exact ⟨this.1, this.2.1⟩
/-- What lies on a way within a part is of the part. -/
theorem zp_way {g : List (List Int)} {e : Nat} {init : List Int} {last : Int} (h : Chn (resG g (zpF g e)) (init ++ [last])) (hl : zpF g e last.toNat = true) : ∀ x ∈ init ++ [last], zpF g e x.toNat = true := fun x hx => by
  rcases List.mem_append.1 hx with q | q
  · obtain ⟨z, hz⟩ := chn_out h x q
    exact (mem_resG.1 hz).2.1
  · rw [List.mem_singleton] at q; subst q; exact hl
theorem RndI.same {g F : List (List Int)} {e k : Nat} {o : List Int} (h : RndI g F e k o) (hm : o.any (fun x => (F.getD k []).contains x) = true) : RndI g F e (k + 1) o where
  ex := h.ex
  head := h.head
  chn := h.chn
  rng := h.rng
  len := by have := h.len; rw [Nat.add_mul]; omega
  met j hj := by
    by_cases q : j = k
    · subst q; exact hm
    · exact h.met j (by omega)
theorem RndI.more {g F : List (List Int)} {e k : Nat} {o : List Int} (H : RndH g F e) (h : RndI g F e k o) (hk : k < F.length) :
    1 ≤ (wayL (resG g (zpF g e)) [lastD o] (toS (F.getD k []) (zpF g e))).length ∧ (wayL (resG g (zpF g e)) [lastD o] (toS (F.getD k []) (zpF g e))).length ≤ g.length ∧ RndI g F e (k + 1) (o ++ (wayL (resG g (zpF g e)) [lastD o] (toS (F.getD k []) (zpF g e))).drop 1) := by
  obtain ⟨_, init, last, e1, e2, e3, e4, e5, e6⟩ := way_ok H.hinH h.inl (h.way H hk)
  rw [resG_len] at e5 e6
  rw [e1]
  have hz : setB (F.getD k []) last.toNat = true ∧ zpF g e last.toNat = true := by unfold toS at e3; simpa using e3
  have hzz := zp_way e4 hz.2
  refine ⟨by simp, by simp; omega, ?_⟩
  obtain ⟨oi, ol, ho⟩ := h.ex
  have hla : lastD o = ol := by rw [ho, lastD_app]
  rw [hla] at e2
  have hcon : (F.getD k []).contains last = true := by
    have h0 := (e5 last (by simp)).1
    have := hz.1
    unfold setB at this
    rwa [Int.toNat_of_nonneg h0] at this
  cases init with
  | nil =>
    simp at e2
    subst e2
    simp only [List.nil_append, List.drop_succ_cons, List.drop_nil, List.append_nil]
    exact h.same (by rw [List.any_eq_true]; exact ⟨_, by rw [ho]; simp, hcon⟩)
  | cons c r =>
    simp at e2
    subst e2
    have hd : List.drop 1 (c :: r ++ [last]) = r ++ [last] := rfl
    rw [hd]
    have hne := h.last.2
    refine ⟨⟨o ++ r, last, by simp⟩, by rw [getD0_app hne]; exact h.head, ?_, fun x hx => ?_, ?_, fun j hj => ?_⟩
    · rw [ho, List.append_assoc]
      exact chn_app (l := oi) (x := c) (m := r ++ [last]) e4 (by rw [← ho]; exact h.chn)
    · rcases List.mem_append.1 hx with q | q
      · exact h.rng x q
      · exact ⟨(e5 x (List.mem_cons_of_mem _ q)).1, (e5 x (List.mem_cons_of_mem _ q)).2, hzz x (List.mem_cons_of_mem _ q)⟩
    · have := h.len
      simp only [List.length_append, List.length_singleton, List.length_cons, List.length_nil] at this e6 ⊢
      rw [Nat.add_mul]
      omega
    · rw [List.any_append]
      by_cases q : j = k
      · subst q
        rw [Bool.or_eq_true]
        exact .inr (by rw [List.any_eq_true]; exact ⟨last, by simp, hcon⟩)
      · rw [h.met j (by omega), Bool.true_or]
theorem rnd_all {g F : List (List Int)} {e : Nat} (H : RndH g F e) : ∀ k, k ≤ F.length → RndI g F e k (rndS (resG g (zpF g e)) F (zpF g e) (e : Int) k)
  | 0, _ => RndI.begin H
  | k + 1, hk => by
    have h := rnd_all H k (by omega)
    rw [rndS]
    split
    · rename_i q; exact h.same q
    · exact (h.more H (by omega)).2.2
/-- The way home. -/
noncomputable def homeL (h : List (List Int)) (o : List Int) (e : Nat) : List Int := wayL h (h.getD (lastD o).toNat []) (fun v => decide (v = e))
noncomputable def rndL (g F : List (List Int)) (e : Nat) : List Int :=
  rndS (resG g (zpF g e)) F (zpF g e) (e : Int) F.length ++ (homeL (resG g (zpF g e)) (rndS (resG g (zpF g e)) F (zpF g e) (e : Int) F.length) e).take ((homeL (resG g (zpF g e)) (rndS (resG g (zpF g e)) F (zpF g e) (e : Int) F.length) e).length - 1)
theorem RndI.home {g F : List (List Int)} {e k : Nat} {o : List Int} (H : RndH g F e) (h : RndI g F e k o) :
    inB ((resG g (zpF g e)).getD (lastD o).toNat []) (resG g (zpF g e)).length = true ∧ ∃ x ∈ (resG g (zpF g e)).getD (lastD o).toNat [], ∃ d, Wlk (resG g (zpF g e)) (fun v => decide (v = e)) d x.toNat := by
  obtain ⟨l1, l2, l3⟩ := h.mut H h.last.1
  refine ⟨inB_row H.hinH _, ?_⟩
  obtain ⟨y, y1, y2⟩ := nontriv_mut H.non l2 l3
  have hy := H.lt _ y y1
  have m1 : To g e y.toNat := to_trans l2 (to_edge y1)
  have m2 : To g y.toNat e := to_trans y2 l3
  exact ⟨y, mem_resG.2 ⟨y1, (zp_iff l1 H.he).2 ⟨l2, l3⟩, (zp_iff hy.2 H.he).2 ⟨m1, m2⟩⟩, wlk_to (H.to m1 m2 (to_refl g e)) (by simp)⟩
structure RndL (g F : List (List Int)) (e : Nat) (l : List Int) : Prop where
  head : l.getD 0 0 = (e : Int)
  ne : l ≠ []
  chn : Chn g (l ++ [(e : Int)])
  rng : ∀ x ∈ l, 0 ≤ x ∧ x < (g.length : Int)
  met : ∀ f ∈ F, l.any (fun x => f.contains x) = true
  len : l.length ≤ 1 + (F.length + 1) * g.length
theorem rndL_ok {g F : List (List Int)} {e : Nat} (H : RndH g F e) : RndL g F e (rndL g F e) ∧ 1 ≤ (homeL (resG g (zpF g e)) (rndS (resG g (zpF g e)) F (zpF g e) (e : Int) F.length) e).length ∧ (homeL (resG g (zpF g e)) (rndS (resG g (zpF g e)) F (zpF g e) (e : Int) F.length) e).length ≤ g.length := by
  have h := rnd_all H F.length (Nat.le_refl _)
  unfold rndL
  generalize rndS (resG g (zpF g e)) F (zpF g e) (e : Int) F.length = o at *
  obtain ⟨hi, hex⟩ := h.home H
  obtain ⟨_, init, last, e1, e2, e3, e4, e5, e6⟩ := way_ok H.hinH hi hex
  have el : last = (e : Int) := by
    have := of_decide_eq_true e3
    have := (e5 last (by simp)).1
    omega
  subst el
  have hh : homeL (resG g (zpF g e)) o e = init ++ [(e : Int)] := e1
  rw [resG_len] at e5 e6
  rw [hh]
  obtain ⟨oi, ol, ho⟩ := h.ex
  have hla : lastD o = ol := by rw [ho, lastD_app]
  rw [hla] at e2
  have hsub : ∀ v x, x ∈ (resG g (zpF g e)).getD v [] → x ∈ g.getD v [] := fun v x hx => (mem_resG.1 hx).1
  rw [show (init ++ [(e : Int)]).take ((init ++ [(e : Int)]).length - 1) = init by simp]
  have hc : Chn g (o ++ (init ++ [(e : Int)])) := by
    have k : Chn (resG g (zpF g e)) (ol :: (init ++ [(e : Int)])) := by
      cases init with
      | nil => exact ⟨e2, trivial⟩
      | cons c r => exact ⟨e2, e4⟩
    have := chn_app (l := oi) k (by rw [← ho]; exact h.chn)
    rw [ho, List.append_assoc]
    exact chn_mono hsub this
  refine ⟨⟨by rw [getD0_app h.last.2]; exact h.head, by simp [h.last.2], by rw [List.append_assoc]; exact hc, fun x hx => ?_, fun f hf => ?_, ?_⟩, by simp, by simp; omega⟩
  · rcases List.mem_append.1 hx with q | q
    · exact ⟨(h.rng x q).1, (h.rng x q).2.1⟩
    · exact e5 x (List.mem_append_left _ q)
  · rw [List.any_append]
    obtain ⟨j, hj, rfl⟩ := List.getElem_of_mem hf
    have := h.met j hj
    rw [List.getD_eq_getElem?_getD, List.getElem?_eq_getElem hj] at this
    simp only [Option.getD_some] at this
    rw [this, Bool.true_or]
  · have := h.len
    rw [List.length_append, Nat.add_mul]
    omega
/-! ### A fair way from a node on -/
noncomputable def goodF (g F : List (List Int)) (z : Nat → Bool) : Nat → Bool := fun v => decide (v < g.length) && (z v && goodT g F (partsG g v).toNat)
noncomputable def stemL (g F : List (List Int)) (z : Nat → Bool) (n : Nat) : List Int := wayL g [(n : Int)] (goodF g F z)
structure LasI (G F : List (List Int)) (z : Nat → Bool) (n : Int) (s l : List Int) : Prop where
  ne : l ≠ []
  rng : ∀ x ∈ s ++ l, 0 ≤ x ∧ x < (G.length : Int)
  chn : Chn G (s ++ l ++ [l.getD 0 0])
  head : (s ++ l).getD 0 0 = n
  zz : ∀ x ∈ s ++ l, z x.toNat = true
  met : ∀ f ∈ F, f.any (fun x => l.contains x) = true
  lens : s.length ≤ G.length
  lenl : l.length ≤ 1 + (F.length + 1) * G.length
theorem las_ok {G F : List (List Int)} {z : Nat → Bool} {n : Nat} (hin : ∀ l ∈ G, inB l G.length = true) (hF : ∀ l ∈ F, inB l G.length = true) (hn : n < G.length) (h : Fw (resG G z) (F.map setB) n) :
    inB [(n : Int)] (resG G z).length = true ∧ 1 ≤ (stemL (resG G z) F z n).length ∧ (stemL (resG G z) F z n).length ≤ G.length ∧ 0 ≤ lastD (stemL (resG G z) F z n) ∧ RndH (resG G z) F (lastD (stemL (resG G z) F z n)).toNat ∧
      LasI G F z n ((stemL (resG G z) F z n).take ((stemL (resG G z) F z n).length - 1)) (rndL (resG G z) F (lastD (stemL (resG G z) F z n)).toNat) := by
  have hg := resG_in hin z
  have hgl := resG_len G z
  have hF' : ∀ l ∈ F, inB l (resG G z).length = true := fun l hl => by rw [hgl]; exact hF l hl
  have hG : ∀ v x, x ∈ (resG G z).getD v [] → x ∈ G.getD v [] ∧ z v = true := fun v x hx => ⟨(mem_resG.1 hx).1, (mem_resG.1 hx).2.1⟩
  generalize resG G z = g at *
  have hin1 : ∀ v x, x ∈ g.getD v [] → x.toNat < g.length := fun v x hx => by have := inB_mem (inB_row hg v) hx; omega
  have hf : inB [(n : Int)] g.length = true := inB_of fun x hx => by rw [List.mem_singleton] at hx; subst hx; omega
  obtain ⟨c, c1, c2, c3⟩ := h
  have hcl := to_lt hin1 (by omega) c1
  have hcp := parts_lt hcl
  have gc : goodF g F z c = true := by
    obtain ⟨x, hx, _⟩ := c2
    unfold goodF
    rw [(hG _ _ hx).2, (good_iff hin1 hF' hcl (by omega)).2 ⟨⟨x, hx, by assumption⟩, c3⟩]
    simp [hcl]
  obtain ⟨_, init, last, e1, e2, e3, e4, e5, e6⟩ := way_ok hg hf ⟨_, List.mem_singleton.2 rfl, wlk_to (to := goodF g F z) (u := (n : Int).toNat) (by rwa [Int.toNat_natCast]) gc⟩
  have hs : stemL g F z n = init ++ [last] := e1
  rw [hs, lastD_app]
  have hl0 := e5 last (by simp)
  have hll : last.toNat < g.length := by omega
  have hlp := parts_lt hll
  have gl : goodT g F (partsG g last.toNat).toNat = true := by
    unfold goodF at e3
    rw [Bool.and_eq_true, Bool.and_eq_true] at e3
    exact e3.2.2
  obtain ⟨q1, q2⟩ := (good_iff hin1 hF' hll (by omega)).1 gl
  have H : RndH g F last.toNat := ⟨hg, hll, q1, fun l hl => q2 _ (List.mem_map.2 ⟨l, hl, rfl⟩)⟩
  obtain ⟨R, _, _⟩ := rndL_ok H
  rw [show (init ++ [last]).take ((init ++ [last]).length - 1) = init by simp]
  refine ⟨hf, by simp, by simp; omega, hl0.1, H, ?_⟩
  generalize rndL g F last.toNat = l at *
  have hh := R.head
  rw [Int.toNat_of_nonneg hl0.1] at hh
  have hc := R.chn
  rw [Int.toNat_of_nonneg hl0.1] at hc
  have hlr : ∃ r, l = last :: r := by
    have := R.ne
    cases l with
    | nil => exact absurd rfl this
    | cons a r => simp at hh; exact ⟨r, by rw [hh]⟩
  obtain ⟨r, rfl⟩ := hlr
  have hc2 : Chn g (init ++ (last :: r) ++ [last]) := by rw [List.append_assoc]; exact chn_app (m := r ++ [last]) hc e4
  refine ⟨R.ne, fun x hx => ?_, chn_mono (fun v x hx => (hG v x hx).1) hc2, ?_, fun x hx => ?_, fun f hf' => ?_, by omega, by have := R.len; rwa [hgl] at this⟩
  · rcases List.mem_append.1 hx with q | q
    · have := e5 x (by simp [q]); omega
    · have := R.rng x q; omega
  · rw [List.mem_singleton] at e2
    rw [← e2]
    cases init with
    | nil => rfl
    | cons a q => rfl
  · obtain ⟨y, hy⟩ := chn_out hc2 x hx
    exact (hG _ _ hy).2
  · have := R.met f hf'
    rw [List.any_eq_true] at this ⊢
    obtain ⟨x, h1, h2⟩ := this
    exact ⟨x, by simpa using h2, by simpa using h1⟩
end

/-! ### XLs1 -/
section
open Go.RowKit
set_option linter.unusedSimpArgs false
set_option linter.unusedVariables false
def c227o_1 : PC := .seq (.ops [⟨some 39,.bin .lss (.tmp 38) (.tmp 37),none,0⟩] false) (.seq (.cond (.tmp 39) (.skip) (.exit 0)) (.seq (.block 1 (.seq (.ops [⟨some 40,.iaddr 1 (.tmp 36) (.tmp 38),none,0⟩,
 ⟨some 41,.load1 (.tmp 40),none,0⟩,
 ⟨some 13,.move (.tmp 41),none,0⟩] false) (.seq (.ops [⟨some 42,.move (.tmp 10),none,0⟩,
 ⟨some 43,.move (.tmp 13),none,0⟩,
 ⟨some 44,.iaddr 1 (.tmp 42) (.tmp 43),none,3⟩,
 ⟨some 45,.load1 (.tmp 44),none,7⟩,
 ⟨some 46,.bin .geq (.tmp 45) (.const (.int .i64 0)),none,15⟩,
 ⟨some 47,.move (.tmp 46),none,31⟩,
 ⟨some 48,.move (.tmp 11),some (47,true),63⟩,
 ⟨some 49,.bin .lss (.tmp 48) (.const (.int .i64 0)),some (47,true),127⟩,
 ⟨some 50,.move (.tmp 49),some (47,true),255⟩,
 ⟨some 51,.move (.tmp 10),some (50,false),511⟩,
 ⟨some 52,.move (.tmp 13),some (50,false),511⟩,
 ⟨some 53,.iaddr 1 (.tmp 51) (.tmp 52),some (50,false),2047⟩,
 ⟨some 54,.load1 (.tmp 53),some (50,false),4095⟩,
 ⟨some 55,.move (.tmp 10),some (50,false),511⟩,
 ⟨some 56,.move (.tmp 11),some (50,false),511⟩,
 ⟨some 57,.iaddr 1 (.tmp 55) (.tmp 56),some (50,false),25087⟩,
 ⟨some 58,.load1 (.tmp 57),some (50,false),57855⟩,
 ⟨some 59,.bin .lss (.tmp 54) (.tmp 58),some (50,false),131071⟩,
 ⟨some 60,.pick (.tmp 50) (.const (.bool true)) (.tmp 59),some (47,true),262143⟩,
 ⟨some 61,.move (.tmp 60),some (47,true),524287⟩,
 ⟨some 62,.move (.tmp 10),some (61,false),1048575⟩,
 ⟨some 63,.move (.tmp 13),some (61,false),1048575⟩,
 ⟨some 64,.iaddr 1 (.tmp 62) (.tmp 63),some (61,false),4194303⟩,
 ⟨some 65,.load1 (.tmp 64),some (61,false),8388607⟩,
 ⟨some 66,.move (.tmp 10),some (61,false),1048575⟩,
 ⟨some 67,.move (.tmp 11),some (61,false),1048575⟩,
 ⟨some 68,.iaddr 1 (.tmp 66) (.tmp 67),some (61,false),51380223⟩,
 ⟨some 69,.load1 (.tmp 68),some (61,false),118489087⟩,
 ⟨some 70,.bin .eql (.tmp 65) (.tmp 69),some (61,false),268435455⟩,
 ⟨some 71,.move (.tmp 70),some (61,false),536870911⟩,
 ⟨some 72,.move (.tmp 13),some (71,true),1073741823⟩,
 ⟨some 73,.move (.tmp 11),some (71,true),1073741823⟩,
 ⟨some 74,.bin .lss (.tmp 72) (.tmp 73),some (71,true),4294967295⟩,
 ⟨some 75,.pick (.tmp 71) (.tmp 74) (.const (.bool false)),some (61,false),8589934591⟩,
 ⟨some 76,.pick (.tmp 61) (.const (.bool true)) (.tmp 75),some (47,true),17179869183⟩,
 ⟨some 77,.pick (.tmp 47) (.tmp 76) (.const (.bool false)),none,34359738367⟩] true) (.cond (.tmp 77) (.ops [⟨some 78,.move (.tmp 13),none,0⟩,
 ⟨some 11,.move (.tmp 78),none,0⟩] false) (.skip))))) (.ops [⟨some 79,.bin .add (.tmp 38) (.const (.int .i64 1)),none,0⟩,
 ⟨some 38,.move (.tmp 79),none,0⟩] false)))
def c227o_3 : PC := .seq (.ops [⟨some 95,.bin .lss (.tmp 94) (.tmp 93),none,0⟩] false) (.seq (.cond (.tmp 95) (.skip) (.exit 4)) (.seq (.block 5 (.seq (.ops [⟨some 96,.iaddr 1 (.tmp 92) (.tmp 94),none,0⟩,
 ⟨some 97,.load1 (.tmp 96),none,0⟩,
 ⟨some 17,.move (.tmp 97),none,0⟩] false) (.seq (.ops [⟨some 98,.move (.tmp 10),none,0⟩,
 ⟨some 99,.move (.tmp 17),none,0⟩,
 ⟨some 100,.iaddr 1 (.tmp 98) (.tmp 99),none,3⟩,
 ⟨some 101,.load1 (.tmp 100),none,7⟩,
 ⟨some 102,.move (.tmp 10),none,0⟩,
 ⟨some 103,.move (.tmp 11),none,0⟩,
 ⟨some 104,.iaddr 1 (.tmp 102) (.tmp 103),none,48⟩,
 ⟨some 105,.load1 (.tmp 104),none,112⟩,
 ⟨some 106,.bin .sub (.tmp 105) (.const (.int .i64 1)),none,240⟩,
 ⟨some 107,.bin .eql (.tmp 101) (.tmp 106),none,511⟩,
 ⟨some 108,.move (.tmp 107),none,1023⟩,
 ⟨some 109,.move (.tmp 15),some (108,true),2047⟩,
 ⟨some 110,.bin .lss (.tmp 109) (.const (.int .i64 0)),some (108,true),4095⟩,
 ⟨some 111,.move (.tmp 110),some (108,true),8191⟩,
 ⟨some 112,.move (.tmp 17),some (111,false),16383⟩,
 ⟨some 113,.move (.tmp 15),some (111,false),16383⟩,
 ⟨some 114,.bin .lss (.tmp 112) (.tmp 113),some (111,false),65535⟩,
 ⟨some 115,.pick (.tmp 111) (.const (.bool true)) (.tmp 114),some (108,true),131071⟩,
 ⟨some 116,.pick (.tmp 108) (.tmp 115) (.const (.bool false)),none,262143⟩] true) (.cond (.tmp 116) (.ops [⟨some 117,.move (.tmp 17),none,0⟩,
 ⟨some 15,.move (.tmp 117),none,0⟩] false) (.skip))))) (.ops [⟨some 118,.bin .add (.tmp 94) (.const (.int .i64 1)),none,0⟩,
 ⟨some 94,.move (.tmp 118),none,0⟩] false)))
def c227o_2 : PC := .seq (.seq (.ops [⟨some 84,.move (.tmp 10),none,0⟩,
 ⟨some 85,.move (.tmp 11),none,0⟩,
 ⟨some 86,.iaddr 1 (.tmp 84) (.tmp 85),none,0⟩,
 ⟨some 87,.load1 (.tmp 86),none,0⟩,
 ⟨some 88,.bin .gtr (.tmp 87) (.const (.int .i64 0)),none,0⟩] false) (.cond (.tmp 88) (.skip) (.exit 2))) (.block 3 (.seq (.ops [⟨some 15,.move (.const (.int .i64 (-1))),none,0⟩] false) (.seq (.seq (.ops [⟨some 89,.move (.tmp 0),none,0⟩,
 ⟨some 90,.move (.tmp 11),none,0⟩,
 ⟨some 91,.iaddr 1 (.tmp 89) (.tmp 90),none,0⟩,
 ⟨some 92,.load1 (.tmp 91),none,0⟩,
 ⟨some 93,.len (.tmp 92),none,0⟩,
 ⟨some 94,.move (.const (.int .i64 0)),none,0⟩] false) (.block 4 (.loop c227o_3))) (.seq (.ops [⟨some 119,.move (.tmp 15),none,0⟩,
 ⟨some 11,.move (.tmp 119),none,0⟩] false) (.ops [⟨some 120,.move (.tmp 14),none,0⟩,
 ⟨some 121,.move (.tmp 11),none,0⟩,
 ⟨some 122,.bslice 1 1 [(.tmp 121)],none,0⟩,
 ⟨some 123,.append 1 8 (.tmp 120) (.tmp 122),none,0⟩,
 ⟨some 14,.move (.tmp 123),none,0⟩] false)))))
def c227o : PC := .seq (.ops [⟨some 6,.move (.const (.slice none 0 0)),none,0⟩,
 ⟨some 7,.move (.const (.bool false)),none,0⟩,
 ⟨some 8,.move (.const (.int .i64 0)),none,0⟩] false) (.seq (.seq (.ops [⟨some 18,.move (.tmp 0),none,0⟩,
 ⟨some 19,.call 68 [(.tmp 18)],none,0⟩,
 ⟨some 9,.move (.tmp 19),none,0⟩] false) (.seq (.ops [⟨some 20,.move (.tmp 9),none,0⟩,
 ⟨some 21,.bin .neq (.tmp 20) (.const (.int .i64 0)),none,0⟩] false) (.cond (.tmp 21) (.seq (.ops [⟨some 22,.move (.tmp 9),none,0⟩,
 ⟨some 6,.move (.const (.slice none 0 0)),none,0⟩,
 ⟨some 7,.move (.const (.bool false)),none,0⟩,
 ⟨some 8,.move (.tmp 22),none,0⟩] false) (.ret)) (.skip)))) (.seq (.seq (.ops [⟨some 23,.move (.tmp 0),none,0⟩,
 ⟨some 24,.move (.tmp 1),none,0⟩,
 ⟨some 25,.call 70 [(.tmp 23), (.tmp 24)],none,0⟩,
 ⟨some 26,.move (.tmp 25),none,0⟩,
 ⟨some 27,.move (.tmp 2),some (26,false),0⟩,
 ⟨some 28,.len (.tmp 27),some (26,false),0⟩,
 ⟨some 29,.move (.tmp 0),some (26,false),0⟩,
 ⟨some 30,.len (.tmp 29),some (26,false),0⟩,
 ⟨some 31,.bin .neq (.tmp 28) (.tmp 30),some (26,false),0⟩,
 ⟨some 32,.pick (.tmp 26) (.const (.bool true)) (.tmp 31),none,0⟩] false) (.cond (.tmp 32) (.seq (.ops [⟨some 6,.move (.const (.slice none 0 0)),none,0⟩,
 ⟨some 7,.move (.const (.bool false)),none,0⟩,
 ⟨some 8,.move (.const (.int .i64 1)),none,0⟩] false) (.ret)) (.skip))) (.seq (.ops [⟨some 33,.move (.tmp 0),none,0⟩,
 ⟨some 34,.move (.tmp 2),none,0⟩,
 ⟨some 35,.call 249 [(.tmp 33), (.tmp 34)],none,0⟩,
 ⟨some 10,.move (.tmp 35),none,0⟩] false) (.seq (.ops [⟨some 11,.move (.const (.int .i64 (-1))),none,0⟩] false) (.seq (.seq (.ops [⟨some 36,.move (.tmp 1),none,0⟩,
 ⟨some 37,.len (.tmp 36),none,0⟩,
 ⟨some 38,.move (.const (.int .i64 0)),none,0⟩] false) (.block 0 (.loop c227o_1))) (.seq (.seq (.ops [⟨some 80,.move (.tmp 11),none,0⟩,
 ⟨some 81,.bin .lss (.tmp 80) (.const (.int .i64 0)),none,0⟩] false) (.cond (.tmp 81) (.seq (.ops [⟨some 6,.move (.const (.slice none 0 0)),none,0⟩,
 ⟨some 7,.move (.const (.bool false)),none,0⟩,
 ⟨some 8,.move (.const (.int .i64 0)),none,0⟩] false) (.ret)) (.skip))) (.seq (.ops [⟨some 82,.move (.tmp 11),none,0⟩,
 ⟨some 83,.bslice 1 1 [(.tmp 82)],none,0⟩,
 ⟨some 14,.move (.tmp 83),none,0⟩] false) (.seq (.block 2 (.loop c227o_2)) (.seq (.ops [⟨some 124,.move (.tmp 14),none,0⟩,
 ⟨some 6,.move (.tmp 124),none,0⟩,
 ⟨some 7,.move (.const (.bool true)),none,0⟩,
 ⟨some 8,.move (.const (.int .i64 0)),none,0⟩] false) (.ret))))))))))
set_option maxRecDepth 100000 in
theorem c227o_ok : FunOK Try.prog 227 125 [.tmp 6, .tmp 7, .tmp 8] c227o := ⟨⟨Try.f227, Try.func227, rfl, by kernel_rfl, rfl, by kernel_rfl⟩⟩
set_option maxRecDepth 100000 in
theorem scc_WayO (g : List (List Int)) (hg : chkG g = 0) (hF : FitsG g) (x0 : Int) (Z : List Int) (lo ver : Nat) (hlo : lo < Z.length) (hZ : Z.getD lo 0 = x0) (hf : inB [x0] g.length = true) (to : Nat → Bool) (hto : ∀ i, g.length ≤ i → to i = false) :
    ACall Try.prog 227 [dgrid g, .own 0 ver lo (lo + 1), dbl g.length to] [.vec true ver 1 (i64s Z)] (.tup [dints (wayL g [x0] to), .sc (.bool (decide (0 ≤ wayS g [x0] to))), .sc (.int .i64 0)]) [.vec true ver 1 (i64s Z)] := by
  have hcut : ((i64s Z).take (lo + 1)).drop lo = i64s [x0] := by
    rw [List.take_add_one, List.getElem?_eq_getElem (by simpa using hlo), List.drop_append_of_le_length (by simp; omega), List.drop_eq_nil_of_le (by simp; omega)]
    rw [List.getD_eq_getElem?_getD, List.getElem?_eq_getElem hlo] at hZ
    simp at hZ
    simp [i64s, hZ]
  obtain ⟨hn, hin⟩ := chkG_zero.1 hg
  refine acall_introD c227o_ok (by simp) (by simp) ?_ (by simp [Under, UnderL, under_pure _ (pure_dints _)])
  (apply rd_sound; focus (repeat' constructor))
  ((conv=>whnf);repeat(refine .intro rfl ?_;conv=>whnf))
  (refine .inl ⟨_, (scc_Check g hF), ?_⟩; ((conv=>whnf);repeat(refine .intro rfl ?_;conv=>whnf)))
  (refine ifK_split (fun h1 => ?_) (fun h1 => ?_) <;> (rw [h1]; ((conv=>whnf);repeat(refine .intro rfl ?_;conv=>whnf))))
  · exfalso; ((try simp only[oo,reduceCtorEq]at*)<;>omega)
  refine .inr (.inl ⟨_, _, .cons _ _ _ _ (.refl _) (.cons _ _ _ _ (.own _ _ _ _ _ _ _ _ rfl (by rw [hcut]; exact deepLL_refl _)) .nil), scc_odd g [x0] (by simp), rfl, ?_⟩)
  ((conv=>whnf);repeat(refine .intro rfl ?_;conv=>whnf))
  rw [hf]
  ((conv=>whnf);repeat(refine .intro rfl ?_;conv=>whnf))
  rw [rbl_len, List.length_map]
  (refine ifK_split (fun h3 => ?_) (fun h3 => ?_) <;> (rw [h3]; ((conv=>whnf);repeat(refine .intro rfl ?_;conv=>whnf))))
  · exfalso; ((try simp only[oo,reduceCtorEq]at*)<;>omega)
  (refine .inl ⟨_, (scc_far g hg hF to hto), ?_⟩; ((conv=>whnf);repeat(refine .intro rfl ?_;conv=>whnf)))
  have hdl := fun i (h : i < g.length) => dis_lt hin (to := to) h
  have hdm := dis_low g to
  have eW : wayS g [x0] to = startTo (dis g to) [x0] 1 := rfl
  have eL : wayL g [x0] to = if 0 ≤ wayS g [x0] to then walkW g (dis g to) (dis g to (wayS g [x0] to).toNat).toNat (wayS g [x0] to) else [] := rfl
  have hst := @start_ok g [x0] hf to
  have hnx := @next_ok g hin to
  generalize dis g to = o at hdl hdm eW eL hst hnx
  refine pwp_for [0, 10, 36, 37] (fun k : Nat => [(11, .sc (.int .i64 (startTo o [x0] k))), (38, .sc (.int .i64 k))]) (fun _ => []) (fun k => k ≤ 1) (fun k => 1 - k) 0 ?_
  ((conv=>whnf);repeat(refine .intro rfl ?_;conv=>whnf))
  refine ⟨by omega, by (repeat' (first | exact trivial | refine And.intro rfl ?_)), rfl, ?_⟩
  rintro k hk
  ((conv=>whnf);repeat(refine .intro rfl ?_;conv=>whnf))
  (apply rd_sound; focus (repeat' constructor))
  ((conv=>whnf);repeat(refine .intro rfl ?_;conv=>whnf))
  (refine ifK_split (fun h4 => ?_) (fun h4 => ?_) <;> (rw [h4]; ((conv=>whnf);repeat(refine .intro rfl ?_;conv=>whnf))))
  · have hk' : k < 1 := by ((try simp only[oo,reduceCtorEq]at*)<;>omega)
    have hx := inB_getD hf hk'
    have hr := startTo_rng (o := o) hf k (by omega)
    have hk0 : k = 0 := by omega
    have hZk : Z.getD lo 0 = [x0].getD k 0 := by rw [hk0]; exact hZ
    (refine ⟨by omega, (by first | omega | (simp; done) | (simp; omega) | (simp only [ll]; omega)), ?_⟩; ((conv=>whnf);repeat(refine .intro rfl ?_;conv=>whnf)))
    refine ⟨_, i64s_at (l := Z) (k := lo) (by omega) hlo, ?_⟩
    ((conv=>whnf);repeat(refine .intro rfl ?_;conv=>whnf))
    rw [hZk]
    have eS : startTo o [x0] (k + 1) = if 0 ≤ o ([x0].getD k 0).toNat ∧ (startTo o [x0] k < 0 ∨ o ([x0].getD k 0).toNat < o (startTo o [x0] k).toNat ∨ (o ([x0].getD k 0).toNat = o (startTo o [x0] k).toNat ∧ [x0].getD k 0 < startTo o [x0] k)) then [x0].getD k 0 else startTo o [x0] k := rfl
    generalize [x0].getD k 0 = x at eS hx
    generalize startTo o [x0] k = a at eS hr
    refine ⟨by omega, _, gl_atN x.toNat (by omega) (by omega), ?_⟩
    ((conv=>whnf);repeat(refine .intro rfl ?_;conv=>whnf))
    (refine ifK_split (fun c1 => ?_) (fun c1 => ?_) <;> (rw [c1]; ((conv=>whnf);repeat(refine .intro rfl ?_;conv=>whnf))))
    · have c1 : 0 ≤ o x.toNat := by ((try simp only[oo,reduceCtorEq]at*)<;>omega)
      (refine ifK_split (fun c2 => ?_) (fun c2 => ?_) <;> (rw [c2]; ((conv=>whnf);repeat(refine .intro rfl ?_;conv=>whnf))))
      · have hc : 0 ≤ o x.toNat ∧ (a < 0 ∨ o x.toNat < o a.toNat ∨ (o x.toNat = o a.toNat ∧ x < a)) := ⟨c1, .inl (by ((try simp only[oo,reduceCtorEq]at*)<;>omega))⟩
        ((conv=>whnf);repeat(refine .intro rfl ?_;conv=>whnf))
        (refine .inl ⟨by (unfold InR; rw [IntKind.wrap_i64]; omega), ?_⟩; ((conv=>whnf);repeat(refine .intro rfl ?_;conv=>whnf)))
        refine ⟨k + 1, by omega, by dsimp only; omega, ?_⟩
        dsimp only
        rw [eS, if_pos hc]
        exact leB_envH (by (repeat' (first | exact trivial | refine And.intro rfl ?_))) rfl
      · have c2 : ¬ a < 0 := by ((try simp only[oo,reduceCtorEq]at*)<;>omega)
        refine ⟨by omega, _, gl_atN x.toNat (by omega) (by omega), ?_⟩
        ((conv=>whnf);repeat(refine .intro rfl ?_;conv=>whnf))
        refine ⟨by omega, _, gl_atN a.toNat (by omega) (by omega), ?_⟩
        ((conv=>whnf);repeat(refine .intro rfl ?_;conv=>whnf))
        (refine ifK_split (fun c3 => ?_) (fun c3 => ?_) <;> (rw [c3]; ((conv=>whnf);repeat(refine .intro rfl ?_;conv=>whnf))))
        · have hc : 0 ≤ o x.toNat ∧ (a < 0 ∨ o x.toNat < o a.toNat ∨ (o x.toNat = o a.toNat ∧ x < a)) := ⟨c1, .inr (.inl (by ((try simp only[oo,reduceCtorEq]at*)<;>omega)))⟩
          ((conv=>whnf);repeat(refine .intro rfl ?_;conv=>whnf))
          (refine .inl ⟨by (unfold InR; rw [IntKind.wrap_i64]; omega), ?_⟩; ((conv=>whnf);repeat(refine .intro rfl ?_;conv=>whnf)))
          refine ⟨k + 1, by omega, by dsimp only; omega, ?_⟩
          dsimp only
          rw [eS, if_pos hc]
          exact leB_envH (by (repeat' (first | exact trivial | refine And.intro rfl ?_))) rfl
        · have c3 : ¬ o x.toNat < o a.toNat := by ((try simp only[oo,reduceCtorEq]at*)<;>omega)
          refine ⟨by omega, _, gl_atN x.toNat (by omega) (by omega), ?_⟩
          ((conv=>whnf);repeat(refine .intro rfl ?_;conv=>whnf))
          refine ⟨by omega, _, gl_atN a.toNat (by omega) (by omega), ?_⟩
          ((conv=>whnf);repeat(refine .intro rfl ?_;conv=>whnf))
          (refine ifK_split (fun c4 => ?_) (fun c4 => ?_) <;> (rw [c4]; ((conv=>whnf);repeat(refine .intro rfl ?_;conv=>whnf))))
          · have c4 : o x.toNat = o a.toNat := by ((try simp only[oo,reduceCtorEq]at*)<;>omega)
            (refine ifK_split (fun c5 => ?_) (fun c5 => ?_) <;> (rw [c5]; ((conv=>whnf);repeat(refine .intro rfl ?_;conv=>whnf))))
            · have hc : 0 ≤ o x.toNat ∧ (a < 0 ∨ o x.toNat < o a.toNat ∨ (o x.toNat = o a.toNat ∧ x < a)) := ⟨c1, .inr (.inr ⟨c4, by ((try simp only[oo,reduceCtorEq]at*)<;>omega)⟩)⟩
              ((conv=>whnf);repeat(refine .intro rfl ?_;conv=>whnf))
              (refine .inl ⟨by (unfold InR; rw [IntKind.wrap_i64]; omega), ?_⟩; ((conv=>whnf);repeat(refine .intro rfl ?_;conv=>whnf)))
              refine ⟨k + 1, by omega, by dsimp only; omega, ?_⟩
              dsimp only
              rw [eS, if_pos hc]
              exact leB_envH (by (repeat' (first | exact trivial | refine And.intro rfl ?_))) rfl
            · have c5 : ¬ x < a := by ((try simp only[oo,reduceCtorEq]at*)<;>omega)
              have hc : ¬ (0 ≤ o x.toNat ∧ (a < 0 ∨ o x.toNat < o a.toNat ∨ (o x.toNat = o a.toNat ∧ x < a))) := by omega
              ((conv=>whnf);repeat(refine .intro rfl ?_;conv=>whnf))
              (refine .inl ⟨by (unfold InR; rw [IntKind.wrap_i64]; omega), ?_⟩; ((conv=>whnf);repeat(refine .intro rfl ?_;conv=>whnf)))
              refine ⟨k + 1, by omega, by dsimp only; omega, ?_⟩
              dsimp only
              rw [eS, if_neg hc]
              exact leB_envH (by (repeat' (first | exact trivial | refine And.intro rfl ?_))) rfl
          · have c4 : o x.toNat ≠ o a.toNat := by ((try simp only[oo,reduceCtorEq]at*)<;>omega)
            have hc : ¬ (0 ≤ o x.toNat ∧ (a < 0 ∨ o x.toNat < o a.toNat ∨ (o x.toNat = o a.toNat ∧ x < a))) := by omega
            ((conv=>whnf);repeat(refine .intro rfl ?_;conv=>whnf))
            (refine .inl ⟨by (unfold InR; rw [IntKind.wrap_i64]; omega), ?_⟩; ((conv=>whnf);repeat(refine .intro rfl ?_;conv=>whnf)))
            refine ⟨k + 1, by omega, by dsimp only; omega, ?_⟩
            dsimp only
            rw [eS, if_neg hc]
            exact leB_envH (by (repeat' (first | exact trivial | refine And.intro rfl ?_))) rfl
    · have hc : ¬ (0 ≤ o x.toNat ∧ (a < 0 ∨ o x.toNat < o a.toNat ∨ (o x.toNat = o a.toNat ∧ x < a))) := fun h => by ((try simp only[oo,reduceCtorEq]at*)<;>omega)
      ((conv=>whnf);repeat(refine .intro rfl ?_;conv=>whnf))
      (refine .inl ⟨by (unfold InR; rw [IntKind.wrap_i64]; omega), ?_⟩; ((conv=>whnf);repeat(refine .intro rfl ?_;conv=>whnf)))
      refine ⟨k + 1, by omega, by dsimp only; omega, ?_⟩
      dsimp only
      rw [eS, if_neg hc]
      exact leB_envH (by (repeat' (first | exact trivial | refine And.intro rfl ?_))) rfl
  · have hk' : k = 1 := by have : ¬ k < 1 := by ((try simp only[oo,reduceCtorEq]at*)<;>omega)
                           omega
    subst hk'
    rw [← eW]
    generalize wayS g [x0] to = a at eL hst
    (refine ifK_split (fun h5 => ?_) (fun h5 => ?_) <;> (rw [h5]; ((conv=>whnf);repeat(refine .intro rfl ?_;conv=>whnf))))
    · have h5 : ¬ 0 ≤ a := by ((try simp only[oo,reduceCtorEq]at*)<;>omega)
      rw [eL, if_neg h5, decide_eq_false h5]
      refine ⟨.tup _ _ (.cons _ _ _ _ (.none _) (.refl _)), ?_⟩
      (repeat' (first | exact trivial | exact rfl | exact DeepM.refl _ | exact DeepML.refl _ | exact DeepMLL.refl _ | refine And.intro ?_ ?_ | (simp [Under, UnderL, UnderLL, -List.map_take, -List.map_drop]; done)))
    · have h5 : 0 ≤ a := by ((try simp only[oo,reduceCtorEq]at*)<;>omega)
      obtain ⟨ha1, ha2⟩ := hst h5
      rw [eL, if_pos h5, decide_eq_true h5]
      generalize hW : walkW g o (o a.toNat).toNat a = W
      have ha3 := hdl a.toNat (by omega)
      refine pwp_for [0, 10] (fun ((b, pre) : Int × List Int) => [(11, .sc (.int .i64 b)), (14, .own 1 pre.length 0 (pre.length + 1))]) (fun (b, pre) => [(1, .vec true pre.length 1 (i64s (pre ++ [b])))])
        (fun (b, pre) => 0 ≤ b ∧ b < (g.length : Int) ∧ 0 ≤ o b.toNat ∧ pre.length + (o b.toNat).toNat ≤ 20000 ∧ pre ++ walkW g o (o b.toNat).toNat b = W) (fun (b, pre) => (o b.toNat).toNat) (a, []) ?_
      ((conv=>whnf);repeat(refine .intro rfl ?_;conv=>whnf))
      refine ⟨⟨h5, ha1, ha2, by simp; omega, hW⟩, by (repeat' (first | exact trivial | refine And.intro rfl ?_)), rfl, ?_⟩
      rintro ⟨b, pre⟩ ⟨hb1, hb2, hb3, hb4, hb5⟩
      ((conv=>whnf);repeat(refine .intro rfl ?_;conv=>whnf))
      (apply rd_sound; focus (repeat' constructor))
      ((conv=>whnf);repeat(refine .intro rfl ?_;conv=>whnf))
      refine ⟨by omega, _, gl_atN b.toNat (by omega) (by omega), ?_⟩
      ((conv=>whnf);repeat(refine .intro rfl ?_;conv=>whnf))
      have hb6 := hdl b.toNat (by omega)
      (refine ifK_split (fun h6 => ?_) (fun h6 => ?_) <;> (rw [h6]; ((conv=>whnf);repeat(refine .intro rfl ?_;conv=>whnf))))
      · obtain ⟨d, ed⟩ : ∃ d : Nat, o b.toNat = (d : Int) + 1 := ⟨(o b.toNat).toNat - 1, by have h6 : 0 < o b.toNat := by ((try simp only[oo,reduceCtorEq]at*)<;>omega)
                                                                                            omega⟩
        obtain ⟨n1, n2, n3⟩ := hnx ed
        rw [show (o b.toNat).toNat = d + 1 by omega, walkW_succ] at hb5
        refine ⟨by omega, _, gridD_at (g := g) (k := b.toNat) (by omega) (by omega), ?_⟩
        ((conv=>whnf);repeat(refine .intro rfl ?_;conv=>whnf))
        rw [List.length_map]
        have hB := inB_row hin b.toNat
        have hBl := hF.at b.toNat
        generalize g.getD b.toNat [] = L at n1 n2 n3 hb5 hB hBl
        refine pwp_for [0, 10, 11, 14, 92, 93] (fun k : Nat => [(15, .sc (.int .i64 (bestTo (fun n => decide (o n = (d : Int))) L k))), (94, .sc (.int .i64 k))]) (fun _ => []) (fun k => k ≤ L.length) (fun k => L.length - k) 0 ?_
        ((conv=>whnf);repeat(refine .intro rfl ?_;conv=>whnf))
        refine ⟨by omega, by (repeat' (first | exact trivial | refine And.intro rfl ?_)), rfl, ?_⟩
        rintro k hk
        ((conv=>whnf);repeat(refine .intro rfl ?_;conv=>whnf))
        (apply rd_sound; focus (repeat' constructor))
        ((conv=>whnf);repeat(refine .intro rfl ?_;conv=>whnf))
        (refine ifK_split (fun h7 => ?_) (fun h7 => ?_) <;> (rw [h7]; ((conv=>whnf);repeat(refine .intro rfl ?_;conv=>whnf))))
        · have hk' : k < L.length := by ((try simp only[oo,reduceCtorEq]at*)<;>omega)
          have hx := inB_getD hB hk'
          refine ⟨by omega, _, intsD_at (l := L) (k := k) (by omega) hk', ?_⟩
          ((conv=>whnf);repeat(refine .intro rfl ?_;conv=>whnf))
          have eS : bestTo (fun n => decide (o n = (d : Int))) L (k + 1) = if decide (o (L.getD k 0).toNat = (d : Int)) = true ∧ (bestTo (fun n => decide (o n = (d : Int))) L k < 0 ∨ L.getD k 0 < bestTo (fun n => decide (o n = (d : Int))) L k) then L.getD k 0 else bestTo (fun n => decide (o n = (d : Int))) L k := rfl
          simp only [decide_eq_true_eq] at eS
          generalize L.getD k 0 = x at eS hx
          generalize bestTo (fun n => decide (o n = (d : Int))) L k = y at eS
          refine ⟨by omega, _, gl_atN x.toNat (by omega) (by omega), ?_⟩
          ((conv=>whnf);repeat(refine .intro rfl ?_;conv=>whnf))
          refine ⟨by omega, _, gl_atN b.toNat (by omega) (by omega), ?_⟩
          ((conv=>whnf);repeat(refine .intro rfl ?_;conv=>whnf))
          (refine .inl ⟨by (unfold InR; rw [IntKind.wrap_i64]; omega), ?_⟩; ((conv=>whnf);repeat(refine .intro rfl ?_;conv=>whnf)))
          (refine ifK_split (fun c1 => ?_) (fun c1 => ?_) <;> (rw [c1]; ((conv=>whnf);repeat(refine .intro rfl ?_;conv=>whnf))))
          · have c1 : o x.toNat = d := by ((try simp only[oo,reduceCtorEq]at*)<;>omega)
            (refine ifK_split (fun c2 => ?_) (fun c2 => ?_) <;> (rw [c2]; ((conv=>whnf);repeat(refine .intro rfl ?_;conv=>whnf))))
            · have hc : o x.toNat = (d : Int) ∧ (y < 0 ∨ x < y) := ⟨c1, .inl (by ((try simp only[oo,reduceCtorEq]at*)<;>omega))⟩
              ((conv=>whnf);repeat(refine .intro rfl ?_;conv=>whnf))
              (refine .inl ⟨by (unfold InR; rw [IntKind.wrap_i64]; omega), ?_⟩; ((conv=>whnf);repeat(refine .intro rfl ?_;conv=>whnf)))
              refine ⟨k + 1, by omega, by dsimp only; omega, ?_⟩
              dsimp only
              rw [eS, if_pos hc]
              exact leB_envH (by (repeat' (first | exact trivial | refine And.intro rfl ?_))) rfl
            · have c2 : ¬ y < 0 := by ((try simp only[oo,reduceCtorEq]at*)<;>omega)
              (refine ifK_split (fun c3 => ?_) (fun c3 => ?_) <;> (rw [c3]; ((conv=>whnf);repeat(refine .intro rfl ?_;conv=>whnf))))
              · have hc : o x.toNat = (d : Int) ∧ (y < 0 ∨ x < y) := ⟨c1, .inr (by ((try simp only[oo,reduceCtorEq]at*)<;>omega))⟩
                ((conv=>whnf);repeat(refine .intro rfl ?_;conv=>whnf))
                (refine .inl ⟨by (unfold InR; rw [IntKind.wrap_i64]; omega), ?_⟩; ((conv=>whnf);repeat(refine .intro rfl ?_;conv=>whnf)))
                refine ⟨k + 1, by omega, by dsimp only; omega, ?_⟩
                dsimp only
                rw [eS, if_pos hc]
                exact leB_envH (by (repeat' (first | exact trivial | refine And.intro rfl ?_))) rfl
              · have hc : ¬ (o x.toNat = (d : Int) ∧ (y < 0 ∨ x < y)) := fun h => by ((try simp only[oo,reduceCtorEq]at*)<;>omega)
                ((conv=>whnf);repeat(refine .intro rfl ?_;conv=>whnf))
                (refine .inl ⟨by (unfold InR; rw [IntKind.wrap_i64]; omega), ?_⟩; ((conv=>whnf);repeat(refine .intro rfl ?_;conv=>whnf)))
                refine ⟨k + 1, by omega, by dsimp only; omega, ?_⟩
                dsimp only
                rw [eS, if_neg hc]
                exact leB_envH (by (repeat' (first | exact trivial | refine And.intro rfl ?_))) rfl
          · have hc : ¬ (o x.toNat = (d : Int) ∧ (y < 0 ∨ x < y)) := fun h => by ((try simp only[oo,reduceCtorEq]at*)<;>omega)
            ((conv=>whnf);repeat(refine .intro rfl ?_;conv=>whnf))
            (refine .inl ⟨by (unfold InR; rw [IntKind.wrap_i64]; omega), ?_⟩; ((conv=>whnf);repeat(refine .intro rfl ?_;conv=>whnf)))
            refine ⟨k + 1, by omega, by dsimp only; omega, ?_⟩
            dsimp only
            rw [eS, if_neg hc]
            exact leB_envH (by (repeat' (first | exact trivial | refine And.intro rfl ?_))) rfl
        · have hk' : k = L.length := by have : ¬ k < L.length := by ((try simp only[oo,reduceCtorEq]at*)<;>omega)
                                        omega
          subst hk'
          generalize bestTo (fun n => decide (o n = (d : Int))) L L.length = y at n1 n2 n3 hb5
          refine ⟨(by unfold sliceAppend; simp only [ll]; omega), ?_⟩
          ((conv=>whnf);repeat(refine .intro rfl ?_;conv=>whnf))
          refine ⟨(y, pre ++ [b]), ⟨n1, n2, by omega, by simp; omega, ?_⟩, by dsimp only; omega, ?_⟩
          · rw [n3, Int.toNat_natCast, ← hb5]; simp
          · dsimp only
            rw [show (pre ++ [b]).length = pre.length + 1 by simp]
            (refine leB_close 2 (by simp) rfl ?_ ?_ <;> (repeat' (first | exact trivial | exact rfl | exact DeepM.refl _ | exact DeepML.refl _ | exact DeepMLL.refl _ | refine And.intro ?_ ?_ | (simp [Under, UnderL, UnderLL, -List.map_take, -List.map_drop]; done))))
            exact deepMLL_eq (by rw [List.take_of_length_le (by simp), List.drop_zero]; simp [i64s])
      · have h6 : o b.toNat = 0 := by ((try simp only[oo,reduceCtorEq]at*)<;>omega)
        rw [h6] at hb5
        refine ⟨.tup _ _ (.cons _ _ _ _ ?_ (.refl _)), ?_⟩
        · rw [← hb5]
          exact .own _ _ _ _ _ _ _ _ rfl rfl (by rw [List.drop_zero, List.take_of_length_le (by simp)]; exact .refl _)
        · (repeat' (first | exact trivial | exact rfl | exact DeepM.refl _ | exact DeepML.refl _ | exact DeepMLL.refl _ | refine And.intro ?_ ?_ | (simp [Under, UnderL, UnderLL, -List.map_take, -List.map_drop]; done)))
end

/-! ### XLs2 -/
section
open Go.RowKit
set_option linter.unusedSimpArgs false
set_option linter.unusedVariables false
def c247 : PC := .seq (.ops [⟨some 4,.move (.const (.bool false)),none,0⟩] false) (.seq (.ops [⟨some 5,.load1 (.tmp 1),none,0⟩,
 ⟨some 6,.move (.tmp 0),none,0⟩,
 ⟨some 7,.iaddr 1 (.tmp 5) (.tmp 6),none,3⟩,
 ⟨some 8,.load1 (.tmp 7),none,7⟩,
 ⟨some 9,.load1 (.tmp 1),none,0⟩,
 ⟨some 10,.load1 (.tmp 2),none,0⟩,
 ⟨some 11,.iaddr 1 (.tmp 9) (.tmp 10),none,48⟩,
 ⟨some 12,.load1 (.tmp 11),none,112⟩,
 ⟨some 13,.bin .eql (.tmp 8) (.tmp 12),none,255⟩,
 ⟨some 4,.move (.tmp 13),none,511⟩] true) (.ret))
set_option maxRecDepth 100000 in
theorem c247_ok : FunOK Try.prog 247 14 [.tmp 4] c247 := ⟨⟨Try.f247, Try.func247, rfl, by kernel_rfl, rfl, by kernel_rfl⟩⟩
theorem lg_same (g : List (List Int)) (x : Int) (hx : 0 ≤ x ∧ x < (g.length : Int)) (n : Nat) (hn : n < g.length) : PCall Try.prog 247 [.sc (.int .i64 x), .ipt [dints (partsL g)], .ipt [.sc (.int .i64 n)]] (.sc (.bool (partsG g x.toNat == partsG g n))) := by
  refine pcall_intro c247_ok (by simp) (by simp [PureL, Pure, pure_dints]) ?_ (by simp [Pure])
  unfold partsL dints
  (apply rd_sound; focus (repeat' constructor))
  ((conv=>whnf);repeat(refine .intro rfl ?_;conv=>whnf))
  refine ⟨by omega, _, gl_atN x.toNat (by omega) (by omega), ?_⟩
  ((conv=>whnf);repeat(refine .intro rfl ?_;conv=>whnf))
  refine ⟨by omega, _, gl_atN n (by omega) hn, ?_⟩
  ((conv=>whnf);repeat(refine .intro rfl ?_;conv=>whnf))
  exact .refl _
def c248 : PC := .seq (.ops [⟨some 5,.move (.const (.bool false)),none,0⟩] false) (.seq (.ops [⟨some 6,.load1 (.tmp 1),none,0⟩,
 ⟨some 7,.move (.tmp 0),none,0⟩,
 ⟨some 8,.iaddr 1 (.tmp 6) (.tmp 7),none,3⟩,
 ⟨some 9,.load1 (.tmp 8),none,7⟩,
 ⟨some 10,.move (.tmp 9),none,15⟩,
 ⟨some 11,.load1 (.tmp 2),some (10,true),31⟩,
 ⟨some 12,.load1 (.tmp 3),some (10,true),31⟩,
 ⟨some 13,.move (.tmp 0),some (10,true),31⟩,
 ⟨some 14,.iaddr 1 (.tmp 12) (.tmp 13),some (10,true),223⟩,
 ⟨some 15,.load1 (.tmp 14),some (10,true),479⟩,
 ⟨some 16,.iaddr 1 (.tmp 11) (.tmp 15),some (10,true),1023⟩,
 ⟨some 17,.load1 (.tmp 16),some (10,true),2047⟩,
 ⟨some 18,.pick (.tmp 10) (.tmp 17) (.const (.bool false)),none,4095⟩,
 ⟨some 5,.move (.tmp 18),none,8191⟩] true) (.ret))
set_option maxRecDepth 100000 in
theorem c248_ok : FunOK Try.prog 248 19 [.tmp 5] c248 := ⟨⟨Try.f248, Try.func248, rfl, by kernel_rfl, rfl, by kernel_rfl⟩⟩
theorem lg_both (g : List (List Int)) (z o : Nat → Bool) (n : Nat) (hn : n < g.length) : PCall Try.prog 248 [.sc (.int .i64 n), .ipt [dbl g.length z], .ipt [dbl g.length o], .ipt [dints (partsL g)]] (.sc (.bool (z n && o (partsG g n).toNat))) := by
  have hp := parts_lt hn
  refine pcall_intro c248_ok (by simp) (by simp [PureL, Pure, pure_dints, pure_dbl]) ?_ (by simp [Pure])
  unfold partsL dints
  (apply rd_sound; focus (repeat' constructor))
  ((conv=>whnf);repeat(refine .intro rfl ?_;conv=>whnf))
  refine ⟨by omega, _, rbl_atN n (by omega) hn, ?_⟩
  cases r : z n
  · ((conv=>whnf);repeat(refine .intro rfl ?_;conv=>whnf))
    exact .refl _
  · ((conv=>whnf);repeat(refine .intro rfl ?_;conv=>whnf))
    refine ⟨by omega, _, gl_atN n (by omega) hn, ?_⟩
    ((conv=>whnf);repeat(refine .intro rfl ?_;conv=>whnf))
    refine ⟨by omega, _, rbl_atN (partsG g n).toNat (by omega) (by omega), ?_⟩
    ((conv=>whnf);repeat(refine .intro rfl ?_;conv=>whnf))
    exact .refl _
def c226_1 : PC := .seq (.ops [⟨some 24,.bin .lss (.tmp 23) (.tmp 22),none,0⟩] false) (.seq (.cond (.tmp 24) (.skip) (.exit 0)) (.seq (.block 1 (.seq (.ops [⟨some 25,.move (.tmp 23),none,0⟩,
 ⟨some 26,.iaddr 1 (.tmp 21) (.tmp 23),none,0⟩,
 ⟨some 27,.load1 (.tmp 26),none,0⟩,
 ⟨some 10,.alloc [(.int .i64 0)],none,0⟩,
 ⟨none,.store 1 (.tmp 10) (.tmp 25),none,0⟩,
 ⟨some 11,.move (.tmp 27),none,0⟩] false) (.seq (.ops [⟨some 28,.move (.tmp 11),none,0⟩,
 ⟨some 29,.mkfn (.func 247) [] [(.tmp 6), (.tmp 10)],none,0⟩,
 ⟨some 30,.call 121 [(.tmp 28), (.tmp 29)],none,0⟩] false) (.cond (.tmp 30) (.ops [⟨some 31,.load1 (.tmp 9),none,0⟩,
 ⟨some 32,.load1 (.tmp 6),none,0⟩,
 ⟨some 33,.load1 (.tmp 10),none,0⟩,
 ⟨some 34,.iaddr 1 (.tmp 32) (.tmp 33),none,6⟩,
 ⟨some 35,.load1 (.tmp 34),none,14⟩,
 ⟨some 36,.iaddr 1 (.tmp 31) (.tmp 35),none,31⟩,
 ⟨none,.store 1 (.tmp 36) (.const (.bool true)),none,63⟩] true) (.skip))))) (.ops [⟨some 37,.bin .add (.tmp 23) (.const (.int .i64 1)),none,0⟩,
 ⟨some 23,.move (.tmp 37),none,0⟩] false)))
def c226_3 : PC := .seq (.ops [⟨some 54,.bin .lss (.tmp 53) (.tmp 52),none,0⟩] false) (.seq (.cond (.tmp 54) (.skip) (.exit 4)) (.seq (.block 5 (.seq (.ops [⟨some 55,.iaddr 1 (.tmp 51) (.tmp 53),none,0⟩,
 ⟨some 56,.load1 (.tmp 55),none,0⟩,
 ⟨some 16,.move (.tmp 56),none,0⟩] false) (.ops [⟨some 57,.move (.tmp 14),none,0⟩,
 ⟨some 58,.load1 (.tmp 6),none,0⟩,
 ⟨some 59,.move (.tmp 16),none,0⟩,
 ⟨some 60,.iaddr 1 (.tmp 58) (.tmp 59),none,0⟩,
 ⟨some 61,.load1 (.tmp 60),none,0⟩,
 ⟨some 62,.iaddr 1 (.tmp 57) (.tmp 61),none,0⟩,
 ⟨none,.store 1 (.tmp 62) (.const (.bool true)),none,0⟩] false))) (.ops [⟨some 63,.bin .add (.tmp 53) (.const (.int .i64 1)),none,0⟩,
 ⟨some 53,.move (.tmp 63),none,0⟩] false)))
def c226_4 : PC := .seq (.ops [⟨some 67,.bin .lss (.tmp 66) (.tmp 65),none,0⟩] false) (.seq (.cond (.tmp 67) (.skip) (.exit 6)) (.seq (.block 7 (.seq (.ops [⟨some 68,.move (.tmp 66),none,0⟩,
 ⟨some 17,.move (.tmp 68),none,0⟩] false) (.ops [⟨some 69,.load1 (.tmp 9),none,0⟩,
 ⟨some 70,.move (.tmp 17),none,0⟩,
 ⟨some 71,.load1 (.tmp 9),none,0⟩,
 ⟨some 72,.move (.tmp 17),none,0⟩,
 ⟨some 73,.iaddr 1 (.tmp 71) (.tmp 72),none,12⟩,
 ⟨some 74,.load1 (.tmp 73),none,28⟩,
 ⟨some 75,.move (.tmp 74),none,60⟩,
 ⟨some 76,.move (.tmp 14),some (75,true),124⟩,
 ⟨some 77,.move (.tmp 17),some (75,true),124⟩,
 ⟨some 78,.iaddr 1 (.tmp 76) (.tmp 77),some (75,true),508⟩,
 ⟨some 79,.load1 (.tmp 78),some (75,true),1020⟩,
 ⟨some 80,.pick (.tmp 75) (.tmp 79) (.const (.bool false)),none,2044⟩,
 ⟨some 81,.iaddr 1 (.tmp 69) (.tmp 70),none,4095⟩,
 ⟨none,.store 1 (.tmp 81) (.tmp 80),none,8191⟩] true))) (.ops [⟨some 82,.bin .add (.tmp 66) (.const (.int .i64 1)),none,0⟩,
 ⟨some 66,.move (.tmp 82),none,0⟩] false)))
def c226_2 : PC := .seq (.ops [⟨some 45,.bin .lss (.tmp 44) (.tmp 43),none,0⟩] false) (.seq (.cond (.tmp 45) (.skip) (.exit 2)) (.seq (.block 3 (.seq (.ops [⟨some 46,.iaddr 1 (.tmp 42) (.tmp 44),none,0⟩,
 ⟨some 47,.load1 (.tmp 46),none,0⟩,
 ⟨some 13,.move (.tmp 47),none,0⟩] false) (.seq (.ops [⟨some 48,.move (.tmp 1),none,0⟩,
 ⟨some 49,.len (.tmp 48),none,0⟩,
 ⟨some 50,.mslice 1 1 [(.bool false)] (.tmp 49) (.tmp 49),none,0⟩,
 ⟨some 14,.move (.tmp 50),none,0⟩] false) (.seq (.seq (.ops [⟨some 51,.move (.tmp 13),none,0⟩,
 ⟨some 52,.len (.tmp 51),none,0⟩,
 ⟨some 53,.move (.const (.int .i64 0)),none,0⟩] false) (.block 4 (.loop c226_3))) (.seq (.ops [⟨some 64,.load1 (.tmp 9),none,0⟩,
 ⟨some 65,.len (.tmp 64),none,0⟩,
 ⟨some 66,.move (.const (.int .i64 0)),none,0⟩] false) (.block 6 (.loop c226_4))))))) (.ops [⟨some 83,.bin .add (.tmp 44) (.const (.int .i64 1)),none,0⟩,
 ⟨some 44,.move (.tmp 83),none,0⟩] false)))
def c226 : PC := .seq (.ops [⟨some 6,.box (.tmp 2),none,0⟩,
 ⟨some 7,.box (.tmp 3),none,0⟩,
 ⟨some 8,.move (.const (.slice none 0 0)),none,0⟩] false) (.seq (.ops [⟨some 18,.move (.tmp 1),none,0⟩,
 ⟨some 19,.len (.tmp 18),none,0⟩,
 ⟨some 20,.mslice 1 1 [(.bool false)] (.tmp 19) (.tmp 19),none,0⟩,
 ⟨some 9,.alloc [(.slice none 0 0)],none,0⟩,
 ⟨none,.store 1 (.tmp 9) (.tmp 20),none,0⟩] false) (.seq (.seq (.ops [⟨some 21,.move (.tmp 1),none,0⟩,
 ⟨some 22,.len (.tmp 21),none,0⟩,
 ⟨some 23,.move (.const (.int .i64 0)),none,0⟩] false) (.block 0 (.loop c226_1))) (.seq (.seq (.ops [⟨some 38,.move (.tmp 0),none,0⟩,
 ⟨some 39,.nilchk (.tmp 38),none,0⟩,
 ⟨some 40,.faddr 0 (.tmp 39),none,0⟩,
 ⟨some 41,.faddr 3 (.tmp 40),none,0⟩,
 ⟨some 42,.load1 (.tmp 41),none,0⟩,
 ⟨some 43,.len (.tmp 42),none,0⟩,
 ⟨some 44,.move (.const (.int .i64 0)),none,0⟩] false) (.block 2 (.loop c226_2))) (.seq (.ops [⟨some 84,.move (.tmp 0),none,0⟩,
 ⟨some 85,.mkfn (.func 248) [] [(.tmp 7), (.tmp 9), (.tmp 6)],none,0⟩,
 ⟨some 86,.call 190 [(.tmp 84), (.tmp 85)],none,0⟩,
 ⟨some 8,.move (.tmp 86),none,0⟩] false) (.ret)))))
set_option maxRecDepth 100000 in
theorem c226_ok : FunOK Try.prog 226 87 [.tmp 8] c226 := ⟨⟨Try.f226, Try.func226, rfl, by kernel_rfl, rfl, by kernel_rfl⟩⟩
set_option maxRecDepth 100000 in
theorem la_good (W : WorldD) (hW : W.Fits) (hc : W.chk = 0) (g : List (List Int)) (hg : g.length = W.next.length) (hin0 : ∀ l ∈ g, inB l g.length = true) (hF : FitsG g) (z : Nat → Bool) :
    PCall Try.prog 226 [dlab W, dgrid g, dints (partsL g), dbl g.length z] (dbl g.length (goodF g W.fair z)) := by
  obtain ⟨_, h600, h80, _, hnx, hfr⟩ := chk_label W hc
  have hFF : FitsG W.fair := ⟨hW.fair, hW.fairEach⟩
  have hrow := fun k => inB_row hin0 k
  have hFrow := fun k => inB_row hfr k
  have hcl := fun k (hk : k < g.length) => containsF_int (fun n => .sc (.int .i64 n)) (fun a => by simp [Pure]) (g.getD k []) (by have := hF.at k; omega) (fun x => partsG g x.toNat == partsG g k) 247 [.ipt [dints (partsL g)], .ipt [.sc (.int .i64 k)]] (by simp [PureL, Pure, pure_dints]) fun a ha => lg_same g a (inB_mem (hrow k) ha) k hk
  have hE := la_each W (by omega) (fun k => z k && goodT g W.fair (partsG g k).toNat) 248 [.ipt [dbl g.length z], .ipt [dbl g.length (goodT g W.fair)], .ipt [dints (partsL g)]] (by simp [PureL, Pure, pure_dbl, pure_dints]) (fun i hi => lg_both g z (goodT g W.fair) i (by omega))
  rw [show dbl W.next.length (fun k => z k && goodT g W.fair (partsG g k).toNat) = dbl g.length (goodF g W.fair z) from by rw [← hg]; exact dbl_congr fun i hi => by unfold goodF; simp [hi]] at hE
  refine pcall_intro c226_ok (by simp) (by simp [PureL, Pure, pure_dgrid, pure_dints, pure_dbl, pure_dlab]) ?_ (pure_dbl _ _)
  unfold dlab lcel dgrid at *
  (apply rd_sound; focus (repeat' constructor))
  ((conv=>whnf);repeat(refine .intro rfl ?_;conv=>whnf))
  rw [List.length_map]
  refine ⟨by omega, by omega, by omega, ?_⟩
  rw [Int.toNat_natCast, show List.map D.sc [Value.bool false] = [D.sc (.bool false)] from rfl, rbl_rep]
  ((conv=>whnf);repeat(refine .intro rfl ?_;conv=>whnf))
  rw [List.length_map]
  refine pwp_for [0, 1, 6, 7, 9, 21, 22] (fun k : Nat => [(23, .sc (.int .i64 k))]) (fun k => [(2, .vec true 0 1 (rbl g.length (okT g k)))]) (fun k => k ≤ g.length) (fun k => g.length - k) 0 ?_
  ((conv=>whnf);repeat(refine .intro rfl ?_;conv=>whnf))
  refine ⟨by omega, by (repeat' (first | exact trivial | refine And.intro rfl ?_)), rfl, ?_⟩
  rintro k hk
  ((conv=>whnf);repeat(refine .intro rfl ?_;conv=>whnf))
  (apply rd_sound; focus (repeat' constructor))
  ((conv=>whnf);repeat(refine .intro rfl ?_;conv=>whnf))
  (refine ifK_split (fun q0 => ?_) (fun q0 => ?_) <;> (rw [q0]; ((conv=>whnf);repeat(refine .intro rfl ?_;conv=>whnf))))
  · have q0 : k < g.length := by ((try simp only[oo,reduceCtorEq]at*)<;>omega)
    have hp := parts_lt q0
    have e1 := okT_succ g k
    refine ⟨by omega, _, gridD_at (k := k) (by omega) q0, ?_⟩
    ((conv=>whnf);repeat(refine .intro rfl ?_;conv=>whnf))
    (refine .inr (.inl ⟨_, _, (by (repeat' (first | exact Deep.refl _ | exact Deep.none _ | exact deep_row _ | exact DeepL.nil | exact DeepLL.nil | refine Deep.agg _ _ ?_ | refine Deep.tup _ _ ?_ | refine Deep.own _ _ _ _ _ _ _ _ rfl ?_ | refine Deep.loc _ _ _ _ _ rfl ?_ | refine Deep.ifc _ _ _ ?_ | refine Deep.fn _ _ _ _ _ ?_ ?_ | refine DeepL.cons _ _ _ _ ?_ ?_ | refine DeepLL.cons _ _ _ _ ?_ ?_))), (hcl k q0), rfl, ?_⟩); ((conv=>whnf);repeat(refine .intro rfl ?_;conv=>whnf)))
    rw [show ((g.getD k []).any fun x => partsG g x.toNat == partsG g k) = loopB g k from rfl]
    cases r : loopB g k
    · ((conv=>whnf);repeat(refine .intro rfl ?_;conv=>whnf))
      (refine .inl ⟨by (unfold InR; rw [IntKind.wrap_i64]; omega), ?_⟩; ((conv=>whnf);repeat(refine .intro rfl ?_;conv=>whnf)))
      refine ⟨k + 1, by omega, by dsimp only; omega, ?_⟩
      (refine leB_close 4 (by simp) rfl ?_ ?_ <;> (repeat' (first | exact trivial | exact rfl | exact DeepM.refl _ | exact DeepML.refl _ | exact DeepMLL.refl _ | refine And.intro ?_ ?_ | (simp [Under, UnderL, UnderLL, -List.map_take, -List.map_drop]; done))))
      exact deepMLL_eq (rbl_congr fun i _ => by rw [e1, r, Bool.and_false, Bool.or_false])
    · ((conv=>whnf);repeat(refine .intro rfl ?_;conv=>whnf))
      refine ⟨by omega, _, gl_atN k (by omega) q0, ?_⟩
      ((conv=>whnf);repeat(refine .intro rfl ?_;conv=>whnf))
      (refine ⟨by omega, (by first | omega | (simp; done) | (simp; omega) | (simp only [ll]; omega)), ?_⟩; ((conv=>whnf);repeat(refine .intro rfl ?_;conv=>whnf)))
      refine ⟨_, rbl_atN (partsG g k).toNat (by omega) (by omega), ?_⟩
      ((conv=>whnf);repeat(refine .intro rfl ?_;conv=>whnf))
      (refine .inl ⟨by (unfold InR; rw [IntKind.wrap_i64]; omega), ?_⟩; ((conv=>whnf);repeat(refine .intro rfl ?_;conv=>whnf)))
      refine ⟨k + 1, by omega, by dsimp only; omega, ?_⟩
      rw [rbl_put (i := (partsG g k).toNat) (f' := okT g (k + 1)) (by omega) fun v _ => by
        rw [e1, r, Bool.and_true]
        by_cases e : v = (partsG g k).toNat
        · rw [if_pos e, show (partsG g k == (v : Int)) = true by rw [beq_iff_eq]; omega, Bool.or_true]
        · rw [if_neg e, show (partsG g k == (v : Int)) = false by rw [beq_eq_false_iff_ne]; omega, Bool.or_false]]
      (refine leB_close 4 (by simp) rfl ?_ ?_ <;> (repeat' (first | exact trivial | exact rfl | exact DeepM.refl _ | exact DeepML.refl _ | exact DeepMLL.refl _ | refine And.intro ?_ ?_ | (simp [Under, UnderL, UnderLL, -List.map_take, -List.map_drop]; done))))
  have q0 : k = g.length := by have : ¬ k < g.length := by ((try simp only[oo,reduceCtorEq]at*)<;>omega)
                               omega
  subst q0
  clear hcl
  rw [List.length_map]
  refine pwp_for [0, 1, 6, 7, 9, 42, 43] (fun k : Nat => [(44, .sc (.int .i64 k))]) (fun k => [(2, .vec true 0 1 (rbl g.length fun i => okT g g.length i && (W.fair.take k).all fun l => hasT g l i))]) (fun k => k ≤ W.fair.length) (fun k => W.fair.length - k) 0 ?_
  ((conv=>whnf);repeat(refine .intro rfl ?_;conv=>whnf))
  refine ⟨by omega, by (repeat' (first | exact trivial | refine And.intro rfl ?_)), by simp only [List.take_zero, List.all_nil, Bool.and_true]; rfl, ?_⟩
  rintro k hk
  ((conv=>whnf);repeat(refine .intro rfl ?_;conv=>whnf))
  (apply rd_sound; focus (repeat' constructor))
  ((conv=>whnf);repeat(refine .intro rfl ?_;conv=>whnf))
  (refine ifK_split (fun q0 => ?_) (fun q0 => ?_) <;> (rw [q0]; ((conv=>whnf);repeat(refine .intro rfl ?_;conv=>whnf))))
  · have q0 : k < W.fair.length := by ((try simp only[oo,reduceCtorEq]at*)<;>omega)
    have hFk := hFF.at k
    refine ⟨by omega, _, gridD_at (g := W.fair) (k := k) (by omega) q0, ?_⟩
    ((conv=>whnf);repeat(refine .intro rfl ?_;conv=>whnf))
    rw [List.length_map]
    refine ⟨by omega, by omega, by omega, ?_⟩
    rw [Int.toNat_natCast, show List.map D.sc [Value.bool false] = [D.sc (.bool false)] from rfl, rbl_rep]
    ((conv=>whnf);repeat(refine .intro rfl ?_;conv=>whnf))
    rw [List.length_map]
    have hlr := fun j (hj : j < (W.fair.getD k []).length) => inB_mem (hFrow k) (mem_getD hj)
    have eall := fun i => all_take (p := fun l => hasT g l i) q0 []
    generalize hle : W.fair.getD k [] = l at *
    refine pwp_for [0, 1, 6, 7, 9, 14, 42, 43, 44, 51, 52] (fun j : Nat => [(53, .sc (.int .i64 j))]) (fun j => [(4, .vec true 0 1 (rbl g.length (hasT g (l.take j))))]) (fun j => j ≤ l.length) (fun j => l.length - j) 0 ?_
    ((conv=>whnf);repeat(refine .intro rfl ?_;conv=>whnf))
    refine ⟨by omega, by (repeat' (first | exact trivial | refine And.intro rfl ?_)), rfl, ?_⟩
    rintro j hj
    ((conv=>whnf);repeat(refine .intro rfl ?_;conv=>whnf))
    (apply rd_sound; focus (repeat' constructor))
    ((conv=>whnf);repeat(refine .intro rfl ?_;conv=>whnf))
    (refine ifK_split (fun q1 => ?_) (fun q1 => ?_) <;> (rw [q1]; ((conv=>whnf);repeat(refine .intro rfl ?_;conv=>whnf))))
    · have q1 : j < l.length := by ((try simp only[oo,reduceCtorEq]at*)<;>omega)
      have hx := hlr j q1
      have e1 := fun i => hasT_take (g := g) (i := i) q1
      refine ⟨by omega, _, intsD_at (l := l) (k := j) (by omega) q1, ?_⟩
      ((conv=>whnf);repeat(refine .intro rfl ?_;conv=>whnf))
      generalize l.getD j 0 = x at *
      have hp := parts_lt (g := g) (a := x.toNat) (by omega)
      refine ⟨by omega, _, gl_atN x.toNat (by omega) (by omega), ?_⟩
      ((conv=>whnf);repeat(refine .intro rfl ?_;conv=>whnf))
      (refine ⟨by omega, (by first | omega | (simp; done) | (simp; omega) | (simp only [ll]; omega)), ?_⟩; ((conv=>whnf);repeat(refine .intro rfl ?_;conv=>whnf)))
      refine ⟨_, rbl_atN (partsG g x.toNat).toNat (by omega) (by omega), ?_⟩
      ((conv=>whnf);repeat(refine .intro rfl ?_;conv=>whnf))
      (refine .inl ⟨by (unfold InR; rw [IntKind.wrap_i64]; omega), ?_⟩; ((conv=>whnf);repeat(refine .intro rfl ?_;conv=>whnf)))
      refine ⟨j + 1, by omega, by dsimp only; omega, leB_envH (by (repeat' (first | exact trivial | refine And.intro rfl ?_))) ?_⟩
      rw [rbl_put (i := (partsG g x.toNat).toNat) (f' := hasT g (l.take (j + 1))) (by omega) fun v _ => by
        rw [e1]
        by_cases e : v = (partsG g x.toNat).toNat
        · rw [if_pos e, show (partsG g x.toNat == (v : Int)) = true by rw [beq_iff_eq]; omega, Bool.or_true]
        · rw [if_neg e, show (partsG g x.toNat == (v : Int)) = false by rw [beq_eq_false_iff_ne]; omega, Bool.or_false]]
      rfl
    have q1 : j = l.length := by have : ¬ j < l.length := by ((try simp only[oo,reduceCtorEq]at*)<;>omega)
                                 omega
    subst q1
    rw [List.take_length]
    generalize hA : (fun i => okT g g.length i && (W.fair.take k).all fun l => hasT g l i) = A at *
    have eA : ∀ i, (okT g g.length i && (W.fair.take (k + 1)).all fun l => hasT g l i) = (A i && hasT g l i) := fun i => by rw [eall, ← hA, Bool.and_assoc]
    refine pwp_for [0, 1, 6, 7, 9, 14, 42, 43, 44, 65] (fun i : Nat => [(66, .sc (.int .i64 i))]) (fun i => [(2, .vec true 0 1 (rbl g.length fun v => if v < i then A v && hasT g l v else A v))]) (fun i => i ≤ g.length) (fun i => g.length - i) 0 ?_
    ((conv=>whnf);repeat(refine .intro rfl ?_;conv=>whnf))
    refine ⟨by omega, by (repeat' (first | exact trivial | refine And.intro rfl ?_)), rfl, ?_⟩
    rintro i hi
    ((conv=>whnf);repeat(refine .intro rfl ?_;conv=>whnf))
    (apply rd_sound; focus (repeat' constructor))
    ((conv=>whnf);repeat(refine .intro rfl ?_;conv=>whnf))
    (refine ifK_split (fun q2 => ?_) (fun q2 => ?_) <;> (rw [q2]; ((conv=>whnf);repeat(refine .intro rfl ?_;conv=>whnf))))
    · have q2 : i < g.length := by ((try simp only[oo,reduceCtorEq]at*)<;>omega)
      have eat : (if i < i then A i && hasT g l i else A i) = A i := if_neg (by omega)
      have eput : ∀ b, b = (A i && hasT g l i) → ∀ v, v < g.length → (if v < i + 1 then A v && hasT g l v else A v) = if v = i then b else if v < i then A v && hasT g l v else A v := fun b hb v _ => by
        by_cases e : v = i
        · subst e; rw [if_pos (by omega), if_pos rfl, hb]
        · rw [if_neg e]
          by_cases e2 : v < i
          · rw [if_pos e2, if_pos (by omega)]
          · rw [if_neg e2, if_neg (by omega)]
      (refine ⟨by omega, (by first | omega | (simp; done) | (simp; omega) | (simp only [ll]; omega)), ?_⟩; ((conv=>whnf);repeat(refine .intro rfl ?_;conv=>whnf)))
      refine ⟨_, rbl_atN i (by omega) q2, ?_⟩
      rw [eat]
      cases r : A i
      · ((conv=>whnf);repeat(refine .intro rfl ?_;conv=>whnf))
        (refine ⟨by omega, (by first | omega | (simp; done) | (simp; omega) | (simp only [ll]; omega)), ?_⟩; ((conv=>whnf);repeat(refine .intro rfl ?_;conv=>whnf)))
        refine ⟨_, rbl_atN i (by omega) q2, ?_⟩
        ((conv=>whnf);repeat(refine .intro rfl ?_;conv=>whnf))
        (refine .inl ⟨by (unfold InR; rw [IntKind.wrap_i64]; omega), ?_⟩; ((conv=>whnf);repeat(refine .intro rfl ?_;conv=>whnf)))
        refine ⟨i + 1, by omega, by dsimp only; omega, leB_envH (by (repeat' (first | exact trivial | refine And.intro rfl ?_))) ?_⟩
        rw [rbl_put (i := i) (by omega) (eput false (by rw [r]; rfl))]
        rfl
      · ((conv=>whnf);repeat(refine .intro rfl ?_;conv=>whnf))
        (refine ⟨by omega, (by first | omega | (simp; done) | (simp; omega) | (simp only [ll]; omega)), ?_⟩; ((conv=>whnf);repeat(refine .intro rfl ?_;conv=>whnf)))
        refine ⟨_, rbl_atN i (by omega) q2, ?_⟩
        ((conv=>whnf);repeat(refine .intro rfl ?_;conv=>whnf))
        (refine ⟨by omega, (by first | omega | (simp; done) | (simp; omega) | (simp only [ll]; omega)), ?_⟩; ((conv=>whnf);repeat(refine .intro rfl ?_;conv=>whnf)))
        refine ⟨_, rbl_atN i (by omega) q2, ?_⟩
        ((conv=>whnf);repeat(refine .intro rfl ?_;conv=>whnf))
        (refine .inl ⟨by (unfold InR; rw [IntKind.wrap_i64]; omega), ?_⟩; ((conv=>whnf);repeat(refine .intro rfl ?_;conv=>whnf)))
        refine ⟨i + 1, by omega, by dsimp only; omega, leB_envH (by (repeat' (first | exact trivial | refine And.intro rfl ?_))) ?_⟩
        rw [rbl_put (i := i) (by omega) (eput (hasT g l i) (by rw [r]; rfl))]
        rfl
    have q2 : i = g.length := by have : ¬ i < g.length := by ((try simp only[oo,reduceCtorEq]at*)<;>omega)
                                 omega
    subst q2
    (refine .inl ⟨by (unfold InR; rw [IntKind.wrap_i64]; omega), ?_⟩; ((conv=>whnf);repeat(refine .intro rfl ?_;conv=>whnf)))
    refine ⟨k + 1, by omega, by dsimp only; omega, ?_⟩
    dsimp only
    (refine leB_close 4 (by simp) rfl ?_ ?_ <;> (repeat' (first | exact trivial | exact rfl | exact DeepM.refl _ | exact DeepML.refl _ | exact DeepMLL.refl _ | refine And.intro ?_ ?_ | (simp [Under, UnderL, UnderLL, -List.map_take, -List.map_drop]; done))))
    exact deepMLL_eq (rbl_congr fun i hi => by rw [if_pos hi, eA])
  have q0 : k = W.fair.length := by have : ¬ k < W.fair.length := by ((try simp only[oo,reduceCtorEq]at*)<;>omega)
                                    omega
  subst q0
  rw [List.take_length]
  refine .inr (.inr (.inr (.inr (.inr (.inl ⟨rfl, _, _, .cons _ _ _ _ (.refl _) (.cons _ _ _ _ (.fn _ _ _ _ _ .nil (.cons _ _ _ _ (.loc _ _ _ _ _ rfl (deepL_refl _)) (.cons _ _ _ _ (.loc _ _ _ _ _ rfl (.cons _ _ _ _ (deep_vec rfl) .nil)) (.cons _ _ _ _ (.loc _ _ _ _ _ rfl (deepL_refl _)) .nil)))) .nil), hE, ?_⟩)))))
  ((conv=>whnf);repeat(refine .intro rfl ?_;conv=>whnf))
  exact .refl _
end

/-! ### XLs3 -/
section
open Go.RowKit
set_option linter.unusedSimpArgs false
set_option linter.unusedVariables false
/-- A graph's rows where something is so. -/
def thrG (g : List (List Int)) (z : Nat → Bool) : List (List Int) := (List.range g.length).map fun v => if z v = true then g.getD v [] else []
@[simp] theorem thrG_len (g : List (List Int)) (z : Nat → Bool) : (thrG g z).length = g.length := by simp [thrG]
theorem mem_thrG {g : List (List Int)} {z : Nat → Bool} {v : Nat} {x : Int} : x ∈ (thrG g z).getD v [] ↔ x ∈ g.getD v [] ∧ z v = true := by
  by_cases h : v < g.length
  · rw [List.getD_eq_getElem?_getD, List.getElem?_eq_getElem (by simpa using h)]
    simp only [thrG, List.getElem_map, List.getElem_range, Option.getD_some]
    split
    · rename_i q; simp [q]
    · rename_i q; simp [q]
  · have e1 : (thrG g z).getD v [] = [] := by rw [List.getD_eq_getElem?_getD, List.getElem?_eq_none (by simpa using h)]; rfl
    have e2 : g.getD v [] = [] := by rw [List.getD_eq_getElem?_getD, List.getElem?_eq_none (by omega)]; rfl
    rw [e1, e2]; simp
theorem thrG_in {g : List (List Int)} (hin : ∀ l ∈ g, inB l g.length = true) (z : Nat → Bool) : ∀ l ∈ thrG g z, inB l (thrG g z).length = true := by
  intro l hl
  rw [thrG_len]
  obtain ⟨v, hv, rfl⟩ := List.mem_map.1 hl
  split
  · exact inB_row hin v
  · rfl
theorem thrG_fits {g : List (List Int)} (hF : FitsG g) (z : Nat → Bool) : FitsG (thrG g z) := by
  refine ⟨by rw [thrG_len]; exact hF.len, fun l hl => ?_⟩
  obtain ⟨v, hv, rfl⟩ := List.mem_map.1 hl
  have := hF.at v
  split
  · exact this
  · simp
def thrR (g : List (List Int)) (z : Nat → Bool) (k : Nat) : List (List D) := (List.range g.length).map fun v => [if z v = true ∧ v < k then dints (g.getD v []) else .sc (.slice none 0 0)]
@[simp] theorem thrR_len (g : List (List Int)) (z : Nat → Bool) (k : Nat) : (thrR g z k).length = g.length := by simp [thrR]
theorem thrR_zero (g : List (List Int)) (z : Nat → Bool) : thrR g z 0 = List.replicate g.length [.sc (.slice none 0 0)] := by
  refine List.ext_getElem (by simp) fun i h1 h2 => ?_
  simp [thrR]
theorem thrR_at {g : List (List Int)} {z : Nat → Bool} {k i j : Nat} (hj : j = i) (h : i < g.length) : (thrR g z k)[j]? = some [if z i = true ∧ i < k then dints (g.getD i []) else .sc (.slice none 0 0)] := by
  subst hj
  rw [List.getElem?_eq_getElem (by simpa using h)]
  simp [thrR]
theorem thrR_no {g : List (List Int)} {z : Nat → Bool} {k : Nat} (h : z k = false) : thrR g z (k + 1) = thrR g z k := List.map_congr_left fun v _ => by
  by_cases e : v = k
  · subst e; simp [h]
  · simp only [show (z v = true ∧ v < k + 1) ↔ (z v = true ∧ v < k) from ⟨fun q => ⟨q.1, by omega⟩, fun q => ⟨q.1, by omega⟩⟩]
theorem thrR_yes {g : List (List Int)} {z : Nat → Bool} {k j : Nat} (hj : j = k) (h : z k = true) : (thrR g z k).set j [dints (g.getD k [])] = thrR g z (k + 1) := by
  subst hj
  refine List.ext_getElem (by simp) fun i h1 h2 => ?_
  rw [List.getElem_set]
  simp only [thrR, List.getElem_map, List.getElem_range]
  by_cases e : j = i
  · subst e; rw [if_pos rfl, if_pos ⟨h, by omega⟩]
  · rw [if_neg e]
    simp only [show (z i = true ∧ i < j + 1) ↔ (z i = true ∧ i < j) from ⟨fun q => ⟨q.1, by omega⟩, fun q => ⟨q.1, by omega⟩⟩]
theorem deepLL_map2 {α : Type} {H : List AObj} {f g : α → List D} : ∀ (l : List α), (∀ a ∈ l, DeepL H (f a) (g a)) → DeepLL H (l.map f) (l.map g)
  | [], _ => .nil
  | a :: l, h => .cons _ _ _ _ (h a (by simp)) (deepLL_map2 l fun b hb => h b (by simp [hb]))
theorem thrR_deep {H : List AObj} {g : List (List Int)} {z : Nat → Bool} {n : Nat} (hn : n = g.length) : DeepLL H (((thrR g z g.length).take n).drop 0) ((thrG g z).map fun l => [dints l]) := by
  subst hn
  rw [drop_take_all (by simp)]
  unfold thrR thrG
  rw [List.map_map]
  refine deepLL_map2 _ fun v hv => ?_
  have := List.mem_range.1 hv
  refine .cons _ _ _ _ ?_ .nil
  show Deep H _ (dints (if z v = true then g.getD v [] else []))
  by_cases q : z v = true
  · rw [if_pos ⟨q, this⟩, if_pos q]; exact .refl _
  · rw [if_neg fun h => q h.1, if_neg q]; exact .none _
def c204_1 : PC := .seq (.ops [⟨some 29,.bin .lss (.tmp 28) (.tmp 27),none,0⟩] false) (.seq (.cond (.tmp 29) (.skip) (.exit 0)) (.seq (.block 1 (.seq (.ops [⟨some 30,.move (.tmp 28),none,0⟩,
 ⟨some 31,.iaddr 1 (.tmp 26) (.tmp 28),none,0⟩,
 ⟨some 32,.load1 (.tmp 31),none,0⟩,
 ⟨some 10,.move (.tmp 30),none,0⟩,
 ⟨some 11,.move (.tmp 32),none,0⟩] false) (.seq (.ops [⟨some 33,.move (.tmp 2),none,0⟩,
 ⟨some 34,.move (.tmp 10),none,0⟩,
 ⟨some 35,.iaddr 1 (.tmp 33) (.tmp 34),none,0⟩,
 ⟨some 36,.load1 (.tmp 35),none,0⟩,
 ⟨some 37,.move (.tmp 36),none,0⟩,
 ⟨some 38,.move (.tmp 3),some (37,true),0⟩,
 ⟨some 39,.move (.tmp 10),some (37,true),0⟩,
 ⟨some 40,.iaddr 1 (.tmp 38) (.tmp 39),some (37,true),0⟩,
 ⟨some 41,.load1 (.tmp 40),some (37,true),0⟩,
 ⟨some 42,.un .not (.tmp 41),some (37,true),0⟩,
 ⟨some 43,.pick (.tmp 37) (.tmp 42) (.const (.bool false)),none,0⟩] false) (.cond (.tmp 43) (.ops [⟨some 44,.move (.tmp 9),none,0⟩,
 ⟨some 45,.move (.tmp 10),none,0⟩,
 ⟨some 46,.move (.tmp 11),none,0⟩,
 ⟨some 47,.iaddr 1 (.tmp 44) (.tmp 45),none,0⟩,
 ⟨none,.store 1 (.tmp 47) (.tmp 46),none,0⟩] false) (.skip))))) (.ops [⟨some 48,.bin .add (.tmp 28) (.const (.int .i64 1)),none,0⟩,
 ⟨some 28,.move (.tmp 48),none,0⟩] false)))
def c204 : PC := .seq (.ops [⟨some 8,.move (.const (.slice none 0 0)),none,0⟩] false) (.seq (.ops [⟨some 15,.move (.tmp 0),none,0⟩,
 ⟨some 16,.nilchk (.tmp 15),none,0⟩,
 ⟨some 17,.faddr 0 (.tmp 16),none,0⟩,
 ⟨some 18,.faddr 1 (.tmp 17),none,0⟩,
 ⟨some 19,.load1 (.tmp 18),none,0⟩,
 ⟨some 20,.len (.tmp 19),none,0⟩,
 ⟨some 21,.mslice 1 24 [(.slice none 0 0)] (.tmp 20) (.tmp 20),none,0⟩,
 ⟨some 9,.move (.tmp 21),none,0⟩] false) (.seq (.seq (.ops [⟨some 22,.move (.tmp 0),none,0⟩,
 ⟨some 23,.nilchk (.tmp 22),none,0⟩,
 ⟨some 24,.faddr 0 (.tmp 23),none,0⟩,
 ⟨some 25,.faddr 1 (.tmp 24),none,0⟩,
 ⟨some 26,.load1 (.tmp 25),none,0⟩,
 ⟨some 27,.len (.tmp 26),none,0⟩,
 ⟨some 28,.move (.const (.int .i64 0)),none,0⟩] false) (.block 0 (.loop c204_1))) (.seq (.ops [⟨some 50,.move (.tmp 9),none,0⟩,
 ⟨some 51,.move (.tmp 1),none,0⟩,
 ⟨some 52,.bslice 1 1 [(.tmp 51)],none,0⟩,
 ⟨some 53,.move (.tmp 3),none,0⟩,
 ⟨some 54,.call 227 [(.tmp 50), (.tmp 52), (.tmp 53)],none,0⟩,
 ⟨some 49,.move (.tmp 54),none,0⟩,
 ⟨some 55,.ext 0 (.tmp 49),none,0⟩,
 ⟨some 56,.ext 1 (.tmp 49),none,0⟩,
 ⟨some 57,.ext 2 (.tmp 49),none,0⟩,
 ⟨some 12,.move (.tmp 55),none,0⟩,
 ⟨some 13,.move (.tmp 56),none,0⟩,
 ⟨some 14,.move (.tmp 57),none,0⟩] false) (.seq (.ops [⟨some 58,.move (.tmp 12),none,0⟩,
 ⟨some 8,.move (.tmp 58),none,0⟩] false) (.ret)))))
set_option maxRecDepth 100000 in
theorem c204_ok : FunOK Try.prog 204 59 [.tmp 8] c204 := ⟨⟨Try.f204, Try.func204, rfl, by kernel_rfl, rfl, by kernel_rfl⟩⟩
set_option maxRecDepth 100000 in
theorem la_way (W : WorldD) (hW : W.Fits) (hc : W.chk = 0) (n : Nat) (hn : n < W.next.length) (th to : Nat → Bool) (hto : ∀ i, W.next.length ≤ i → to i = false) :
    PCall Try.prog 204 [dlab W, .sc (.int .i64 n), dbl W.next.length th, dbl W.next.length to] (dints (wayL (thrG W.next fun v => th v && !to v) [(n : Int)] to)) := by
  obtain ⟨_, h600, h80, _, hnx, hfr⟩ := chk_label W hc
  have hin0 : ∀ l ∈ W.next, inB l W.next.length = true := fun l hl => (hnx l hl).2
  have hFN : FitsG W.next := ⟨hW.next, hW.nextEach⟩
  have gin := thrG_in hin0 fun v => th v && !to v
  have gfit := thrG_fits hFN fun v => th v && !to v
  have glen := thrG_len W.next fun v => th v && !to v
  have hWy := scc_Way (thrG W.next fun v => th v && !to v) (chkG_zero.2 ⟨by omega, gin⟩) gfit [(n : Int)] (by rw [glen]; exact inB_of fun x hx => by rw [List.mem_singleton] at hx; subst hx; omega) (by simp) to (by rw [glen]; exact hto)
  refine pcall_intro c204_ok (by simp) (by simp [PureL, Pure, pure_dbl, pure_dlab]) ?_ (pure_dints _)
  unfold dlab lcel
  (apply rd_sound; focus (repeat' constructor))
  ((conv=>whnf);repeat(refine .intro rfl ?_;conv=>whnf))
  rw [List.length_map]
  refine ⟨by omega, by omega, by omega, ?_⟩
  rw [Int.toNat_natCast]
  ((conv=>whnf);repeat(refine .intro rfl ?_;conv=>whnf))
  rw [List.length_map]
  generalize hz : (fun v => th v && !to v) = z at *
  have ez : ∀ v, z v = (th v && !to v) := fun v => by rw [← hz]
  refine pwp_for [1, 2, 3, 9, 26, 27] (fun k : Nat => [(28, .sc (.int .i64 k))]) (fun k => [(0, .vec true 0 1 (thrR W.next z k))]) (fun k => k ≤ W.next.length) (fun k => W.next.length - k) 0 ?_
  ((conv=>whnf);repeat(refine .intro rfl ?_;conv=>whnf))
  refine ⟨by omega, by (repeat' (first | exact trivial | refine And.intro rfl ?_)), by rw [thrR_zero]; rfl, ?_⟩
  rintro k hk
  ((conv=>whnf);repeat(refine .intro rfl ?_;conv=>whnf))
  (apply rd_sound; focus (repeat' constructor))
  ((conv=>whnf);repeat(refine .intro rfl ?_;conv=>whnf))
  (refine ifK_split (fun q0 => ?_) (fun q0 => ?_) <;> (rw [q0]; ((conv=>whnf);repeat(refine .intro rfl ?_;conv=>whnf))))
  · have q0 : k < W.next.length := by ((try simp only[oo,reduceCtorEq]at*)<;>omega)
    have ek := ez k
    refine ⟨by omega, _, gridD_at (g := W.next) (k := k) (by omega) q0, ?_⟩
    ((conv=>whnf);repeat(refine .intro rfl ?_;conv=>whnf))
    refine ⟨by omega, _, rbl_atN k (by omega) q0, ?_⟩
    ((conv=>whnf);repeat(refine .intro rfl ?_;conv=>whnf))
    cases r : th k
    · rw [r, Bool.false_and] at ek
      ((conv=>whnf);repeat(refine .intro rfl ?_;conv=>whnf))
      (refine .inl ⟨by (unfold InR; rw [IntKind.wrap_i64]; omega), ?_⟩; ((conv=>whnf);repeat(refine .intro rfl ?_;conv=>whnf)))
      exact ⟨k + 1, by omega, by dsimp only; omega, leB_envH (by (repeat' (first | exact trivial | refine And.intro rfl ?_))) (by rw [← thrR_no ek]; rfl)⟩
    · rw [r, Bool.true_and] at ek
      ((conv=>whnf);repeat(refine .intro rfl ?_;conv=>whnf))
      refine ⟨by omega, _, rbl_atN k (by omega) q0, ?_⟩
      ((conv=>whnf);repeat(refine .intro rfl ?_;conv=>whnf))
      cases r2 : to k
      · rw [r2] at ek
        ((conv=>whnf);repeat(refine .intro rfl ?_;conv=>whnf))
        (refine ⟨by omega, (by first | omega | (simp; done) | (simp; omega) | (simp only [ll]; omega)), ?_⟩; ((conv=>whnf);repeat(refine .intro rfl ?_;conv=>whnf)))
        refine ⟨_, thrR_at (i := k) (by omega) q0, ?_⟩
        ((conv=>whnf);repeat(refine .intro rfl ?_;conv=>whnf))
        (refine .inl ⟨by (unfold InR; rw [IntKind.wrap_i64]; omega), ?_⟩; ((conv=>whnf);repeat(refine .intro rfl ?_;conv=>whnf)))
        exact ⟨k + 1, by omega, by dsimp only; omega, leB_envH (by (repeat' (first | exact trivial | refine And.intro rfl ?_))) (by rw [thrR_yes (by omega) ek]; rfl)⟩
      · rw [r2] at ek
        ((conv=>whnf);repeat(refine .intro rfl ?_;conv=>whnf))
        (refine .inl ⟨by (unfold InR; rw [IntKind.wrap_i64]; omega), ?_⟩; ((conv=>whnf);repeat(refine .intro rfl ?_;conv=>whnf)))
        exact ⟨k + 1, by omega, by dsimp only; omega, leB_envH (by (repeat' (first | exact trivial | refine And.intro rfl ?_))) (by rw [← thrR_no ek]; rfl)⟩
  have q0 : k = W.next.length := by have : ¬ k < W.next.length := by ((try simp only[oo,reduceCtorEq]at*)<;>omega)
                                    omega
  subst q0
  refine .inr (.inr (.inr (.inr (.inr (.inl ⟨rfl, _, _, .cons _ _ _ _ (.own _ _ _ _ _ _ _ _ rfl (thrR_deep rfl)) (.cons _ _ _ _ (.own _ _ _ _ _ _ _ _ rfl (deepLL_refl _)) (.cons _ _ _ _ (.refl _) .nil)), by rw [glen] at hWy; exact hWy, ?_⟩)))))
  ((conv=>whnf);repeat(refine .intro rfl ?_;conv=>whnf))
  exact .refl _
end

/-! ### XLs4 -/
section
open Go.RowKit
set_option linter.unusedSimpArgs false
set_option linter.unusedVariables false
theorem pure_i64L (l : List Int) : PureLL (i64s l) := by simp [i64s, PureL, Pure]
theorem toS_step {l : List Int} {z : Nat → Bool} {j : Nat} (hj : j < l.length) (h0 : 0 ≤ l.getD j 0) (w : Nat) : toS (l.take (j + 1)) z w = if w = (l.getD j 0).toNat then z w else toS (l.take j) z w := by
  have key : setB (l.take (j + 1)) w = (setB (l.take j) w || decide (w = (l.getD j 0).toNat)) := by
    unfold setB
    rw [Bool.eq_iff_iff, Bool.or_eq_true, List.contains_iff_mem, List.contains_iff_mem, decide_eq_true_eq, List.take_add_one, List.mem_append]
    rw [List.getD_eq_getElem?_getD] at h0 ⊢
    rw [List.getElem?_eq_getElem hj] at h0 ⊢
    simp only [Option.toList_some, Option.getD_some, List.mem_singleton] at h0 ⊢
    exact or_congr_right ⟨fun q => by omega, fun q => by omega⟩
  unfold toS
  rw [key]
  by_cases q : w = (l.getD j 0).toNat
  · rw [if_pos q, decide_eq_true q, Bool.or_true, Bool.true_and]
  · rw [if_neg q, decide_eq_false q, Bool.or_false]
def c250 : PC := .seq (.ops [⟨some 3,.move (.const (.bool false)),none,0⟩] false) (.seq (.ops [⟨some 4,.load1 (.tmp 1),none,0⟩,
 ⟨some 5,.move (.tmp 0),none,0⟩,
 ⟨some 6,.call 60 [(.tmp 4), (.tmp 5)],none,0⟩,
 ⟨some 3,.move (.tmp 6),none,0⟩] false) (.ret))
set_option maxRecDepth 100000 in
theorem c250_ok : FunOK Try.prog 250 7 [.tmp 3] c250 := ⟨⟨Try.f250, Try.func250, rfl, by kernel_rfl, rfl, by kernel_rfl⟩⟩
theorem lrd_has (l : List Int) (hl : l.length ≤ 9223372036854775807) (x : Int) : PCall Try.prog 250 [.sc (.int .i64 x), .ipt [dints l]] (.sc (.bool (l.contains x))) := by
  refine pcall_intro c250_ok (by simp) (by simp [PureL, Pure, pure_dints]) ?_ (by simp [Pure])
  have h := contains_int l hl x
  (apply rd_sound; focus (repeat' constructor))
  ((conv=>whnf);repeat(refine .intro rfl ?_;conv=>whnf))
  (refine .inl ⟨_, h, ?_⟩; ((conv=>whnf);repeat(refine .intro rfl ?_;conv=>whnf)))
  exact .refl _
def c228_2 : PC := .seq (.ops [⟨some 40,.bin .lss (.tmp 39) (.tmp 38),none,0⟩] false) (.seq (.cond (.tmp 40) (.skip) (.exit 2)) (.seq (.block 3 (.seq (.ops [⟨some 41,.iaddr 1 (.tmp 37) (.tmp 39),none,0⟩,
 ⟨some 42,.load1 (.tmp 41),none,0⟩,
 ⟨some 13,.move (.tmp 42),none,0⟩] false) (.seq (.ops [⟨some 43,.move (.tmp 2),none,0⟩,
 ⟨some 44,.move (.tmp 10),none,0⟩,
 ⟨some 45,.iaddr 1 (.tmp 43) (.tmp 44),none,3⟩,
 ⟨some 46,.load1 (.tmp 45),none,7⟩,
 ⟨some 47,.move (.tmp 2),none,0⟩,
 ⟨some 48,.move (.tmp 3),none,0⟩,
 ⟨some 49,.iaddr 1 (.tmp 47) (.tmp 48),none,48⟩,
 ⟨some 50,.load1 (.tmp 49),none,112⟩,
 ⟨some 51,.bin .eql (.tmp 46) (.tmp 50),none,255⟩,
 ⟨some 52,.move (.tmp 51),none,511⟩,
 ⟨some 53,.move (.tmp 2),some (52,true),1023⟩,
 ⟨some 54,.move (.tmp 13),some (52,true),1023⟩,
 ⟨some 55,.iaddr 1 (.tmp 53) (.tmp 54),some (52,true),4095⟩,
 ⟨some 56,.load1 (.tmp 55),some (52,true),8191⟩,
 ⟨some 57,.move (.tmp 2),some (52,true),1023⟩,
 ⟨some 58,.move (.tmp 3),some (52,true),1023⟩,
 ⟨some 59,.iaddr 1 (.tmp 57) (.tmp 58),some (52,true),50175⟩,
 ⟨some 60,.load1 (.tmp 59),some (52,true),115711⟩,
 ⟨some 61,.bin .eql (.tmp 56) (.tmp 60),some (52,true),262143⟩,
 ⟨some 62,.pick (.tmp 52) (.tmp 61) (.const (.bool false)),none,524287⟩] true) (.cond (.tmp 62) (.ops [⟨some 63,.move (.tmp 9),none,0⟩,
 ⟨some 64,.move (.tmp 10),none,0⟩,
 ⟨some 65,.move (.tmp 9),none,0⟩,
 ⟨some 66,.move (.tmp 10),none,0⟩,
 ⟨some 67,.iaddr 1 (.tmp 65) (.tmp 66),none,0⟩,
 ⟨some 68,.load1 (.tmp 67),none,0⟩,
 ⟨some 69,.move (.tmp 13),none,0⟩,
 ⟨some 70,.bslice 1 1 [(.tmp 69)],none,0⟩,
 ⟨some 71,.append 1 8 (.tmp 68) (.tmp 70),none,0⟩,
 ⟨some 72,.iaddr 1 (.tmp 63) (.tmp 64),none,0⟩,
 ⟨none,.store 1 (.tmp 72) (.tmp 71),none,0⟩] false) (.skip))))) (.ops [⟨some 73,.bin .add (.tmp 39) (.const (.int .i64 1)),none,0⟩,
 ⟨some 39,.move (.tmp 73),none,0⟩] false)))
def c228_1 : PC := .seq (.ops [⟨some 33,.bin .lss (.tmp 32) (.tmp 31),none,0⟩] false) (.seq (.cond (.tmp 33) (.skip) (.exit 0)) (.seq (.block 1 (.seq (.ops [⟨some 34,.move (.tmp 32),none,0⟩,
 ⟨some 35,.iaddr 1 (.tmp 30) (.tmp 32),none,0⟩,
 ⟨some 36,.load1 (.tmp 35),none,0⟩,
 ⟨some 10,.move (.tmp 34),none,0⟩,
 ⟨some 11,.move (.tmp 36),none,0⟩] false) (.seq (.ops [⟨some 37,.move (.tmp 11),none,0⟩,
 ⟨some 38,.len (.tmp 37),none,0⟩,
 ⟨some 39,.move (.const (.int .i64 0)),none,0⟩] false) (.block 2 (.loop c228_2))))) (.ops [⟨some 74,.bin .add (.tmp 32) (.const (.int .i64 1)),none,0⟩,
 ⟨some 32,.move (.tmp 74),none,0⟩] false)))
def c228_4 : PC := .seq (.ops [⟨some 96,.bin .lss (.tmp 95) (.tmp 94),none,0⟩] false) (.seq (.cond (.tmp 96) (.skip) (.exit 6)) (.seq (.block 7 (.seq (.ops [⟨some 97,.iaddr 1 (.tmp 93) (.tmp 95),none,0⟩,
 ⟨some 98,.load1 (.tmp 97),none,0⟩,
 ⟨some 19,.move (.tmp 98),none,0⟩] false) (.ops [⟨some 99,.move (.tmp 17),none,0⟩,
 ⟨some 100,.move (.tmp 19),none,0⟩,
 ⟨some 101,.move (.tmp 2),none,0⟩,
 ⟨some 102,.move (.tmp 19),none,0⟩,
 ⟨some 103,.iaddr 1 (.tmp 101) (.tmp 102),none,12⟩,
 ⟨some 104,.load1 (.tmp 103),none,28⟩,
 ⟨some 105,.move (.tmp 2),none,0⟩,
 ⟨some 106,.move (.tmp 3),none,0⟩,
 ⟨some 107,.iaddr 1 (.tmp 105) (.tmp 106),none,192⟩,
 ⟨some 108,.load1 (.tmp 107),none,448⟩,
 ⟨some 109,.bin .eql (.tmp 104) (.tmp 108),none,1020⟩,
 ⟨some 110,.iaddr 1 (.tmp 99) (.tmp 100),none,2047⟩,
 ⟨none,.store 1 (.tmp 110) (.tmp 109),none,4095⟩] true))) (.ops [⟨some 111,.bin .add (.tmp 95) (.const (.int .i64 1)),none,0⟩,
 ⟨some 95,.move (.tmp 111),none,0⟩] false)))
def c228_3 : PC := .seq (.ops [⟨some 84,.bin .lss (.tmp 83) (.tmp 82),none,0⟩] false) (.seq (.cond (.tmp 84) (.skip) (.exit 4)) (.seq (.block 5 (.seq (.ops [⟨some 85,.iaddr 1 (.tmp 81) (.tmp 83),none,0⟩,
 ⟨some 86,.load1 (.tmp 85),none,0⟩,
 ⟨some 16,.alloc [(.slice none 0 0)],none,0⟩,
 ⟨none,.store 1 (.tmp 16) (.tmp 86),none,0⟩] false) (.seq (.seq (.ops [⟨some 87,.move (.tmp 14),none,0⟩,
 ⟨some 88,.mkfn (.func 250) [] [(.tmp 16)],none,0⟩,
 ⟨some 89,.call 121 [(.tmp 87), (.tmp 88)],none,0⟩] false) (.cond (.tmp 89) (.exit 5) (.skip))) (.seq (.ops [⟨some 90,.move (.tmp 1),none,0⟩,
 ⟨some 91,.len (.tmp 90),none,0⟩,
 ⟨some 92,.mslice 1 1 [(.bool false)] (.tmp 91) (.tmp 91),none,0⟩,
 ⟨some 17,.move (.tmp 92),none,0⟩] false) (.seq (.seq (.ops [⟨some 93,.load1 (.tmp 16),none,0⟩,
 ⟨some 94,.len (.tmp 93),none,0⟩,
 ⟨some 95,.move (.const (.int .i64 0)),none,0⟩] false) (.block 6 (.loop c228_4))) (.seq (.stop (.ops [⟨some 113,.move (.tmp 9),none,0⟩,
 ⟨some 114,.move (.tmp 14),none,0⟩,
 ⟨some 115,.move (.tmp 14),none,0⟩,
 ⟨some 116,.len (.tmp 115),none,0⟩,
 ⟨some 117,.bin .sub (.tmp 116) (.const (.int .i64 1)),none,0⟩,
 ⟨some 118,.slc 1 (.tmp 114) (some (.tmp 117)) none none,none,0⟩,
 ⟨some 119,.move (.tmp 17),none,0⟩,
 ⟨some 120,.call 227 [(.tmp 113), (.tmp 118), (.tmp 119)],none,0⟩,
 ⟨some 112,.move (.tmp 120),none,0⟩,
 ⟨some 121,.ext 0 (.tmp 112),none,0⟩,
 ⟨some 122,.ext 1 (.tmp 112),none,0⟩,
 ⟨some 123,.ext 2 (.tmp 112),none,0⟩,
 ⟨some 20,.move (.tmp 121),none,0⟩,
 ⟨some 21,.move (.tmp 122),none,0⟩,
 ⟨some 22,.move (.tmp 123),none,0⟩] false)) (.ops [⟨some 124,.move (.tmp 14),none,0⟩,
 ⟨some 125,.move (.tmp 20),none,0⟩,
 ⟨some 126,.slc 1 (.tmp 125) (some (.const (.int .i64 1))) none none,none,0⟩,
 ⟨some 127,.append 1 8 (.tmp 124) (.tmp 126),none,0⟩,
 ⟨some 14,.move (.tmp 127),none,0⟩] false))))))) (.ops [⟨some 128,.bin .add (.tmp 83) (.const (.int .i64 1)),none,0⟩,
 ⟨some 83,.move (.tmp 128),none,0⟩] false)))
def c228 : PC := .seq (.ops [⟨some 8,.move (.const (.slice none 0 0)),none,0⟩] false) (.seq (.ops [⟨some 27,.move (.tmp 1),none,0⟩,
 ⟨some 28,.len (.tmp 27),none,0⟩,
 ⟨some 29,.mslice 1 24 [(.slice none 0 0)] (.tmp 28) (.tmp 28),none,0⟩,
 ⟨some 9,.move (.tmp 29),none,0⟩] false) (.seq (.seq (.ops [⟨some 30,.move (.tmp 1),none,0⟩,
 ⟨some 31,.len (.tmp 30),none,0⟩,
 ⟨some 32,.move (.const (.int .i64 0)),none,0⟩] false) (.stop (.block 0 (.loop c228_1)))) (.seq (.ops [⟨some 75,.move (.tmp 3),none,0⟩,
 ⟨some 76,.bslice 1 1 [(.tmp 75)],none,0⟩,
 ⟨some 14,.move (.tmp 76),none,0⟩] false) (.seq (.seq (.ops [⟨some 77,.move (.tmp 0),none,0⟩,
 ⟨some 78,.nilchk (.tmp 77),none,0⟩,
 ⟨some 79,.faddr 0 (.tmp 78),none,0⟩,
 ⟨some 80,.faddr 3 (.tmp 79),none,0⟩,
 ⟨some 81,.load1 (.tmp 80),none,0⟩,
 ⟨some 82,.len (.tmp 81),none,0⟩,
 ⟨some 83,.move (.const (.int .i64 0)),none,0⟩] false) (.block 4 (.loop c228_3))) (.seq (.ops [⟨some 129,.move (.tmp 1),none,0⟩,
 ⟨some 130,.len (.tmp 129),none,0⟩,
 ⟨some 131,.mslice 1 1 [(.bool false)] (.tmp 130) (.tmp 130),none,0⟩,
 ⟨some 23,.move (.tmp 131),none,0⟩] false) (.seq (.ops [⟨some 132,.move (.tmp 23),none,0⟩,
 ⟨some 133,.move (.tmp 3),none,0⟩,
 ⟨some 134,.iaddr 1 (.tmp 132) (.tmp 133),none,0⟩,
 ⟨none,.store 1 (.tmp 134) (.const (.bool true)),none,0⟩] false) (.seq (.ops [⟨some 136,.move (.tmp 9),none,0⟩,
 ⟨some 137,.move (.tmp 9),none,0⟩,
 ⟨some 138,.move (.tmp 14),none,0⟩,
 ⟨some 139,.move (.tmp 14),none,0⟩,
 ⟨some 140,.len (.tmp 139),none,0⟩,
 ⟨some 141,.bin .sub (.tmp 140) (.const (.int .i64 1)),none,0⟩,
 ⟨some 142,.iaddr 1 (.tmp 138) (.tmp 141),none,0⟩,
 ⟨some 143,.load1 (.tmp 142),none,0⟩,
 ⟨some 144,.iaddr 1 (.tmp 137) (.tmp 143),none,0⟩,
 ⟨some 145,.load1 (.tmp 144),none,0⟩,
 ⟨some 146,.move (.tmp 23),none,0⟩,
 ⟨some 147,.call 227 [(.tmp 136), (.tmp 145), (.tmp 146)],none,0⟩,
 ⟨some 135,.move (.tmp 147),none,0⟩,
 ⟨some 148,.ext 0 (.tmp 135),none,0⟩,
 ⟨some 149,.ext 1 (.tmp 135),none,0⟩,
 ⟨some 150,.ext 2 (.tmp 135),none,0⟩,
 ⟨some 24,.move (.tmp 148),none,0⟩,
 ⟨some 25,.move (.tmp 149),none,0⟩,
 ⟨some 26,.move (.tmp 150),none,0⟩] false) (.seq (.ops [⟨some 151,.move (.tmp 14),none,0⟩,
 ⟨some 152,.move (.tmp 24),none,0⟩,
 ⟨some 153,.move (.tmp 24),none,0⟩,
 ⟨some 154,.len (.tmp 153),none,0⟩,
 ⟨some 155,.bin .sub (.tmp 154) (.const (.int .i64 1)),none,0⟩,
 ⟨some 156,.slc 1 (.tmp 152) none (some (.tmp 155)) none,none,0⟩,
 ⟨some 157,.append 1 8 (.tmp 151) (.tmp 156),none,0⟩,
 ⟨some 8,.move (.tmp 157),none,0⟩] false) (.ret)))))))))
set_option maxRecDepth 100000 in
theorem c228_ok : FunOK Try.prog 228 158 [.tmp 8] c228 := ⟨⟨Try.f228, Try.func228, rfl, by kernel_rfl, rfl, by kernel_rfl⟩⟩
set_option maxRecDepth 100000 in
theorem la_round (W : WorldD) (hW : W.Fits) (hc : W.chk = 0) (g : List (List Int)) (hg : g.length = W.next.length) (hF : FitsG g) (e : Nat) (H : RndH g W.fair e) :
    PCall Try.prog 228 [dlab W, dgrid g, dints (partsL g), .sc (.int .i64 e)] (dints (rndL g W.fair e)) := by
  obtain ⟨_, h600, h80, _, hnx, hfr⟩ := chk_label W hc
  have hin0 := H.hin
  have he := H.he
  have hFF : FitsG W.fair := ⟨hW.fair, hW.fairEach⟩
  have hrow := fun k => inB_row hin0 k
  have hFrow := fun k => inB_row hfr k
  refine pcall_intro c228_ok (by simp) (by simp [PureL, Pure, pure_dgrid, pure_dints, pure_dlab]) ?_ (pure_dints _)
  have hpe := parts_lt he
  (apply rd_sound; focus (repeat' constructor))
  ((conv=>whnf);repeat(refine .intro rfl ?_;conv=>whnf))
  rw [List.length_map]
  refine ⟨by omega, by omega, by omega, ?_⟩
  rw [Int.toNat_natCast]
  ((conv=>whnf);repeat(refine .intro rfl ?_;conv=>whnf))
  rw [List.length_map]
  refine pwp_cut (fun _ : Unit => [(0, dlab W), (1, dgrid g), (2, dints (partsL g)), (3, .sc (.int .i64 e)), (9, dgrid (resG g (zpF g e)))]) (fun _ => [.vec false 0 1 ((resG g (zpF g e)).map fun l => [dints l])]) (fun _ => True) ?_ ?_
  · (apply rd_sound; focus (repeat' constructor))
    ((conv=>whnf);repeat(refine .intro rfl ?_;conv=>whnf))
    refine pwp_ghostB (leB_nils 0 1 g.length 0 (by simp) rfl) ?_
    refine pwp_forH [0, 1, 2, 3, 9, 30, 31] (fun k : Nat => [(32, .sc (.int .i64 k))]) (fun k => .vec true 0 1 (ogRows 1 (curL g.length (fun v => rowT g (zpF g e) v (g.getD v []).length) k [])) :: ogObjs 1 ncell (curL g.length (fun v => rowT g (zpF g e) v (g.getD v []).length) k [])) (fun k => k ≤ g.length) (fun k => g.length - k) 0 ?_
    ((conv=>whnf);repeat(refine .intro rfl ?_;conv=>whnf))
    refine ⟨by omega, by (repeat' (first | exact trivial | refine And.intro rfl ?_)), ?_, ?_⟩
    · rw [curL_zero]
      show _ :: _ = _ :: _
      rw [ogObjs_nils 1 _ ncell]
      exact congrArg (fun x => AObj.vec true 0 1 x :: _) (ogRows_nils (α := Int) 1 _)
    rintro k hk
    ((conv=>whnf);repeat(refine .intro rfl ?_;conv=>whnf))
    (apply rd_sound; focus (repeat' constructor))
    ((conv=>whnf);repeat(refine .intro rfl ?_;conv=>whnf))
    (refine ifK_split (fun q0 => ?_) (fun q0 => ?_) <;> (rw [q0]; ((conv=>whnf);repeat(refine .intro rfl ?_;conv=>whnf))))
    · have q0 : k < g.length := by ((try simp only[oo,reduceCtorEq]at*)<;>omega)
      have hgF := hF.at k
      have hpk := parts_lt q0
      refine ⟨by omega, _, gridD_at (g := g) (k := k) (by omega) q0, ?_⟩
      ((conv=>whnf);repeat(refine .intro rfl ?_;conv=>whnf))
      rw [List.length_map]
      refine pwp_forH [0, 1, 2, 3, 9, 10, 30, 31, 32, 37, 38] (fun j : Nat => [(39, .sc (.int .i64 j))]) (fun j => .vec true 0 1 (ogRows 1 (curL g.length (fun v => rowT g (zpF g e) v (g.getD v []).length) k (rowT g (zpF g e) k j))) :: ogObjs 1 ncell (curL g.length (fun v => rowT g (zpF g e) v (g.getD v []).length) k (rowT g (zpF g e) k j)))
        (fun j => j ≤ (g.getD k []).length) (fun j => (g.getD k []).length - j) 0 ?_
      ((conv=>whnf);repeat(refine .intro rfl ?_;conv=>whnf))
      refine ⟨by omega, by (repeat' (first | exact trivial | refine And.intro rfl ?_)), by rw [show rowT g (zpF g e) k 0 = [] by unfold rowT; split <;> simp], ?_⟩
      rintro j hj
      ((conv=>whnf);repeat(refine .intro rfl ?_;conv=>whnf))
      (apply rd_sound; focus (repeat' constructor))
      ((conv=>whnf);repeat(refine .intro rfl ?_;conv=>whnf))
      (refine ifK_split (fun q1 => ?_) (fun q1 => ?_) <;> (rw [q1]; ((conv=>whnf);repeat(refine .intro rfl ?_;conv=>whnf))))
      · have q1 : j < (g.getD k []).length := by ((try simp only[oo,reduceCtorEq]at*)<;>omega)
        have eS := rowT_succ (z := zpF g e) q1
        have hx := inB_mem (hrow k) (mem_getD q1)
        have hrl := rowT_len g (zpF g e) k j
        refine ⟨by omega, _, intsD_at (l := g.getD k []) (k := j) (by omega) q1, ?_⟩
        ((conv=>whnf);repeat(refine .intro rfl ?_;conv=>whnf))
        refine ⟨by omega, _, gl_atN k (by omega) q0, ?_⟩
        ((conv=>whnf);repeat(refine .intro rfl ?_;conv=>whnf))
        refine ⟨by omega, _, gl_atN e (by omega) he, ?_⟩
        ((conv=>whnf);repeat(refine .intro rfl ?_;conv=>whnf))
        have ezk : zpF g e k = (partsG g k == partsG g e) := rfl
        have ezx : zpF g e ((g.getD k []).getD j 0).toNat = (partsG g ((g.getD k []).getD j 0).toNat == partsG g e) := rfl
        generalize (g.getD k []).getD j 0 = x at *
        have same : (zpF g e k = true ∧ zpF g e x.toNat = true → False) → rowT g (zpF g e) k (j + 1) = rowT g (zpF g e) k j := fun h => by rw [eS, if_neg h]
        cases zk : (partsG g k == partsG g e)
        · rw [zk] at ezk
          ((conv=>whnf);repeat(refine .intro rfl ?_;conv=>whnf))
          (refine .inl ⟨by (unfold InR; rw [IntKind.wrap_i64]; omega), ?_⟩; ((conv=>whnf);repeat(refine .intro rfl ?_;conv=>whnf)))
          refine ⟨j + 1, by omega, by dsimp only; omega, leB_envH (by (repeat' (first | exact trivial | refine And.intro rfl ?_))) ?_⟩
          dsimp only
          rw [same fun q => by rw [ezk] at q; cases q.1]
        · rw [zk] at ezk
          ((conv=>whnf);repeat(refine .intro rfl ?_;conv=>whnf))
          refine ⟨by omega, _, gl_atN x.toNat (by omega) (by omega), ?_⟩
          ((conv=>whnf);repeat(refine .intro rfl ?_;conv=>whnf))
          refine ⟨by omega, _, gl_atN e (by omega) he, ?_⟩
          ((conv=>whnf);repeat(refine .intro rfl ?_;conv=>whnf))
          cases zx : (partsG g x.toNat == partsG g e)
          · rw [zx] at ezx
            ((conv=>whnf);repeat(refine .intro rfl ?_;conv=>whnf))
            (refine .inl ⟨by (unfold InR; rw [IntKind.wrap_i64]; omega), ?_⟩; ((conv=>whnf);repeat(refine .intro rfl ?_;conv=>whnf)))
            refine ⟨j + 1, by omega, by dsimp only; omega, leB_envH (by (repeat' (first | exact trivial | refine And.intro rfl ?_))) ?_⟩
            dsimp only
            rw [same fun q => by rw [ezx] at q; cases q.2]
          · rw [zx] at ezx
            rw [if_pos ⟨ezk, ezx⟩] at eS
            ((conv=>whnf);repeat(refine .intro rfl ?_;conv=>whnf))
            (refine ⟨by omega, (by first | omega | (simp; done) | (simp; omega) | (simp only [ll]; omega)), ?_⟩; ((conv=>whnf);repeat(refine .intro rfl ?_;conv=>whnf)))
            refine ⟨_, ogRows_at (i := k) (by omega) (by simp; omega), ?_⟩
            ((conv=>whnf);repeat(refine .intro rfl ?_;conv=>whnf))
            have hset : (curL g.length (fun v => rowT g (zpF g e) v (g.getD v []).length) k (rowT g (zpF g e) k j)).set k (rowT g (zpF g e) k j ++ [x]) = curL g.length (fun v => rowT g (zpF g e) v (g.getD v []).length) k (rowT g (zpF g e) k (j + 1)) := by rw [curL_set q0, ← eS]
            have hlen : (curL g.length (fun v => rowT g (zpF g e) v (g.getD v []).length) k (rowT g (zpF g e) k j)).length = g.length := curL_len ..
            have hgk : (curL g.length (fun v => rowT g (zpF g e) v (g.getD v []).length) k (rowT g (zpF g e) k j)).getD k [] = rowT g (zpF g e) k j := curL_at q0
            generalize curL g.length (fun v => rowT g (zpF g e) v (g.getD v []).length) k (rowT g (zpF g e) k j) = R at *
            refine og_push ?_
            ((conv=>whnf);repeat(refine .intro rfl ?_;conv=>whnf))
            (repeat (first | (refine og_getE 0 rfl ?_; ((conv=>whnf);repeat(refine .intro rfl ?_;conv=>whnf))) | (refine og_putE 0 rfl ?_; ((conv=>whnf);repeat(refine .intro rfl ?_;conv=>whnf))) | (refine og_getE 1 rfl ?_; ((conv=>whnf);repeat(refine .intro rfl ?_;conv=>whnf))) | (refine og_putE 1 rfl ?_; ((conv=>whnf);repeat(refine .intro rfl ?_;conv=>whnf)))))
            refine og_getT (by omega) ?_
            ((conv=>whnf);repeat(refine .intro rfl ?_;conv=>whnf))
            rw [hgk]
            refine ⟨by unfold sliceAppend; simp only [List.length_drop, List.length_take, List.length_cons, List.length_nil]; omega, ?_⟩
            ((conv=>whnf);repeat(refine .intro rfl ?_;conv=>whnf))
            refine og_putT (rowT g (zpF g e) k j ++ [x]) (by omega) ?_ ?_
            · exact og_app
            ((conv=>whnf);repeat(refine .intro rfl ?_;conv=>whnf))
            (refine ⟨by omega, (by first | omega | (simp; done) | (simp; omega) | (simp only [ll]; omega)), ?_⟩; ((conv=>whnf);repeat(refine .intro rfl ?_;conv=>whnf)))
            refine ⟨_, ogRows_at (i := k) (by omega) (by omega), ?_⟩
            ((conv=>whnf);repeat(refine .intro rfl ?_;conv=>whnf))
            (refine .inl ⟨by (unfold InR; rw [IntKind.wrap_i64]; omega), ?_⟩; ((conv=>whnf);repeat(refine .intro rfl ?_;conv=>whnf)))
            refine ⟨j + 1, by omega, by dsimp only; omega, ?_⟩
            dsimp only
            rw [hset]
            refine leB_close (g.length + 1) (by simp) (by simp) (by (repeat' (first | exact trivial | exact rfl | exact DeepM.refl _ | exact DeepML.refl _ | exact DeepMLL.refl _ | refine And.intro ?_ ?_ | (simp [Under, UnderL, UnderLL, -List.map_take, -List.map_drop]; done)))) ⟨⟨rfl, rfl, rfl, deepMLL_eq ?_, underLL_ogRows (by simp; omega)⟩, closeH_og under_ncell⟩
            exact (ogRows_set (by omega) (by omega) (rowT g (zpF g e) k j ++ [x]) (by simp)).trans (by rw [hset])
      · have q1 : j = (g.getD k []).length := by have : ¬ j < (g.getD k []).length := by ((try simp only[oo,reduceCtorEq]at*)<;>omega)
                                                 omega
        subst q1
        rw [show curL g.length (fun v => rowT g (zpF g e) v (g.getD v []).length) k (rowT g (zpF g e) k (g.getD k []).length) = curL g.length (fun v => rowT g (zpF g e) v (g.getD v []).length) (k + 1) [] from curL_next]
        (refine .inl ⟨by (unfold InR; rw [IntKind.wrap_i64]; omega), ?_⟩; ((conv=>whnf);repeat(refine .intro rfl ?_;conv=>whnf)))
        exact ⟨k + 1, by omega, by dsimp only; omega, leB_envH (by (repeat' (first | exact trivial | refine And.intro rfl ?_))) rfl⟩
    · have q0 : k = g.length := by have : ¬ k < g.length := by ((try simp only[oo,reduceCtorEq]at*)<;>omega)
                                   omega
      subst q0
      rw [curL_done, rowT_all]
      have eF := drop_take_all (l := (resG g (zpF g e)).map fun l => [dints l]) (n := g.length) (by simp)
      refine ⟨(), trivial, leB_trans (leB_close 1 (env' := [(0, dlab W), (1, dgrid g), (2, dints (partsL g)), (3, .sc (.int .i64 e)), (9, .own 0 0 0 g.length)]) (H' := [.vec true 0 1 ((resG g (zpF g e)).map fun l => [dints l])]) (by simp) rfl (by (repeat' (first | exact trivial | exact rfl | exact DeepM.refl _ | exact DeepML.refl _ | exact DeepMLL.refl _ | refine And.intro ?_ ?_ | (simp [Under, UnderL, UnderLL, -List.map_take, -List.map_drop]; done)))) ⟨⟨rfl, rfl, rfl, deepM_ogRows (c := ncell) (fun i hi => by simp [fromN]) (fun i hi => ?_), underLL_pure _ (pure_gridV _)⟩, closeH_nil _⟩) (leB_freeze (fun _ => true) ?_ ?_)⟩
      · show (ogObjs 1 ncell (resG g (zpF g e)))[i]? = _
        exact ogObjs_at hi
      · exact ⟨.refl _, .refl _, .refl _, .refl _, .own _ _ _ _ _ _ _ _ rfl rfl (deepMLL_eq eF), trivial⟩
      · (repeat' (first | exact trivial | refine And.intro ?_ ?_ | exact Or.inl rfl | exact Or.inr ⟨rfl, rfl⟩ | exact fun _ => rfl | exact (fun h => by cases h) | refine DeepM.loc _ _ _ _ _ rfl rfl ?_ | refine DeepM.own _ _ _ _ _ _ _ _ rfl rfl ?_ | refine DeepM.fn _ _ _ _ _ ?_ ?_ | refine DeepM.agg _ _ ?_ | refine DeepM.tup _ _ ?_ | refine DeepM.ifc _ _ _ ?_ | exact DeepM.refl _ | refine DeepML.cons _ _ _ _ ?_ ?_ | exact DeepML.refl _ | refine DeepMLL.cons _ _ _ _ ?_ ?_ | exact DeepMLL.refl _ | exact rfl))
  intro _ _
  have hg1 := H.hinH
  have hgl := resG_len g (zpF g e)
  have hgf := resG_fits hF (zpF g e)
  have hgc : chkG (resG g (zpF g e)) = 0 := chkG_zero.2 ⟨by omega, hg1⟩
  have hAll := fun k hk => rnd_all H k hk
  have hHome := fun k hk => (hAll k hk).home H
  have hFin := rndL_ok H
  have eFin : rndL g W.fair e = rndS (resG g (zpF g e)) W.fair (zpF g e) (e : Int) W.fair.length ++ (homeL (resG g (zpF g e)) (rndS (resG g (zpF g e)) W.fair (zpF g e) (e : Int) W.fair.length) e).take ((homeL (resG g (zpF g e)) (rndS (resG g (zpF g e)) W.fair (zpF g e) (e : Int) W.fair.length) e).length - 1) := rfl
  have hMore := fun k (hk : k < W.fair.length) => (hAll k (by omega)).more H hk
  have eS : ∀ k, rndS (resG g (zpF g e)) W.fair (zpF g e) (e : Int) (k + 1) = if (rndS (resG g (zpF g e)) W.fair (zpF g e) (e : Int) k).any (fun x => (W.fair.getD k []).contains x) = true then rndS (resG g (zpF g e)) W.fair (zpF g e) (e : Int) k else rndS (resG g (zpF g e)) W.fair (zpF g e) (e : Int) k ++ (wayL (resG g (zpF g e)) [lastD (rndS (resG g (zpF g e)) W.fair (zpF g e) (e : Int) k)] (toS (W.fair.getD k []) (zpF g e))).drop 1 := fun k => rfl
  have eZ : rndS (resG g (zpF g e)) W.fair (zpF g e) (e : Int) 0 = [(e : Int)] := rfl
  rw [eFin]
  clear eFin
  generalize hR : rndS (resG g (zpF g e)) W.fair (zpF g e) (e : Int) = R at *
  generalize hG : resG g (zpF g e) = h at *
  unfold dlab lcel
  ((conv=>whnf);repeat(refine .intro rfl ?_;conv=>whnf))
  rw [List.length_map]
  refine pwp_for [1, 2, 3, 9, 81, 82] (fun ((k, v, m) : Nat × Nat × Nat) => [(14, .own 1 v 0 (m + 1)), (83, .sc (.int .i64 k))]) (fun (k, v, m) => [(1, .vec true v 1 (i64s (R k)))]) (fun (k, v, m) => k ≤ W.fair.length ∧ (R k).length = m + 1) (fun (k, v, m) => W.fair.length - k) (0, 0, 0) ?_
  ((conv=>whnf);repeat(refine .intro rfl ?_;conv=>whnf))
  refine ⟨⟨by omega, by rw [eZ]; rfl⟩, by (repeat' (first | exact trivial | refine And.intro rfl ?_)), by show _ = [_, AObj.vec true 0 1 (i64s (R 0))]; rw [eZ]; rfl, ?_⟩
  rintro ⟨k, v, m⟩ ⟨hk, hm⟩
  have hA := hAll k hk
  have hRr := hA.rng
  have hcutR : List.drop 0 (List.take (m + 1) (i64s (R k))) = i64s (R k) := drop_take_all (by simp [hm])
  have hmul : k * g.length ≤ 80 * 600 := Nat.mul_le_mul (by omega) (by omega)
  have hlenR := hA.len
  ((conv=>whnf);repeat(refine .intro rfl ?_;conv=>whnf))
  (apply rd_sound; focus (repeat' constructor))
  ((conv=>whnf);repeat(refine .intro rfl ?_;conv=>whnf))
  (refine ifK_split (fun q0 => ?_) (fun q0 => ?_) <;> (rw [q0]; ((conv=>whnf);repeat(refine .intro rfl ?_;conv=>whnf))))
  rotate_left
  · have q0 : k = W.fair.length := by have : ¬ k < W.fair.length := by ((try simp only[oo,reduceCtorEq]at*)<;>omega)
                                      omega
    subst q0
    clear hMore eS eZ
    obtain ⟨hm1, hm2⟩ := hHome _ (Nat.le_refl _)
    obtain ⟨_, hF1, hF2⟩ := hFin
    have hlast : (R W.fair.length).getD m 0 = lastD (R W.fair.length) := by unfold lastD; rw [hm]; rfl
    have hll := hRr _ hA.last.1
    have hfl := hgf.at (lastD (R W.fair.length)).toNat
    have hWy := scc_Way h hgc hgf (h.getD (lastD (R W.fair.length)).toNat []) hm1 (by omega) (fun v => decide (v = e)) (fun i hi => by simp; omega)
    rw [show wayL h (h.getD (lastD (R W.fair.length)).toNat []) (fun v => decide (v = e)) = homeL h (R W.fair.length) e from rfl, hgl] at hWy
    rw [List.length_map]
    refine ⟨by omega, by omega, by omega, ?_⟩
    rw [Int.toNat_natCast, show List.map D.sc [Value.bool false] = [D.sc (.bool false)] from rfl, rbl_rep]
    ((conv=>whnf);repeat(refine .intro rfl ?_;conv=>whnf))
    (refine ⟨by omega, (by first | omega | (simp; done) | (simp; omega) | (simp only [ll]; omega)), ?_⟩; ((conv=>whnf);repeat(refine .intro rfl ?_;conv=>whnf)))
    refine ⟨_, rbl_atN e (by omega) he, ?_⟩
    ((conv=>whnf);repeat(refine .intro rfl ?_;conv=>whnf))
    rw [rbl_put (n := g.length) (i := e) (f := fun _ => false) (f' := fun v => decide (v = e)) (by omega) fun v _ => by
      by_cases q : v = e
      · rw [if_pos q, decide_eq_true q]
      · rw [if_neg q, decide_eq_false q]]
    (refine .inl ⟨by (unfold InR; rw [IntKind.wrap_i64]; omega), ?_⟩; ((conv=>whnf);repeat(refine .intro rfl ?_;conv=>whnf)))
    refine ⟨by omega, by omega, ?_⟩
    ((conv=>whnf);repeat(refine .intro rfl ?_;conv=>whnf))
    refine ⟨_, i64s_at (l := R W.fair.length) (k := m) (by omega) (by omega), ?_⟩
    ((conv=>whnf);repeat(refine .intro rfl ?_;conv=>whnf))
    rw [hlast]
    refine ⟨by omega, _, gridD_at (g := h) (k := (lastD (R W.fair.length)).toNat) (by omega) (by omega), ?_⟩
    ((conv=>whnf);repeat(refine .intro rfl ?_;conv=>whnf))
    have hWy' := hWy
    rw [show dbl g.length (fun v => decide (v = e)) = D.lst 1 (List.drop 0 (List.take g.length (rbl g.length fun v => decide (v = e)))) from by rw [rbl_all]; rfl] at hWy'
    (refine .inr (.inr (.inr (.inr (.inl ⟨_, _, _, (acallAt_frz1 (pre := [_, _]) (post := []) hWy' (by simp [Pure, PureL, pure_dints]) ⟨pure_dgrid _, pure_dints _, trivial⟩ trivial (pure_rbl _ _) rfl), ?_⟩)))); ((conv=>whnf);repeat(refine .intro rfl ?_;conv=>whnf)))
    generalize homeL h (R W.fair.length) e = w at *
    rw [List.length_map]
    (refine .inl ⟨by (unfold InR; rw [IntKind.wrap_i64]; omega), ?_⟩; ((conv=>whnf);repeat(refine .intro rfl ?_;conv=>whnf)))
    refine ⟨by omega, ?_⟩
    ((conv=>whnf);repeat(refine .intro rfl ?_;conv=>whnf))
    rw [List.length_map]
    refine ⟨by omega, by omega, ?_⟩
    ((conv=>whnf);repeat(refine .intro rfl ?_;conv=>whnf))
    refine ⟨(by unfold sliceAppend; simp only [ll]; omega), ?_⟩
    ((conv=>whnf);repeat(refine .intro rfl ?_;conv=>whnf))
    refine .own _ _ _ _ _ _ _ _ rfl ?_
    rw [hcutR, show ((w.length : Int) - 1).toNat = w.length - 1 by omega, List.drop_zero, List.drop_zero, ← List.map_take]
    generalize List.take (w.length - 1) w = u
    rw [List.map_append, show List.map (fun n => [D.sc (Value.int IntKind.i64 n)]) (R W.fair.length) = i64s (R W.fair.length) from rfl, List.take_of_length_le (l := i64s (R W.fair.length) ++ _) (by rw [List.length_append, i64s_len]; omega)]
    exact deepLL_refl _
  have q0 : k < W.fair.length := by ((try simp only[oo,reduceCtorEq]at*)<;>omega)
  have hFk := hFF.at k
  have hMk := hMore k q0
  have eSk := eS k
  have hwy := hA.way H q0
  have hinl := hA.inl
  rw [hG] at hwy hinl
  refine ⟨by omega, _, gridD_at (g := W.fair) (k := k) (by omega) q0, ?_⟩
  ((conv=>whnf);repeat(refine .intro rfl ?_;conv=>whnf))
  have hsr := fun j (hj : j < (W.fair.getD k []).length) => inB_mem (hFrow k) (mem_getD hj)
  have hsl : ∀ x ∈ W.fair.getD k [], 0 ≤ x ∧ x.toNat < g.length := fun x hx => by have := inB_mem (hFrow k) hx; omega
  generalize hset : W.fair.getD k [] = l at *
  refine .inr (.inl ⟨_, _, .cons _ _ _ _ (.own _ _ _ _ _ _ _ _ rfl (by rw [hcutR]; exact deepLL_refl _)) (.cons _ _ _ _ (.fn _ _ _ _ _ .nil (.cons _ _ _ _ (.loc _ _ _ _ _ rfl (deepL_refl _)) .nil)) .nil), containsF_int (fun n => .sc (.int .i64 n)) (fun a => by simp [Pure]) (R k) (by omega) (fun x => l.contains x) 250 [.ipt [dints l]] (by simp [PureL, Pure, pure_dints]) (fun a _ => lrd_has l (by omega) a), rfl, ?_⟩)
  ((conv=>whnf);repeat(refine .intro rfl ?_;conv=>whnf))
  cases r : (R k).any fun x => l.contains x
  rotate_left
  · rw [if_pos r] at eSk
    ((conv=>whnf);repeat(refine .intro rfl ?_;conv=>whnf))
    (refine .inl ⟨by (unfold InR; rw [IntKind.wrap_i64]; omega), ?_⟩; ((conv=>whnf);repeat(refine .intro rfl ?_;conv=>whnf)))
    refine ⟨(k + 1, v, m), ⟨by omega, by rw [eSk]; exact hm⟩, by dsimp only; omega, ?_⟩
    dsimp only
    rw [eSk]
    (refine leB_close 2 (by simp) rfl ?_ ?_ <;> (repeat' (first | exact trivial | exact rfl | exact DeepM.refl _ | exact DeepML.refl _ | exact DeepMLL.refl _ | refine And.intro ?_ ?_ | (simp [Under, UnderL, UnderLL, -List.map_take, -List.map_drop]; done))))
  rw [if_neg (by rw [r]; decide)] at eSk
  ((conv=>whnf);repeat(refine .intro rfl ?_;conv=>whnf))
  rw [List.length_map]
  refine ⟨by omega, by omega, by omega, ?_⟩
  rw [Int.toNat_natCast, show List.map D.sc [Value.bool false] = [D.sc (.bool false)] from rfl, rbl_rep]
  ((conv=>whnf);repeat(refine .intro rfl ?_;conv=>whnf))
  rw [List.length_map]
  refine pwp_for [1, 2, 3, 9, 14, 17, 81, 82, 83, 93, 94] (fun j : Nat => [(95, .sc (.int .i64 j))]) (fun j => [(3, .vec true 0 1 (rbl g.length (toS (l.take j) (zpF g e))))]) (fun j => j ≤ l.length) (fun j => l.length - j) 0 ?_
  ((conv=>whnf);repeat(refine .intro rfl ?_;conv=>whnf))
  refine ⟨by omega, by (repeat' (first | exact trivial | refine And.intro rfl ?_)), rfl, ?_⟩
  rintro j hj
  ((conv=>whnf);repeat(refine .intro rfl ?_;conv=>whnf))
  (apply rd_sound; focus (repeat' constructor))
  ((conv=>whnf);repeat(refine .intro rfl ?_;conv=>whnf))
  (refine ifK_split (fun q1 => ?_) (fun q1 => ?_) <;> (rw [q1]; ((conv=>whnf);repeat(refine .intro rfl ?_;conv=>whnf))))
  · have q1 : j < l.length := by ((try simp only[oo,reduceCtorEq]at*)<;>omega)
    have hx := hsr j q1
    have eT := toS_step (z := zpF g e) q1 hx.1
    refine ⟨by omega, _, intsD_at (l := l) (k := j) (by omega) q1, ?_⟩
    ((conv=>whnf);repeat(refine .intro rfl ?_;conv=>whnf))
    generalize l.getD j 0 = x at *
    refine ⟨by omega, _, gl_atN x.toNat (by omega) (by omega), ?_⟩
    ((conv=>whnf);repeat(refine .intro rfl ?_;conv=>whnf))
    refine ⟨by omega, _, gl_atN e (by omega) he, ?_⟩
    ((conv=>whnf);repeat(refine .intro rfl ?_;conv=>whnf))
    (refine ⟨by omega, (by first | omega | (simp; done) | (simp; omega) | (simp only [ll]; omega)), ?_⟩; ((conv=>whnf);repeat(refine .intro rfl ?_;conv=>whnf)))
    refine ⟨_, rbl_atN x.toNat (by omega) (by omega), ?_⟩
    ((conv=>whnf);repeat(refine .intro rfl ?_;conv=>whnf))
    (refine .inl ⟨by (unfold InR; rw [IntKind.wrap_i64]; omega), ?_⟩; ((conv=>whnf);repeat(refine .intro rfl ?_;conv=>whnf)))
    refine ⟨j + 1, by omega, by dsimp only; omega, leB_envH (by (repeat' (first | exact trivial | refine And.intro rfl ?_))) ?_⟩
    rw [rbl_put (i := x.toNat) (f' := toS (l.take (j + 1)) (zpF g e)) (by omega) fun w _ => by
      rw [eT]
      by_cases q : w = x.toNat
      · rw [if_pos q, if_pos q, q]; rfl
      · rw [if_neg q, if_neg q]]
    rfl
  have q1 : j = l.length := by have : ¬ j < l.length := by ((try simp only[oo,reduceCtorEq]at*)<;>omega)
                               omega
  subst q1
  rw [List.take_length]
  have htS : ∀ i, h.length ≤ i → toS l (zpF g e) i = false := fun i hi => by
    unfold toS setB
    rw [show l.contains (i : Int) = false from by
      rw [← Bool.not_eq_true, List.contains_iff_mem]
      intro q
      have := hsl _ q
      omega]
    rfl
  have hlast : (R k).getD m 0 = lastD (R k) := by unfold lastD; rw [hm]; rfl
  have hWO := scc_WayO h hgc hgf (lastD (R k)) (R k) m v (by omega) hlast (by exact hinl) (toS l (zpF g e)) htS
  rw [hgl] at hWO
  refine pwp_ghostB (leB_freeze (fun i => i == 3) (env' := [(1, dgrid g), (2, dints (partsL g)), (3, .sc (.int .i64 e)), (9, dgrid h), (14, .own 1 v 0 (m + 1)), (17, dbl g.length (toS l (zpF g e))), (81, dgrid W.fair), (82, .sc (.int .i64 W.fair.length)), (83, .sc (.int .i64 k))])
    (H' := [.vec false 0 1 (h.map fun l => [dints l]), .vec true v 1 (i64s (R k)), .row true [dints l], .vec false 0 1 (rbl g.length (toS l (zpF g e)))]) ?_ ?_) ?_
  · exact ⟨.refl _, .refl _, .refl _, .refl _, .refl _, .own _ _ _ _ _ _ _ _ rfl rfl (deepMLL_eq (by rw [drop_take_all (by simp)])), .refl _, .refl _, .refl _, trivial⟩
  · (repeat' (first | exact trivial | refine And.intro ?_ ?_ | exact Or.inl rfl | exact Or.inr ⟨rfl, rfl⟩ | exact fun _ => rfl | exact (fun h => by cases h) | refine DeepM.loc _ _ _ _ _ rfl rfl ?_ | refine DeepM.own _ _ _ _ _ _ _ _ rfl rfl ?_ | refine DeepM.fn _ _ _ _ _ ?_ ?_ | refine DeepM.agg _ _ ?_ | refine DeepM.tup _ _ ?_ | refine DeepM.ifc _ _ _ ?_ | exact DeepM.refl _ | refine DeepML.cons _ _ _ _ ?_ ?_ | exact DeepML.refl _ | refine DeepMLL.cons _ _ _ _ ?_ ?_ | exact DeepMLL.refl _ | exact rfl))
  (apply rd_sound; focus (repeat' constructor))
  ((conv=>whnf);repeat(refine .intro rfl ?_;conv=>whnf))
  (refine .inl ⟨by (unfold InR; rw [IntKind.wrap_i64]; omega), ?_⟩; ((conv=>whnf);repeat(refine .intro rfl ?_;conv=>whnf)))
  refine ⟨by omega, ?_⟩
  ((conv=>whnf);repeat(refine .intro rfl ?_;conv=>whnf))
  refine ⟨by omega, by omega, ?_⟩
  ((conv=>whnf);repeat(refine .intro rfl ?_;conv=>whnf))
  rw [show 0 + (((m + 1 - 0 : Nat) : Int) - 1).toNat = m by omega, show 0 + (m + 1 - 0) = m + 1 by omega]
  (refine .inr (.inr (.inr (.inr (.inl ⟨_, _, _, (acallAt_of hWO rfl [1] rfl (by simp) (by simp [UnderL, Under, under_pure _ (pure_dgrid _)]) (by simp [UnderO, AObj.under]) (by simp only [renL, D.ren, ren_pure _ (pure_dgrid _), ren_pure _ (pure_dbl _ _)]; rfl) (by simp only [D.ren, renL, ren_pure _ (pure_dints _)]; rfl) (fun i o ho => by
    cases i with
    | zero => cases ho; simp only [AObj.ren, renLL_pure _ (show PureLL (i64s (R k)) from pure_i64L _)]; rfl
    | succ i => cases ho)), ?_⟩)))); ((conv=>whnf);repeat(refine .intro rfl ?_;conv=>whnf)))
  obtain ⟨hM1, hM2, hM3⟩ := hMk
  refine ⟨by omega, ?_⟩
  ((conv=>whnf);repeat(refine .intro rfl ?_;conv=>whnf))
  rw [List.length_map]
  refine ⟨by omega, by omega, ?_⟩
  ((conv=>whnf);repeat(refine .intro rfl ?_;conv=>whnf))
  refine ⟨(by unfold sliceAppend; simp only [ll]; omega), ?_⟩
  ((conv=>whnf);repeat(refine .intro rfl ?_;conv=>whnf))
  (refine .inl ⟨by (unfold InR; rw [IntKind.wrap_i64]; omega), ?_⟩; ((conv=>whnf);repeat(refine .intro rfl ?_;conv=>whnf)))
  generalize hway : wayL h [lastD (R k)] (toS l (zpF g e)) = w at *
  refine ⟨(k + 1, v + 1, m + (w.length - 1)), ⟨by omega, by rw [eSk]; simp [hm]; omega⟩, by dsimp only; omega, ?_⟩
  dsimp only
  rw [eSk, show (m + 1 - 0 + (List.drop (Int.toNat 1) (List.take w.length (List.map (fun n => [D.sc (Value.int IntKind.i64 n)]) w))).length) = m + (w.length - 1) + 1 from by simp; omega]
  (refine leB_close 2 (by simp) rfl ?_ ?_ <;> (repeat' (first | exact trivial | exact rfl | exact DeepM.refl _ | exact DeepML.refl _ | exact DeepMLL.refl _ | refine And.intro ?_ ?_ | (simp [Under, UnderL, UnderLL, -List.map_take, -List.map_drop]; done))))
  exact deepMLL_eq (by rw [renLL_pure _ (show PureLL (i64s (R k)) from pure_i64L _), hcutR, List.take_of_length_le (by simp)]; simp [i64s, List.map_drop])
end

/-! ### XLs5 -/
section
open Go.RowKit
set_option linter.unusedSimpArgs false
set_option linter.unusedVariables false
noncomputable def lasS (W : WorldD) (z : Nat → Bool) (n : Nat) : List Int := (stemL (resG W.next z) W.fair z n).take ((stemL (resG W.next z) W.fair z n).length - 1)
noncomputable def lasR (W : WorldD) (z : Nat → Bool) (n : Nat) : List Int := rndL (resG W.next z) W.fair (lastD (stemL (resG W.next z) W.fair z n)).toNat
def c202_2 : PC := .seq (.ops [⟨some 39,.bin .lss (.tmp 38) (.tmp 37),none,0⟩] false) (.seq (.cond (.tmp 39) (.skip) (.exit 2)) (.seq (.block 3 (.seq (.ops [⟨some 40,.iaddr 1 (.tmp 36) (.tmp 38),none,0⟩,
 ⟨some 41,.load1 (.tmp 40),none,0⟩,
 ⟨some 11,.move (.tmp 41),none,0⟩] false) (.seq (.ops [⟨some 42,.move (.tmp 2),none,0⟩,
 ⟨some 43,.move (.tmp 8),none,0⟩,
 ⟨some 44,.iaddr 1 (.tmp 42) (.tmp 43),none,0⟩,
 ⟨some 45,.load1 (.tmp 44),none,0⟩,
 ⟨some 46,.move (.tmp 45),none,0⟩,
 ⟨some 47,.move (.tmp 2),some (46,true),0⟩,
 ⟨some 48,.move (.tmp 11),some (46,true),0⟩,
 ⟨some 49,.iaddr 1 (.tmp 47) (.tmp 48),some (46,true),0⟩,
 ⟨some 50,.load1 (.tmp 49),some (46,true),0⟩,
 ⟨some 51,.pick (.tmp 46) (.tmp 50) (.const (.bool false)),none,0⟩] false) (.cond (.tmp 51) (.ops [⟨some 52,.move (.tmp 7),none,0⟩,
 ⟨some 53,.move (.tmp 8),none,0⟩,
 ⟨some 54,.move (.tmp 7),none,0⟩,
 ⟨some 55,.move (.tmp 8),none,0⟩,
 ⟨some 56,.iaddr 1 (.tmp 54) (.tmp 55),none,0⟩,
 ⟨some 57,.load1 (.tmp 56),none,0⟩,
 ⟨some 58,.move (.tmp 11),none,0⟩,
 ⟨some 59,.bslice 1 1 [(.tmp 58)],none,0⟩,
 ⟨some 60,.append 1 8 (.tmp 57) (.tmp 59),none,0⟩,
 ⟨some 61,.iaddr 1 (.tmp 52) (.tmp 53),none,0⟩,
 ⟨none,.store 1 (.tmp 61) (.tmp 60),none,0⟩] false) (.skip))))) (.ops [⟨some 62,.bin .add (.tmp 38) (.const (.int .i64 1)),none,0⟩,
 ⟨some 38,.move (.tmp 62),none,0⟩] false)))
def c202_1 : PC := .seq (.ops [⟨some 32,.bin .lss (.tmp 31) (.tmp 30),none,0⟩] false) (.seq (.cond (.tmp 32) (.skip) (.exit 0)) (.seq (.block 1 (.seq (.ops [⟨some 33,.move (.tmp 31),none,0⟩,
 ⟨some 34,.iaddr 1 (.tmp 29) (.tmp 31),none,0⟩,
 ⟨some 35,.load1 (.tmp 34),none,0⟩,
 ⟨some 8,.move (.tmp 33),none,0⟩,
 ⟨some 9,.move (.tmp 35),none,0⟩] false) (.seq (.ops [⟨some 36,.move (.tmp 9),none,0⟩,
 ⟨some 37,.len (.tmp 36),none,0⟩,
 ⟨some 38,.move (.const (.int .i64 0)),none,0⟩] false) (.block 2 (.loop c202_2))))) (.ops [⟨some 63,.bin .add (.tmp 31) (.const (.int .i64 1)),none,0⟩,
 ⟨some 31,.move (.tmp 63),none,0⟩] false)))
def c202 : PC := .seq (.ops [⟨some 6,.alloc [(.slice none 0 0), (.slice none 0 0)],none,0⟩] false) (.seq (.ops [⟨some 18,.move (.tmp 0),none,0⟩,
 ⟨some 19,.nilchk (.tmp 18),none,0⟩,
 ⟨some 20,.faddr 0 (.tmp 19),none,0⟩,
 ⟨some 21,.faddr 1 (.tmp 20),none,0⟩,
 ⟨some 22,.load1 (.tmp 21),none,0⟩,
 ⟨some 23,.len (.tmp 22),none,0⟩,
 ⟨some 24,.mslice 1 24 [(.slice none 0 0)] (.tmp 23) (.tmp 23),none,0⟩,
 ⟨some 7,.move (.tmp 24),none,0⟩] false) (.seq (.seq (.ops [⟨some 25,.move (.tmp 0),none,0⟩,
 ⟨some 26,.nilchk (.tmp 25),none,0⟩,
 ⟨some 27,.faddr 0 (.tmp 26),none,0⟩,
 ⟨some 28,.faddr 1 (.tmp 27),none,0⟩,
 ⟨some 29,.load1 (.tmp 28),none,0⟩,
 ⟨some 30,.len (.tmp 29),none,0⟩,
 ⟨some 31,.move (.const (.int .i64 0)),none,0⟩] false) (.stop (.block 0 (.loop c202_1)))) (.seq (.ops [⟨some 64,.move (.tmp 7),none,0⟩,
 ⟨some 65,.call 69 [(.tmp 64)],none,0⟩,
 ⟨some 12,.move (.tmp 65),none,0⟩] false) (.seq (.ops [⟨some 66,.move (.tmp 0),none,0⟩,
 ⟨some 67,.move (.tmp 7),none,0⟩,
 ⟨some 68,.move (.tmp 12),none,0⟩,
 ⟨some 69,.move (.tmp 2),none,0⟩,
 ⟨some 70,.call 226 [(.tmp 66), (.tmp 67), (.tmp 68), (.tmp 69)],none,0⟩,
 ⟨some 13,.move (.tmp 70),none,0⟩] false) (.seq (.ops [⟨some 72,.move (.tmp 7),none,0⟩,
 ⟨some 73,.move (.tmp 1),none,0⟩,
 ⟨some 74,.bslice 1 1 [(.tmp 73)],none,0⟩,
 ⟨some 75,.move (.tmp 13),none,0⟩,
 ⟨some 76,.call 227 [(.tmp 72), (.tmp 74), (.tmp 75)],none,0⟩,
 ⟨some 71,.move (.tmp 76),none,0⟩,
 ⟨some 77,.ext 0 (.tmp 71),none,0⟩,
 ⟨some 78,.ext 1 (.tmp 71),none,0⟩,
 ⟨some 79,.ext 2 (.tmp 71),none,0⟩,
 ⟨some 14,.move (.tmp 77),none,0⟩,
 ⟨some 15,.move (.tmp 78),none,0⟩,
 ⟨some 16,.move (.tmp 79),none,0⟩] false) (.seq (.ops [⟨some 80,.move (.tmp 0),none,0⟩,
 ⟨some 81,.move (.tmp 7),none,0⟩,
 ⟨some 82,.move (.tmp 12),none,0⟩,
 ⟨some 83,.move (.tmp 14),none,0⟩,
 ⟨some 84,.move (.tmp 14),none,0⟩,
 ⟨some 85,.len (.tmp 84),none,0⟩,
 ⟨some 86,.bin .sub (.tmp 85) (.const (.int .i64 1)),none,0⟩,
 ⟨some 87,.iaddr 1 (.tmp 83) (.tmp 86),none,0⟩,
 ⟨some 88,.load1 (.tmp 87),none,0⟩,
 ⟨some 89,.call 228 [(.tmp 80), (.tmp 81), (.tmp 82), (.tmp 88)],none,0⟩,
 ⟨some 17,.move (.tmp 89),none,0⟩] false) (.seq (.ops [⟨some 90,.move (.tmp 14),none,0⟩,
 ⟨some 91,.move (.tmp 14),none,0⟩,
 ⟨some 92,.len (.tmp 91),none,0⟩,
 ⟨some 93,.bin .sub (.tmp 92) (.const (.int .i64 1)),none,0⟩,
 ⟨some 94,.slc 1 (.tmp 90) none (some (.tmp 93)) none,none,0⟩,
 ⟨some 95,.move (.tmp 17),none,0⟩,
 ⟨some 96,.build [(.slice none 0 0), (.slice none 0 0)] [(0, 1, (.tmp 94)), (1, 1, (.tmp 95))],none,0⟩,
 ⟨none,.store 2 (.tmp 6) (.tmp 96),none,0⟩] false) (.ret))))))))
set_option maxRecDepth 100000 in
theorem c202_ok : FunOK Try.prog 202 97 [.agg 6 2] c202 := ⟨⟨Try.f202, Try.func202, rfl, by kernel_rfl, rfl, by kernel_rfl⟩⟩
set_option maxRecDepth 100000 in
theorem la_lasso (W : WorldD) (hW : W.Fits) (hc : W.chk = 0) (z : Nat → Bool) (n : Nat) (hn : n < W.next.length) (hfw : Fw (resG W.next z) (W.fair.map setB) n) :
    PCall Try.prog 202 [dlab W, .sc (.int .i64 n), dbl W.next.length z] (dpath (lasS W z n) (lasR W z n)) := by
  obtain ⟨_, h600, h80, _, hnx, hfr⟩ := chk_label W hc
  have hin0 : ∀ l ∈ W.next, inB l W.next.length = true := fun l hl => (hnx l hl).2
  have hFN : FitsG W.next := ⟨hW.next, hW.nextEach⟩
  have hrow := fun k => inB_row hin0 k
  refine pcall_intro c202_ok (by simp) (by simp [PureL, Pure, pure_dlab, pure_dbl]) ?_ (pure_dpath _ _)
  (apply rd_sound; focus (repeat' constructor))
  ((conv=>whnf);repeat(refine .intro rfl ?_;conv=>whnf))
  rw [List.length_map]
  refine ⟨by omega, by omega, by omega, ?_⟩
  rw [Int.toNat_natCast]
  ((conv=>whnf);repeat(refine .intro rfl ?_;conv=>whnf))
  rw [List.length_map]
  refine pwp_cut (fun _ : Unit => [(0, dlab W), (1, .sc (.int .i64 n)), (2, dbl W.next.length z), (6, .loc 0 0), (7, dgrid (resG W.next z))]) (fun _ => [.row true [.sc (.slice none 0 0), .sc (.slice none 0 0)], .vec false 0 1 ((resG W.next z).map fun l => [dints l])]) (fun _ => True) ?_ ?_
  · (apply rd_sound; focus (repeat' constructor))
    ((conv=>whnf);repeat(refine .intro rfl ?_;conv=>whnf))
    refine pwp_ghostB (leB_nils 1 1 W.next.length 0 (by simp) rfl) ?_
    refine pwp_forH [0, 1, 2, 6, 7, 29, 30] (fun k : Nat => [(31, .sc (.int .i64 k))]) (fun k => .row true [.sc (.slice none 0 0), .sc (.slice none 0 0)] :: .vec true 0 1 (ogRows 2 (curL W.next.length (fun v => rowT W.next z v (W.next.getD v []).length) k [])) :: ogObjs 1 ncell (curL W.next.length (fun v => rowT W.next z v (W.next.getD v []).length) k [])) (fun k => k ≤ W.next.length) (fun k => W.next.length - k) 0 ?_
    ((conv=>whnf);repeat(refine .intro rfl ?_;conv=>whnf))
    refine ⟨by omega, by (repeat' (first | exact trivial | refine And.intro rfl ?_)), ?_, ?_⟩
    · rw [curL_zero]
      show _ :: _ :: _ = _ :: _ :: _
      rw [ogObjs_nils 1 _ ncell]
      exact congrArg (fun x => AObj.row true [.sc (.slice none 0 0), .sc (.slice none 0 0)] :: AObj.vec true 0 1 x :: _) (ogRows_nils (α := Int) 2 _)
    rintro k hk
    ((conv=>whnf);repeat(refine .intro rfl ?_;conv=>whnf))
    (apply rd_sound; focus (repeat' constructor))
    ((conv=>whnf);repeat(refine .intro rfl ?_;conv=>whnf))
    (refine ifK_split (fun q0 => ?_) (fun q0 => ?_) <;> (rw [q0]; ((conv=>whnf);repeat(refine .intro rfl ?_;conv=>whnf))))
    · have q0 : k < W.next.length := by ((try simp only[oo,reduceCtorEq]at*)<;>omega)
      have hgF := hFN.at k
      refine ⟨by omega, _, gridD_at (g := W.next) (k := k) (by omega) q0, ?_⟩
      ((conv=>whnf);repeat(refine .intro rfl ?_;conv=>whnf))
      rw [List.length_map]
      refine pwp_forH [0, 1, 2, 6, 7, 8, 29, 30, 31, 36, 37] (fun j : Nat => [(38, .sc (.int .i64 j))]) (fun j => .row true [.sc (.slice none 0 0), .sc (.slice none 0 0)] :: .vec true 0 1 (ogRows 2 (curL W.next.length (fun v => rowT W.next z v (W.next.getD v []).length) k (rowT W.next z k j))) :: ogObjs 1 ncell (curL W.next.length (fun v => rowT W.next z v (W.next.getD v []).length) k (rowT W.next z k j)))
        (fun j => j ≤ (W.next.getD k []).length) (fun j => (W.next.getD k []).length - j) 0 ?_
      ((conv=>whnf);repeat(refine .intro rfl ?_;conv=>whnf))
      refine ⟨by omega, by (repeat' (first | exact trivial | refine And.intro rfl ?_)), by rw [show rowT W.next z k 0 = [] by unfold rowT; split <;> simp], ?_⟩
      rintro j hj
      ((conv=>whnf);repeat(refine .intro rfl ?_;conv=>whnf))
      (apply rd_sound; focus (repeat' constructor))
      ((conv=>whnf);repeat(refine .intro rfl ?_;conv=>whnf))
      (refine ifK_split (fun q1 => ?_) (fun q1 => ?_) <;> (rw [q1]; ((conv=>whnf);repeat(refine .intro rfl ?_;conv=>whnf))))
      · have q1 : j < (W.next.getD k []).length := by ((try simp only[oo,reduceCtorEq]at*)<;>omega)
        have eS := rowT_succ (z := z) q1
        have hx := inB_mem (hrow k) (mem_getD q1)
        have hrl := rowT_len W.next z k j
        refine ⟨by omega, _, intsD_at (l := W.next.getD k []) (k := j) (by omega) q1, ?_⟩
        ((conv=>whnf);repeat(refine .intro rfl ?_;conv=>whnf))
        refine ⟨by omega, _, rbl_atN k (by omega) q0, ?_⟩
        ((conv=>whnf);repeat(refine .intro rfl ?_;conv=>whnf))
        generalize (W.next.getD k []).getD j 0 = x at *
        have same : (z k = true ∧ z x.toNat = true → False) → rowT W.next z k (j + 1) = rowT W.next z k j := fun h => by rw [eS, if_neg h]
        cases zk : z k
        · ((conv=>whnf);repeat(refine .intro rfl ?_;conv=>whnf))
          (refine .inl ⟨by (unfold InR; rw [IntKind.wrap_i64]; omega), ?_⟩; ((conv=>whnf);repeat(refine .intro rfl ?_;conv=>whnf)))
          refine ⟨j + 1, by omega, by dsimp only; omega, leB_envH (by (repeat' (first | exact trivial | refine And.intro rfl ?_))) ?_⟩
          dsimp only
          rw [same fun q => by rw [zk] at q; cases q.1]
        · ((conv=>whnf);repeat(refine .intro rfl ?_;conv=>whnf))
          refine ⟨by omega, _, rbl_atN x.toNat (by omega) (by omega), ?_⟩
          ((conv=>whnf);repeat(refine .intro rfl ?_;conv=>whnf))
          cases zx : z x.toNat
          · ((conv=>whnf);repeat(refine .intro rfl ?_;conv=>whnf))
            (refine .inl ⟨by (unfold InR; rw [IntKind.wrap_i64]; omega), ?_⟩; ((conv=>whnf);repeat(refine .intro rfl ?_;conv=>whnf)))
            refine ⟨j + 1, by omega, by dsimp only; omega, leB_envH (by (repeat' (first | exact trivial | refine And.intro rfl ?_))) ?_⟩
            dsimp only
            rw [same fun q => by rw [zx] at q; cases q.2]
          · rw [if_pos ⟨zk, zx⟩] at eS
            ((conv=>whnf);repeat(refine .intro rfl ?_;conv=>whnf))
            (refine ⟨by omega, (by first | omega | (simp; done) | (simp; omega) | (simp only [ll]; omega)), ?_⟩; ((conv=>whnf);repeat(refine .intro rfl ?_;conv=>whnf)))
            refine ⟨_, ogRows_at (i := k) (by omega) (by simp; omega), ?_⟩
            ((conv=>whnf);repeat(refine .intro rfl ?_;conv=>whnf))
            have hset : (curL W.next.length (fun v => rowT W.next z v (W.next.getD v []).length) k (rowT W.next z k j)).set k (rowT W.next z k j ++ [x]) = curL W.next.length (fun v => rowT W.next z v (W.next.getD v []).length) k (rowT W.next z k (j + 1)) := by rw [curL_set q0, ← eS]
            have hlen : (curL W.next.length (fun v => rowT W.next z v (W.next.getD v []).length) k (rowT W.next z k j)).length = W.next.length := curL_len ..
            have hgk : (curL W.next.length (fun v => rowT W.next z v (W.next.getD v []).length) k (rowT W.next z k j)).getD k [] = rowT W.next z k j := curL_at q0
            generalize curL W.next.length (fun v => rowT W.next z v (W.next.getD v []).length) k (rowT W.next z k j) = R at *
            refine og_push ?_
            ((conv=>whnf);repeat(refine .intro rfl ?_;conv=>whnf))
            (repeat (first | (refine og_getE 0 rfl ?_; ((conv=>whnf);repeat(refine .intro rfl ?_;conv=>whnf))) | (refine og_putE 0 rfl ?_; ((conv=>whnf);repeat(refine .intro rfl ?_;conv=>whnf))) | (refine og_getE 1 rfl ?_; ((conv=>whnf);repeat(refine .intro rfl ?_;conv=>whnf))) | (refine og_putE 1 rfl ?_; ((conv=>whnf);repeat(refine .intro rfl ?_;conv=>whnf)))))
            refine og_getT (by omega) ?_
            ((conv=>whnf);repeat(refine .intro rfl ?_;conv=>whnf))
            rw [hgk]
            refine ⟨by unfold sliceAppend; simp only [List.length_drop, List.length_take, List.length_cons, List.length_nil]; omega, ?_⟩
            ((conv=>whnf);repeat(refine .intro rfl ?_;conv=>whnf))
            refine og_putT (rowT W.next z k j ++ [x]) (by omega) ?_ ?_
            · exact og_app
            ((conv=>whnf);repeat(refine .intro rfl ?_;conv=>whnf))
            (refine ⟨by omega, (by first | omega | (simp; done) | (simp; omega) | (simp only [ll]; omega)), ?_⟩; ((conv=>whnf);repeat(refine .intro rfl ?_;conv=>whnf)))
            refine ⟨_, ogRows_at (i := k) (by omega) (by omega), ?_⟩
            ((conv=>whnf);repeat(refine .intro rfl ?_;conv=>whnf))
            (refine .inl ⟨by (unfold InR; rw [IntKind.wrap_i64]; omega), ?_⟩; ((conv=>whnf);repeat(refine .intro rfl ?_;conv=>whnf)))
            refine ⟨j + 1, by omega, by dsimp only; omega, ?_⟩
            dsimp only
            rw [hset]
            refine leB_close (W.next.length + 2) (by simp) (by simp) (by (repeat' (first | exact trivial | exact rfl | exact DeepM.refl _ | exact DeepML.refl _ | exact DeepMLL.refl _ | refine And.intro ?_ ?_ | (simp [Under, UnderL, UnderLL, -List.map_take, -List.map_drop]; done)))) ⟨⟨rfl, .refl _, by simp [UnderL, Under]⟩, ⟨rfl, rfl, rfl, deepMLL_eq ?_, underLL_ogRows (by simp; omega)⟩, closeH_og under_ncell⟩
            exact (ogRows_set (by omega) (by omega) (rowT W.next z k j ++ [x]) (by simp)).trans (by rw [hset])
      · have q1 : j = (W.next.getD k []).length := by have : ¬ j < (W.next.getD k []).length := by ((try simp only[oo,reduceCtorEq]at*)<;>omega)
                                                      omega
        subst q1
        rw [show curL W.next.length (fun v => rowT W.next z v (W.next.getD v []).length) k (rowT W.next z k (W.next.getD k []).length) = curL W.next.length (fun v => rowT W.next z v (W.next.getD v []).length) (k + 1) [] from curL_next]
        (refine .inl ⟨by (unfold InR; rw [IntKind.wrap_i64]; omega), ?_⟩; ((conv=>whnf);repeat(refine .intro rfl ?_;conv=>whnf)))
        exact ⟨k + 1, by omega, by dsimp only; omega, leB_envH (by (repeat' (first | exact trivial | refine And.intro rfl ?_))) rfl⟩
    · have q0 : k = W.next.length := by have : ¬ k < W.next.length := by ((try simp only[oo,reduceCtorEq]at*)<;>omega)
                                        omega
      subst q0
      rw [curL_done, rowT_all]
      have eF := drop_take_all (l := (resG W.next z).map fun l => [dints l]) (n := W.next.length) (by simp)
      refine ⟨(), trivial, leB_trans (leB_close 2 (env' := [(0, dlab W), (1, .sc (.int .i64 n)), (2, dbl W.next.length z), (6, .loc 0 0), (7, .own 1 0 0 W.next.length)]) (H' := [.row true [.sc (.slice none 0 0), .sc (.slice none 0 0)], .vec true 0 1 ((resG W.next z).map fun l => [dints l])]) (by simp) rfl (by (repeat' (first | exact trivial | exact rfl | exact DeepM.refl _ | exact DeepML.refl _ | exact DeepMLL.refl _ | refine And.intro ?_ ?_ | (simp [Under, UnderL, UnderLL, -List.map_take, -List.map_drop]; done)))) ⟨⟨rfl, .refl _, by simp [UnderL, Under]⟩, ⟨rfl, rfl, rfl, deepM_ogRows (c := ncell) (fun i hi => by simp [fromN]) (fun i hi => ?_), underLL_pure _ (pure_gridV _)⟩, closeH_nil _⟩) (leB_freeze (fun i => i == 1) ?_ ?_)⟩
      · show (ogObjs 1 ncell (resG W.next z))[i]? = _
        exact ogObjs_at hi
      · exact ⟨.refl _, .refl _, .refl _, .refl _, .own _ _ _ _ _ _ _ _ rfl rfl (deepMLL_eq eF), trivial⟩
      · (repeat' (first | exact trivial | refine And.intro ?_ ?_ | exact Or.inl rfl | exact Or.inr ⟨rfl, rfl⟩ | exact fun _ => rfl | exact (fun h => by cases h) | refine DeepM.loc _ _ _ _ _ rfl rfl ?_ | refine DeepM.own _ _ _ _ _ _ _ _ rfl rfl ?_ | refine DeepM.fn _ _ _ _ _ ?_ ?_ | refine DeepM.agg _ _ ?_ | refine DeepM.tup _ _ ?_ | refine DeepM.ifc _ _ _ ?_ | exact DeepM.refl _ | refine DeepML.cons _ _ _ _ ?_ ?_ | exact DeepML.refl _ | refine DeepMLL.cons _ _ _ _ ?_ ?_ | exact DeepMLL.refl _ | exact rfl))
  intro _ _
  obtain ⟨k1, k2, k3, k4, hH, hL⟩ := las_ok hin0 hfr hn hfw
  have g1 := resG_in hin0 z
  have g2 := resG_fits hFN z
  have hl := resG_len W.next z
  have g3 : chkG (resG W.next z) = 0 := chkG_zero.2 ⟨by omega, g1⟩
  have hSp := scc_Split (resG W.next z) (by omega) g1 g2
  have hGo := la_good W hW hc (resG W.next z) hl g1 g2 z
  have hWy := scc_Way (resG W.next z) g3 g2 [(n : Int)] k1 (by simp) (goodF (resG W.next z) W.fair z) (fun i hi => by unfold goodF; rw [decide_eq_false (by omega)]; rfl)
  have hRo := la_round W hW hc (resG W.next z) hl g2 _ hH
  rw [Int.toNat_of_nonneg k4] at hRo
  have e1 : wayL (resG W.next z) [(n : Int)] (goodF (resG W.next z) W.fair z) = stemL (resG W.next z) W.fair z n := rfl
  rw [e1] at hWy
  rw [hl] at hGo hWy
  unfold lasS lasR
  generalize rndL (resG W.next z) W.fair (lastD (stemL (resG W.next z) W.fair z n)).toNat = rr at *
  generalize stemL (resG W.next z) W.fair z n = st at *
  generalize resG W.next z = g at *
  ((conv=>whnf);repeat(refine .intro rfl ?_;conv=>whnf))
  (refine .inl ⟨_, hSp, ?_⟩; ((conv=>whnf);repeat(refine .intro rfl ?_;conv=>whnf)))
  (refine .inl ⟨_, hGo, ?_⟩; ((conv=>whnf);repeat(refine .intro rfl ?_;conv=>whnf)))
  rw [show dints [(n : Int)] = D.lst 1 (List.drop 0 (List.take 1 [[D.sc (.int .i64 (n : Int))]])) from rfl] at hWy
  (refine .inr (.inr (.inr (.inr (.inl ⟨_, _, _, (acallAt_frz1 (pre := [_]) (post := [_]) hWy (by simp [Pure, PureL, pure_dints]) ⟨pure_dgrid _, trivial⟩ ⟨pure_dbl _ _, trivial⟩ (show PureLL [[D.sc (.int .i64 (n : Int))]] from by simp [PureLL, PureL, Pure]) rfl), ?_⟩)))); ((conv=>whnf);repeat(refine .intro rfl ?_;conv=>whnf)))
  rw [List.length_map]
  (refine .inl ⟨by (unfold InR; rw [IntKind.wrap_i64]; omega), ?_⟩; ((conv=>whnf);repeat(refine .intro rfl ?_;conv=>whnf)))
  refine ⟨by omega, _, intsD_at (l := st) (k := st.length - 1) (by omega) (by omega), ?_⟩
  ((conv=>whnf);repeat(refine .intro rfl ?_;conv=>whnf))
  rw [show st.getD (st.length - 1) 0 = lastD st from rfl]
  (refine .inl ⟨_, hRo, ?_⟩; ((conv=>whnf);repeat(refine .intro rfl ?_;conv=>whnf)))
  rw [List.length_map]
  (refine .inl ⟨by (unfold InR; rw [IntKind.wrap_i64]; omega), ?_⟩; ((conv=>whnf);repeat(refine .intro rfl ?_;conv=>whnf)))
  refine ⟨by omega, ?_⟩
  ((conv=>whnf);repeat(refine .intro rfl ?_;conv=>whnf))
  rw [List.length_map]
  refine ⟨by omega, by omega, ?_⟩
  ((conv=>whnf);repeat(refine .intro rfl ?_;conv=>whnf))
  rw [show ((st.length : Int) - 1).toNat = st.length - 1 by omega]
  refine .agg _ _ (.cons _ _ _ _ ?_ (.cons _ _ _ _ (.refl _) .nil))
  unfold dints
  rw [List.drop_zero, List.map_take]
  exact .refl _
end

/-! ### XLs6 -/
section
open Go.RowKit
set_option linter.unusedSimpArgs false
set_option linter.unusedVariables false
def c229 : PC := .seq (.ops [⟨some 2,.move (.const (.bool false)),none,0⟩] false) (.seq (.ops [⟨some 2,.move (.const (.bool true)),none,0⟩] false) (.ret))
set_option maxRecDepth 100000 in
theorem c229_ok : FunOK Try.prog 229 3 [.tmp 2] c229 := ⟨⟨Try.f229, Try.func229, rfl, by kernel_rfl, rfl, by kernel_rfl⟩⟩
theorem lat_all (i : Int) : PCall Try.prog 229 [.sc (.int .i64 i)] (.sc (.bool true)) := by
  refine pcall_intro c229_ok (by simp) (by simp [PureL, Pure]) ?_ (by simp [Pure])
  (apply rd_sound; focus (repeat' constructor))
  ((conv=>whnf);repeat(refine .intro rfl ?_;conv=>whnf))
  exact .refl _
def c203 : PC := .seq (.ops [⟨some 4,.alloc [(.slice none 0 0), (.slice none 0 0)],none,0⟩] false) (.seq (.ops [⟨some 7,.move (.tmp 0),none,0⟩,
 ⟨some 8,.call 190 [(.tmp 7), (.func 229)],none,0⟩,
 ⟨some 5,.move (.tmp 8),none,0⟩] false) (.seq (.ops [⟨some 9,.move (.tmp 0),none,0⟩,
 ⟨some 10,.move (.tmp 1),none,0⟩,
 ⟨some 11,.move (.tmp 1),none,0⟩,
 ⟨some 12,.len (.tmp 11),none,0⟩,
 ⟨some 13,.bin .sub (.tmp 12) (.const (.int .i64 1)),none,0⟩,
 ⟨some 14,.iaddr 1 (.tmp 10) (.tmp 13),none,0⟩,
 ⟨some 15,.load1 (.tmp 14),none,0⟩,
 ⟨some 16,.move (.tmp 5),none,0⟩,
 ⟨some 17,.call 202 [(.tmp 9), (.tmp 15), (.tmp 16)],none,0⟩,
 ⟨some 6,.alloc [(.slice none 0 0), (.slice none 0 0)],none,0⟩,
 ⟨none,.store 2 (.tmp 6) (.tmp 17),none,0⟩] false) (.seq (.ops [⟨some 18,.move (.tmp 1),none,0⟩,
 ⟨some 19,.move (.tmp 1),none,0⟩,
 ⟨some 20,.len (.tmp 19),none,2⟩,
 ⟨some 21,.bin .sub (.tmp 20) (.const (.int .i64 1)),none,6⟩,
 ⟨some 22,.slc 1 (.tmp 18) none (some (.tmp 21)) none,none,15⟩,
 ⟨some 23,.call 47 [(.tmp 22)],none,31⟩,
 ⟨some 24,.faddr 0 (.tmp 6),none,0⟩,
 ⟨some 25,.load1 (.tmp 24),none,64⟩,
 ⟨some 26,.append 1 8 (.tmp 23) (.tmp 25),none,255⟩,
 ⟨some 27,.faddr 0 (.tmp 6),none,511⟩,
 ⟨none,.store 1 (.tmp 27) (.tmp 26),none,1023⟩] true) (.seq (.ops [⟨some 28,.loadA 2 (.tmp 6),none,0⟩,
 ⟨none,.store 2 (.tmp 4) (.tmp 28),none,0⟩] false) (.ret)))))
set_option maxRecDepth 100000 in
theorem c203_ok : FunOK Try.prog 203 29 [.agg 4 2] c203 := ⟨⟨Try.f203, Try.func203, rfl, by kernel_rfl, rfl, by kernel_rfl⟩⟩
set_option maxRecDepth 100000 in
theorem la_after (W : WorldD) (hW : W.Fits) (hc : W.chk = 0) (p : List Int) (x : Nat) (hp : p.length ≤ 1000000) (hx : x < W.next.length) (hfw : Fw (resG W.next allT) (W.fair.map setB) x) :
    PCall Try.prog 203 [dlab W, dints (p ++ [(x : Int)])] (dpath (p ++ lasS W allT x) (lasR W allT x)) := by
  obtain ⟨_, h600, h80, _, hnx, hfr⟩ := chk_label W hc
  have hin0 : ∀ l ∈ W.next, inB l W.next.length = true := fun l hl => (hnx l hl).2
  obtain ⟨_, _, _, _, _, hL⟩ := las_ok hin0 hfr hx hfw
  have hsl : (lasS W allT x).length ≤ W.next.length := hL.lens
  have hE := la_each W (by omega) allT 229 [] (by simp [PureL]) (fun i hi => lat_all i)
  have hLa := la_lasso W hW hc allT x hx hfw
  have hCl := cloneO_int p (by omega)
  refine pcall_intro c203_ok (by simp) (by simp [PureL, pure_dlab, pure_dints]) ?_ (pure_dpath _ _)
  generalize lasS W allT x = s at *
  generalize lasR W allT x = l at *
  (apply rd_sound; focus (repeat' constructor))
  ((conv=>whnf);repeat(refine .intro rfl ?_;conv=>whnf))
  (refine .inl ⟨_, hE, ?_⟩; ((conv=>whnf);repeat(refine .intro rfl ?_;conv=>whnf)))
  have hpl : (p ++ [(x : Int)]).length = p.length + 1 := by simp
  rw [List.length_map, hpl]
  (refine .inl ⟨by (unfold InR; rw [IntKind.wrap_i64]; omega), ?_⟩; ((conv=>whnf);repeat(refine .intro rfl ?_;conv=>whnf)))
  refine ⟨by omega, _, intsD_at (l := p ++ [(x : Int)]) (k := p.length) (by omega) (by omega), ?_⟩
  ((conv=>whnf);repeat(refine .intro rfl ?_;conv=>whnf))
  rw [show (p ++ [(x : Int)]).getD p.length 0 = (x : Int) from by rw [List.getD_eq_getElem?_getD, List.getElem?_append_right (Nat.le_refl _), Nat.sub_self]; rfl]
  (refine .inl ⟨_, hLa, ?_⟩; ((conv=>whnf);repeat(refine .intro rfl ?_;conv=>whnf)))
  rw [List.length_map, hpl]
  (refine .inl ⟨by (unfold InR; rw [IntKind.wrap_i64]; omega), ?_⟩; ((conv=>whnf);repeat(refine .intro rfl ?_;conv=>whnf)))
  refine ⟨by omega, ?_⟩
  ((conv=>whnf);repeat(refine .intro rfl ?_;conv=>whnf))
  rw [List.length_map, hpl]
  refine ⟨by omega, by omega, ?_⟩
  ((conv=>whnf);repeat(refine .intro rfl ?_;conv=>whnf))
  rw [show List.drop 0 (List.take (((p.length + 1 : Nat) : Int) - 1).toNat (List.map (fun n => [D.sc (Value.int IntKind.i64 n)]) (p ++ [(x : Int)]))) = List.map (fun n => [D.sc (Value.int IntKind.i64 n)]) p from by
    rw [show (((p.length + 1 : Nat) : Int) - 1).toNat = p.length by omega, List.drop_zero, ← List.map_take, List.take_left' rfl]]
  (refine .inr (.inr (.inr (.inr (.inl ⟨_, _, _, (acallAt_new hCl (by simp [PureL, Pure]) [2] rfl rfl (by simp [AObj.ren, renL, D.ren]; rfl)), ?_⟩)))); ((conv=>whnf);repeat(refine .intro rfl ?_;conv=>whnf)))
  refine ⟨(by unfold sliceAppend; simp only [ll]; omega), ?_⟩
  ((conv=>whnf);repeat(refine .intro rfl ?_;conv=>whnf))
  refine .agg _ _ (.cons _ _ _ _ (.own _ _ _ _ _ _ _ _ rfl ?_) (.cons _ _ _ _ (.refl _) .nil))
  rw [app_map, drop_take_all (by simp)]
  exact deepLL_refl _
def c47 : PC := .seq (.ops [⟨some 2,.move (.const (.slice none 0 0)),none,0⟩] false) (.seq (.seq (.ops [⟨some 3,.move (.tmp 0),none,0⟩,
 ⟨some 4,.isnil 3 false (.tmp 3),none,0⟩] false) (.cond (.tmp 4) (.seq (.ops [⟨some 2,.move (.const (.slice none 0 0)),none,0⟩] false) (.ret)) (.skip))) (.seq (.ops [⟨some 5,.bslice 1 0 [],none,0⟩,
 ⟨some 6,.move (.tmp 0),none,0⟩,
 ⟨some 7,.append 1 8 (.tmp 5) (.tmp 6),none,0⟩,
 ⟨some 2,.move (.tmp 7),none,0⟩] false) (.ret)))
set_option maxRecDepth 100000 in
theorem c47_ok : FunOK Try.prog 47 8 [.tmp 2] c47 := ⟨⟨Try.f47, Try.func47, rfl, by kernel_rfl, rfl, by kernel_rfl⟩⟩
theorem clone_int (l : List Int) (hl : l.length ≤ 1000000000) : PCall Try.prog 47 [dints l] (dints l) := by
  refine pcall_intro c47_ok (by simp) (by simp [PureL, pure_dints]) ?_ (pure_dints _)
  unfold dints
  (apply rd_sound; focus (repeat' constructor))
  ((conv=>whnf);repeat(refine .intro rfl ?_;conv=>whnf))
  intro b hb
  cases b
  · ((conv=>whnf);repeat(refine .intro rfl ?_;conv=>whnf))
    refine ⟨by unfold sliceAppend; simp only [List.length_map]; omega, ?_⟩
    ((conv=>whnf);repeat(refine .intro rfl ?_;conv=>whnf))
    refine .own _ _ _ _ _ _ _ _ rfl ?_
    simp only [List.length_map, List.nil_append, List.take_nil, List.drop_nil]
    rw [List.drop_zero, List.take_of_length_le (by simp)]
    exact deepLL_refl _
  · ((conv=>whnf);repeat(refine .intro rfl ?_;conv=>whnf))
    rw [hb rfl]
    exact .none _
def c201 : PC := .seq (.ops [⟨some 2,.move (.const (.bool false)),none,0⟩] false) (.seq (.ops [⟨some 2,.move (.const (.bool true)),none,0⟩] false) (.ret))
set_option maxRecDepth 100000 in
theorem c201_ok : FunOK Try.prog 201 3 [.tmp 2] c201 := ⟨⟨Try.f201, Try.func201, rfl, by kernel_rfl, rfl, by kernel_rfl⟩⟩
theorem lsh_all (i : Int) : PCall Try.prog 201 [.sc (.int .i64 i)] (.sc (.bool true)) := by
  refine pcall_intro c201_ok (by simp) (by simp [PureL, Pure]) ?_ (by simp [Pure])
  (apply rd_sound; focus (repeat' constructor))
  ((conv=>whnf);repeat(refine .intro rfl ?_;conv=>whnf))
  exact .refl _
/-- What the first way shows. -/
noncomputable def lastF (W : WorldD) (t : Tree) : Nat → Bool := andF (labK W t.kids (t.width - 1)) (fairF W)
noncomputable def firstX (W : WorldD) (t : Tree) (n : Nat) : Int := ((W.next.getD n []).find? fun x => lastF W t x.toNat).getD 0
noncomputable def lastW (W : WorldD) (t : Tree) : Nat → Bool := fun v => decide (v < W.next.length) && lastF W t v
noncomputable def showW (W : WorldD) (t : Tree) (th : Nat → Bool) (n : Nat) : List Int := wayL (thrG W.next fun v => th v && !lastW W t v) [(n : Int)] (lastW W t)
noncomputable def showP (W : WorldD) (w : List Int) : List Int × List Int := (w.take (w.length - 1) ++ lasS W allT (lastD w).toNat, lasR W allT (lastD w).toNat)
noncomputable def showR (W : WorldD) (t : Tree) (n : Nat) : List Int × List Int :=
  if t.kind = 9 then (lasS W (labK W t.kids 0) n, lasR W (labK W t.kids 0) n)
  else if t.kind = 7 then showP W [(n : Int), firstX W t n]
  else if t.kind = 10 then showP W (showW W t (labK W t.kids 0) n)
  else showP W (showW W t allT n)
theorem lastF_fair {W : WorldD} {t : Tree} {v : Nat} (h : lastF W t v = true) : labK W t.kids (t.width - 1) v = true ∧ Fw (resG W.next allT) (W.fair.map setB) v := by
  unfold lastF andF at h
  rw [Bool.and_eq_true] at h
  exact ⟨h.1, fwB_iff.1 h.2⟩
theorem lastW_iff {W : WorldD} {t : Tree} {v : Nat} : lastW W t v = true ↔ v < W.next.length ∧ lastF W t v = true := by
  unfold lastW
  rw [Bool.and_eq_true, decide_eq_true_eq]
theorem showW_ok {W : WorldD} {t : Tree} (hin : ∀ l ∈ W.next, inB l W.next.length = true) {th : Nat → Bool} {n : Nat} (hn : n < W.next.length) (h : Eu W.next th (lastF W t) n) :
    ∃ init last, showW W t th n = init ++ [last] ∧ (init ++ [last]).getD 0 0 = (n : Int) ∧ lastF W t last.toNat = true ∧ Chn W.next (init ++ [last]) ∧ (∀ x ∈ init ++ [last], 0 ≤ x ∧ x < (W.next.length : Int)) ∧ init.length < W.next.length ∧ ∀ x ∈ init, th x.toNat = true := by
  have hin1 : ∀ v x, x ∈ W.next.getD v [] → x.toNat < W.next.length := fun v x hx => by have := inB_mem (inB_row hin v) hx; omega
  have hwk : ∃ d, Wlk (thrG W.next fun v => th v && !lastW W t v) (lastW W t) d n := by
    induction h with
    | base h => exact ⟨0, lastW_iff.2 ⟨hn, h⟩⟩
    | @step i x h k m ih =>
      cases q : lastW W t i
      · obtain ⟨d, hd⟩ := ih (hin1 _ _ k)
        exact ⟨d + 1, x, mem_thrG.2 ⟨k, by rw [h, q]; rfl⟩, hd⟩
      · exact ⟨0, q⟩
  have hgl := thrG_len W.next fun v => th v && !lastW W t v
  obtain ⟨_, init, last, e1, e2, e3, e4, e5, e6⟩ := way_ok (thrG_in hin fun v => th v && !lastW W t v) (from_ := [(n : Int)]) (by rw [hgl]; exact inB_of fun x hx => by rw [List.mem_singleton] at hx; subst hx; omega) (to := lastW W t) ⟨_, List.mem_singleton.2 rfl, by rwa [Int.toNat_natCast]⟩
  rw [hgl] at e5 e6
  refine ⟨init, last, e1, by rwa [List.mem_singleton] at e2, (lastW_iff.1 e3).2, chn_mono (fun v x hx => (mem_thrG.1 hx).1) e4, e5, e6, fun x hx => ?_⟩
  obtain ⟨y, hy⟩ := chn_out e4 x hx
  have := (mem_thrG.1 hy).2
  rw [Bool.and_eq_true] at this
  exact this.1
theorem showP_app (W : WorldD) (p : List Int) (x : Int) : showP W (p ++ [x]) = (p ++ lasS W allT x.toNat, lasR W allT x.toNat) := by
  unfold showP
  rw [lastD_app, show (p ++ [x]).take ((p ++ [x]).length - 1) = p by simp]
theorem find_at {l : List Int} {p : Int → Bool} {k : Nat} (hk : k < l.length) (h : p (l.getD k 0) = true) (hno : ∀ j, j < k → p (l.getD j 0) = false) : (l.find? p).getD 0 = l.getD k 0 := by
  have : l.find? p = some (l.getD k 0) := by
    rw [List.find?_eq_some_iff_getElem]
    have e : ∀ j (hj : j < l.length), l.getD j 0 = l[j] := fun j hj => by rw [List.getD_eq_getElem?_getD, List.getElem?_eq_getElem hj]; rfl
    refine ⟨h, k, hk, (e k hk).symm, fun j hj => ?_⟩
    have := hno j hj
    rw [e j (by omega)] at this
    rw [this]; rfl
  rw [this]; rfl
def c128_1 : PC := .seq (.ops [⟨some 54,.bin .lss (.tmp 53) (.tmp 52),none,0⟩] false) (.seq (.cond (.tmp 54) (.skip) (.exit 1)) (.seq (.block 2 (.seq (.ops [⟨some 55,.iaddr 1 (.tmp 51) (.tmp 53),none,0⟩,
 ⟨some 56,.load1 (.tmp 55),none,0⟩,
 ⟨some 10,.move (.tmp 56),none,0⟩] false) (.seq (.ops [⟨some 57,.move (.tmp 8),none,0⟩,
 ⟨some 58,.move (.tmp 10),none,0⟩,
 ⟨some 59,.iaddr 1 (.tmp 57) (.tmp 58),none,0⟩,
 ⟨some 60,.load1 (.tmp 59),none,0⟩] false) (.cond (.tmp 60) (.seq (.ops [⟨some 61,.move (.tmp 0),none,0⟩,
 ⟨some 62,.move (.tmp 2),none,0⟩,
 ⟨some 63,.move (.tmp 10),none,0⟩,
 ⟨some 64,.bslice 1 2 [(.tmp 62), (.tmp 63)],none,0⟩,
 ⟨some 65,.call 203 [(.tmp 61), (.tmp 64)],none,0⟩,
 ⟨none,.store 2 (.tmp 6) (.tmp 65),none,0⟩] false) (.ret)) (.skip))))) (.ops [⟨some 66,.bin .add (.tmp 53) (.const (.int .i64 1)),none,0⟩,
 ⟨some 53,.move (.tmp 66),none,0⟩] false)))
def c128 : PC := .seq (.ops [⟨some 4,.box (.tmp 1),none,0⟩,
 ⟨some 6,.alloc [(.slice none 0 0), (.slice none 0 0)],none,0⟩] false) (.seq (.ops [⟨some 11,.move (.tmp 0),none,0⟩,
 ⟨some 12,.call 190 [(.tmp 11), (.func 201)],none,0⟩,
 ⟨some 7,.move (.tmp 12),none,0⟩] false) (.seq (.ops [⟨some 13,.move (.tmp 0),none,0⟩,
 ⟨some 14,.move (.tmp 0),none,0⟩,
 ⟨some 15,.faddr 2 (.tmp 4),none,0⟩,
 ⟨some 16,.load1 (.tmp 15),none,4⟩,
 ⟨some 17,.faddr 2 (.tmp 4),none,0⟩,
 ⟨some 18,.load1 (.tmp 17),none,16⟩,
 ⟨some 19,.len (.tmp 18),none,48⟩,
 ⟨some 20,.bin .sub (.tmp 19) (.const (.int .i64 1)),none,112⟩,
 ⟨some 21,.iaddr 3 (.tmp 16) (.tmp 20),none,252⟩,
 ⟨some 22,.loadA 3 (.tmp 21),none,508⟩,
 ⟨some 23,.call 111 [(.tmp 14), (.tmp 22)],none,1022⟩,
 ⟨some 24,.move (.tmp 0),none,0⟩,
 ⟨some 25,.nilchk (.tmp 24),none,2048⟩,
 ⟨some 26,.faddr 4 (.tmp 25),none,6144⟩,
 ⟨some 27,.load1 (.tmp 26),none,14336⟩,
 ⟨some 28,.call 194 [(.tmp 13), (.tmp 23), (.tmp 27)],none,32767⟩,
 ⟨some 8,.move (.tmp 28),none,65535⟩] true) (.seq (.seq (.ops [⟨some 29,.faddr 0 (.tmp 4),none,0⟩,
 ⟨some 30,.load1 (.tmp 29),none,0⟩] false) (.block 0 (.seq (.ops [⟨some 32,.bin .eql (.tmp 30) (.const (.int .i64 9)),none,0⟩,
 ⟨some 31,.move (.tmp 32),none,0⟩] false) (.cond (.tmp 31) (.seq (.ops [⟨some 33,.move (.tmp 0),none,0⟩,
 ⟨some 34,.move (.tmp 2),none,0⟩,
 ⟨some 35,.move (.tmp 0),none,0⟩,
 ⟨some 36,.faddr 2 (.tmp 4),none,0⟩,
 ⟨some 37,.load1 (.tmp 36),none,0⟩,
 ⟨some 38,.iaddr 3 (.tmp 37) (.const (.int .i64 0)),none,0⟩,
 ⟨some 39,.loadA 3 (.tmp 38),none,0⟩,
 ⟨some 40,.call 111 [(.tmp 35), (.tmp 39)],none,0⟩,
 ⟨some 41,.call 202 [(.tmp 33), (.tmp 34), (.tmp 40)],none,0⟩,
 ⟨none,.store 2 (.tmp 6) (.tmp 41),none,0⟩] false) (.ret)) (.seq (.ops [⟨some 43,.bin .eql (.tmp 30) (.const (.int .i64 7)),none,0⟩,
 ⟨some 42,.move (.tmp 43),none,0⟩] false) (.cond (.tmp 42) (.seq (.ops [⟨some 44,.move (.tmp 0),none,0⟩,
 ⟨some 45,.nilchk (.tmp 44),none,0⟩,
 ⟨some 46,.faddr 0 (.tmp 45),none,0⟩,
 ⟨some 47,.faddr 1 (.tmp 46),none,0⟩,
 ⟨some 48,.load1 (.tmp 47),none,0⟩,
 ⟨some 49,.move (.tmp 2),none,0⟩,
 ⟨some 50,.iaddr 1 (.tmp 48) (.tmp 49),none,0⟩,
 ⟨some 51,.load1 (.tmp 50),none,0⟩,
 ⟨some 52,.len (.tmp 51),none,0⟩,
 ⟨some 53,.move (.const (.int .i64 0)),none,0⟩] false) (.block 1 (.loop c128_1))) (.seq (.ops [⟨some 68,.bin .eql (.tmp 30) (.const (.int .i64 10)),none,0⟩,
 ⟨some 67,.move (.tmp 68),none,0⟩] false) (.cond (.tmp 67) (.seq (.ops [⟨some 69,.move (.tmp 0),none,0⟩,
 ⟨some 70,.move (.tmp 0),none,0⟩,
 ⟨some 71,.move (.tmp 2),none,0⟩,
 ⟨some 72,.move (.tmp 0),none,0⟩,
 ⟨some 73,.faddr 2 (.tmp 4),none,0⟩,
 ⟨some 74,.load1 (.tmp 73),none,0⟩,
 ⟨some 75,.iaddr 3 (.tmp 74) (.const (.int .i64 0)),none,0⟩,
 ⟨some 76,.loadA 3 (.tmp 75),none,0⟩,
 ⟨some 77,.call 111 [(.tmp 72), (.tmp 76)],none,0⟩,
 ⟨some 78,.move (.tmp 8),none,0⟩,
 ⟨some 79,.call 204 [(.tmp 70), (.tmp 71), (.tmp 77), (.tmp 78)],none,0⟩,
 ⟨some 80,.call 203 [(.tmp 69), (.tmp 79)],none,0⟩,
 ⟨none,.store 2 (.tmp 6) (.tmp 80),none,0⟩] false) (.ret)) (.skip))))))))) (.seq (.ops [⟨some 81,.move (.tmp 0),none,0⟩,
 ⟨some 82,.move (.tmp 0),none,0⟩,
 ⟨some 83,.move (.tmp 2),none,0⟩,
 ⟨some 84,.move (.tmp 7),none,0⟩,
 ⟨some 85,.move (.tmp 8),none,0⟩,
 ⟨some 86,.call 204 [(.tmp 82), (.tmp 83), (.tmp 84), (.tmp 85)],none,0⟩,
 ⟨some 87,.call 203 [(.tmp 81), (.tmp 86)],none,0⟩,
 ⟨none,.store 2 (.tmp 6) (.tmp 87),none,0⟩] false) (.ret)))))
set_option maxRecDepth 100000 in
theorem c128_ok : FunOK Try.prog 128 88 [.agg 6 2] c128 := ⟨⟨Try.f128, Try.func128, rfl, by kernel_rfl, rfl, by kernel_rfl⟩⟩
set_option maxRecDepth 100000 in
theorem la_show (W : WorldD) (hW : W.Fits) (hc : W.chk = 0) (hL : Lett W.label) (t : Tree) (hwf : t.wf cKids) (hk : 7 ≤ t.kind ∧ t.kind ≤ 10) (n : Nat) (hn : n < W.next.length) (h : labT W t n = true) :
    PCall Try.prog 128 [dlab W, dtree t, .sc (.int .i64 n)] (dpath (showR W t n).1 (showR W t n).2) := by
  obtain ⟨_, h600, h80, _, hnx, hfr⟩ := chk_label W hc
  have h6 : W.next.length ≤ 1000000 := by omega
  have hin0 : ∀ l ∈ W.next, inB l W.next.length = true := fun l hl => (hnx l hl).2
  obtain ⟨har, hnum⟩ := node_arityC ((wf_iff _ _).1 hwf).1
  have hw1 : 1 ≤ t.width ∧ t.width ≤ 2 := by omega
  have hE := la_each W (by omega) allT 201 [] (by simp [PureL]) (fun i hi => lsh_all i)
  have hlab := fun j (hj : j < t.width) => la_label W hW hc hL (t.kid j) (wf_kid hwf hj)
  have hk0 := hlab 0 (by omega)
  rw [← labK_eq W (show 0 < t.width by omega)] at hk0
  have hk1 := hlab (t.width - 1) (by omega)
  rw [← labK_eq W (show t.width - 1 < t.width by omega)] at hk1
  have hBo := la_both W h6 (labK W t.kids (t.width - 1)) (fairF W)
  rw [show andF (labK W t.kids (t.width - 1)) (fairF W) = lastF W t from rfl] at hBo
  refine pcall_intro c128_ok (by simp) (by simp [PureL, Pure, pure_dlab, pure_dtree]) ?_ (pure_dpath _ _)
  (apply rd_sound; focus (repeat' constructor))
  ((conv=>whnf);repeat(refine .intro rfl ?_;conv=>whnf))
  (refine .inl ⟨_, hE, ?_⟩; ((conv=>whnf);repeat(refine .intro rfl ?_;conv=>whnf)))
  rw [List.length_map, show ((t.kids.length : Nat) : Int) = (t.width : Int) from rfl]
  (refine .inl ⟨by (unfold InR; rw [IntKind.wrap_i64]; omega), ?_⟩; ((conv=>whnf);repeat(refine .intro rfl ?_;conv=>whnf)))
  refine ⟨by omega, _, by rw [show ((t.width : Int) - 1).toNat = t.width - 1 by omega]; exact kid_at (j := t.width - 1) (by omega), ?_⟩
  ((conv=>whnf);repeat(refine .intro rfl ?_;conv=>whnf))
  (refine .inl ⟨_, hk1, ?_⟩; ((conv=>whnf);repeat(refine .intro rfl ?_;conv=>whnf)))
  (refine .inl ⟨_, hBo, ?_⟩; ((conv=>whnf);repeat(refine .intro rfl ?_;conv=>whnf)))
  have h' := h
  rw [labT_eq] at h'
  have eW8 : dbl W.next.length (lastF W t) = dbl W.next.length (lastW W t) := dbl_congr fun i hi => by unfold lastW; rw [decide_eq_true hi, Bool.true_and]
  have hto : ∀ i, W.next.length ≤ i → lastW W t i = false := fun i hi => by unfold lastW; rw [decide_eq_false (by omega), Bool.false_and]
  have key : ∀ w s l, showR W t n = showP W w → showP W w = (s, l) → ∀ {H : List AObj}, Deep H (.agg (pcells s l)) (dpath (showR W t n).1 (showR W t n).2) := fun w s l h1 h2 H => by rw [h1, h2]; exact .refl _
  (refine ifK_split (fun g9 => ?_) (fun g9 => ?_) <;> (rw [g9]; ((conv=>whnf);repeat(refine .intro rfl ?_;conv=>whnf))))
  · have g9 : t.kind = 9 := by ((try simp only[oo,reduceCtorEq]at*)<;>omega)
    have hfw : Fw (resG W.next (labK W t.kids 0)) (W.fair.map setB) n := by
      rw [show labN W t.kind t.num (labK W t.kids) = egF W (labK W t.kids 0) from by unfold labN; simp [g9]] at h'
      exact fwB_iff.1 h'
    refine ⟨by omega, _, kid_at (j := 0) (by omega), ?_⟩
    ((conv=>whnf);repeat(refine .intro rfl ?_;conv=>whnf))
    (refine .inl ⟨_, hk0, ?_⟩; ((conv=>whnf);repeat(refine .intro rfl ?_;conv=>whnf)))
    (refine .inl ⟨_, (la_lasso W hW hc (labK W t.kids 0) n hn hfw), ?_⟩; ((conv=>whnf);repeat(refine .intro rfl ?_;conv=>whnf)))
    rw [show showR W t n = (lasS W (labK W t.kids 0) n, lasR W (labK W t.kids 0) n) from by unfold showR; rw [if_pos g9]]
    exact .refl _
  have g9 : ¬ t.kind = 9 := by ((try simp only[oo,reduceCtorEq]at*)<;>omega)
  (refine ifK_split (fun g7 => ?_) (fun g7 => ?_) <;> (rw [g7]; ((conv=>whnf);repeat(refine .intro rfl ?_;conv=>whnf))))
  · have g7 : t.kind = 7 := by ((try simp only[oo,reduceCtorEq]at*)<;>omega)
    have hR : showR W t n = showP W [(n : Int), firstX W t n] := by unfold showR; rw [if_neg g9, if_pos g7]
    have hwid : t.width = 1 := by omega
    have hex : (W.next.getD n []).any (fun x => lastF W t x.toNat) = true := by
      rw [show labN W t.kind t.num (labK W t.kids) = exF W (labK W t.kids 0) from by unfold labN; simp [g7]] at h'
      unfold lastF andF
      rw [hwid]
      exact h'
    have hrow := inB_row hin0 n
    have hFN : FitsG W.next := ⟨hW.next, hW.nextEach⟩
    have hgF := hFN.at n
    have eFx : firstX W t n = ((W.next.getD n []).find? fun x => lastF W t x.toNat).getD 0 := rfl
    refine ⟨by omega, _, gridD_at (g := W.next) (k := n) (by omega) hn, ?_⟩
    ((conv=>whnf);repeat(refine .intro rfl ?_;conv=>whnf))
    rw [List.length_map]
    generalize W.next.getD n [] = l at *
    refine pwp_for [0, 2, 6, 7, 8, 51, 52] (fun k : Nat => [(53, .sc (.int .i64 k))]) (fun _ => []) (fun k => k ≤ l.length ∧ ∀ j, j < k → lastF W t (l.getD j 0).toNat = false) (fun k => l.length - k) 0 ?_
    ((conv=>whnf);repeat(refine .intro rfl ?_;conv=>whnf))
    refine ⟨⟨by omega, fun j hj => by omega⟩, by (repeat' (first | exact trivial | refine And.intro rfl ?_)), rfl, ?_⟩
    rintro k ⟨hk', hno⟩
    ((conv=>whnf);repeat(refine .intro rfl ?_;conv=>whnf))
    (apply rd_sound; focus (repeat' constructor))
    ((conv=>whnf);repeat(refine .intro rfl ?_;conv=>whnf))
    (refine ifK_split (fun q0 => ?_) (fun q0 => ?_) <;> (rw [q0]; ((conv=>whnf);repeat(refine .intro rfl ?_;conv=>whnf))))
    · have q0 : k < l.length := by ((try simp only[oo,reduceCtorEq]at*)<;>omega)
      have hx := inB_mem hrow (mem_getD q0)
      refine ⟨by omega, _, intsD_at (l := l) (k := k) (by omega) q0, ?_⟩
      ((conv=>whnf);repeat(refine .intro rfl ?_;conv=>whnf))
      refine ⟨by omega, _, rbl_atN (l.getD k 0).toNat (by omega) (by omega), ?_⟩
      ((conv=>whnf);repeat(refine .intro rfl ?_;conv=>whnf))
      cases r : lastF W t (l.getD k 0).toNat
      · ((conv=>whnf);repeat(refine .intro rfl ?_;conv=>whnf))
        (refine .inl ⟨by (unfold InR; rw [IntKind.wrap_i64]; omega), ?_⟩; ((conv=>whnf);repeat(refine .intro rfl ?_;conv=>whnf)))
        refine ⟨k + 1, ⟨by omega, fun j hj => ?_⟩, by dsimp only; omega, leB_envH (by (repeat' (first | exact trivial | refine And.intro rfl ?_))) rfl⟩
        by_cases e : j = k
        · subst e; exact r
        · exact hno j (by omega)
      · ((conv=>whnf);repeat(refine .intro rfl ?_;conv=>whnf))
        have hfx := find_at (p := fun x => lastF W t x.toNat) q0 r hno
        rw [← eFx] at hfx
        rw [← hfx] at r hx ⊢
        generalize hX : firstX W t n = X at *
        obtain ⟨_, hfw⟩ := lastF_fair r
        have hAf := la_after W hW hc [(n : Int)] X.toNat (by simp) (by omega) hfw
        rw [Int.toNat_of_nonneg hx.1] at hAf
        rw [show dints ([(n : Int)] ++ [X]) = D.lst 1 (List.drop 0 (List.take 2 [[D.sc (.int .i64 (n : Int))], [D.sc (.int .i64 X)]])) from rfl] at hAf
        (refine .inr (.inr (.inr (.inr (.inl ⟨_, _, _, (acallAt_frz1 (pre := [_]) (post := []) hAf (pure_dpath _ _) ⟨pure_dlab W, trivial⟩ trivial (show PureLL [[D.sc (.int .i64 (n : Int))], [D.sc (.int .i64 X)]] from by simp [PureLL, PureL, Pure]) rfl), ?_⟩)))); ((conv=>whnf);repeat(refine .intro rfl ?_;conv=>whnf)))
        exact key _ _ _ hR (showP_app W [(n : Int)] X)
    · exfalso
      have q0 : k = l.length := by have : ¬ k < l.length := by ((try simp only[oo,reduceCtorEq]at*)<;>omega)
                                   omega
      subst q0
      rw [List.any_eq_true] at hex
      obtain ⟨x, x1, x2⟩ := hex
      obtain ⟨j, hj, rfl⟩ := getD_mem x1
      rw [hno j hj] at x2
      cases x2
  have g7 : ¬ t.kind = 7 := by ((try simp only[oo,reduceCtorEq]at*)<;>omega)
  (refine ifK_split (fun g10 => ?_) (fun g10 => ?_) <;> (rw [g10]; ((conv=>whnf);repeat(refine .intro rfl ?_;conv=>whnf))))
  · have g10 : t.kind = 10 := by ((try simp only[oo,reduceCtorEq]at*)<;>omega)
    have hR : showR W t n = showP W (showW W t (labK W t.kids 0) n) := by unfold showR; rw [if_neg g9, if_neg g7, if_pos g10]
    have hwid : t.width = 2 := by omega
    have hEu : Eu W.next (labK W t.kids 0) (lastF W t) n := by
      rw [show labN W t.kind t.num (labK W t.kids) = euF W (labK W t.kids 0) (labK W t.kids 1) from by unfold labN; simp [g10]] at h'
      unfold lastF
      rw [hwid]
      exact euB_iff.1 h'
    obtain ⟨init, last, e1, e2, e3, e4, e5, e6, e7⟩ := showW_ok hin0 hn hEu
    obtain ⟨_, hfw⟩ := lastF_fair e3
    have hl := e5 last (by simp)
    have hWa := la_way W hW hc n hn (labK W t.kids 0) (lastW W t) hto
    rw [← eW8, show (wayL (thrG W.next fun v => labK W t.kids 0 v && !lastW W t v) [(n : Int)] (lastW W t)) = showW W t (labK W t.kids 0) n from rfl, e1] at hWa
    have hAf := la_after W hW hc init last.toNat (by omega) (by omega) hfw
    rw [Int.toNat_of_nonneg hl.1] at hAf
    refine ⟨by omega, _, kid_at (j := 0) (by omega), ?_⟩
    ((conv=>whnf);repeat(refine .intro rfl ?_;conv=>whnf))
    (refine .inl ⟨_, hk0, ?_⟩; ((conv=>whnf);repeat(refine .intro rfl ?_;conv=>whnf)))
    (refine .inl ⟨_, hWa, ?_⟩; ((conv=>whnf);repeat(refine .intro rfl ?_;conv=>whnf)))
    (refine .inl ⟨_, hAf, ?_⟩; ((conv=>whnf);repeat(refine .intro rfl ?_;conv=>whnf)))
    exact key _ _ _ hR (by rw [e1, showP_app])
  have g10 : ¬ t.kind = 10 := by ((try simp only[oo,reduceCtorEq]at*)<;>omega)
  have g8 : t.kind = 8 := by omega
  have hR : showR W t n = showP W (showW W t allT n) := by unfold showR; rw [if_neg g9, if_neg g7, if_neg g10]
  have hwid : t.width = 1 := by omega
  have hEu : Eu W.next allT (lastF W t) n := by
    rw [show labN W t.kind t.num (labK W t.kids) = euF W allT (labK W t.kids 0) from by unfold labN; simp [g8]] at h'
    unfold lastF
    rw [hwid]
    exact euB_iff.1 h'
  obtain ⟨init, last, e1, e2, e3, e4, e5, e6, e7⟩ := showW_ok hin0 hn hEu
  obtain ⟨_, hfw⟩ := lastF_fair e3
  have hl := e5 last (by simp)
  have hWa := la_way W hW hc n hn allT (lastW W t) hto
  rw [← eW8, show (wayL (thrG W.next fun v => allT v && !lastW W t v) [(n : Int)] (lastW W t)) = showW W t allT n from rfl, e1] at hWa
  have hAf := la_after W hW hc init last.toNat (by omega) (by omega) hfw
  rw [Int.toNat_of_nonneg hl.1] at hAf
  (refine .inl ⟨_, hWa, ?_⟩; ((conv=>whnf);repeat(refine .intro rfl ?_;conv=>whnf)))
  (refine .inl ⟨_, hAf, ?_⟩; ((conv=>whnf);repeat(refine .intro rfl ?_;conv=>whnf)))
  exact key _ _ _ hR (by rw [e1, showP_app])
end

/-! ### XLs7 -/
section
open Go.RowKit
set_option linter.unusedSimpArgs false
set_option linter.unusedVariables false
/-! ### Plain -/
structure PathOK (W : WorldD) (n : Int) (s l : List Int) : Prop where
  ne : l ≠ []
  rng : ∀ x ∈ s ++ l, 0 ≤ x ∧ x < (W.next.length : Int)
  chn : Chn W.next (s ++ l ++ [l.getD 0 0])
  head : (s ++ l).getD 0 0 = n
  met : ∀ f ∈ W.fair, f.any (fun x => l.contains x) = true
theorem PathOK.good {W : WorldD} {n : Int} {s l : List Int} (h : PathOK W n s l) : W.goodB [n] s l = true := by
  refine goodB_yes ⟨(onB_iff _ _ _).2 ⟨fun e => h.ne (List.length_eq_zero_iff.1 e), inB_of fun x hx => h.rng x (List.mem_append_left _ hx), inB_of fun x hx => h.rng x (List.mem_append_right _ hx)⟩, ?_, fun i hi => ?_, h.met⟩
  · unfold roundA
    rw [getD0_app (by simp [h.ne]), h.head]
    simp
  · have := chn_at (i := i) h.chn (by simp; omega)
    unfold WorldD.goes
    rw [List.contains_iff_mem]
    exact this
theorem LasI.path {W : WorldD} {z : Nat → Bool} {n : Int} {s l : List Int} (h : LasI W.next W.fair z n s l) : PathOK W n s l := ⟨h.ne, h.rng, h.chn, h.head, h.met⟩
theorem LasI.after {W : WorldD} {z : Nat → Bool} {p s l : List Int} {x : Int} (h : LasI W.next W.fair z x s l) (hc : Chn W.next (p ++ [x])) (hr : ∀ y ∈ p ++ [x], 0 ≤ y ∧ y < (W.next.length : Int)) : PathOK W ((p ++ [x]).getD 0 0) (p ++ s) l ∧ ∃ r, p ++ s ++ l = p ++ x :: r := by
  obtain ⟨r, hr'⟩ : ∃ r, s ++ l = x :: r := by
    have h1 := h.head
    cases e : s ++ l with
    | nil => rw [List.append_eq_nil_iff] at e; exact absurd e.2 h.ne
    | cons a r => rw [e] at h1; simp at h1; exact ⟨r, by rw [h1]⟩
  have e : p ++ s ++ l = p ++ x :: r := by rw [List.append_assoc, hr']
  refine ⟨⟨h.ne, fun y hy => ?_, ?_, ?_, h.met⟩, r, e⟩
  · rw [List.append_assoc] at hy
    rcases List.mem_append.1 hy with q | q
    · exact hr y (List.mem_append_left _ q)
    · exact h.rng y q
  · have hh := h.chn
    rw [hr'] at hh
    rw [e, List.append_assoc]
    exact chn_app (m := r ++ [l.getD 0 0]) hh hc
  · rw [e]
    cases p with
    | nil => rfl
    | cons a p => rfl
/-- What the law's shows asks. -/
structure ShowOK (W : WorldD) (t : Tree) (L : List Int) (th : Int) : Prop where
  rng : ∀ x ∈ L ++ [th], 0 ≤ x ∧ x < (W.next.length : Int)
  ex : t.kind = 7 → 1 < (L ++ [th]).length ∧ labK W t.kids 0 ((L ++ [th]).getD 1 0).toNat = true
  eg : t.kind = 9 → ∀ x ∈ L, labK W t.kids 0 x.toNat = true
  eu : t.kind = 8 ∨ t.kind = 10 → ∃ k, k < L.length ∧ labK W t.kids (t.width - 1) (L.getD k 0).toNat = true ∧ ∀ j, j < k → t.kind = 10 → labK W t.kids 0 (L.getD j 0).toNat = true
theorem show_eu {W : WorldD} {t : Tree} {init r : List Int} {x : Int} (h1 : labK W t.kids (t.width - 1) x.toNat = true) (h2 : ∀ y ∈ init, t.kind = 10 → labK W t.kids 0 y.toNat = true) :
    ∃ k, k < (init ++ x :: r).length ∧ labK W t.kids (t.width - 1) ((init ++ x :: r).getD k 0).toNat = true ∧ ∀ j, j < k → t.kind = 10 → labK W t.kids 0 ((init ++ x :: r).getD j 0).toNat = true := by
  refine ⟨init.length, by simp, ?_, fun j hj hk => ?_⟩
  · rw [List.getD_eq_getElem?_getD, List.getElem?_append_right (Nat.le_refl _), Nat.sub_self]
    exact h1
  · rw [List.getD_eq_getElem?_getD, List.getElem?_append_left hj, List.getElem?_eq_getElem hj]
    exact h2 _ (List.getElem_mem hj) hk
theorem show_ok {W : WorldD} (hc : W.chk = 0) (t : Tree) (hwf : t.wf cKids) (hk : 7 ≤ t.kind ∧ t.kind ≤ 10) (n : Nat) (hn : n < W.next.length) (h : labT W t n = true) :
    PathOK W n (showR W t n).1 (showR W t n).2 ∧ ShowOK W t ((showR W t n).1 ++ (showR W t n).2) ((showR W t n).2.getD 0 0) ∧ (showR W t n).1.length ≤ 1000000 ∧ (showR W t n).2.length ≤ 1000000 := by
  obtain ⟨_, h600, h80, _, hnx, hfr⟩ := chk_label W hc
  have hin0 : ∀ l ∈ W.next, inB l W.next.length = true := fun l hl => (hnx l hl).2
  obtain ⟨har, hnum⟩ := node_arityC ((wf_iff _ _).1 hwf).1
  have h' := h
  rw [labT_eq] at h'
  have hmul : (W.fair.length + 1) * W.next.length ≤ 81 * 600 := Nat.mul_le_mul (by omega) (by omega)
  have hth : ∀ {s l : List Int}, PathOK W n s l → ∀ x ∈ s ++ l ++ [l.getD 0 0], 0 ≤ x ∧ x < (W.next.length : Int) := fun {s l} P x hx => by
    rcases List.mem_append.1 hx with q | q
    · exact P.rng x q
    · rw [List.mem_singleton] at q
      subst q
      have hne : 0 < l.length := by have := P.ne; cases l with | nil => exact absurd rfl this | cons a r => simp
      exact P.rng _ (List.mem_append_right _ (mem_getD hne))
  by_cases g9 : t.kind = 9
  · have hfw : Fw (resG W.next (labK W t.kids 0)) (W.fair.map setB) n := by
      rw [show labN W t.kind t.num (labK W t.kids) = egF W (labK W t.kids 0) from by unfold labN; simp [g9]] at h'
      exact fwB_iff.1 h'
    obtain ⟨_, _, _, _, _, hL⟩ := las_ok hin0 hfr hn hfw
    rw [show showR W t n = (lasS W (labK W t.kids 0) n, lasR W (labK W t.kids 0) n) from by unfold showR; rw [if_pos g9]]
    have hL' : LasI W.next W.fair (labK W t.kids 0) n (lasS W (labK W t.kids 0) n) (lasR W (labK W t.kids 0) n) := hL
    refine ⟨hL'.path, ⟨hth hL'.path, fun q => by omega, fun _ => hL'.zz, fun q => by omega⟩, by have := hL'.lens; dsimp only; omega, by have := hL'.lenl; dsimp only; omega⟩
  have aft : ∀ (p : List Int) (x : Int), showR W t n = showP W (p ++ [x]) → 0 ≤ x ∧ x < (W.next.length : Int) → (p ++ [x]).getD 0 0 = (n : Int) → Chn W.next (p ++ [x]) → (∀ y ∈ p ++ [x], 0 ≤ y ∧ y < (W.next.length : Int)) → p.length ≤ W.next.length → lastF W t x.toNat = true →
      (PathOK W n (showR W t n).1 (showR W t n).2 ∧ (∃ r, (showR W t n).1 ++ (showR W t n).2 = p ++ x :: r) ∧ (showR W t n).1.length ≤ 1000000 ∧ (showR W t n).2.length ≤ 1000000) ∧ labK W t.kids (t.width - 1) x.toNat = true := fun p x e1 hx e2 e3 e4 e5 e6 => by
    obtain ⟨b1, hfw⟩ := lastF_fair e6
    obtain ⟨_, _, _, _, _, hL⟩ := las_ok hin0 hfr (n := x.toNat) (by omega) hfw
    rw [e1, showP_app]
    have hL' : LasI W.next W.fair allT (x.toNat : Int) (lasS W allT x.toNat) (lasR W allT x.toNat) := hL
    rw [Int.toNat_of_nonneg hx.1] at hL'
    obtain ⟨P, r, hr⟩ := hL'.after e3 e4
    rw [e2] at P
    have q1 := hL'.lens
    have q2 := hL'.lenl
    exact ⟨⟨P, ⟨r, hr⟩, by simp only [List.length_append]; omega, by dsimp only; omega⟩, b1⟩
  by_cases g7 : t.kind = 7
  · have hwid : t.width = 1 := by omega
    have hex : (W.next.getD n []).any (fun x => lastF W t x.toNat) = true := by
      rw [show labN W t.kind t.num (labK W t.kids) = exF W (labK W t.kids 0) from by unfold labN; simp [g7]] at h'
      unfold lastF andF
      rw [hwid]
      exact h'
    have hfx : firstX W t n ∈ W.next.getD n [] ∧ lastF W t (firstX W t n).toNat = true := by
      unfold firstX
      rw [List.any_eq_true] at hex
      obtain ⟨x, x1, x2⟩ := hex
      cases e : (W.next.getD n []).find? fun x => lastF W t x.toNat with
      | none => rw [List.find?_eq_none] at e; exact absurd x2 (e x x1)
      | some y => exact ⟨List.mem_of_find?_eq_some e, List.find?_some (p := fun x : Int => lastF W t x.toNat) e⟩
    have hxr := inB_mem (inB_row hin0 n) hfx.1
    obtain ⟨⟨P, ⟨r, hr⟩, b1, b2⟩, b3⟩ := aft [(n : Int)] (firstX W t n) (by unfold showR; rw [if_neg g9, if_pos g7]; rfl) hxr rfl ⟨hfx.1, trivial⟩ (fun y hy => by
      simp at hy
      rcases hy with q | q <;> subst q
      · omega
      · exact hxr) (by simp; omega) hfx.2
    refine ⟨P, ⟨hth P, fun _ => ?_, fun q => by omega, fun q => by omega⟩, b1, b2⟩
    rw [hr]
    refine ⟨by simp, ?_⟩
    rw [show t.width - 1 = 0 by omega] at b3
    exact b3
  by_cases g10 : t.kind = 10
  · have hwid : t.width = 2 := by omega
    have hEu : Eu W.next (labK W t.kids 0) (lastF W t) n := by
      rw [show labN W t.kind t.num (labK W t.kids) = euF W (labK W t.kids 0) (labK W t.kids 1) from by unfold labN; simp [g10]] at h'
      unfold lastF
      rw [hwid]
      exact euB_iff.1 h'
    obtain ⟨init, last, e1, e2, e3, e4, e5, e6, e7⟩ := showW_ok hin0 hn hEu
    obtain ⟨⟨P, ⟨r, hr⟩, b1, b2⟩, b3⟩ := aft init last (by unfold showR; rw [if_neg g9, if_neg g7, if_pos g10, e1]) (e5 last (by simp)) e2 e4 e5 (by omega) e3
    refine ⟨P, ⟨hth P, fun q => by omega, fun q => by omega, fun _ => ?_⟩, b1, b2⟩
    rw [hr]
    exact show_eu b3 fun y hy _ => e7 y hy
  have g8 : t.kind = 8 := by omega
  have hwid : t.width = 1 := by omega
  have hEu : Eu W.next allT (lastF W t) n := by
    rw [show labN W t.kind t.num (labK W t.kids) = euF W allT (labK W t.kids 0) from by unfold labN; simp [g8]] at h'
    unfold lastF
    rw [hwid]
    exact euB_iff.1 h'
  obtain ⟨init, last, e1, e2, e3, e4, e5, e6, e7⟩ := showW_ok hin0 hn hEu
  obtain ⟨⟨P, ⟨r, hr⟩, b1, b2⟩, b3⟩ := aft init last (by unfold showR; rw [if_neg g9, if_neg g7, if_neg g10, e1]) (e5 last (by simp)) e2 e4 e5 (by omega) e3
  refine ⟨P, ⟨hth P, fun q => by omega, fun q => by omega, fun _ => ?_⟩, b1, b2⟩
  rw [hr]
  exact show_eu b3 fun y hy q => by omega
/-! ### The law's shows -/
def c129 : PC := .seq (.ops [⟨some 3,.move (.const (.bool false)),none,0⟩] false) (.seq (.ops [⟨some 4,.load1 (.tmp 1),none,0⟩,
 ⟨some 5,.move (.tmp 0),none,0⟩,
 ⟨some 6,.iaddr 1 (.tmp 4) (.tmp 5),none,0⟩,
 ⟨some 7,.load1 (.tmp 6),none,0⟩,
 ⟨some 8,.un .not (.tmp 7),none,0⟩,
 ⟨some 3,.move (.tmp 8),none,0⟩] false) (.ret))
set_option maxRecDepth 100000 in
theorem c129_ok : FunOK Try.prog 129 9 [.tmp 3] c129 := ⟨⟨Try.f129, Try.func129, rfl, by kernel_rfl, rfl, by kernel_rfl⟩⟩
theorem lws_not (n : Nat) (a : Nat → Bool) (x : Int) (hx : 0 ≤ x ∧ x < (n : Int)) : PCall Try.prog 129 [.sc (.int .i64 x), .ipt [dbl n a]] (.sc (.bool (!a x.toNat))) := by
  refine pcall_intro c129_ok (by simp) (by simp [PureL, Pure, pure_dbl]) ?_ (by simp [Pure])
  (apply rd_sound; focus (repeat' constructor))
  ((conv=>whnf);repeat(refine .intro rfl ?_;conv=>whnf))
  refine ⟨by omega, _, rbl_atN x.toNat (by omega) (by omega), ?_⟩
  ((conv=>whnf);repeat(refine .intro rfl ?_;conv=>whnf))
  exact .refl _
def c46_1 : PC := .seq (.ops [⟨some 52,.bin .lss (.tmp 51) (.tmp 50),none,0⟩] false) (.seq (.cond (.tmp 52) (.skip) (.exit 1)) (.seq (.block 2 (.seq (.ops [⟨some 53,.iaddr 1 (.tmp 49) (.tmp 51),none,0⟩,
 ⟨some 54,.load1 (.tmp 53),none,0⟩,
 ⟨some 12,.move (.tmp 54),none,0⟩] false) (.seq (.seq (.ops [⟨some 55,.move (.tmp 10),none,0⟩,
 ⟨some 56,.move (.tmp 12),none,0⟩,
 ⟨some 57,.iaddr 1 (.tmp 55) (.tmp 56),none,0⟩,
 ⟨some 58,.load1 (.tmp 57),none,0⟩] false) (.cond (.tmp 58) (.seq (.ops [⟨some 8,.move (.const (.bool true)),none,0⟩] false) (.ret)) (.skip))) (.seq (.ops [⟨some 59,.faddr 0 (.tmp 5),none,0⟩,
 ⟨some 60,.load1 (.tmp 59),none,0⟩,
 ⟨some 61,.bin .eql (.tmp 60) (.const (.int .i64 10)),none,0⟩,
 ⟨some 62,.move (.tmp 61),none,0⟩,
 ⟨some 63,.load1 (.tmp 9),some (62,true),0⟩,
 ⟨some 64,.move (.tmp 12),some (62,true),0⟩,
 ⟨some 65,.iaddr 1 (.tmp 63) (.tmp 64),some (62,true),0⟩,
 ⟨some 66,.load1 (.tmp 65),some (62,true),0⟩,
 ⟨some 67,.un .not (.tmp 66),some (62,true),0⟩,
 ⟨some 68,.pick (.tmp 62) (.tmp 67) (.const (.bool false)),none,0⟩] false) (.cond (.tmp 68) (.seq (.ops [⟨some 8,.move (.const (.bool false)),none,0⟩] false) (.ret)) (.skip)))))) (.ops [⟨some 69,.bin .add (.tmp 51) (.const (.int .i64 1)),none,0⟩,
 ⟨some 51,.move (.tmp 69),none,0⟩] false)))
def c46 : PC := .seq (.ops [⟨some 4,.box (.tmp 0),none,0⟩,
 ⟨some 5,.box (.tmp 1),none,0⟩,
 ⟨some 8,.move (.const (.bool false)),none,0⟩] false) (.seq (.ops [⟨some 13,.loadA 4 (.tmp 4),none,0⟩,
 ⟨some 14,.faddr 2 (.tmp 5),none,0⟩,
 ⟨some 15,.load1 (.tmp 14),none,2⟩,
 ⟨some 16,.iaddr 3 (.tmp 15) (.const (.int .i64 0)),none,6⟩,
 ⟨some 17,.loadA 3 (.tmp 16),none,14⟩,
 ⟨some 18,.call 43 [(.tmp 13), (.tmp 17)],none,31⟩,
 ⟨some 9,.alloc [(.slice none 0 0)],none,0⟩,
 ⟨none,.store 1 (.tmp 9) (.tmp 18),none,127⟩] true) (.seq (.ops [⟨some 19,.loadA 4 (.tmp 4),none,0⟩,
 ⟨some 20,.faddr 2 (.tmp 5),none,0⟩,
 ⟨some 21,.load1 (.tmp 20),none,2⟩,
 ⟨some 22,.faddr 2 (.tmp 5),none,0⟩,
 ⟨some 23,.load1 (.tmp 22),none,8⟩,
 ⟨some 24,.len (.tmp 23),none,24⟩,
 ⟨some 25,.bin .sub (.tmp 24) (.const (.int .i64 1)),none,56⟩,
 ⟨some 26,.iaddr 3 (.tmp 21) (.tmp 25),none,126⟩,
 ⟨some 27,.loadA 3 (.tmp 26),none,254⟩,
 ⟨some 28,.call 43 [(.tmp 19), (.tmp 27)],none,511⟩,
 ⟨some 10,.move (.tmp 28),none,1023⟩] true) (.seq (.seq (.ops [⟨some 29,.faddr 0 (.tmp 5),none,0⟩,
 ⟨some 30,.load1 (.tmp 29),none,0⟩] false) (.block 0 (.seq (.ops [⟨some 32,.bin .eql (.tmp 30) (.const (.int .i64 7)),none,0⟩,
 ⟨some 31,.move (.tmp 32),none,0⟩] false) (.cond (.tmp 31) (.seq (.ops [⟨some 33,.load1 (.tmp 9),none,0⟩,
 ⟨some 34,.move (.tmp 2),none,0⟩,
 ⟨some 35,.call 47 [(.tmp 34)],none,2⟩,
 ⟨some 36,.move (.tmp 3),none,0⟩,
 ⟨some 37,.bslice 1 1 [(.tmp 36)],none,8⟩,
 ⟨some 38,.append 1 8 (.tmp 35) (.tmp 37),none,30⟩,
 ⟨some 39,.iaddr 1 (.tmp 38) (.const (.int .i64 1)),none,62⟩,
 ⟨some 40,.load1 (.tmp 39),none,126⟩,
 ⟨some 41,.iaddr 1 (.tmp 33) (.tmp 40),none,255⟩,
 ⟨some 42,.load1 (.tmp 41),none,511⟩,
 ⟨some 8,.move (.tmp 42),none,1023⟩] true) (.ret)) (.seq (.ops [⟨some 44,.bin .eql (.tmp 30) (.const (.int .i64 9)),none,0⟩,
 ⟨some 43,.move (.tmp 44),none,0⟩] false) (.cond (.tmp 43) (.seq (.ops [⟨some 45,.move (.tmp 2),none,0⟩,
 ⟨some 46,.mkfn (.func 129) [] [(.tmp 9)],none,0⟩,
 ⟨some 47,.call 121 [(.tmp 45), (.tmp 46)],none,0⟩,
 ⟨some 48,.un .not (.tmp 47),none,0⟩,
 ⟨some 8,.move (.tmp 48),none,0⟩] false) (.ret)) (.skip))))))) (.seq (.seq (.ops [⟨some 49,.move (.tmp 2),none,0⟩,
 ⟨some 50,.len (.tmp 49),none,0⟩,
 ⟨some 51,.move (.const (.int .i64 0)),none,0⟩] false) (.block 1 (.loop c46_1))) (.seq (.ops [⟨some 8,.move (.const (.bool false)),none,0⟩] false) (.ret))))))
set_option maxRecDepth 100000 in
theorem c46_ok : FunOK Try.prog 46 70 [.tmp 8] c46 := ⟨⟨Try.f46, Try.func46, rfl, by kernel_rfl, rfl, by kernel_rfl⟩⟩
set_option maxRecDepth 100000 in
theorem law_shows (W : WorldD) (hW : W.Fits) (hc : W.chk = 0) (hL : Lett W.label) (t : Tree) (hwf : t.wf cKids) (hk : 7 ≤ t.kind ∧ t.kind ≤ 10) (L : List Int) (hLl : L.length ≤ 10000000) (th : Int) (hS : ShowOK W t L th) :
    PCall Try.prog 46 [dworld W, dtree t, dints L, .sc (.int .i64 th)] (.sc (.bool true)) := by
  obtain ⟨har, hnum⟩ := node_arityC ((wf_iff _ _).1 hwf).1
  have hw1 : 1 ≤ t.width ∧ t.width ≤ 2 := by omega
  have hlab := fun j (hj : j < t.width) => ref_Label W hW hc hL (t.kid j) (wf_kid hwf hj)
  have hk0 := hlab 0 (by omega)
  rw [← labK_eq W (show 0 < t.width by omega)] at hk0
  have hk1 := hlab (t.width - 1) (by omega)
  rw [← labK_eq W (show t.width - 1 < t.width by omega)] at hk1
  have hrng := hS.rng
  have hrL : ∀ x ∈ L, 0 ≤ x ∧ x < (W.next.length : Int) := fun x hx => hrng x (List.mem_append_left _ hx)
  have hCF := containsF_int (fun n => .sc (.int .i64 n)) (fun a => by simp [Pure]) L (by omega) (fun x => !labK W t.kids 0 x.toNat) 129 [.ipt [dbl W.next.length (labK W t.kids 0)]] (by simp [PureL, Pure, pure_dbl]) fun a ha => lws_not W.next.length _ a (hrL a ha)
  have hCl := cloneO_int L (by omega)
  refine pcall_intro c46_ok (by simp) (by simp [PureL, Pure, pure_dworld, pure_dtree, pure_dints]) ?_ (by simp [Pure])
  unfold dworld at *
  (apply rd_sound; focus (repeat' constructor))
  ((conv=>whnf);repeat(refine .intro rfl ?_;conv=>whnf))
  refine ⟨by omega, _, kid_at (j := 0) (by omega), ?_⟩
  ((conv=>whnf);repeat(refine .intro rfl ?_;conv=>whnf))
  (refine .inl ⟨_, hk0, ?_⟩; ((conv=>whnf);repeat(refine .intro rfl ?_;conv=>whnf)))
  rw [List.length_map, show ((t.kids.length : Nat) : Int) = (t.width : Int) from rfl]
  (refine .inl ⟨by (unfold InR; rw [IntKind.wrap_i64]; omega), ?_⟩; ((conv=>whnf);repeat(refine .intro rfl ?_;conv=>whnf)))
  refine ⟨by omega, _, by rw [show ((t.width : Int) - 1).toNat = t.width - 1 by omega]; exact kid_at (j := t.width - 1) (by omega), ?_⟩
  ((conv=>whnf);repeat(refine .intro rfl ?_;conv=>whnf))
  (refine .inl ⟨_, hk1, ?_⟩; ((conv=>whnf);repeat(refine .intro rfl ?_;conv=>whnf)))
  (refine ifK_split (fun g7 => ?_) (fun g7 => ?_) <;> (rw [g7]; ((conv=>whnf);repeat(refine .intro rfl ?_;conv=>whnf))))
  · have g7 : t.kind = 7 := by ((try simp only[oo,reduceCtorEq]at*)<;>omega)
    obtain ⟨e1, e2⟩ := hS.ex g7
    have hx1 := hrng _ (mem_getD e1)
    (refine .inr (.inr (.inr (.inr (.inl ⟨_, _, _, (acallAt_new hCl (by simp [PureL, Pure]) [3] rfl rfl (by simp [AObj.ren, renL, D.ren]; rfl)), ?_⟩)))); ((conv=>whnf);repeat(refine .intro rfl ?_;conv=>whnf)))
    refine ⟨(by unfold sliceAppend; simp only [ll]; omega), ?_⟩
    ((conv=>whnf);repeat(refine .intro rfl ?_;conv=>whnf))
    rw [show List.drop 0 (List.take L.length (List.map (fun n => [D.sc (Value.int IntKind.i64 n)]) L)) ++ List.drop 0 (List.take 1 [[D.sc (Value.int IntKind.i64 th)]]) = i64s (L ++ [th]) from by rw [drop_take_all (by simp)]; simp [i64s]]
    have hl2 : (L ++ [th]).length = L.length + 1 := by simp
    refine ⟨by omega, by simp only [ll]; omega, ?_⟩
    ((conv=>whnf);repeat(refine .intro rfl ?_;conv=>whnf))
    refine ⟨_, i64s_at (l := L ++ [th]) (k := 1) (by omega) e1, ?_⟩
    ((conv=>whnf);repeat(refine .intro rfl ?_;conv=>whnf))
    refine ⟨by omega, _, rbl_atN ((L ++ [th]).getD 1 0).toNat (by omega) (by omega), ?_⟩
    ((conv=>whnf);repeat(refine .intro rfl ?_;conv=>whnf))
    rw [e2]
    exact .refl _
  have g7 : ¬ t.kind = 7 := by ((try simp only[oo,reduceCtorEq]at*)<;>omega)
  (refine ifK_split (fun g9 => ?_) (fun g9 => ?_) <;> (rw [g9]; ((conv=>whnf);repeat(refine .intro rfl ?_;conv=>whnf))))
  · have g9 : t.kind = 9 := by ((try simp only[oo,reduceCtorEq]at*)<;>omega)
    have eg := hS.eg g9
    (refine .inr (.inl ⟨_, _, (by (repeat' (first | exact Deep.refl _ | exact Deep.none _ | exact deep_row _ | exact DeepL.nil | exact DeepLL.nil | refine Deep.agg _ _ ?_ | refine Deep.tup _ _ ?_ | refine Deep.own _ _ _ _ _ _ _ _ rfl ?_ | refine Deep.loc _ _ _ _ _ rfl ?_ | refine Deep.ifc _ _ _ ?_ | refine Deep.fn _ _ _ _ _ ?_ ?_ | refine DeepL.cons _ _ _ _ ?_ ?_ | refine DeepLL.cons _ _ _ _ ?_ ?_))), hCF, rfl, ?_⟩); ((conv=>whnf);repeat(refine .intro rfl ?_;conv=>whnf)))
    rw [show (L.any fun x => !labK W t.kids 0 x.toNat) = false from by rw [List.any_eq_false]; intro x hx; rw [eg x hx]; decide]
    exact .refl _
  have g9 : ¬ t.kind = 9 := by ((try simp only[oo,reduceCtorEq]at*)<;>omega)
  obtain ⟨K, hK, hK1, hK2⟩ := hS.eu (by omega)
  rw [List.length_map]
  refine pwp_for [5, 9, 10, 49, 50] (fun k : Nat => [(51, .sc (.int .i64 k))]) (fun _ => []) (fun k => k ≤ K) (fun k => K - k) 0 ?_
  ((conv=>whnf);repeat(refine .intro rfl ?_;conv=>whnf))
  refine ⟨by omega, by (repeat' (first | exact trivial | refine And.intro rfl ?_)), rfl, ?_⟩
  rintro k hk'
  ((conv=>whnf);repeat(refine .intro rfl ?_;conv=>whnf))
  (apply rd_sound; focus (repeat' constructor))
  ((conv=>whnf);repeat(refine .intro rfl ?_;conv=>whnf))
  (refine ifK_split (fun q0 => ?_) (fun q0 => ?_) <;> (rw [q0]; ((conv=>whnf);repeat(refine .intro rfl ?_;conv=>whnf))))
  rotate_left
  · exfalso; ((try simp only[oo,reduceCtorEq]at*)<;>omega)
  have q0 : k < L.length := by ((try simp only[oo,reduceCtorEq]at*)<;>omega)
  have hx := hrL _ (mem_getD q0)
  refine ⟨by omega, _, intsD_at (l := L) (k := k) (by omega) q0, ?_⟩
  ((conv=>whnf);repeat(refine .intro rfl ?_;conv=>whnf))
  refine ⟨by omega, _, rbl_atN (L.getD k 0).toNat (by omega) (by omega), ?_⟩
  ((conv=>whnf);repeat(refine .intro rfl ?_;conv=>whnf))
  cases r : labK W t.kids (t.width - 1) (L.getD k 0).toNat
  rotate_left
  · ((conv=>whnf);repeat(refine .intro rfl ?_;conv=>whnf))
    exact .refl _
  have hkK : k < K := by
    rcases Nat.lt_or_ge k K with q | q
    · exact q
    · have : k = K := by omega
      subst this
      rw [r] at hK1; cases hK1
  ((conv=>whnf);repeat(refine .intro rfl ?_;conv=>whnf))
  (refine ifK_split (fun g10 => ?_) (fun g10 => ?_) <;> (rw [g10]; ((conv=>whnf);repeat(refine .intro rfl ?_;conv=>whnf))))
  · have g10 : t.kind = 10 := by ((try simp only[oo,reduceCtorEq]at*)<;>omega)
    have := hK2 k hkK g10
    refine ⟨by omega, _, rbl_atN (L.getD k 0).toNat (by omega) (by omega), ?_⟩
    ((conv=>whnf);repeat(refine .intro rfl ?_;conv=>whnf))
    rw [this]
    ((conv=>whnf);repeat(refine .intro rfl ?_;conv=>whnf))
    (refine .inl ⟨by (unfold InR; rw [IntKind.wrap_i64]; omega), ?_⟩; ((conv=>whnf);repeat(refine .intro rfl ?_;conv=>whnf)))
    exact ⟨k + 1, by omega, by dsimp only; omega, leB_envH (by (repeat' (first | exact trivial | refine And.intro rfl ?_))) rfl⟩
  · (refine .inl ⟨by (unfold InR; rw [IntKind.wrap_i64]; omega), ?_⟩; ((conv=>whnf);repeat(refine .intro rfl ?_;conv=>whnf)))
    exact ⟨k + 1, by omega, by dsimp only; omega, leB_envH (by (repeat' (first | exact trivial | refine And.intro rfl ?_))) rfl⟩
end

end Go.Proofs.Ytfgklgjbnpjpoaa
