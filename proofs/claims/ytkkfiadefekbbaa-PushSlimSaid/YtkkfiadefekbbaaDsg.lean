/-
  What may be said anew of a state between two steps: objects made since are read to the bottom and forgotten; an empty slice of none becomes an own one. Loops with such steps. No statement is proved here.
-/
import Derived.Test.YtkkfiadefekbbaaDsf
namespace Go.Proofs.Ytkkfiadefekbbaa
open Go.RowKit
set_option linter.unusedSimpArgs false
set_option linter.unusedVariables false

mutual
/-- What the objects from number m on read as, to the bottom. -/
inductive DeepM (m : Nat) (H : List AObj) : D → D → Prop
  | refl (d : D) : DeepM m H d d
  | none (esz : Nat) : DeepM m H (.sc (.slice none 0 0)) (.lst esz [])
  | loc (id off : Nat) (q : Bool) (cs ds : List D) (hm : m ≤ id) (h : H[id]? = some (.row q cs)) (k : DeepML m H (cs.drop off) ds) : DeepM m H (.loc id off) (.ipt ds)
  | own (id ver lo hi esz : Nat) (q : Bool) (xs ys : List (List D)) (hm : m ≤ id) (h : H[id]? = some (.vec q ver esz xs)) (k : DeepMLL m H ((xs.take hi).drop lo) ys) : DeepM m H (.own id ver lo hi) (.lst esz ys)
  | fn (f : Fn) (a b c e : List D) (h : DeepML m H a b) (k : DeepML m H c e) : DeepM m H (.fn f a c) (.fn f b e)
  | ifc (t : TypeId) (d e : D) (h : DeepM m H d e) : DeepM m H (.ifc t d) (.ifc t e)
  | agg (a b : List D) (h : DeepML m H a b) : DeepM m H (.agg a) (.agg b)
  | tup (a b : List D) (h : DeepML m H a b) : DeepM m H (.tup a) (.tup b)
inductive DeepML (m : Nat) (H : List AObj) : List D → List D → Prop
  | refl (l : List D) : DeepML m H l l
  | cons (d e : D) (a b : List D) (h : DeepM m H d e) (k : DeepML m H a b) : DeepML m H (d :: a) (e :: b)
inductive DeepMLL (m : Nat) (H : List AObj) : List (List D) → List (List D) → Prop
  | refl (l : List (List D)) : DeepMLL m H l l
  | cons (x y : List D) (a b : List (List D)) (h : DeepML m H x y) (k : DeepMLL m H a b) : DeepMLL m H (x :: a) (y :: b)
  | append (x y a b : List (List D)) (h : DeepMLL m H x y) (k : DeepMLL m H a b) : DeepMLL m H (x ++ a) (y ++ b)
end

/-- The blocks of the objects from number m on. -/
def OwnsFrom (m : Nat) (J : Inj) (b : Nat) : Prop := ∃ id s, m ≤ id ∧ J id = some s ∧ s.blk = some b

section
variable {J : Inj} {F : Nat → Prop} {w : World} {H : List AObj} {m : Nat}
mutual
theorem deepML_len : ∀ (d e : List D), DeepML m H d e → d.length = e.length
  | _, _, .refl _ => rfl
  | _, _, .cons d e a b _ k => by simp [deepML_len a b k]
theorem deepMLL_len : ∀ (d e : List (List D)), DeepMLL m H d e → d.length = e.length
  | _, _, .refl _ => rfl
  | _, _, .cons d e a b _ k => by simp [deepMLL_len a b k]
  | _, _, .append x y a b h k => by simp [deepMLL_len x y h, deepMLL_len a b k]
end

theorem repRows_app {b esz : Nat} : ∀ (xs ys : List (List D)) (o : Nat), repRows J F w b esz (xs ++ ys) o ↔ repRows J F w b esz xs o ∧ repRows J F w b esz ys (o + xs.length * esz)
  | [], ys, o => by simp [repRows]
  | x :: r, ys, o => by
    simp only [List.cons_append, repRows, repRows_app r ys, List.length_cons, and_assoc]
    rw [show o + esz + r.length * esz = o + (r.length + 1) * esz by rw [Nat.add_mul]; omega]

mutual
theorem deepM_sound (hok : StOK J F w (fun i => H[i]?)) : ∀ (d e : D) (v : Value), DeepM m H d e → rep J F w d v → rep J (fun b => F b ∨ OwnsFrom m J b) w e v
  | d, _, v, .refl _, h => rep_mono (Inj.le_refl J) (fun _ h => .inl h) (fun _ _ => rfl) d v h
  | _, _, v, .none esz, h => by
    simp only [rep] at h ⊢
    exact ⟨none, 0, 0, h, rfl, Nat.le_refl _, .inl rfl⟩
  | _, _, v, .loc id off q cs ds hm h k, hv => by
    simp only [rep] at hv ⊢
    obtain ⟨s, b, h1, h2, h3, rfl⟩ := hv
    have hc := repCells_drop (rowOK hok h1 h3 h) off
    refine ⟨b, off, rfl, .inr ⟨id, s, hm, h1, by simp [Site.blk, h2, h3]⟩, ?_⟩
    rw [Nat.zero_add] at hc
    exact deepMCells_sound hok _ _ b off k hc
  | _, _, v, .own id ver lo hi esz q xs ys hm h k, hv => by
    simp only [rep] at hv ⊢
    obtain ⟨s, A, n, c, h1, rfl, h2, h3⟩ := hv
    obtain ⟨p1, p2, p3, p4, p5, p6⟩ := vecOK hok h1 h
    obtain ⟨t1, t2, t3, rfl, rfl, t6⟩ := h3 p2.symm
    have hl : ys.length = hi - lo := by
      rw [← deepMLL_len _ _ k]; simp; omega
    refine ⟨A, _, _, rfl, hl.symm, by omega, ?_⟩
    rcases t6 with t6 | ⟨b, o, t6, rfl⟩
    · exact .inl (by omega)
    · rcases p6 with p6 | ⟨b', o', vals, te, e, q1, q2, q3, q4⟩
      · exact .inl (by omega)
      · rw [t6] at e; cases e
        by_cases hz : s.cap = 0
        · exact .inl (by omega)
        · refine .inr ⟨b, _, rfl, .inr ⟨id, s, hm, h1, by simp [Site.blk, hz, t6]⟩, ?_⟩
          rw [p3]
          exact deepMRows_sound hok _ _ b esz _ k (repRows_part q3 lo hi)
  | _, _, v, .fn f a b c e h k, hv => by
    simp only [rep] at hv ⊢
    obtain ⟨vs, us, rfl, h2, h3⟩ := hv
    exact ⟨vs, us, rfl, deepML_sound hok _ _ vs h h2, deepML_sound hok _ _ us k h3⟩
  | _, _, v, .ifc t d e h, hv => by
    simp only [rep] at hv ⊢
    obtain ⟨u, rfl, h2⟩ := hv
    exact ⟨u, rfl, deepM_sound hok _ _ u h h2⟩
  | _, _, v, .agg a b h, hv => by
    simp only [rep] at hv ⊢
    obtain ⟨vs, rfl, h2⟩ := hv
    exact ⟨vs, rfl, deepML_sound hok _ _ vs h h2⟩
  | _, _, v, .tup a b h, hv => by
    simp only [rep] at hv ⊢
    obtain ⟨vs, rfl, h2⟩ := hv
    exact ⟨vs, rfl, deepML_sound hok _ _ vs h h2⟩
theorem deepML_sound (hok : StOK J F w (fun i => H[i]?)) : ∀ (d e : List D) (v : List Value), DeepML m H d e → repL J F w d v → repL J (fun b => F b ∨ OwnsFrom m J b) w e v
  | d, _, v, .refl _, h => repL_mono (Inj.le_refl J) (fun _ h => .inl h) (fun _ _ => rfl) d v h
  | _, _, v, .cons d e a b h k, hv => by
    simp only [repL] at hv ⊢
    obtain ⟨u, us, rfl, h2, h3⟩ := hv
    exact ⟨u, us, rfl, deepM_sound hok _ _ u h h2, deepML_sound hok _ _ us k h3⟩
theorem deepMCells_sound (hok : StOK J F w (fun i => H[i]?)) : ∀ (d e : List D) (b o : Nat), DeepML m H d e → repCells J F w b d o → repCells J (fun b => F b ∨ OwnsFrom m J b) w b e o
  | d, _, b, o, .refl _, h => repCells_mono (Inj.le_refl J) (fun _ h => .inl h) (fun _ _ => rfl) b (fun _ => rfl) d o h
  | _, _, b, o, .cons d e x y h k, hv => by
    simp only [repCells] at hv ⊢
    obtain ⟨⟨u, h1, h2, h3⟩, h4⟩ := hv
    exact ⟨⟨u, h1, h2, deepM_sound hok _ _ u h h3⟩, deepMCells_sound hok _ _ b (o + 1) k h4⟩
theorem deepMRows_sound (hok : StOK J F w (fun i => H[i]?)) : ∀ (d e : List (List D)) (b esz o : Nat), DeepMLL m H d e → repRows J F w b esz d o → repRows J (fun b => F b ∨ OwnsFrom m J b) w b esz e o
  | d, _, b, esz, o, .refl _, h => repRows_mono (Inj.le_refl J) (fun _ h => .inl h) (fun _ _ => rfl) b esz (fun _ => rfl) d o h
  | _, _, b, esz, o, .cons d e x y h k, hv => by
    simp only [repRows] at hv ⊢
    obtain ⟨h1, h2, h3⟩ := hv
    exact ⟨by rw [← deepML_len _ _ h]; exact h1, deepMCells_sound hok _ _ b o h h2, deepMRows_sound hok _ _ b esz (o + esz) k h3⟩
  | _, _, b, esz, o, .append x y a c h k, hv => by
    rw [repRows_app] at hv ⊢
    refine ⟨deepMRows_sound hok _ _ b esz o h hv.1, ?_⟩
    rw [← deepMLL_len _ _ h]
    exact deepMRows_sound hok _ _ b esz _ k hv.2
end
end

/-- One state says no more than another, but for objects from number L on. -/
def St.leB (L n : Nat) (env : Env) (H : List AObj) (env' : Env) (H' : List AObj) : Prop := ∀ J F a w, StRep n J F env H a w → ∃ J' F', StRep n J' F' env' H' a w ∧ (∀ i s, i < L → J i = some s → J' i = some s) ∧ (∀ b, F b → F' b) ∧ (∀ b, Owns J' b → Owns J b) ∧ ∀ b, F' b → F b ∨ Owns J b

theorem leB_env {L n : Nat} {env env' : Env} {H : List AObj} (h : sameE env env') : St.leB L n env H env' H := fun J F a w hr =>
  ⟨J, F, ⟨hr.defers, hr.size, fun t => by
    rcases sameE_look env' h t with e | e
    · rw [e]; exact hr.tmps t
    · rw [e]; simp only [rep], hr.ok, hr.dom⟩, fun _ _ _ h => h, fun _ h => h, fun _ h => h, fun _ h => .inl h⟩
theorem leB_refl {L n : Nat} {env : Env} {H : List AObj} : St.leB L n env H env H := fun J F a w hr => ⟨J, F, hr, fun _ _ _ h => h, fun _ h => h, fun _ h => h, fun _ h => .inl h⟩
theorem leB_trans {L n : Nat} {env env' env'' : Env} {H H' H'' : List AObj} (h : St.leB L n env H env' H') (k : St.leB L n env' H' env'' H'') : St.leB L n env H env'' H'' := fun J F a w hr => by
  obtain ⟨J', F', h1, h2, h3, h4, h5⟩ := h J F a w hr
  obtain ⟨J'', F'', k1, k2, k3, k4, k5⟩ := k J' F' a w h1
  exact ⟨J'', F'', k1, fun i s q1 q2 => k2 i s q1 (h2 i s q1 q2), fun b hb => k3 b (h3 b hb), fun b hb => h4 b (k4 b hb), fun b hb => (k5 b hb).elim (h5 b) fun q => .inr (h4 b q)⟩

/-- The slots, with what is forgotten read to the bottom. -/
def closeE (m : Nat) (H : List AObj) (env : Env) : Env → Prop
  | [] => True
  | (t, d) :: r => DeepM m H (lookD t env) d ∧ Under m d ∧ closeE m H env r
def closeO (m : Nat) (H : List AObj) : AObj → AObj → Prop
  | .row q cs, .row q' cs' => q = q' ∧ DeepML m H cs cs' ∧ UnderL m cs'
  | .vec q v e xs, .vec q' v' e' xs' => q = q' ∧ v = v' ∧ e = e' ∧ DeepMLL m H xs xs' ∧ UnderLL m xs'
  | _, _ => False
def closeH (m : Nat) (H : List AObj) : List AObj → List AObj → Prop
  | _, [] => True
  | o :: r, o' :: r' => closeO m H o o' ∧ closeH m H r r'
  | [], _ :: _ => False

theorem closeE_look {m : Nat} {H : List AObj} {env : Env} : ∀ (env' : Env), closeE m H env env' → ∀ t, (DeepM m H (lookD t env) (lookD t env') ∧ Under m (lookD t env')) ∨ lookD t env' = .junk
  | [], _, t => .inr rfl
  | (k, d) :: r, h, t => by
    simp only [closeE] at h
    rw [lookD_cons]
    split
    · rename_i e; subst e; exact .inl ⟨h.1, h.2.1⟩
    · exact closeE_look r h.2.2 t
theorem closeH_get {m : Nat} {H : List AObj} : ∀ (l l' : List AObj), closeH m H l l' → ∀ i (o : AObj), i < l'.length → l[i]? = some o → ∃ o', l'[i]? = some o' ∧ closeO m H o o'
  | _, [], _, i, o, hi, _ => by simp at hi
  | [], _ :: _, h, i, o, hi, _ => by simp only [closeH] at h
  | o :: r, o' :: r', h, 0, x, _, hx => by
    simp at hx; subst hx
    exact ⟨o', rfl, h.1⟩
  | o :: r, o' :: r', h, i + 1, x, hi, hx => by
    simpa using closeH_get r r' h.2 i x (by simpa using hi) (by simpa using hx)

theorem closeO_ok {J : Inj} {F : Nat → Prop} {w : World} {H : List AObj} {m : Nat} (hok : StOK J F w (fun i => H[i]?)) {s : Site} {o o' : AObj} (h : closeO m H o o') (k : ObjOK J F w s o) : ObjOK (keepTo m J) (fun b => F b ∨ OwnsFrom m J b) w s o' ∧ o'.mut = o.mut := by
  cases o with
  | row q cs =>
    cases o' with
    | vec => exact h.elim
    | row q' cs' =>
      obtain ⟨rfl, h1, h2⟩ := h
      obtain ⟨k1, k2, k3, k4, k5, b, vals, te, t1, t2, t3, t4, t5⟩ := k
      have hl := deepML_len _ _ h1
      exact ⟨⟨k1, k2, k3, by rw [← hl]; exact k4, by rw [← hl]; exact k5, b, vals, te, t1, t2, by rw [← hl]; exact t3, repCells_keep b cs' 0 h2 (deepMCells_sound hok _ _ b 0 h1 t4), fun e => .inl (t5 e)⟩, rfl⟩
  | vec q v e xs =>
    cases o' with
    | row => exact h.elim
    | vec q' v' e' xs' =>
      obtain ⟨rfl, rfl, rfl, h1, h2⟩ := h
      obtain ⟨k1, k2, k3, k4, k5, k6⟩ := k
      have hl := deepMLL_len _ _ h1
      exact ⟨⟨k1, k2, k3, by rw [← hl]; exact k4, k5, k6.imp_right fun ⟨b, o, vals, te, t1, t2, t3, t4, t5⟩ => ⟨b, o, vals, te, t1, t2, t3, repRows_keep b e xs' o h2 (deepMRows_sound hok _ _ b e o h1 t4), fun e => .inl (t5 e)⟩⟩, rfl⟩

/-- The objects from number m on are forgotten. -/
theorem leB_close {L n : Nat} (m : Nat) {env env' : Env} {H H' : List AObj} (hL : L ≤ m) (hm : H'.length = m) (hE : closeE m H env env') (hH : closeH m H H H') : St.leB L n env H env' H' := fun J F a w hr => by
  refine ⟨keepTo m J, fun b => F b ∨ OwnsFrom m J b, ⟨hr.defers, hr.size, fun t => ?_, ⟨fun i s hs => ?_, fun i i' s s' b g1 g2 g3 g4 => ?_, fun i s b o g1 g2 g3 g4 => ?_, fun b hb => ?_⟩, fun i hi => ?_⟩, fun i s hi hs => ?_, fun b hb => .inl hb, fun b ⟨i, s, hs, hb⟩ => ?_, fun b hb => hb.imp_right fun ⟨i, s, _, h1, h2⟩ => ⟨i, s, h1, h2⟩⟩
  · rcases closeE_look env' hE t with ⟨h1, h2⟩ | e
    · exact rep_keep _ _ h2 (deepM_sound hr.ok _ _ _ h1 (hr.tmps t))
    · rw [e]; simp only [rep]
  · unfold keepTo at hs
    split at hs
    · rename_i hi
      obtain ⟨o, h1, h2⟩ := hr.ok.obj i s hs
      obtain ⟨o', h3, h4⟩ := closeH_get H H' hH i o (by omega) h1
      exact ⟨o', h3, (closeO_ok hr.ok h4 h2).1⟩
    · cases hs
  · unfold keepTo at g1 g2
    split at g1 <;> split at g2
    · exact hr.ok.one i i' s s' b g1 g2 g3 g4
    all_goals first | cases g1 | cases g2
  · unfold keepTo at g1
    split at g1
    · rename_i hi
      obtain ⟨o1, h1, h2⟩ := hr.ok.obj i s g1
      obtain ⟨o', h3, h4⟩ := closeH_get H H' hH i o1 (by omega) h1
      have h3' : H'[i]? = some o := g3
      rw [h3'] at h3
      cases h3
      have hmut := (closeO_ok hr.ok h4 h2).2
      rintro (hx | ⟨i', s', p1, p2, p3⟩)
      · exact hr.ok.apart i s b o1 g1 g2 h1 (by rw [← hmut]; exact g4) hx
      · have := hr.ok.one i i' s s' b g1 p2 g2 p3
        omega
    · cases g1
  · exact hb.elim (hr.ok.lt b) fun ⟨i, s, _, h1, h2⟩ => hr.ok.blk_lt h1 h2
  · unfold keepTo at hi
    split at hi
    · omega
    · exact absurd rfl hi
  · unfold keepTo; rw [if_pos (by omega)]; exact hs
  · unfold keepTo at hs
    split at hs
    · exact ⟨i, s, hs, hb⟩
    · cases hs

/-- A slice of none becomes an own one. -/
theorem leB_nil {L n : Nat} (t esz : Nat) {env : Env} {H : List AObj} (hL : L ≤ H.length) (h : lookD t env = .sc (.slice none 0 0)) : St.leB L n env H ((t, .own H.length 0 0 0) :: env) (H ++ [.vec true 0 esz []]) := fun J F a w hr => by
  have hfree : J H.length = none := by
    cases e : J H.length with
    | none => rfl
    | some s => have := hr.dom H.length (by rw [e]; simp); omega
  let J' : Inj := fun i => if i = H.length then some ⟨false, 0, none, esz, 0, 0⟩ else J i
  have hle : J.le J' := fun i s hs => ⟨s, by
    have : i ≠ H.length := fun e => by subst e; rw [hfree] at hs; cases hs
    simp [J', this, hs], Nat.le_refl _, fun _ => rfl⟩
  have hget : ∀ i, i ≠ H.length → (H ++ [AObj.vec true 0 esz []])[i]? = H[i]? := fun i hi => by
    rcases Nat.lt_or_ge i H.length with q | q
    · rw [List.getElem?_append_left q]
    · rw [List.getElem?_eq_none q, List.getElem?_eq_none (by simp; omega)]
  refine ⟨J', F, ⟨hr.defers, hr.size, fun u => ?_, ⟨fun i s hs => ?_, fun i i' s s' b g1 g2 g3 g4 => ?_, fun i s b o g1 g2 g3 g4 => ?_, hr.ok.lt⟩, fun i hi => ?_⟩, fun i s hi hs => ?_, fun b hb => hb, fun b ⟨i, s, hs, hb⟩ => ?_, fun b hb => .inl hb⟩
  · rw [lookD_cons]
    split
    · rename_i e; subst e
      have := hr.tmps u
      rw [h] at this
      simp only [rep] at this ⊢
      exact ⟨_, none, 0, 0, by simp [J']; rfl, this, Nat.le_refl _, fun _ => ⟨rfl, Nat.le_refl _, Nat.zero_le _, rfl, rfl, .inl rfl⟩⟩
    · exact rep_mono hle (fun _ h => h) (fun _ _ => rfl) _ _ (hr.tmps u)
  · simp only [J'] at hs
    split at hs
    · rename_i e; subst e
      cases hs
      exact ⟨.vec true 0 esz [], by simp, rfl, rfl, rfl, rfl, Nat.le_refl _, .inl rfl⟩
    · rename_i e
      obtain ⟨o, h1, h2⟩ := hr.ok.obj i s hs
      exact ⟨o, by rw [hget i e]; exact h1, ObjOK_mono hle (fun _ h => h) (fun _ _ => rfl) (fun _ _ => rfl) h2⟩
  · simp only [J'] at g1 g2
    split at g1
    · cases g1; simp [Site.blk] at g3
    · split at g2
      · cases g2; simp [Site.blk] at g4
      · exact hr.ok.one i i' s s' b g1 g2 g3 g4
  · simp only [J'] at g1
    split at g1
    · cases g1; simp [Site.blk] at g2
    · rename_i e
      exact hr.ok.apart i s b o g1 g2 (by rw [← hget i e]; exact g3) g4
  · simp only [J'] at hi
    rw [List.length_append, List.length_singleton]
    split at hi
    · omega
    · have := hr.dom i hi; omega
  · have : i ≠ H.length := by omega
    simp [J', this, hs]
  · simp only [J'] at hs
    split at hs
    · cases hs; simp [Site.blk] at hb
    · exact ⟨i, s, hs, hb⟩

section
variable {P : Program} {n : Nat}
/-- What a loop's round must hand on: it may forget what was made since the loop began. -/
def loopQB {ι : Type} (L n : Nat) (Q : Post) (E : ι → Env) (O : ι → List AObj) (G : ι → Prop) (m : ι → Nat) (k : Nat) : Post
  | .normal, env, H => ∃ j, G j ∧ m j < k ∧ St.leB L n env H (E j) (O j)
  | e, env, H => Q e env H

theorem ext_leB {L : Nat} {J J1 J2 : Inj} {F F1 F2 : Nat → Prop} {w w1 : World} (hd : ∀ id, J id ≠ none → id < L) (h : Ext J F w J1 F1 w1) (k1 : ∀ i s, i < L → J1 i = some s → J2 i = some s) (k2 : ∀ b, F1 b → F2 b) (k3 : ∀ b, Owns J2 b → Owns J1 b) (k4 : ∀ b, F2 b → F1 b ∨ Owns J1 b) : Ext J F w J2 F2 w1 :=
  ⟨h.os, h.tape, h.output, h.size, h.block, h.frozen, fun i s hs => by
    obtain ⟨s', g1, g2⟩ := h.le i s hs
    exact ⟨s', k1 i s' (hd i (by rw [hs]; simp)) g1, g2⟩, fun b hb => k2 b (h.grow b hb), fun b hb => h.ownsBack b (k3 b hb), fun b hb => by
    rcases k4 b hb with q | q
    · exact h.growBack b q
    · rcases h.ownsBack b q with q | q
      · exact .inr (.inl q)
      · exact .inr (.inr q)⟩

/-- A loop whose rounds may forget. -/
theorem pwp_loopB {p : PC} {Q : Post} {env : Env} {H : List AObj} {ι : Type} (E : ι → Env) (O : ι → List AObj) (G : ι → Prop) (m : ι → Nat) (i : ι) (h0 : G i) (h1 : St.leB H.length n env H (E i) (O i))
    (round : ∀ j, G j → PWp P n p (loopQB H.length n Q E O G m (m j)) (E j) (O j)) : PWp P n (.loop p) Q env H := pwp_mk fun c hc J F a w hr => by
  obtain ⟨c', rfl, hc'⟩ := comp_loop hc
  obtain ⟨J0, F0, k1, k2, k3, k4, k5⟩ := h1 J F a w hr
  have k6 : Ext J F w J0 F0 w := ext_leB hr.dom (Ext.refl J F w) k2 k3 k4 k5
  refine wp_loop_ghost (fun k a' w' => ∃ j J' F', G j ∧ m j = k ∧ StRep n J' F' (E j) (O j) a' w' ∧ Ext J F w J' F' w') (m i) ⟨i, J0, F0, h0, rfl, k1, k6⟩ fun k a1 w1 ⟨j, J1, F1, g1, g2, g3, g4⟩ => ?_
  refine wp_mono (pwp_out (round j g1) hc' g3) fun e a2 w2 ⟨env', H', J', F', q1, q2, q3⟩ => ?_
  cases e with
  | normal =>
    obtain ⟨j', r1, r2, r3⟩ := q1
    obtain ⟨J2, F2, t1, t2, t3, t4, t5⟩ := r3 J' F' a2 w2 q2
    exact ⟨m j', by omega, j', J2, F2, r1, rfl, t1, ext_leB hr.dom (g4.trans q3) t2 t3 t4 t5⟩
  | _ => exact ⟨env', H', J', F', q1, q2, g4.trans q3⟩

/-- Between two steps. -/
theorem pwp_ghostB {p : PC} {Q : Post} {env env' : Env} {H H' : List AObj} (h : St.leB H.length n env H env' H') (k : PWp P n p Q env' H') : PWp P n p Q env H :=
  pwp_mk fun c hc J F a w hr => by
    obtain ⟨J', F', h1, h2, h3, h4, h5⟩ := h J F a w hr
    exact wp_mono (pwp_out k hc h1) fun e a' w' q => conc_later (ext_leB hr.dom (Ext.refl J F w) h2 h3 h4 h5) q
end

section
variable {P : Program}
theorem deepL_none {F : Nat → Prop} {w : World} (hF : ∀ b, F b → b < w.heap.size) {args args' : List D} {vs : List Value} (h : DeepL [] args args') (k : repL noInj F w args vs) : repL noInj F w args' vs := by
  have := deepL_sound (G := fun _ => none) (stOK_none hF _) (H := []) (fun i o hi => by simp at hi) _ _ _ h k
  have e : (fun b => F b ∨ Owns noInj b) = F := funext fun b => propext ⟨fun h => h.elim id fun q => absurd q (noOwns b), .inl⟩
  rwa [e] at this
/-- A contract on lists serves for slices of none. -/
theorem pcall_deep {f : FuncId} {args args' : List D} {d : D} (hp : PureL args) (h : DeepL [] args args') (k : PCall P f args' d) : PCall P f args d :=
  ⟨k.1, fun J F w vs hF hargs => k.2 noInj F w vs hF (deepL_none hF h (pure_repL args vs hp hargs))⟩
end
end Go.Proofs.Ytkkfiadefekbbaa
