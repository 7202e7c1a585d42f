/-
  Contracts over few objects serve among many: objects under other numbers, objects that are forgotten. No statement is proved here.
-/
import Derived.Test.YtkkfiadefekbbaaDs6
namespace Go.Proofs.Ytkkfiadefekbbaa
open Go.RowKit
set_option linter.unusedSimpArgs false
set_option linter.unusedVariables false

mutual
/-- The same under other numbers. -/
def D.ren (ρ : Nat → Nat) : D → D
  | .junk => .junk
  | .sc v => .sc v
  | .loc id off => .loc (ρ id) off
  | .elt id ver i off => .elt (ρ id) ver i off
  | .ipt cs => .ipt (renL ρ cs)
  | .lst e xs => .lst e (renLL ρ xs)
  | .own id ver lo hi => .own (ρ id) ver lo hi
  | .fn f a b => .fn f (renL ρ a) (renL ρ b)
  | .ifc t d => .ifc t (D.ren ρ d)
  | .agg cs => .agg (renL ρ cs)
  | .tup cs => .tup (renL ρ cs)
def renL (ρ : Nat → Nat) : List D → List D
  | [] => []
  | d :: r => D.ren ρ d :: renL ρ r
def renLL (ρ : Nat → Nat) : List (List D) → List (List D)
  | [] => []
  | d :: r => renL ρ d :: renLL ρ r
end
def AObj.ren (ρ : Nat → Nat) : AObj → AObj
  | .row m cs => .row m (renL ρ cs)
  | .vec m ver esz xs => .vec m ver esz (renLL ρ xs)

theorem upTo_iff (x : Nat) : ∀ n, x ∈ upTo n ↔ x < n
  | 0 => by simp [upTo]
  | n + 1 => by simp only [upTo, List.mem_cons, upTo_iff x n]; omega
theorem underO_mem {m : Nat} : ∀ {l : List AObj}, UnderO m l → ∀ o ∈ l, o.under m
  | [], _, _, h => by cases h
  | x :: r, h, o, ho => by
    simp only [UnderO] at h
    rcases List.mem_cons.1 ho with rfl | ho
    · exact h.1
    · exact underO_mem h.2 o ho

mutual
theorem under_pure {m : Nat} : ∀ d : D, Pure d → Under m d
  | .junk, _ => by simp only [Under]
  | .sc _, _ => by simp only [Under]
  | .loc .., h => by simp only [Pure] at h
  | .elt .., h => by simp only [Pure] at h
  | .own .., h => by simp only [Pure] at h
  | .ipt cs, h => by simp only [Pure] at h; simp only [Under]; exact underL_pure cs h
  | .lst _ xs, h => by simp only [Pure] at h; simp only [Under]; exact underLL_pure xs h
  | .fn _ a b, h => by simp only [Pure] at h; simp only [Under]; exact ⟨underL_pure a h.1, underL_pure b h.2⟩
  | .ifc _ d, h => by simp only [Pure] at h; simp only [Under]; exact under_pure d h
  | .agg cs, h => by simp only [Pure] at h; simp only [Under]; exact underL_pure cs h
  | .tup cs, h => by simp only [Pure] at h; simp only [Under]; exact underL_pure cs h
theorem underL_pure {m : Nat} : ∀ d : List D, PureL d → UnderL m d
  | [], _ => by simp only [UnderL]
  | d :: r, h => by simp only [PureL] at h; simp only [UnderL]; exact ⟨under_pure d h.1, underL_pure r h.2⟩
theorem underLL_pure {m : Nat} : ∀ d : List (List D), PureLL d → UnderLL m d
  | [], _ => by simp only [UnderLL]
  | d :: r, h => by simp only [PureLL] at h; simp only [UnderLL]; exact ⟨underL_pure d h.1, underLL_pure r h.2⟩
end
mutual
theorem ren_pure {ρ : Nat → Nat} : ∀ d : D, Pure d → D.ren ρ d = d
  | .junk, _ => by simp only [D.ren]
  | .sc _, _ => by simp only [D.ren]
  | .loc .., h => by simp only [Pure] at h
  | .elt .., h => by simp only [Pure] at h
  | .own .., h => by simp only [Pure] at h
  | .ipt cs, h => by simp only [Pure] at h; simp only [D.ren, renL_pure cs h]
  | .lst _ xs, h => by simp only [Pure] at h; simp only [D.ren, renLL_pure xs h]
  | .fn _ a b, h => by simp only [Pure] at h; simp only [D.ren, renL_pure a h.1, renL_pure b h.2]
  | .ifc _ d, h => by simp only [Pure] at h; simp only [D.ren, ren_pure d h]
  | .agg cs, h => by simp only [Pure] at h; simp only [D.ren, renL_pure cs h]
  | .tup cs, h => by simp only [Pure] at h; simp only [D.ren, renL_pure cs h]
theorem renL_pure {ρ : Nat → Nat} : ∀ d : List D, PureL d → renL ρ d = d
  | [], _ => by simp only [renL]
  | d :: r, h => by simp only [PureL] at h; simp only [renL, ren_pure d h.1, renL_pure r h.2]
theorem renLL_pure {ρ : Nat → Nat} : ∀ d : List (List D), PureLL d → renLL ρ d = d
  | [], _ => by simp only [renLL]
  | d :: r, h => by simp only [PureLL] at h; simp only [renLL, renL_pure d h.1, renLL_pure r h.2]
end

theorem renL_len {ρ : Nat → Nat} : ∀ d : List D, (renL ρ d).length = d.length
  | [] => by simp only [renL]
  | d :: r => by simp only [renL, List.length_cons, renL_len r]
theorem renLL_len {ρ : Nat → Nat} : ∀ d : List (List D), (renLL ρ d).length = d.length
  | [] => by simp only [renLL]
  | d :: r => by simp only [renLL, List.length_cons, renLL_len r]

section
variable {J : Inj} {F : Nat → Prop} {w : World} {ρ : Nat → Nat}
mutual
theorem rep_ren : ∀ (d : D) (v : Value), rep (fun i => J (ρ i)) F w d v ↔ rep J F w (D.ren ρ d) v
  | .junk, v => by simp only [D.ren, rep]
  | .sc u, v => by simp only [D.ren, rep]
  | .loc .., v => by simp only [D.ren, rep]
  | .elt .., v => by simp only [D.ren, rep]
  | .own .., v => by simp only [D.ren, rep]
  | .ipt cs, v => by
    simp only [D.ren, rep]
    exact ⟨fun ⟨b, o, h1, h2, h3⟩ => ⟨b, o, h1, h2, (repCells_ren b cs o).1 h3⟩, fun ⟨b, o, h1, h2, h3⟩ => ⟨b, o, h1, h2, (repCells_ren b cs o).2 h3⟩⟩
  | .lst e xs, v => by
    simp only [D.ren, rep, renLL_len]
    exact ⟨fun ⟨A, n, c, h1, h2, h3, h4⟩ => ⟨A, n, c, h1, h2, h3, h4.imp_right fun ⟨b, o, k1, k2, k3⟩ => ⟨b, o, k1, k2, (repRows_ren b e xs o).1 k3⟩⟩,
      fun ⟨A, n, c, h1, h2, h3, h4⟩ => ⟨A, n, c, h1, h2, h3, h4.imp_right fun ⟨b, o, k1, k2, k3⟩ => ⟨b, o, k1, k2, (repRows_ren b e xs o).2 k3⟩⟩⟩
  | .fn f a b, v => by
    simp only [D.ren, rep]
    exact ⟨fun ⟨vs, us, h1, h2, h3⟩ => ⟨vs, us, h1, (repL_ren a vs).1 h2, (repL_ren b us).1 h3⟩, fun ⟨vs, us, h1, h2, h3⟩ => ⟨vs, us, h1, (repL_ren a vs).2 h2, (repL_ren b us).2 h3⟩⟩
  | .ifc t d, v => by
    simp only [D.ren, rep]
    exact ⟨fun ⟨u, h1, h2⟩ => ⟨u, h1, (rep_ren d u).1 h2⟩, fun ⟨u, h1, h2⟩ => ⟨u, h1, (rep_ren d u).2 h2⟩⟩
  | .agg cs, v => by
    simp only [D.ren, rep]
    exact ⟨fun ⟨vs, h1, h2⟩ => ⟨vs, h1, (repL_ren cs vs).1 h2⟩, fun ⟨vs, h1, h2⟩ => ⟨vs, h1, (repL_ren cs vs).2 h2⟩⟩
  | .tup cs, v => by
    simp only [D.ren, rep]
    exact ⟨fun ⟨vs, h1, h2⟩ => ⟨vs, h1, (repL_ren cs vs).1 h2⟩, fun ⟨vs, h1, h2⟩ => ⟨vs, h1, (repL_ren cs vs).2 h2⟩⟩
theorem repL_ren : ∀ (d : List D) (v : List Value), repL (fun i => J (ρ i)) F w d v ↔ repL J F w (renL ρ d) v
  | [], v => by simp only [renL, repL]
  | d :: r, v => by
    simp only [renL, repL]
    exact ⟨fun ⟨u, us, h1, h2, h3⟩ => ⟨u, us, h1, (rep_ren d u).1 h2, (repL_ren r us).1 h3⟩, fun ⟨u, us, h1, h2, h3⟩ => ⟨u, us, h1, (rep_ren d u).2 h2, (repL_ren r us).2 h3⟩⟩
theorem repCells_ren (b : Nat) : ∀ (d : List D) (o : Nat), repCells (fun i => J (ρ i)) F w b d o ↔ repCells J F w b (renL ρ d) o
  | [], o => by simp only [renL, repCells]
  | d :: r, o => by
    simp only [renL, repCells]
    exact ⟨fun ⟨⟨u, h1, h2, h3⟩, h4⟩ => ⟨⟨u, h1, h2, (rep_ren d u).1 h3⟩, (repCells_ren b r (o + 1)).1 h4⟩, fun ⟨⟨u, h1, h2, h3⟩, h4⟩ => ⟨⟨u, h1, h2, (rep_ren d u).2 h3⟩, (repCells_ren b r (o + 1)).2 h4⟩⟩
theorem repRows_ren (b esz : Nat) : ∀ (d : List (List D)) (o : Nat), repRows (fun i => J (ρ i)) F w b esz d o ↔ repRows J F w b esz (renLL ρ d) o
  | [], o => by simp only [renLL, repRows]
  | d :: r, o => by
    simp only [renLL, repRows, renL_len]
    exact ⟨fun ⟨h1, h2, h3⟩ => ⟨h1, (repCells_ren b d o).1 h2, (repRows_ren b esz r (o + esz)).1 h3⟩, fun ⟨h1, h2, h3⟩ => ⟨h1, (repCells_ren b d o).2 h2, (repRows_ren b esz r (o + esz)).2 h3⟩⟩
end
theorem objOK_ren {s : Site} {o : AObj} : ObjOK (fun i => J (ρ i)) F w s o ↔ ObjOK J F w s (o.ren ρ) := by
  cases o with
  | row m cs =>
    simp only [AObj.ren, ObjOK, renL_len]
    exact ⟨fun ⟨h1, h2, h3, h4, h5, b, vals, te, k1, k2, k3, k4, k5⟩ => ⟨h1, h2, h3, h4, h5, b, vals, te, k1, k2, k3, (repCells_ren b cs 0).1 k4, k5⟩, fun ⟨h1, h2, h3, h4, h5, b, vals, te, k1, k2, k3, k4, k5⟩ => ⟨h1, h2, h3, h4, h5, b, vals, te, k1, k2, k3, (repCells_ren b cs 0).2 k4, k5⟩⟩
  | vec m ver esz xs =>
    simp only [AObj.ren, ObjOK, renLL_len]
    exact ⟨fun ⟨h1, h2, h3, h4, h5, h6⟩ => ⟨h1, h2, h3, h4, h5, h6.imp_right fun ⟨b, o, vals, te, k1, k2, k3, k4, k5⟩ => ⟨b, o, vals, te, k1, k2, k3, (repRows_ren b esz xs o).1 k4, k5⟩⟩,
      fun ⟨h1, h2, h3, h4, h5, h6⟩ => ⟨h1, h2, h3, h4, h5, h6.imp_right fun ⟨b, o, vals, te, k1, k2, k3, k4, k5⟩ => ⟨b, o, vals, te, k1, k2, k3, (repRows_ren b esz xs o).2 k4, k5⟩⟩⟩
theorem mut_ren {o : AObj} : (o.ren ρ).mut = o.mut := by cases o <;> rfl
end

/-! ### Objects that are forgotten -/
def keepTo (m : Nat) (J : Inj) : Inj := fun i => if i < m then J i else none
section
variable {J : Inj} {F : Nat → Prop} {w : World} {m : Nat}
mutual
theorem rep_keep : ∀ (d : D) (v : Value), Under m d → rep J F w d v → rep (keepTo m J) F w d v
  | .junk, v, _, _ => by simp only [rep]
  | .sc u, v, _, h => by simpa only [rep] using h
  | .loc id off, v, hu, h => by
    simp only [Under] at hu
    simp only [rep, keepTo, if_pos hu] at h ⊢
    exact h
  | .elt id ver i off, v, hu, h => by
    simp only [Under] at hu
    simp only [rep, keepTo, if_pos hu] at h ⊢
    exact h
  | .own id ver lo hi, v, hu, h => by
    simp only [Under] at hu
    simp only [rep, keepTo, if_pos hu] at h ⊢
    exact h
  | .ipt cs, v, hu, h => by
    simp only [Under] at hu
    simp only [rep] at h ⊢
    obtain ⟨b, o, h1, h2, h3⟩ := h
    exact ⟨b, o, h1, h2, repCells_keep b cs o hu h3⟩
  | .lst e xs, v, hu, h => by
    simp only [Under] at hu
    simp only [rep] at h ⊢
    obtain ⟨A, n, c, h1, h2, h3, h4⟩ := h
    exact ⟨A, n, c, h1, h2, h3, h4.imp_right fun ⟨b, o, k1, k2, k3⟩ => ⟨b, o, k1, k2, repRows_keep b e xs o hu k3⟩⟩
  | .fn f a b, v, hu, h => by
    simp only [Under] at hu
    simp only [rep] at h ⊢
    obtain ⟨vs, us, h1, h2, h3⟩ := h
    exact ⟨vs, us, h1, repL_keep a vs hu.1 h2, repL_keep b us hu.2 h3⟩
  | .ifc t d, v, hu, h => by
    simp only [Under] at hu
    simp only [rep] at h ⊢
    obtain ⟨u, h1, h2⟩ := h
    exact ⟨u, h1, rep_keep d u hu h2⟩
  | .agg cs, v, hu, h => by
    simp only [Under] at hu
    simp only [rep] at h ⊢
    obtain ⟨vs, h1, h2⟩ := h
    exact ⟨vs, h1, repL_keep cs vs hu h2⟩
  | .tup cs, v, hu, h => by
    simp only [Under] at hu
    simp only [rep] at h ⊢
    obtain ⟨vs, h1, h2⟩ := h
    exact ⟨vs, h1, repL_keep cs vs hu h2⟩
theorem repL_keep : ∀ (d : List D) (v : List Value), UnderL m d → repL J F w d v → repL (keepTo m J) F w d v
  | [], v, _, h => by simpa only [repL] using h
  | d :: r, v, hu, h => by
    simp only [UnderL] at hu
    simp only [repL] at h ⊢
    obtain ⟨u, us, h1, h2, h3⟩ := h
    exact ⟨u, us, h1, rep_keep d u hu.1 h2, repL_keep r us hu.2 h3⟩
theorem repCells_keep (b : Nat) : ∀ (d : List D) (o : Nat), UnderL m d → repCells J F w b d o → repCells (keepTo m J) F w b d o
  | [], o, _, h => by simp only [repCells]
  | d :: r, o, hu, h => by
    simp only [UnderL] at hu
    simp only [repCells] at h ⊢
    obtain ⟨⟨u, h1, h2, h3⟩, h4⟩ := h
    exact ⟨⟨u, h1, h2, rep_keep d u hu.1 h3⟩, repCells_keep b r (o + 1) hu.2 h4⟩
theorem repRows_keep (b esz : Nat) : ∀ (d : List (List D)) (o : Nat), UnderLL m d → repRows J F w b esz d o → repRows (keepTo m J) F w b esz d o
  | [], o, _, h => by simp only [repRows]
  | d :: r, o, hu, h => by
    simp only [UnderLL] at hu
    simp only [repRows] at h ⊢
    exact ⟨h.1, repCells_keep b d o hu.1 h.2.1, repRows_keep b esz r (o + esz) hu.2 h.2.2⟩
end
theorem objOK_keep {s : Site} {o : AObj} (hu : o.under m) (h : ObjOK J F w s o) : ObjOK (keepTo m J) F w s o := by
  cases o with
  | row q cs =>
    obtain ⟨h1, h2, h3, h4, h5, b, vals, te, k1, k2, k3, k4, k5⟩ := h
    exact ⟨h1, h2, h3, h4, h5, b, vals, te, k1, k2, k3, repCells_keep b cs 0 hu k4, k5⟩
  | vec q ver esz xs =>
    obtain ⟨h1, h2, h3, h4, h5, h6⟩ := h
    exact ⟨h1, h2, h3, h4, h5, h6.imp_right fun ⟨b, o, vals, te, k1, k2, k3, k4, k5⟩ => ⟨b, o, vals, te, k1, k2, k3, repRows_keep b esz xs o hu k4, k5⟩⟩
end


mutual
theorem ren_id : ∀ d : D, D.ren (fun i => i) d = d
  | .junk | .sc _ | .loc .. | .elt .. | .own .. => by simp only [D.ren]
  | .ipt cs => by simp only [D.ren, renL_id cs]
  | .lst e xs => by simp only [D.ren, renLL_id xs]
  | .fn f a b => by simp only [D.ren, renL_id a, renL_id b]
  | .ifc t d => by simp only [D.ren, ren_id d]
  | .agg cs => by simp only [D.ren, renL_id cs]
  | .tup cs => by simp only [D.ren, renL_id cs]
theorem renL_id : ∀ d : List D, renL (fun i => i) d = d
  | [] => by simp only [renL]
  | d :: r => by simp only [renL, ren_id d, renL_id r]
theorem renLL_id : ∀ d : List (List D), renLL (fun i => i) d = d
  | [] => by simp only [renLL]
  | d :: r => by simp only [renLL, renL_id d, renLL_id r]
end
theorem oren_id (o : AObj) : o.ren (fun i => i) = o := by cases o <;> simp only [AObj.ren, renL_id, renLL_id]

open Classical in
/-- Which number was this before? -/
noncomputable def back (ρ : Nat → Nat) (n : Nat) (id : Nat) : Option Nat := if h : ∃ i, i < n ∧ ρ i = id then some (Classical.choose h) else none
theorem back_some {ρ : Nat → Nat} {n id i : Nat} (h : back ρ n id = some i) : i < n ∧ ρ i = id := by
  unfold back at h
  split at h
  · rename_i hh
    cases h
    exact Classical.choose_spec hh
  · cases h
theorem back_none {ρ : Nat → Nat} {n id : Nat} (h : back ρ n id = none) : ∀ i, i < n → ρ i ≠ id := by
  unfold back at h
  split at h
  · cases h
  · rename_i hh
    exact fun i hi e => hh ⟨i, hi, e⟩
theorem back_of {ρ : Nat → Nat} {n i : Nat} (inj : ∀ i j, i < n → j < n → ρ i = ρ j → i = j) (hi : i < n) : back ρ n (ρ i) = some i := by
  cases h : back ρ n (ρ i) with
  | none => exact absurd rfl (back_none h i hi)
  | some j =>
    obtain ⟨h1, h2⟩ := back_some h
    rw [inj j i h1 hi h2]

section
variable {P : Program} {f : FuncId}
theorem get_lt {α : Type} {l : List α} {i : Nat} {x : α} (h : l[i]? = some x) : i < l.length := by
  rcases Nat.lt_or_ge i l.length with q | q
  · exact q
  · rw [List.getElem?_eq_none q] at h; cases h

theorem acall_core {args : List D} {H0 H0' : List AObj} {d : D} (ρ : Nat → Nat) (hA : ACall P f args H0 d H0') (inj : ∀ i j, i < H0'.length → j < H0'.length → ρ i = ρ j → i = j) {J : Inj} {F : Nat → Prop} {w : World} {vs : List Value} {G G' : Nat → Option AObj} (hst : StOK J F w G)
    (hold : ∀ i o, H0[i]? = some o → G (ρ i) = some (o.ren ρ)) (hnew : ∀ i, H0.length ≤ i → i < H0'.length → J (ρ i) = none) (hrep : repL J F w (renL ρ args) vs)
    (h1 : ∀ i o, H0'[i]? = some o → G' (ρ i) = some (o.ren ρ)) (h2 : ∀ j, (∀ i, i < H0'.length → ρ i ≠ j) → G' j = G j)
    (hargs : UnderL H0.length args) (hobj : ∀ o ∈ H0, o.under H0.length) :
    Calls P f vs.toArray w fun e w' => ∃ v J' F', e = .returned v ∧ StOK J' F' w' G' ∧ (∀ id, J' id ≠ none → J id ≠ none ∨ ∃ i, i < H0'.length ∧ ρ i = id) ∧ rep J' F' w' (D.ren ρ d) v ∧ Ext J F w J' F' w' := by
  obtain ⟨hok, hl0, hrun⟩ := hA
  have h0get : ∀ i, i < H0.length → H0[i]? = some (H0[i]!) := fun i hi => by rw [List.getElem!_eq_getElem?_getD, List.getElem?_eq_getElem hi]; rfl
  have hst0 : StOK (keepTo H0.length fun i => J (ρ i)) F w (fun i => H0[i]?) := by
    refine ⟨fun i s hs => ?_, fun i i' s s' b g1 g2 g3 g4 => ?_, fun i s b o g1 g2 g3 g4 => ?_, hst.lt⟩
    · unfold keepTo at hs
      split at hs
      · rename_i hi
        have ho := h0get i hi
        refine ⟨_, ho, objOK_keep (hobj _ (List.mem_of_getElem? ho)) (objOK_ren.2 ?_)⟩
        obtain ⟨o', q1, q2⟩ := hst.obj (ρ i) s hs
        rw [hold i _ ho] at q1
        cases q1
        exact q2
      · cases hs
    · unfold keepTo at g1 g2
      split at g1 <;> split at g2
      · exact inj i i' (by omega) (by omega) (hst.one (ρ i) (ρ i') s s' b g1 g2 g3 g4)
      all_goals first | cases g1 | cases g2
    · unfold keepTo at g1
      split at g1
      · exact hst.apart (ρ i) s b (o.ren ρ) g1 g2 (hold i o g3) (by rw [mut_ren]; exact g4)
      · cases g1
  have hd0 : ∀ id, keepTo H0.length (fun i => J (ρ i)) id ≠ none → id < H0.length := fun id hid => by
    unfold keepTo at hid
    split at hid
    · assumption
    · exact absurd rfl hid
  have hr0 : repL (keepTo H0.length fun i => J (ρ i)) F w args vs := repL_keep _ _ hargs ((repL_ren args vs).2 hrep)
  have own0 : ∀ b, Owns (keepTo H0.length fun i => J (ρ i)) b → ∃ i s, i < H0.length ∧ J (ρ i) = some s ∧ s.blk = some b := fun b ⟨i, s, hs, hb⟩ => by
    unfold keepTo at hs
    split at hs
    · exact ⟨i, s, by assumption, hs, hb⟩
    · cases hs
  have main := hrun _ F w vs hst0 hd0 hr0
  refine Calls.mono main fun e w' ⟨v, J0', F', he, st', dom', rp', ex⟩ => ?_
  let J' : Inj := fun id => match back ρ H0'.length id with | some i => J0' i | none => J id
  have jat : ∀ i, i < H0'.length → J' (ρ i) = J0' i := fun i hi => by simp only [J', back_of inj hi]
  have jno : ∀ id, back ρ H0'.length id = none → J' id = J id := fun id h => by simp only [J', h]
  have hle : J.le J' := fun id s hs => by
    cases e : back ρ H0'.length id with
    | none => exact ⟨s, by rw [jno id e]; exact hs, Nat.le_refl _, fun _ => rfl⟩
    | some i =>
      obtain ⟨k1, rfl⟩ := back_some e
      have hi : i < H0.length := by
        rcases Nat.lt_or_ge i H0.length with q | q
        · exact q
        · rw [hnew i q k1] at hs; cases hs
      obtain ⟨s', g1, g2⟩ := ex.le i s (by simp only [keepTo, if_pos hi]; exact hs)
      exact ⟨s', by rw [jat i k1]; exact g1, g2⟩
  have hleρ : J0'.le (fun i => J' (ρ i)) := fun i s hs => ⟨s, by
    dsimp only
    rw [jat i (dom' i (by rw [hs]; simp))]; exact hs, Nat.le_refl _, fun _ => rfl⟩
  have nown : ∀ id s b, back ρ H0'.length id = none → J id = some s → s.blk = some b → ¬ Owns (keepTo H0.length fun i => J (ρ i)) b := fun id s b hb hs hblk ho => by
    obtain ⟨i, s', k1, k2, k3⟩ := own0 b ho
    exact back_none hb i (by omega) (hst.one (ρ i) id s' s b k2 hs k3 hblk)
  refine ⟨v, J', F', he, ⟨fun id s hs => ?_, fun id id' s s' b g1 g2 g3 g4 => ?_, fun id s b o g1 g2 g3 g4 => ?_, st'.lt⟩, fun id hid => ?_, (rep_ren d v).1 (rep_mono hleρ (fun _ h => h) (fun _ _ => rfl) _ _ rp'), ?_⟩
  · cases e : back ρ H0'.length id with
    | some i =>
      obtain ⟨k1, rfl⟩ := back_some e
      rw [jat i k1] at hs
      obtain ⟨o, q1, q2⟩ := st'.obj i s hs
      exact ⟨o.ren ρ, h1 i o q1, objOK_ren.1 (ObjOK_mono hleρ (fun _ h => h) (fun _ _ => rfl) (fun _ _ => rfl) q2)⟩
    | none =>
      rw [jno id e] at hs
      obtain ⟨o, q1, q2⟩ := hst.obj id s hs
      refine ⟨o, ?_, ObjOK_mono hle ex.grow ex.frozen (fun b hb => ex.block b (hst.blk_lt hs hb) (nown id s b e hs hb)) q2⟩
      rw [h2 id fun i hi => back_none e i hi]
      exact q1
  · cases e : back ρ H0'.length id with
    | some i =>
      obtain ⟨k1, rfl⟩ := back_some e
      rw [jat i k1] at g1
      cases e' : back ρ H0'.length id' with
      | some i' =>
        obtain ⟨k1', rfl⟩ := back_some e'
        rw [jat i' k1'] at g2
        rw [st'.one i i' s s' b g1 g2 g3 g4]
      | none =>
        rw [jno id' e'] at g2
        rcases ex.ownsBack b ⟨i, s, g1, g3⟩ with q | q
        · exact absurd q (nown id' s' b e' g2 g4)
        · have := hst.blk_lt g2 g4; omega
    | none =>
      rw [jno id e] at g1
      cases e' : back ρ H0'.length id' with
      | some i' =>
        obtain ⟨k1', rfl⟩ := back_some e'
        rw [jat i' k1'] at g2
        rcases ex.ownsBack b ⟨i', s', g2, g4⟩ with q | q
        · exact absurd q (nown id s b e g1 g3)
        · have := hst.blk_lt g1 g3; omega
      | none =>
        rw [jno id' e'] at g2
        exact hst.one id id' s s' b g1 g2 g3 g4
  · have g3' : G' id = some o := g3
    cases e : back ρ H0'.length id with
    | some i =>
      obtain ⟨k1, rfl⟩ := back_some e
      rw [jat i k1] at g1
      obtain ⟨o0, q1, _⟩ := st'.obj i s g1
      rw [h1 i o0 q1] at g3'
      cases g3'
      exact st'.apart i s b o0 g1 g2 q1 (by rw [mut_ren] at g4; exact g4)
    | none =>
      rw [jno id e] at g1
      rw [h2 id fun i hi => back_none e i hi] at g3'
      intro hx
      rcases ex.growBack b hx with q | q | q
      · exact hst.apart id s b o g1 g2 g3' g4 q
      · exact nown id s b e g1 g2 q
      · have := hst.blk_lt g1 g2; omega
  · cases e : back ρ H0'.length id with
    | some i =>
      obtain ⟨k1, rfl⟩ := back_some e
      exact .inr ⟨i, k1, rfl⟩
    | none =>
      rw [jno id e] at hid
      exact .inl hid
  · refine ⟨ex.os, ex.tape, ex.output, ex.size, fun b hb hn => ex.block b hb fun ho => ?_, ex.frozen, hle, ex.grow, fun b ⟨id, s, hs, hb⟩ => ?_, fun b hb => ?_⟩
    · obtain ⟨i, s, _, k2, k3⟩ := own0 b ho
      exact hn ⟨ρ i, s, k2, k3⟩
    · cases e : back ρ H0'.length id with
      | some i =>
        obtain ⟨k1, rfl⟩ := back_some e
        rw [jat i k1] at hs
        refine (ex.ownsBack b ⟨i, s, hs, hb⟩).imp_left fun q => ?_
        obtain ⟨k, s', _, k2, k3⟩ := own0 b q
        exact ⟨ρ k, s', k2, k3⟩
      | none =>
        rw [jno id e] at hs
        exact .inl ⟨id, s, hs, hb⟩
    · rcases ex.growBack b hb with q | q | q
      · exact .inl q
      · obtain ⟨k, s', _, k2, k3⟩ := own0 b q
        exact .inr (.inl ⟨ρ k, s', k2, k3⟩)
      · exact .inr (.inr q)

end
end Go.Proofs.Ytkkfiadefekbbaa
