/-
  Slices of own slices: a list of lists that the call builds. No statement is proved here.
-/
import Derived.Test.YtgkodbnomgabdaaDoorFn
namespace Go.Proofs.YtgkodbnomgabdaaDoor
open Go.RowKit
set_option linter.unusedSimpArgs false
set_option linter.unusedVariables false

section
variable {α : Type}
/-- The outer slice's cells: each an own slice; the inner ones lie from object b on. -/
def ogRows (b : Nat) (L : List (List α)) : List (List D) := (List.range L.length).map fun j => [.own (j + b) (L.getD j []).length 0 (L.getD j []).length]
/-- The inner slices. -/
def ogObjs (esz : Nat) (c : α → List D) (L : List (List α)) : List AObj := L.map fun l => .vec true l.length esz (l.map c)
@[simp] theorem ogRows_len (b : Nat) (L : List (List α)) : (ogRows b L).length = L.length := by simp [ogRows]
@[simp] theorem ogObjs_len (esz : Nat) (c : α → List D) (L : List (List α)) : (ogObjs esz c L).length = L.length := by simp [ogObjs]
theorem ogRows_at {b : Nat} {L : List (List α)} {z i : Nat} (hz : z = i) (h : i < L.length) : (ogRows b L)[z]? = some [.own (i + b) (L.getD i []).length 0 (L.getD i []).length] := by
  subst hz
  simp [ogRows, List.getElem?_map, List.getElem?_range h]
theorem getD_at {L : List (List α)} {i : Nat} (h : i < L.length) : L[i]? = some (L.getD i []) := by
  rw [List.getD_eq_getElem?_getD, List.getElem?_eq_getElem h]; rfl
theorem ogObjs_at {esz : Nat} {c : α → List D} {L : List (List α)} {i : Nat} (h : i < L.length) : (ogObjs esz c L)[i]? = some (.vec true (L.getD i []).length esz ((L.getD i []).map c)) := by
  unfold ogObjs
  rw [List.getElem?_map, getD_at h]
  rfl
theorem og_get {esz : Nat} {c : α → List D} {L : List (List α)} {i : Nat} {K : AObj → Prop} (h : i < L.length) (k : K (.vec true (L.getD i []).length esz ((L.getD i []).map c))) : hgetK (ogObjs esz c L) i K := (hgetK_iff _ _ _).2 ⟨_, ogObjs_at h, k⟩
theorem ogObjs_set {esz : Nat} {c : α → List D} {L : List (List α)} {i : Nat} (l : List α) : (ogObjs esz c L).set i (.vec true l.length esz (l.map c)) = ogObjs esz c (L.set i l) := by
  unfold ogObjs
  rw [List.map_set]
theorem og_put {esz : Nat} {c : α → List D} {L : List (List α)} {i : Nat} {o : AObj} {K : List AObj → Prop} (l : List α) (h : i < L.length) (ho : o = .vec true l.length esz (l.map c)) (k : K (ogObjs esz c (L.set i l))) : hputK (ogObjs esz c L) i o K := by
  subst ho
  exact (hputK_iff _ _ _ _).2 ⟨by simpa using h, by rw [ogObjs_set]; exact k⟩
theorem ogD_set {L : List (List α)} {i j : Nat} {l : List α} (h : i < L.length) : (L.set i l).getD j [] = if j = i then l else L.getD j [] := by
  rw [List.getD_eq_getElem?_getD, List.getElem?_set]
  by_cases e : i = j
  · subst e; simp [h]
  · rw [if_neg e, if_neg (fun q => e q.symm), List.getD_eq_getElem?_getD]
theorem ogRows_set {b : Nat} {L : List (List α)} {z i : Nat} (hz : z = i) (h : i < L.length) (l : List α) {k : Nat} (hk : k = l.length) : (ogRows b L).set z [.own (i + b) k 0 k] = ogRows b (L.set i l) := by
  subst hz hk
  apply List.ext_getElem?
  intro j
  by_cases hj : j < L.length
  · rw [ogRows_at rfl (by simpa using hj), ogD_set h, List.getElem?_set]
    by_cases e : z = j
    · subst e; simp [h]
    · rw [if_neg e, ogRows_at rfl hj, if_neg (fun q => e q.symm)]
  · rw [List.getElem?_eq_none (by simp; omega), List.getElem?_eq_none (by simp; omega)]
@[simp] theorem underLL_ogRows {m b : Nat} {L : List (List α)} (h : b + L.length ≤ m) : UnderLL m (ogRows b L) := by
  unfold ogRows
  rw [underLL_map]
  intro j hj
  have := List.mem_range.1 hj
  simp only [UnderL, Under, and_true]
  omega
theorem under_ogObjs {esz m : Nat} {c : α → List D} {L : List (List α)} (hc : ∀ a, UnderL m (c a)) : ∀ o ∈ ogObjs esz c L, o.under m := by
  intro o ho
  unfold ogObjs at ho
  obtain ⟨l, _, rfl⟩ := List.mem_map.1 ho
  simp only [AObj.under, underLL_map]
  exact fun a _ => hc a
/-- The inner slices, read to the bottom. -/
theorem deep_ogRows {H : List AObj} {b esz : Nat} {c : α → List D} {L : List (List α)} (hH : ∀ i, i < L.length → H[i + b]? = some (.vec true (L.getD i []).length esz ((L.getD i []).map c))) :
    DeepLL H (ogRows b L) (L.map fun l => [.lst esz (l.map c)]) := by
  have e : (L.map fun l => [D.lst esz (l.map c)]) = (List.range L.length).map fun j => [D.lst esz ((L.getD j []).map c)] := by
    apply List.ext_getElem?
    intro j
    by_cases hj : j < L.length
    · rw [List.getElem?_map, getD_at hj, List.getElem?_map, List.getElem?_range hj]; rfl
    · rw [List.getElem?_eq_none (by simp; omega), List.getElem?_eq_none (by simp; omega)]
  rw [e]
  unfold ogRows
  have : ∀ l : List Nat, (∀ j ∈ l, j < L.length) → DeepLL H (l.map fun j => [D.own (j + b) (L.getD j []).length 0 (L.getD j []).length]) (l.map fun j => [D.lst esz ((L.getD j []).map c)]) := by
    intro l
    induction l with
    | nil => intro _; exact .nil
    | cons j r ih =>
      intro hl
      refine .cons _ _ _ _ (.cons _ _ _ _ (.own _ _ _ _ _ _ _ _ (hH j (hl j (by simp))) ?_) .nil) (ih fun k hk => hl k (by simp [hk]))
      rw [drop_take_all (by simp)]
      exact deepLL_refl _
  exact this _ fun j hj => List.mem_range.1 hj
theorem deepM_ogRows {S : Nat → Bool} {H : List AObj} {b esz : Nat} {c : α → List D} {L : List (List α)} (hS : ∀ i, i < L.length → S (i + b) = true) (hH : ∀ i, i < L.length → H[i + b]? = some (.vec true (L.getD i []).length esz ((L.getD i []).map c))) :
    DeepMLL S H (ogRows b L) (L.map fun l => [.lst esz (l.map c)]) := by
  have e : (L.map fun l => [D.lst esz (l.map c)]) = (List.range L.length).map fun j => [D.lst esz ((L.getD j []).map c)] := by
    apply List.ext_getElem?
    intro j
    by_cases hj : j < L.length
    · rw [List.getElem?_map, getD_at hj, List.getElem?_map, List.getElem?_range hj]; rfl
    · rw [List.getElem?_eq_none (by simp; omega), List.getElem?_eq_none (by simp; omega)]
  rw [e]
  unfold ogRows
  have : ∀ l : List Nat, (∀ j ∈ l, j < L.length) → DeepMLL S H (l.map fun j => [D.own (j + b) (L.getD j []).length 0 (L.getD j []).length]) (l.map fun j => [D.lst esz ((L.getD j []).map c)]) := by
    intro l
    induction l with
    | nil => intro _; exact .refl _
    | cons j r ih =>
      intro hl
      refine .cons _ _ _ _ (.cons _ _ _ _ (.own _ _ _ _ _ _ _ _ (hS j (hl j (by simp))) (hH j (hl j (by simp))) ?_) (.refl _)) (ih fun k hk => hl k (by simp [hk]))
      rw [drop_take_all (by simp)]
      exact .refl _
  exact this _ fun j hj => List.mem_range.1 hj
end
/-- Slices of none in an own slice's cells become own ones. -/
theorem leB_nils {L n : Nat} (id esz k ver : Nat) {env : Env} {H : List AObj} (hL : L ≤ H.length) (hid : H[id]? = some (.vec true ver 1 (List.replicate k [.sc (.slice none 0 0)]))) :
    St.leB L n env H env (H.set id (.vec true ver 1 ((List.range k).map fun j => [.own (j + H.length) 0 0 0])) ++ List.replicate k (.vec true 0 esz [])) := fun J F a w hr => by
  have hidl := get_lt hid
  have hfree : ∀ i, H.length ≤ i → J i = none := fun i hi => by
    cases e : J i with
    | none => rfl
    | some s => have := hr.dom i (by rw [e]; simp); omega
  let J' : Inj := fun i => if H.length ≤ i ∧ i < H.length + k then some ⟨false, 0, none, esz, 0, 0⟩ else J i
  have hle : J.le J' := fun i s hs => ⟨s, by
    have : ¬ (H.length ≤ i ∧ i < H.length + k) := fun e => by rw [hfree i e.1] at hs; cases hs
    simp only [J']; rw [if_neg this]; exact hs, Nat.le_refl _, fun _ => rfl⟩
  have hlen : (H.set id (.vec true ver 1 ((List.range k).map fun j => [D.own (j + H.length) 0 0 0]))).length = H.length := List.length_set
  have hget : ∀ i, ¬ (H.length ≤ i ∧ i < H.length + k) → i ≠ id → (H.set id (.vec true ver 1 ((List.range k).map fun j => [D.own (j + H.length) 0 0 0])) ++ List.replicate k (AObj.vec true 0 esz []))[i]? = H[i]? := fun i hi hne => by
    rcases Nat.lt_or_ge i H.length with q | q
    · rw [List.getElem?_append_left (by rw [hlen]; exact q), List.getElem?_set_ne (fun e => hne e.symm)]
    · rw [List.getElem?_eq_none q, List.getElem?_eq_none (by rw [List.length_append, hlen, List.length_replicate]; omega)]
  have hnew : ∀ i, H.length ≤ i ∧ i < H.length + k → (H.set id (.vec true ver 1 ((List.range k).map fun j => [D.own (j + H.length) 0 0 0])) ++ List.replicate k (AObj.vec true 0 esz []))[i]? = some (.vec true 0 esz []) := fun i hi => by
    rw [List.getElem?_append_right (by rw [hlen]; omega), hlen, List.getElem?_replicate, if_pos (by omega)]
  have hgid : (H.set id (.vec true ver 1 ((List.range k).map fun j => [D.own (j + H.length) 0 0 0])) ++ List.replicate k (AObj.vec true 0 esz []))[id]? = some (.vec true ver 1 ((List.range k).map fun j => [D.own (j + H.length) 0 0 0])) := by
    rw [List.getElem?_append_left (by rw [hlen]; exact hidl), List.getElem?_set_self hidl]
  refine ⟨J', F, ⟨hr.defers, hr.size, fun u => rep_mono hle (fun _ h => h) (fun _ _ => rfl) _ _ (hr.tmps u), ⟨fun i s hs => ?_, fun i i' s s' b g1 g2 g3 g4 => ?_, fun i s b o g1 g2 g3 g4 => ?_, hr.ok.lt⟩, fun i hi => ?_⟩, fun i s hi hs => ?_, fun b hb => hb, fun b ⟨i, s, hs, hb⟩ => ?_, fun b hb => .inl hb⟩
  · simp only [J'] at hs
    split at hs
    · rename_i e
      cases hs
      exact ⟨_, hnew i e, rfl, rfl, rfl, rfl, Nat.le_refl _, .inl rfl⟩
    · rename_i e
      obtain ⟨o, h1, h2⟩ := hr.ok.obj i s hs
      by_cases e2 : i = id
      · subst e2
        have h1' : H[i]? = some o := h1
        rw [hid] at h1'
        cases h1'
        obtain ⟨k1, k2, k3, k4, k5, k6⟩ := h2
        refine ⟨_, hgid, k1, k2, k3, by rw [k4]; simp, k5, ?_⟩
        rcases k6 with k6 | ⟨b, o, vals, te, t1, t2, t3, t4, t5⟩
        · exact .inl k6
        · refine .inr ⟨b, o, vals, te, t1, t2, t3, repRows_mk _ _ fun j x hj => ?_, fun q => by cases q⟩
          have hjk : j < k := by
            rcases Nat.lt_or_ge j k with q | q
            · exact q
            · rw [List.getElem?_eq_none (by simpa using q)] at hj; cases hj
          rw [List.getElem?_map, List.getElem?_range hjk] at hj
          simp only [Option.map_some, Option.some.injEq] at hj
          subst hj
          obtain ⟨r1, r2⟩ := repRows_get _ _ j [.sc (.slice none 0 0)] (by rw [List.getElem?_replicate, if_pos hjk]) t4
          refine ⟨rfl, repCells_mk _ _ fun q c hq => ?_⟩
          cases q with
          | zero =>
            simp at hq; subst hq
            obtain ⟨u, p1, p2, p3⟩ := repCells_get _ _ 0 (.sc (.slice none 0 0)) rfl r2
            simp only [rep] at p3
            refine ⟨u, p1, p2, ?_⟩
            simp only [rep]
            refine ⟨⟨false, 0, none, esz, 0, 0⟩, none, 0, 0, ?_, p3, Nat.le_refl _, fun _ => ⟨rfl, Nat.le_refl _, Nat.zero_le _, rfl, rfl, .inl rfl⟩⟩
            simp only [J']
            rw [if_pos (by omega)]
          | succ q => simp at hq
      · exact ⟨o, by rw [hget i e e2]; exact h1, ObjOK_mono hle (fun _ h => h) (fun _ _ => rfl) (fun _ _ => rfl) h2⟩
  · simp only [J'] at g1 g2
    split at g1
    · cases g1; simp [Site.blk] at g3
    · split at g2
      · cases g2; simp [Site.blk] at g4
      · exact hr.ok.one i i' s s' b g1 g2 g3 g4
  · simp only [J'] at g1
    split at g1
    · cases g1; simp [Site.blk] at g2
    · rename_i e
      by_cases e2 : i = id
      · subst e2
        exact hr.ok.apart i s b _ g1 g2 hid rfl
      · exact hr.ok.apart i s b o g1 g2 (by rw [← hget i e e2]; exact g3) g4
  · simp only [J'] at hi
    rw [List.length_append, hlen, List.length_replicate]
    split at hi
    · omega
    · have := hr.dom i hi; omega
  · have : ¬ (H.length ≤ i ∧ i < H.length + k) := by omega
    simp only [J']; rw [if_neg this]; exact hs
  · simp only [J'] at hs
    split at hs
    · cases hs; simp [Site.blk] at hb
    · exact ⟨i, s, hs, hb⟩
/-- The same, as a list of empty lists. -/
theorem ogRows_nils {α : Type} (b k : Nat) : ((List.range k).map fun j => [D.own (j + b) 0 0 0]) = ogRows b (List.replicate k ([] : List α)) := by
  unfold ogRows
  rw [List.length_replicate]
  refine List.map_congr_left fun j hj => ?_
  have := List.mem_range.1 hj
  rw [List.getD_eq_getElem?_getD, List.getElem?_replicate, if_pos this]
  rfl
theorem ogObjs_nils {α : Type} (esz k : Nat) (c : α → List D) : List.replicate k (AObj.vec true 0 esz []) = ogObjs esz c (List.replicate k []) := by
  unfold ogObjs
  rw [List.map_replicate]
  rfl
/-- Objects that go on as they are. -/
theorem closeH_same {m : Nat} {G : List AObj} : ∀ (l t : List AObj), (∀ o ∈ l, o.under m) → closeH m G (l ++ t) l
  | [], t, _ => by cases t <;> exact trivial
  | o :: r, t, h => by
    refine ⟨?_, closeH_same r t fun o ho => h o (by simp [ho])⟩
    have := h o (by simp)
    cases o with
    | row q cs => exact ⟨rfl, .refl _, this⟩
    | vec q v e xs => exact ⟨rfl, rfl, rfl, .refl _, this⟩
    | mapo q I => exact ⟨rfl, rfl⟩
theorem closeH_nil {m : Nat} {G : List AObj} : ∀ l : List AObj, closeH m G l []
  | [] => trivial
  | _ :: _ => trivial
/-- A loop whose heap is told whole. -/
structure ForH (P : Program) (n : Nat) (p : PC) (Q : Post) (env : Env) (H : List AObj) {ι : Type} (upd : ι → Env) (O : ι → List AObj) (G : ι → Prop) (m : ι → Nat) (i : ι) (e : Env) : Prop where
  good : G i
  start : sameE env (upd i)
  heap : H = O i
  round : ∀ j, G j → appK (upd j) e fun E => PWp P n p (loopQB H.length n Q (fun j => upd j ++ e) O G m (m j)) E (O j)
theorem pwp_forH {P : Program} {n : Nat} {p : PC} {Q : Post} {env : Env} {H : List AObj} {ι : Type} (kept : List Nat) (upd : ι → Env) (O : ι → List AObj) (G : ι → Prop) (m : ι → Nat) (i : ι)
    (h : keepK env kept fun e => ForH P n p Q env H upd O G m i e) : PWp P n (.loop p) Q env H := by
  rw [keepK_eq] at h
  refine pwp_loopB (fun j => upd j ++ kept.map fun t => (t, lookD t env)) O G m i h.good (leB_envH (sameE_app _ _ h.start (sameE_kept _)) h.heap) fun j hj => ?_
  have := h.round j hj
  rwa [appK_eq] at this
theorem og_app {α : Type} {esz : Nat} {c : α → List D} {l : List α} {x : α} : AObj.vec true (l.length + 1) esz (List.drop 0 (List.take l.length (l.map c)) ++ List.drop 0 (List.take 1 [c x])) = AObj.vec true (l ++ [x]).length esz ((l ++ [x]).map c) := by
  rw [drop_take_all (by simp), List.length_append, List.length_singleton, List.map_append]
  rfl
def okK (b : Bool) (K K2 : Prop) : Prop := match b with
  | true => K
  | false => K2
theorem memb_cons (x y : Nat) (r : List Nat) : memb x (y :: r) = (decide (x = y) || memb x r) := by
  have e : Nat.beq x y = decide (x = y) := by
    rw [Bool.eq_iff_iff, decide_eq_true_eq]
    exact ⟨Nat.eq_of_beq_eq_true, fun h => h ▸ Nat.beq_refl x⟩
  simp only [memb, e]
  cases decide (x = y) <;> rfl
theorem memb_nil (x : Nat) : memb x [] = false := rfl
theorem meets_cons (x : Nat) (r l : List Nat) : meets (x :: r) l = (memb x l || meets r l) := by
  simp only [meets]
  cases memb x l <;> rfl
theorem meets_nil (l : List Nat) : meets [] l = false := rfl
theorem matchB (b c : Bool) : (match b with | true => c | false => false) = (b && c) := by cases b <;> rfl
theorem mem_ok {b : Bool} {K K2 : Prop} (h : b = true) (k : K) : okK b K K2 := by subst h; exact k
section
variable {α : Type} {esz : Nat} {c : α → List D} {L : List (List α)} {T : List AObj} {K : AObj → Prop} {K' : List AObj → Prop}
theorem og_getT {i : Nat} (h : i < L.length) (k : K (.vec true (L.getD i []).length esz ((L.getD i []).map c))) : hgetK (ogObjs esz c L ++ T) i K := by
  rw [hgetK_iff]
  exact ⟨_, by rw [List.getElem?_append_left (by simpa using h)]; exact ogObjs_at h, k⟩
theorem og_getE (j : Nat) {i : Nat} (hi : i = L.length + j) (k : hgetK T j K) : hgetK (ogObjs esz c L ++ T) i K := by
  subst hi
  rw [hgetK_iff] at k ⊢
  obtain ⟨o, h1, h2⟩ := k
  exact ⟨o, by rw [List.getElem?_append_right (by simp), ogObjs_len, Nat.add_sub_cancel_left]; exact h1, h2⟩
theorem og_putT {i : Nat} {o : AObj} (l : List α) (h : i < L.length) (ho : o = .vec true l.length esz (l.map c)) (k : K' (ogObjs esz c (L.set i l) ++ T)) : hputK (ogObjs esz c L ++ T) i o K' := by
  subst ho
  rw [hputK_iff]
  exact ⟨by simp; omega, by rw [List.set_append_left _ _ (by simpa using h), ogObjs_set]; exact k⟩
theorem og_putE (j : Nat) {i : Nat} {o : AObj} (hi : i = L.length + j) (k : hputK T j o fun T' => K' (ogObjs esz c L ++ T')) : hputK (ogObjs esz c L ++ T) i o K' := by
  subst hi
  rw [hputK_iff] at k ⊢
  exact ⟨by rw [List.length_append, ogObjs_len]; omega, by
    rw [List.set_append_right _ _ (by simp), ogObjs_len, Nat.add_sub_cancel_left]; exact k.2⟩
theorem og_push {o : AObj} {K : List AObj → Nat → Prop} (k : K (ogObjs esz c L ++ [o]) L.length) : hpushK (ogObjs esz c L) o K := by
  rw [hpushK_iff, ogObjs_len]
  exact k
theorem og_pushT {o : AObj} {K : List AObj → Nat → Prop} (k : K (ogObjs esz c L ++ (T ++ [o])) (L.length + T.length)) : hpushK (ogObjs esz c L ++ T) o K := by
  rw [hpushK_iff, List.length_append, ogObjs_len, List.append_assoc]
  exact k
theorem closeH_og {m : Nat} {G : List AObj} (hc : ∀ a, UnderL m (c a)) : closeH m G (ogObjs esz c L ++ T) (ogObjs esz c L) := closeH_same _ _ (under_ogObjs hc)
end
def ncell (n : Int) : List D := [.sc (.int .i64 n)]
@[simp] theorem under_ncell {m : Nat} (n : Int) : UnderL m (ncell n) := by simp [ncell, UnderL, Under]
theorem pure_gridV (L : List (List Int)) : PureLL (L.map fun l => [dints l]) := pureLL_map _ (fun l => by simp [PureL, pure_dints]) L
end Go.Proofs.YtgkodbnomgabdaaDoor
