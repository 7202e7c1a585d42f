/-
  Regions that draw their order, over deep values: whatever order is drawn. No statement is proved here.
-/
import Derived.Test.YtkkfiadefekbbaaDsr
namespace Go.Proofs.Ytkkfiadefekbbaa
open Go.RowKit
set_option linter.unusedSimpArgs false
set_option linter.unusedVariables false

/-- All that is known of a region in the text's order. -/
structure Plan (P : Program) (n : Nat) (ops : Array Oper) (env : Env) (H : List AObj) (rs : List Rec) : Prop where
  at_ : ∀ k o, ops.toList[k]? = some o → ∃ r, rs[k]? = some r ∧ RecOK P n ops o (envT ops.toList rs env k) (heapT rs H k) r
  len : rs.length = ops.size
  reg : regOK ops (masksOf [] ops.toList) [] ops.toList = true
  mem : ∀ i j, i < j → j < ops.size → clash ((recAt rs i).rd, (recAt rs i).wr) ((recAt rs j).rd, (recAt rs j).wr) = true → Bef ops i j

section
variable {P : Program} {n : Nat} {ops : Array Oper} {env : Env} {H : List AObj} {rs : List Rec}

/-- Where the run of a region stands. -/
structure Inv (P : Program) (n : Nat) (ops : Array Oper) (env : Env) (H : List AObj) (rs : List Rec) (J0 : Inj) (F0 : Nat → Prop) (w0 : World) (S : Nat → Bool) (J : Inj) (F : Nat → Prop) (a : Act) (w : World) : Prop where
  closed : Closed ops S
  defers : a.defers = []
  size : a.tmps.size = n
  tmps : ∀ t, rep J F w (Et ops.toList rs env S ops.size t) (a.tmps.getD t undef)
  ok : StOK J F w (Gt rs H S ops.size)
  ext : Ext J0 F0 w0 J F w
  dom : ∀ id, J id ≠ none → id < H.length ∨ ∃ i, i < ops.size ∧ S i = true ∧ id ∈ (recAt rs i).wr

/-- Two operations of which neither waits for the other touch nothing of each other's. -/
theorem Plan.before (hp : Plan P n ops env H rs) {S : Nat → Bool} (hC : Closed ops S) {j : Nat} {o : Oper} (ho : ops[j]? = some o) (hj : S j = false) (hr : ∀ a ∈ afterL o, S a = true) {i : Nat} (hi : i < ops.size) (hne : i ≠ j) (hcmp : Bef ops i j ∨ Bef ops j i) : S i = upto j i := by
  have hio : ops[i]? = some ops[i] := Array.getElem?_eq_getElem hi
  rcases hcmp with h | h
  · obtain ⟨q1, q2⟩ := bef_spec hp.reg j o ho i h
    rw [q2 S hC hr]
    simp [upto, q1]
  · obtain ⟨q1, q2⟩ := bef_spec hp.reg i _ hio j h
    have : S i = false := by
      cases e : S i with
      | false => rfl
      | true =>
        have := q2 S hC (hC i _ hio e)
        rw [hj] at this; cases this
    rw [this]
    simp [upto]; omega

theorem Plan.cmp (hp : Plan P n ops env H rs) {i j : Nat} {x y : Oper} (hi : ops[i]? = some x) (hj : ops[j]? = some y) (hne : i ≠ j) : (Bef ops i j ∨ Bef ops j i) ∨ (x.apart ops y = true ∧ i < j) ∨ (y.apart ops x = true ∧ j < i) := by
  rcases Nat.lt_or_gt_of_ne hne with h | h
  · have := (regOK_spec ops.toList [] hp.reg j y (by simpa using hj)).2 i x (by simpa using h) (by simpa using hi)
    simp only [List.length_nil, Nat.zero_add] at this
    rcases this with q | q
    · exact .inl (.inl q)
    · exact .inr (.inl ⟨q, h⟩)
  · have := (regOK_spec ops.toList [] hp.reg i x (by simpa using hi)).2 j y (by simpa using h) (by simpa using hj)
    simp only [List.length_nil, Nat.zero_add] at this
    rcases this with q | q
    · exact .inl (.inr q)
    · exact .inr (.inr ⟨q, h⟩)

theorem Plan.tmp (hp : Plan P n ops env H rs) {S : Nat → Bool} (hC : Closed ops S) {j : Nat} {o : Oper} (ho : ops[j]? = some o) (hj : S j = false) (hr : ∀ a ∈ afterL o, S a = true) {t : Nat} (ht : t ∈ o.looksAt ops) : Et ops.toList rs env S ops.size t = lookD t (envT ops.toList rs env j) := by
  have hjs : j < ops.size := by
    rcases Nat.lt_or_ge j ops.size with h | h
    · exact h
    · rw [Array.getElem?_eq_none h] at ho; cases ho
  rw [← Et_all hp.at_ j (by simp; omega), ← Et_upto ops.size (by omega)]
  refine Et_agree _ fun i hi hd => ?_
  have hio : ops[i]? = some ops[i] := Array.getElem?_eq_getElem hi
  have hil : ops.toList[i]? = some ops[i] := by rw [Array.getElem?_toList]; exact hio
  rw [dstAt_of hil] at hd
  by_cases e : i = j
  · subst e; rw [hj]; simp [upto]
  · rcases hp.cmp hio ho e with h | ⟨h, _⟩ | ⟨h, _⟩
    · exact hp.before hC ho hj hr hi e h
    · exact absurd ht ((Oper.apart_spec h).1 t hd)
    · exact absurd ht ((Oper.apart_spec h).2.2 t hd)

theorem clash_iff (a b : List Nat × List Nat) : clash a b = true ↔ (∃ x ∈ a.2, x ∈ b.1) ∨ (∃ x ∈ a.2, x ∈ b.2) ∨ ∃ x ∈ b.2, x ∈ a.1 := by
  simp only [clash, Bool.or_eq_true, meets_iff, or_assoc]

theorem Plan.obj (hp : Plan P n ops env H rs) {S : Nat → Bool} (hC : Closed ops S) {j : Nat} {o : Oper} (ho : ops[j]? = some o) (hj : S j = false) (hr : ∀ a ∈ afterL o, S a = true) {id : Nat} (hid : id ∈ (recAt rs j).rd ∨ id ∈ (recAt rs j).wr) {i : Nat} (hi : i < ops.size) (hw : id ∈ (recAt rs i).wr) : S i = upto j i := by
  by_cases e : i = j
  · subst e; rw [hj]; simp [upto]
  have hjs : j < ops.size := by
    rcases Nat.lt_or_ge j ops.size with h | h
    · exact h
    · rw [Array.getElem?_eq_none h] at ho; cases ho
  refine hp.before hC ho hj hr hi e ?_
  rcases Nat.lt_or_gt_of_ne e with h | h
  · refine .inl (hp.mem i j h hjs ((clash_iff _ _).2 ?_))
    rcases hid with q | q
    · exact .inl ⟨id, hw, q⟩
    · exact .inr (.inl ⟨id, hw, q⟩)
  · refine .inr (hp.mem j i h hi ((clash_iff _ _).2 ?_))
    rcases hid with q | q
    · exact .inr (.inr ⟨id, hw, q⟩)
    · exact .inr (.inl ⟨id, q, hw⟩)
theorem Plan.objs (hp : Plan P n ops env H rs) {S : Nat → Bool} (hC : Closed ops S) {j : Nat} {o : Oper} (ho : ops[j]? = some o) (hj : S j = false) (hr : ∀ a ∈ afterL o, S a = true) {id : Nat} (hid : id ∈ (recAt rs j).rd ∨ id ∈ (recAt rs j).wr) : Gt rs H S ops.size id = (heapT rs H j)[id]? := by
  have hjs : j < ops.size := by
    rcases Nat.lt_or_ge j ops.size with h | h
    · exact h
    · rw [Array.getElem?_eq_none h] at ho; cases ho
  rw [← Gt_all hp.at_ j (by simp; omega), ← Gt_upto ops.size (by omega)]
  exact Gt_agree _ fun i hi hw => hp.obj hC ho hj hr hid hi hw

/-- One more operation. -/
def plus (S : Nat → Bool) (j : Nat) : Nat → Bool := fun i => S i || decide (i = j)
theorem Et_plus {l : List Oper} {S : Nat → Bool} {j t : Nat} (hj : S j = false) (hlater : ∀ i, j < i → S i = true → dstAt l i = some t → dstAt l j ≠ some t) : ∀ k, Et l rs env (plus S j) k t = if j < k ∧ dstAt l j = some t then (recAt rs j).d else Et l rs env S k t
  | 0 => rfl
  | k + 1 => by
    simp only [Et]
    rw [Et_plus hj hlater k]
    by_cases e : k = j
    · subst e
      by_cases hd : dstAt l k = some t
      · rw [if_pos ⟨by simp [plus], hd⟩, if_pos ⟨by omega, hd⟩]
      · rw [if_neg (fun q => hd q.2), if_neg (fun q => hd q.2), if_neg (fun q => hd q.2), if_neg (fun q => hd q.2)]
    · have hS : plus S j k = S k := by simp [plus, e]
      rw [hS]
      by_cases hk : S k = true ∧ dstAt l k = some t
      · rw [if_pos hk, if_pos hk]
        rw [if_neg]
        rintro ⟨q1, q2⟩
        exact hlater k (by omega) hk.1 hk.2 q2
      · rw [if_neg hk, if_neg hk]
        by_cases hd : j < k ∧ dstAt l j = some t
        · rw [if_pos hd, if_pos ⟨by omega, hd.2⟩]
        · rw [if_neg hd, if_neg (fun q => hd ⟨by omega, q.2⟩)]
theorem Gt_plus {S : Nat → Bool} {j id : Nat} (hj : S j = false) (hlater : ∀ i, j < i → S i = true → id ∈ (recAt rs i).wr → id ∉ (recAt rs j).wr) : ∀ k, Gt rs H (plus S j) k id = if j < k ∧ id ∈ (recAt rs j).wr then (recAt rs j).H2[id]? else Gt rs H S k id
  | 0 => rfl
  | k + 1 => by
    simp only [Gt]
    rw [Gt_plus hj hlater k]
    by_cases e : k = j
    · subst e
      by_cases hd : id ∈ (recAt rs k).wr
      · rw [if_pos ⟨by simp [plus], hd⟩, if_pos ⟨by omega, hd⟩]
      · rw [if_neg (fun q => hd q.2), if_neg (fun q => hd q.2), if_neg (fun q => hd q.2), if_neg (fun q => hd q.2)]
    · have hS : plus S j k = S k := by simp [plus, e]
      rw [hS]
      by_cases hk : S k = true ∧ id ∈ (recAt rs k).wr
      · rw [if_pos hk, if_pos hk]
        rw [if_neg]
        rintro ⟨q1, q2⟩
        exact hlater k (by omega) hk.1 hk.2 q2
      · rw [if_neg hk, if_neg hk]
        by_cases hd : j < k ∧ id ∈ (recAt rs j).wr
        · rw [if_pos hd, if_pos ⟨by omega, hd.2⟩]
        · rw [if_neg hd, if_neg (fun q => hd ⟨by omega, q.2⟩)]

theorem Plan.step (hp : Plan P n ops env H rs) {J0 : Inj} {F0 : Nat → Prop} {w0 : World} {S : Nat → Bool} {J : Inj} {F : Nat → Prop} {a : Act} {w : World} (hv : Inv P n ops env H rs J0 F0 w0 S J F a w) {j : Nat} {o : Oper} (ho : ops[j]? = some o) (hj : S j = false) (hr : ∀ a ∈ afterL o, S a = true)
    {K : Act → World → Prop} {Q : Exit → Act → World → Prop} (hK : ∀ J' F' a' w', Inv P n ops env H rs J0 F0 w0 (plus S j) J' F' a' w' → K a' w') :
    if Region.wanted o (yielded ops a.tmps) then o.wp P a w K Q else K (a.put o.dst undef) w := by
  have hjs : j < ops.size := by
    rcases Nat.lt_or_ge j ops.size with h | h
    · exact h
    · rw [Array.getElem?_eq_none h] at ho; cases ho
  have hjl : ops.toList[j]? = some o := by simpa using ho
  obtain ⟨r, hr1, hr2⟩ := hp.at_ j o hjl
  have hrec : recAt rs j = r := recAt_of hr1
  have hdst : dstAt ops.toList j = o.dst := dstAt_of hjl
  have hclosed : Closed ops (plus S j) := fun i x hx hi b hb => by
    simp only [plus, Bool.or_eq_true, decide_eq_true_eq] at hi ⊢
    rcases hi with hi | rfl
    · exact .inl (hv.closed i x hx hi b hb)
    · rw [ho] at hx; cases hx
      exact .inl (hr b hb)
  have hlaterT : ∀ t i, j < i → S i = true → dstAt ops.toList i = some t → dstAt ops.toList j ≠ some t := fun t i hi hS hd hd' => by
    have his : i < ops.size := by
      rcases Nat.lt_or_ge i ops.size with h | h
      · exact h
      · rw [dstAt, List.getElem?_eq_none (by simpa using h)] at hd; cases hd
    have hio : ops[i]? = some ops[i] := Array.getElem?_eq_getElem his
    have hil : ops.toList[i]? = some ops[i] := by rw [Array.getElem?_toList]; exact hio
    rw [dstAt_of hil] at hd
    rw [hdst] at hd'
    rcases hp.cmp hio ho (by omega) with h | ⟨h, h'⟩ | ⟨h, _⟩
    · have := hp.before hv.closed ho hj hr his (by omega) h
      rw [hS] at this
      simp [upto] at this
      omega
    · omega
    · exact (Oper.apart_spec h).2.1 t hd' hd
  have hlaterG : ∀ id i, j < i → S i = true → id ∈ (recAt rs i).wr → id ∉ (recAt rs j).wr := fun id i hi hS hw hw' => by
    by_cases his : i < ops.size
    · have := hp.obj hv.closed ho hj hr (.inr hw') his hw
      rw [hS] at this
      simp [upto] at this
      omega
    · have e : rs[i]? = none := List.getElem?_eq_none (by rw [hp.len]; omega)
      simp [recAt, e] at hw
      cases hw
  -- the new state
  have mk : ∀ (v : Value) (J' : Inj) (F' : Nat → Prop) (w' : World), rep J' F' w' r.d v → StOK J' F' w' (upd (Gt rs H S ops.size) r.wr r.H2) → Ext J F w J' F' w' → (∀ id, J id = none → id ∉ r.wr → J' id = none) → Inv P n ops env H rs J0 F0 w0 (plus S j) J' F' (a.put o.dst v) w' := fun v J' F' w' q1 q2 q3 q4 => by
    refine ⟨hclosed, ?_, ?_, fun t => ?_, ?_, hv.ext.trans q3, fun id hid => ?_⟩
    · cases o.dst <;> exact hv.defers
    · cases o.dst <;> simp [Act.put, hv.size]
    · rw [Et_plus hj (hlaterT t)]
      rw [hdst, hrec]
      cases hd : o.dst with
      | none => rw [if_neg (by simp)]; exact rep_ext q3 (hv.tmps t)
      | some u =>
        simp only [hjs, true_and, Option.some.injEq, Act.put]
        rw [getD_set _ _ _ _ (by rw [hv.size]; exact hr2.1 u hd)]
        by_cases e : t = u
        · rw [if_pos e.symm, if_pos e]; exact q1
        · rw [if_neg (fun q => e q.symm), if_neg e]; exact rep_ext q3 (hv.tmps t)
    · have : Gt rs H (plus S j) ops.size = upd (Gt rs H S ops.size) r.wr r.H2 := by
        funext id
        rw [Gt_plus hj (hlaterG id)]
        simp only [hjs, true_and, hrec, upd]
      rw [this]; exact q2
    · by_cases h1 : J id = none
      · by_cases h2 : id ∈ r.wr
        · exact .inr ⟨j, hjs, by simp [plus], by rw [hrec]; exact h2⟩
        · exact absurd (q4 id h1 h2) hid
      · rcases hv.dom id h1 with q | ⟨i, i1, i2, i3⟩
        · exact .inl q
        · exact .inr ⟨i, i1, by simp [plus, i2], i3⟩
  have exec : OpS P o (envT ops.toList rs env j) r.rd r.wr (heapT rs H j) r.d r.H2 → o.wp P a w K Q := fun hs => by
    refine hs.run J F w a _ hv.ok (fun x hx => ?_) (fun id hid => by rw [← hrec] at hid; exact hp.objs hv.closed ho hj hr hid) (fun id hid hw => ?_) K Q fun v w' J' F' q1 q2 q3 q4 => hK _ _ _ _ (mk v J' F' w' q1 q2 q3 q4)
    · cases x with
      | tmp t =>
        have ht : t ∈ o.looksAt ops := by
          unfold Oper.looksAt
          refine List.mem_append.2 (.inl (List.mem_filterMap.2 ⟨.tmp t, by simpa using hx, rfl⟩))
        have := hv.tmps t
        rw [hp.tmp hv.closed ho hj hr ht] at this
        exact this
      | const v =>
        cases v <;> simp only [evalD, lift, Act.eval, rep]
        rename_i cs
        exact ⟨cs.toList, by simp, repL_sc cs.toList⟩
      | global g => simp only [evalD, Act.eval, rep]
      | func f => simp only [evalD, Act.eval, rep]; exact ⟨[], [], rfl, by simp only [repL], by simp only [repL]⟩
    · cases e : J id with
      | none => rfl
      | some s =>
        rcases hv.dom id (by rw [e]; simp) with q | ⟨i, i1, i2, i3⟩
        · have := heapT_le hp.at_ j 0 (by omega) (by simp; omega)
          simp only [heapT] at this
          omega
        · have h1 := hp.obj hv.closed ho hj hr (.inr (by rw [hrec]; exact hw)) i1 i3
          rw [i2] at h1
          have hij : i < j := by simpa [upto] using h1.symm
          have := wr_lt hp.at_ hij (by simp; omega) i3
          omega
  rcases hr2.2.2 with ⟨g1, g2⟩ | ⟨g, b, t, c, g1, g2, g3, g4⟩
  · rw [if_pos (by simp [Region.wanted, g1])]
    exact exec g2
  · have ht : t ∈ o.looksAt ops := by
      unfold Oper.looksAt
      refine List.mem_append.2 (.inr ?_)
      rw [g1]
      simp only [g2, Option.toList_some, List.mem_singleton]
    have h3 := hv.tmps t
    rw [hp.tmp hv.closed ho hj hr ht, g3] at h3
    simp only [rep] at h3
    rcases g4 with ⟨rfl, g4⟩ | ⟨hne, rfl⟩
    · rw [if_pos (wanted_on g1 g2 h3)]
      exact exec g4
    · rw [if_neg (by rw [wanted_off g1 g2 (by rw [h3]; exact hne)]; simp)]
      exact hK _ _ _ _ (mk undef J F w (by simp only [rep]) (by rw [upd_nil]; exact hv.ok) (Ext.refl _ _ _) fun _ h _ => h)

theorem ready_spec {listed : Array Bool} {j : Nat} (h : j ∈ Region.ready .any ops listed) : ∃ o, ops[j]? = some o ∧ listed.getD j true = false ∧ ∀ a ∈ afterL o, listed.getD a false = true := by
  obtain ⟨h1, o, h2, h3⟩ := mem_ready.1 h
  refine ⟨o, h2, h1, fun a ha => ?_⟩
  unfold afterL at ha
  obtain ⟨e, he, rfl⟩ := List.mem_map.1 ha
  obtain ⟨he1, he2⟩ := List.mem_filter.1 he
  exact h3 e (by simpa using he1) he2

/-- Which have come up. -/
def listedB (listed : Array Bool) : Nat → Bool := fun i => listed.getD i false

theorem listedB_set {listed : Array Bool} {j : Nat} (hj : j < listed.size) : listedB (listed.setIfInBounds j true) = plus (listedB listed) j := by
  funext i
  simp only [listedB, plus, Array.getD_eq_getD_getElem?]
  by_cases e : i = j
  · subst e; simp [Array.getElem?_setIfInBounds, hj]
  · rw [Array.getElem?_setIfInBounds_ne (fun q => e q.symm)]; simp [e]

def missing (listed : Array Bool) : Nat := (List.range listed.size).countP fun i => !listed.getD i false

theorem all_listed {listed : Array Bool} (hreg : regOK ops (masksOf [] ops.toList) [] ops.toList = true) (hs : listed.size = ops.size) (h : Region.ready .any ops listed = []) : ∀ i, i < ops.size → listed.getD i false = true := by
  intro i
  induction i using Nat.strongRecOn with
  | _ i ih =>
    intro hi
    cases e : listed.getD i false with
    | true => rfl
    | false =>
      have hio : ops[i]? = some ops[i] := Array.getElem?_eq_getElem hi
      have hil : ops.toList[i]? = some ops[i] := by rw [Array.getElem?_toList]; exact hio
      have hlt := (regOK_spec ops.toList [] hreg i _ hil).1
      simp only [List.length_nil, Nat.zero_add] at hlt
      have : i ∈ Region.ready .any ops listed := by
        refine mem_ready.2 ⟨?_, _, hio, fun ed hed hb => ?_⟩
        · have : i < listed.size := by omega
          simp only [Array.getD_eq_getD_getElem?, Array.getElem?_eq_getElem this, Option.getD_some] at e ⊢
          exact e
        · have ha : ed.on ∈ afterL ops[i] := List.mem_map.2 ⟨ed, List.mem_filter.2 ⟨by simpa using hed, hb⟩, rfl⟩
          exact ih _ (hlt _ ha) (by have := hlt _ ha; omega)
      rw [h] at this; cases this

theorem plan_run (hp : Plan P n ops env H rs) {J0 : Inj} {F0 : Nat → Prop} {w0 : World} {Q : Exit → Act → World → Prop}
    (hQ : ∀ J F a w, Inv P n ops env H rs J0 F0 w0 (fun _ => true) J F a w → Q .normal a w) : ∀ (fuel : Nat) (listed : Array Bool) (J : Inj) (F : Nat → Prop) (a : Act) (w : World), listed.size = ops.size → missing listed ≤ fuel → Inv P n ops env H rs J0 F0 w0 (listedB listed) J F a w → wpAny P .any ops Q fuel listed a w := by
  have done : ∀ (listed : Array Bool) (J : Inj) (F : Nat → Prop) (a : Act) (w : World), listed.size = ops.size → (∀ i, i < ops.size → listed.getD i false = true) → Inv P n ops env H rs J0 F0 w0 (listedB listed) J F a w → Q .normal a w := fun listed J F a w hs hall hv => by
    refine hQ J F a w ⟨fun _ _ _ _ _ _ => rfl, hv.defers, hv.size, fun t => ?_, ?_, hv.ext, fun id hid => (hv.dom id hid).imp_right fun ⟨i, i1, _, i3⟩ => ⟨i, i1, rfl, i3⟩⟩
    · have := hv.tmps t
      have e : Et ops.toList rs env (listedB listed) ops.size t = Et ops.toList rs env (fun _ => true) ops.size t := Et_agree ops.size fun i hi _ => hall i hi
      rwa [e] at this
    · have e : Gt rs H (listedB listed) ops.size = Gt rs H (fun _ => true) ops.size := funext fun id => Gt_agree ops.size fun i hi _ => hall i hi
      have := hv.ok
      rwa [e] at this
  have key : ∀ (listed : Array Bool) (j : Nat), listed.size = ops.size → j ∈ Region.ready .any ops listed → j < ops.size ∧ listed.getD j false = false := fun listed j hs hj => by
    obtain ⟨o, h1, h2, _⟩ := ready_spec hj
    have hjs : j < ops.size := by
      rcases Nat.lt_or_ge j ops.size with h | h
      · exact h
      · rw [Array.getElem?_eq_none h] at h1; cases h1
    refine ⟨hjs, ?_⟩
    have : j < listed.size := by omega
    simp only [Array.getD_eq_getD_getElem?, Array.getElem?_eq_getElem this, Option.getD_some] at h2 ⊢
    exact h2
  intro fuel
  induction fuel with
  | zero =>
    intro listed J F a w hs hm hv
    have hall : ∀ i, i < ops.size → listed.getD i false = true := fun i hi => by
      have h0 : missing listed = 0 := by omega
      unfold missing at h0
      rw [List.countP_eq_zero] at h0
      have := h0 i (by simp; omega)
      simpa using this
    refine ⟨?_, done listed J F a w hs hall hv⟩
    cases e : Region.ready .any ops listed with
    | nil => rfl
    | cons j r =>
      obtain ⟨q1, q2⟩ := key listed j hs (by rw [e]; simp)
      rw [hall j q1] at q2; cases q2
  | succ fuel ih =>
    intro listed J F a w hs hm hv
    refine ⟨fun h => done listed J F a w hs (all_listed hp.reg hs h) hv, fun j hj => ?_⟩
    obtain ⟨o, h1, h2, h3⟩ := ready_spec hj
    obtain ⟨q1, q2⟩ := key listed j hs hj
    have hm' : missing (listed.setIfInBounds j true) ≤ fuel := by
      have hlt : missing (listed.setIfInBounds j true) < missing listed := by
        unfold missing
        rw [Array.size_setIfInBounds]
        have hmem : j ∈ List.range listed.size := by simp; omega
        obtain ⟨l1, l2, hl⟩ := List.append_of_mem hmem
        have hnd : (List.range listed.size).Nodup := List.nodup_range
        rw [hl] at hnd ⊢
        have hne1 : ∀ x ∈ l1, x ≠ j := fun x hx e => by
          subst e
          rw [List.nodup_append] at hnd
          exact hnd.2.2 x hx x (by simp) rfl
        have hne2 : ∀ x ∈ l2, x ≠ j := fun x hx e => by
          subst e
          rw [List.nodup_append] at hnd
          have := hnd.2.1
          simp at this
          exact this.1 hx
        have hset : ∀ x, x ≠ j → (listed.setIfInBounds j true).getD x false = listed.getD x false := fun x hx => by
          simp only [Array.getD_eq_getD_getElem?]
          rw [Array.getElem?_setIfInBounds_ne (fun q => hx q.symm)]
        rw [List.countP_append, List.countP_append, List.countP_cons, List.countP_cons]
        have c1 : l1.countP (fun i => !(listed.setIfInBounds j true).getD i false) = l1.countP (fun i => !listed.getD i false) := List.countP_congr fun x hx => by rw [hset x (hne1 x hx)]
        have c2 : l2.countP (fun i => !(listed.setIfInBounds j true).getD i false) = l2.countP (fun i => !listed.getD i false) := List.countP_congr fun x hx => by rw [hset x (hne2 x hx)]
        rw [c1, c2, q2]
        have : (listed.setIfInBounds j true).getD j false = true := by
          simp only [Array.getD_eq_getD_getElem?]
          simp [Array.getElem?_setIfInBounds, show j < listed.size by omega]
        rw [this]
        simp
      omega
    have st := hp.step hv h1 (by simpa [listedB] using q2) (by simpa [listedB] using h3) (K := wpAny P .any ops Q fuel (listed.setIfInBounds j true)) (Q := Q) fun J' F' a' w' hv' => ih _ J' F' a' w' (by simp [hs]) hm' (by rw [listedB_set (by omega)]; exact hv')
    unfold wpOp
    simp only [h1]
    split
    · rename_i hw; rw [if_pos hw] at st; exact .inl st
    · rename_i hw; rw [if_neg hw] at st; exact st

theorem drawn_sound {l : List POper} {Q : Exit → Act → World → Prop} {K' : Env → List AObj → Prop} (h : runDraw P l env H K') {id : Nat} (hc : cRegion P n ops true = some l) {J : Inj} {F : Nat → Prop} {a : Act} {w : World} (hr : StRep n J F env H a w)
    (hQ : ∀ env' H' J' F' a' w', K' env' H' → StRep n J' F' env' H' a' w' → Ext J F w J' F' w' → Q .normal a' w') : (Code.region id ops true).wp P Q a w := by
  simp only [cRegion] at hc
  split at hc
  · rename_i hb
    rw [Bool.and_eq_true] at hb
    unfold runDraw at h
    obtain ⟨rs, env', H', h1, h2, h3⟩ := runD_spec ops.toList _ l hc env H _ h
    obtain ⟨r1, r2, r3, r4⟩ := h1.at
    split at h2
    · rename_i hmem
      have hlen : rs.length = ops.size := by simpa using r1
      have hp : Plan P n ops env H rs := ⟨r4, hlen, hb.2, fun i j hij hj hcl => by
        have hli : i < rs.length := by omega
        have hlj : j < rs.length := by omega
        have hpl : j < l.length := by rw [cOpers_len _ _ _ hc]; simp; omega
        have e1 := recAt_of (List.getElem?_eq_getElem hli)
        have e2 := recAt_of (List.getElem?_eq_getElem hlj)
        have := memOK_spec l [] _ hmem j l[j] ((recAt rs j).rd, (recAt rs j).wr) (List.getElem?_eq_getElem hpl) (by rw [e2]; simp [hlj]) i ((recAt rs i).rd, (recAt rs i).wr) (by simpa using hij) (by rw [e1]; simp [hli]) hcl
        have hm := cOpers_mask _ _ _ hc j _ (List.getElem?_eq_getElem hpl)
        rw [hm] at this
        exact bitOf_test this⟩
      refine wp_region_any hb.1 (plan_run hp (J0 := J) (F0 := F) (w0 := w) (fun J' F' a' w' hv => ?_) _ _ J F a _ (by simp) ?_ ?_)
      · refine hQ env' H' J' F' a' w' h2 ⟨hv.defers, hv.size, fun t => ?_, ?_, fun i hi => ?_⟩ hv.ext
        · have := hv.tmps t
          rw [Et_all hp.at_ _ (by simp)] at this
          rw [← r2]
          simpa using this
        · have := hv.ok
          have e : Gt rs H (fun _ => true) ops.size = fun i => H'[i]? := funext fun i => by
            rw [Gt_all hp.at_ _ (by simp), ← r3]; simp
          rwa [e] at this
        · rcases hv.dom i hi with q | ⟨k, k1, _, k3⟩
          · have := heapT_le hp.at_ ops.size 0 (by omega) (by simp)
            simp only [heapT] at this
            rw [← r3]; simp; omega
          · have := wr_lt hp.at_ k1 (by simp) k3
            rw [← r3]; simpa using this
      · unfold missing
        refine Nat.le_trans List.countP_le_length ?_
        simp
      · have hf : listedB (Array.replicate ops.size false) = fun _ => false := by
          funext i
          simp only [listedB, Array.getD_eq_getD_getElem?, Array.getElem?_replicate]
          split <;> rfl
        rw [hf]
        have e1 : ∀ k t, Et ops.toList rs env (fun _ => false) k t = lookD t env := fun k t => by
          induction k with
          | zero => rfl
          | succ k ih => simp only [Et]; rw [if_neg (by simp)]; exact ih
        have e2 : ∀ k i, Gt rs H (fun _ => false) k i = H[i]? := fun k i => by
          induction k with
          | zero => rfl
          | succ k ih => simp only [Gt]; rw [if_neg (by simp)]; exact ih
        have hd : Ext J F w J F { w with drawn := w.drawn + 1 } := Ext.drew
        refine ⟨(fun _ _ _ h => by cases h), hr.defers, hr.size, fun t => ?_, ?_, hd, fun i hi => .inl (hr.dom i hi)⟩
        · rw [e1]; exact rep_ext hd (hr.tmps t)
        · have : Gt rs H (fun _ => false) ops.size = fun i => H[i]? := funext (e2 _)
          rw [this]
          exact hr.ok.drew
    · exact h2.elim
  · cases hc
end
end Go.Proofs.Ytkkfiadefekbbaa
