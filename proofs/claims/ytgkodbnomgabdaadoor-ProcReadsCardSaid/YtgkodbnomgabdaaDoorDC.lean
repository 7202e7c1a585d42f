/-
  A law's row over deep values. No statement is proved here.
-/
import Derived.ProofKit
import Derived.ChangeArms
import Derived.ChangeSame
import Derived.OpenShut
import Derived.ShutString
import Derived.Deep.Slices
import Derived.Deep.Fields
import Derived.Lib.SmallJoins
import Derived.Test.YtgkodbnomgabdaaDoorDB
namespace Go.Proofs.YtgkodbnomgabdaaDoor
/-! ### XDfr -/
section
open Go.RowKit

mutual
/-- How long lists and texts are, at most. -/
def lens {H : Type} (L : Nat) : DataW H → Prop
  | .lit (.string b) => b.length ≤ L
  | .lit _ => True
  | .slice elems _ => elems.length ≤ L ∧ lensAll L elems
  | .agg parts => lensAll L parts
  | _ => True
def lensAll {H : Type} (L : Nat) : List (DataW H) → Prop
  | [] => True
  | d :: r => lens L d ∧ lensAll L r
end
theorem lensAll_mem {H : Type} {L : Nat} : ∀ {l : List (DataW H)}, lensAll L l → ∀ d ∈ l, lens L d
  | [], _, _, h => by cases h
  | x :: r, h, d, hd => by
    simp only [lensAll] at h
    rcases List.mem_cons.1 hd with rfl | hd
    · exact h.1
    · exact lensAll_mem h.2 d hd
mutual
/-- Data of a type; L: how long lists and texts are at most, 0: nothing is said of that. -/
inductive OfTz (P : Program) (L : Nat) : TypeId → List D → Prop
  | bool (t : TypeId) (b : Bool) (ht : P.underlying t = some .bool) : OfTz P L t [.sc (.bool b)]
  | int (t : TypeId) (k : IntKind) (n : Int) (ht : P.underlying t = some (.int k)) (h : k.min ≤ n ∧ n ≤ k.max) : OfTz P L t [.sc (.int k n)]
  | str (t : TypeId) (s : ByteArray) (ht : P.underlying t = some .string) (h : s.size ≤ 140737488351232) (hL : L = 0 ∨ s.size ≤ L) : OfTz P L t [.sc (.string s)]
  | slice (t e : TypeId) (xs : List (List D)) (ht : P.underlying t = some (.slice e)) (hn : xs.length ≤ 9223372036854775807 ∧ xs.length * P.bytesOf e ≤ 140737488351232) (hL : L = 0 ∨ xs.length ≤ L) (h : OfTLz P L e xs) : OfTz P L t [.lst (P.cellsOf e) xs]
  | struct (t : TypeId) (fs : Array Field) (cs : List D) (ht : P.underlying t = some (.struct fs)) (h : OfTsz P L (fs.toList.map (·.type)) cs) : OfTz P L t cs
inductive OfTsz (P : Program) (L : Nat) : List TypeId → List D → Prop
  | nil : OfTsz P L [] []
  | cons (t : TypeId) (ts : List TypeId) (a b : List D) (h : OfTz P L t a) (k : OfTsz P L ts b) : OfTsz P L (t :: ts) (a ++ b)
inductive OfTLz (P : Program) (L : Nat) : TypeId → List (List D) → Prop
  | nil (e : TypeId) : OfTLz P L e []
  | cons (e : TypeId) (x : List D) (r : List (List D)) (h : OfTz P L e x) (k : OfTLz P L e r) : OfTLz P L e (x :: r)
end
abbrev OfT (P : Program) := OfTz P 0
abbrev OfTs (P : Program) := OfTsz P 0
abbrev OfTL (P : Program) := OfTLz P 0

section
variable {P : Program} {L : Nat} {t : TypeId} {cs : List D}
theorem of_bool (ht : P.underlying t = some .bool) (h : OfTz P L t cs) : ∃ b, cs = [.sc (.bool b)] := by
  cases h <;> simp_all
theorem of_int {k : IntKind} (ht : P.underlying t = some (.int k)) (h : OfTz P L t cs) : ∃ n, cs = [.sc (.int k n)] ∧ k.min ≤ n ∧ n ≤ k.max := by
  cases h <;> simp_all
theorem of_strZ (ht : P.underlying t = some .string) (h : OfTz P L t cs) : ∃ s : ByteArray, cs = [.sc (.string s)] ∧ s.size ≤ 140737488351232 := by
  cases h <;> simp_all
theorem of_str (ht : P.underlying t = some .string) (h : OfTz P L t cs) : ∃ s : ByteArray, cs = [.sc (.string s)] ∧ s.size ≤ 9223372036854775807 := by
  obtain ⟨s, e, h⟩ := of_strZ ht h
  exact ⟨s, e, by omega⟩
theorem of_sliceZ {e : TypeId} (ht : P.underlying t = some (.slice e)) (h : OfTz P L t cs) : ∃ xs, cs = [.lst (P.cellsOf e) xs] ∧ (xs.length ≤ 9223372036854775807 ∧ xs.length * P.bytesOf e ≤ 140737488351232) ∧ OfTLz P L e xs := by
  cases h <;> simp_all
theorem of_slice {e : TypeId} (ht : P.underlying t = some (.slice e)) (h : OfTz P L t cs) : ∃ xs, cs = [.lst (P.cellsOf e) xs] ∧ xs.length ≤ 9223372036854775807 ∧ OfTLz P L e xs := by
  obtain ⟨xs, e, h, k⟩ := of_sliceZ ht h
  exact ⟨xs, e, h.1, k⟩
theorem of_sliceL {e : TypeId} (ht : P.underlying t = some (.slice e)) (h : OfTz P (L + 1) t cs) : ∃ xs, cs = [.lst (P.cellsOf e) xs] ∧ xs.length ≤ L + 1 ∧ OfTLz P (L + 1) e xs := by
  cases h <;> simp_all
theorem of_struct {fs : Array Field} (ht : P.underlying t = some (.struct fs)) (h : OfTz P L t cs) : OfTsz P L (fs.toList.map (·.type)) cs := by
  cases h <;> simp_all
theorem ofTs_nil (h : OfTsz P L [] cs) : cs = [] := by cases h; rfl
theorem ofTs_cons {ts : List TypeId} (h : OfTsz P L (t :: ts) cs) : ∃ a b, cs = a ++ b ∧ OfTz P L t a ∧ OfTsz P L ts b := by
  cases h with
  | cons t ts a b h k => exact ⟨a, b, rfl, h, k⟩
theorem ofTs_int {k : IntKind} {ts : List TypeId} (ht : P.underlying t = some (.int k)) (h : OfTsz P L (t :: ts) cs) : ∃ n b, cs = .sc (.int k n) :: b ∧ (k.min ≤ n ∧ n ≤ k.max) ∧ OfTsz P L ts b := by
  obtain ⟨a, b, rfl, ha, hb⟩ := ofTs_cons h
  obtain ⟨n, rfl, hn⟩ := of_int ht ha
  exact ⟨n, b, rfl, hn, hb⟩
theorem ofTs_str {ts : List TypeId} (ht : P.underlying t = some .string) (h : OfTsz P L (t :: ts) cs) : ∃ (s : ByteArray) (b : List D), cs = .sc (.string s) :: b ∧ s.size ≤ 9223372036854775807 ∧ OfTsz P L ts b := by
  obtain ⟨a, b, rfl, ha, hb⟩ := ofTs_cons h
  obtain ⟨n, rfl, hn⟩ := of_str ht ha
  exact ⟨n, b, rfl, hn, hb⟩
theorem ofTs_bool {ts : List TypeId} (ht : P.underlying t = some .bool) (h : OfTsz P L (t :: ts) cs) : ∃ (s : Bool) (b : List D), cs = .sc (.bool s) :: b ∧ OfTsz P L ts b := by
  obtain ⟨a, b, rfl, ha, hb⟩ := ofTs_cons h
  obtain ⟨n, rfl⟩ := of_bool ht ha
  exact ⟨n, b, rfl, hb⟩
theorem ofTs_slice {e : TypeId} {ts : List TypeId} (ht : P.underlying t = some (.slice e)) (h : OfTsz P L (t :: ts) cs) : ∃ xs b, cs = .lst (P.cellsOf e) xs :: b ∧ xs.length ≤ 9223372036854775807 ∧ OfTLz P L e xs ∧ OfTsz P L ts b := by
  obtain ⟨a, b, rfl, ha, hb⟩ := ofTs_cons h
  obtain ⟨n, rfl, h1, h2⟩ := of_slice ht ha
  exact ⟨n, b, rfl, h1, h2, hb⟩
theorem ofTs_sliceZ {e : TypeId} {ts : List TypeId} (ht : P.underlying t = some (.slice e)) (h : OfTsz P L (t :: ts) cs) : ∃ xs b, cs = .lst (P.cellsOf e) xs :: b ∧ (xs.length ≤ 9223372036854775807 ∧ xs.length * P.bytesOf e ≤ 140737488351232) ∧ OfTLz P L e xs ∧ OfTsz P L ts b := by
  obtain ⟨a, b, rfl, ha, hb⟩ := ofTs_cons h
  obtain ⟨n, rfl, h1, h2⟩ := of_sliceZ ht ha
  exact ⟨n, b, rfl, h1, h2, hb⟩
/-- A list of plain cells. -/
theorem of_cells {α : Type} {e : TypeId} {f : α → Value} {ok : α → Prop} (he : ∀ cs, OfTz P L e cs → ∃ a, cs = [.sc (f a)] ∧ ok a) {xs : List (List D)} (h : OfTLz P L e xs) : ∃ l : List α, xs = l.map (fun a => [.sc (f a)]) ∧ ∀ a ∈ l, ok a := by
  induction xs with
  | nil => exact ⟨[], rfl, by simp⟩
  | cons x r ih =>
    cases h with
    | cons _ _ _ h k =>
      obtain ⟨a, rfl, ha⟩ := he x h
      obtain ⟨l, rfl, hl⟩ := ih k
      exact ⟨a :: l, rfl, fun b hb => by
        rcases List.mem_cons.1 hb with rfl | hb
        · exact ha
        · exact hl b hb⟩
end

/-- Fields lie one behind the other. -/
def offsOK (P : Program) : List Field → Nat → Nat → Bool
  | [], o, n => o == n
  | f :: r, o, n => f.offset == o && offsOK P r (o + P.cellsOf f.type) n
/-- A list of types, closed under parts. -/
def typesOK (P : Program) (S : List TypeId) : Bool := S.all fun t => match P.underlying t with
  | some .bool | some .string => true
  | some (.int _) => true
  | some (.slice e) => S.contains e && decide (0 < P.cellsOf e)
  | some (.struct fs) => offsOK P fs.toList 0 (P.cellsOf t) && fs.toList.all fun f => S.contains f.type
  | _ => false

section
variable {P : Program}
theorem ofTL_get {L : Nat} {e : TypeId} : ∀ {xs : List (List D)}, (∀ x ∈ xs, OfTz P L e x) → OfTLz P L e xs
  | [], _ => .nil e
  | x :: r, h => .cons e x r (h x (by simp)) (ofTL_get fun y hy => h y (by simp [hy]))
theorem ofTL_mem {L : Nat} {e : TypeId} : ∀ {xs : List (List D)}, OfTLz P L e xs → ∀ x ∈ xs, OfTz P L e x
  | _, .nil _, x, h => by cases h
  | _, .cons _ y r h k, x, hx => by
    rcases List.mem_cons.1 hx with rfl | hx
    · exact h
    · exact ofTL_mem k x hx

variable {H : Type} {enc : TypeId × Value → H} {W : World} {spare : Nat → Bool} {held : Bool}
/-- The blocks that are there. -/
def There (W : World) : Nat → Prop := fun b => b < W.heap.size

theorem fields_rep {L : Nat} {cs : List Value} {N : Nat} (hl : cs.length = N) : ∀ (l : List Field) (o : Nat), offsOK P l o N = true →
    (∀ f ∈ l, ∃ ds, OfTz P L f.type ds ∧ repL noInj (There W) W ds ((cs.drop f.offset).take (P.cellsOf f.type)) ∧ (∀ v ∈ (cs.drop f.offset).take (P.cellsOf f.type), oneCell v = true)) →
    ∃ ds, OfTsz P L (l.map (·.type)) ds ∧ repL noInj (There W) W ds (cs.drop o) ∧ ∀ v ∈ cs.drop o, oneCell v = true
  | [], o, ho, _ => by
    simp only [offsOK, beq_iff_eq] at ho
    refine ⟨[], .nil, ?_, ?_⟩
    · simp only [repL]; exact List.drop_eq_nil_of_le (by omega)
    · rw [List.drop_eq_nil_of_le (by omega)]; intro v hv; cases hv
  | f :: r, o, ho, h => by
    simp only [offsOK, Bool.and_eq_true, beq_iff_eq] at ho
    obtain ⟨ho1, ho2⟩ := ho
    obtain ⟨a, h1, h2, h3⟩ := h f (by simp)
    obtain ⟨b, k1, k2, k3⟩ := fields_rep hl r (o + P.cellsOf f.type) ho2 fun g hg => h g (by simp [hg])
    rw [ho1] at h2 h3
    have e : cs.drop o = (cs.drop o).take (P.cellsOf f.type) ++ cs.drop (o + P.cellsOf f.type) := by
      rw [← List.drop_drop, List.take_append_drop]
    refine ⟨a ++ b, .cons _ _ _ _ h1 k1, ?_, ?_⟩
    · rw [e]; exact repL_append h2 k2
    · intro v hv
      rw [e] at hv
      rcases List.mem_append.1 hv with hv | hv
      · exact h3 v hv
      · exact k3 v hv

theorem weightsAll_mem {e : TypeId} : ∀ {ds : List (DataW H)} {d : DataW H}, d ∈ ds → ∀ n ∈ d.weights P e, n ∈ DataW.weightsAll P e ds
  | d0 :: ds, d, hd, n, hn => by
    simp only [DataW.weightsAll, List.mem_append]
    rcases List.mem_cons.1 hd with rfl | hd
    · exact .inl hn
    · exact .inr (weightsAll_mem hd n hn)
  | [], _, hd, _, _ => by cases hd
theorem rep_types {L : Nat} {S : List TypeId} (hS : typesOK P S = true) : ∀ (fuel : Nat) (t : TypeId) (cs : List Value) (x : DataW H × List MemPlace), t ∈ S → DataW.trod enc P W 0 spare held fuel t cs = some x → (∀ n ∈ x.1.weights P t, n ≤ reachBytes) → (L = 0 ∨ lens L x.1) →
    ∃ ds, OfTz P L t ds ∧ repL noInj (There W) W ds cs ∧ ∀ v ∈ cs, oneCell v = true := by
  intro fuel
  induction fuel using Nat.strongRecOn with
  | ind fuel ih =>
    intro t cs x ht h hz hL
    have hT := List.all_eq_true.1 hS t ht
    split at hT
    · rename_i hu
      obtain ⟨b, rfl, _⟩ := DataW.trod_bool hu h
      exact ⟨_, .bool t b hu, by simp [repL, rep], by simp [oneCell]⟩
    · rename_i hu
      obtain ⟨s, rfl, hx, hs⟩ := DataW.trod_string hu h
      subst hx
      have hw := hz s.size (by simp [DataW.weights])
      exact ⟨_, .str t s hu (by unfold reachBytes at hw; omega) (hL.imp_right fun q => by
        simp only [lens] at q
        have e : s.data.toList.length = s.size := by rw [Array.length_toList]; rfl
        omega), by simp [repL, rep], by simp [oneCell]⟩
    · rename_i k hu
      obtain ⟨n, rfl, _, hw⟩ := DataW.trod_int hu h
      simp only [Lit.wf, Bool.and_eq_true, decide_eq_true_eq] at hw
      exact ⟨_, .int t k n hu hw, by simp [repL, rep], by simp [oneCell]⟩
    · rename_i e hu
      simp only [Bool.and_eq_true, List.contains_iff_mem, decide_eq_true_eq] at hT
      obtain ⟨he, hpos⟩ := hT
      rcases DataW.trod_slice hu h with ⟨rfl, _⟩ | ⟨a, len, cap, elems, rest, n', hn', rfl, hx, _, hl, hm, hel, hat, _, _⟩
      · refine ⟨_, .slice t e [] hu (by simp) (.inr (Nat.zero_le _)) (.nil e), ?_, by simp [oneCell]⟩
        simp only [repL, rep]
        exact ⟨_, _, rfl, ⟨none, 0, 0, rfl, rfl, Nat.le_refl _, .inl rfl⟩, rfl⟩
      · have hx1 : x.1 = .slice (elems.map (·.1)) (rest.map (·.1)) := by rw [hx]
        rw [hx1] at hz hL
        have hLe : L = 0 ∨ (elems.length ≤ L ∧ ∀ d ∈ elems.map (·.1), lens L d) := hL.imp_right fun q => by
          simp only [lens, List.length_map] at q
          exact ⟨q.1, lensAll_mem q.2⟩
        have hw := hz ((elems.length + rest.length) * P.bytesOf e) (by simp [DataW.weights, hu])
        have hwe : ∀ d ∈ elems.map (·.1), ∀ n ∈ d.weights P e, n ≤ reachBytes := fun d hd n hn => hz n (by
          have := weightsAll_mem hd n hn
          simp [DataW.weights, hu, this])
        have each : ∀ i, i < len → ∃ ds, OfTz P L e ds ∧ ds.length = P.cellsOf e ∧ (∀ j c, ds[j]? = some c → ∃ u, W.cell? ((a.add (i * P.cellsOf e)).add j) = some u ∧ oneCell u = true ∧ rep noInj (There W) W c u) := fun i hi => by
          have hi' := hat i hi
          rw [List.getElem?_eq_getElem (by omega)] at hi'
          obtain ⟨cs', hc1, hc2⟩ := Option.bind_eq_some_iff.1 hi'
          obtain ⟨ds, q1, q2, q3⟩ := ih n' (by omega) e cs' _ he hc2 (hwe _ (List.mem_map_of_mem (List.getElem_mem _))) (hLe.imp_right fun q => q.2 _ (List.mem_map_of_mem (List.getElem_mem _)))
          obtain ⟨_, hcl, hc⟩ := World.cells?_some hc1
          have hlen := repL_len _ _ q2
          refine ⟨ds, q1, by omega, fun j c hj => ?_⟩
          have hjl : j < ds.length := by
            rcases Nat.lt_or_ge j ds.length with q | q
            · exact q
            · rw [List.getElem?_eq_none q] at hj; cases hj
          obtain ⟨v, k1, k2⟩ := repL_get _ _ j c hj q2
          exact ⟨v, by rw [hc j (by omega)]; exact k1, q3 v (List.mem_of_getElem? k1), k2⟩
        obtain ⟨R, hR⟩ : ∃ R : Nat → List D, ∀ i, i < len → OfTz P L e (R i) ∧ (R i).length = P.cellsOf e ∧ (∀ j c, (R i)[j]? = some c → ∃ u, W.cell? ((a.add (i * P.cellsOf e)).add j) = some u ∧ oneCell u = true ∧ rep noInj (There W) W c u) := by
          refine ⟨fun i => if h : i < len then Classical.choose (each i h) else [], fun i hi => ?_⟩
          simp only [dif_pos hi]
          exact Classical.choose_spec (each i hi)
        refine ⟨_, .slice t e ((List.range len).map R) hu (by
          rw [List.length_map, List.length_range]
          refine ⟨by unfold maxLen at hm; omega, Nat.le_trans (Nat.mul_le_mul_right _ ?_) hw⟩
          omega) (hLe.imp_right fun q => by
            rw [List.length_map, List.length_range]
            omega) (ofTL_get fun x hx => ?_), ?_, by simp [oneCell]⟩
        · obtain ⟨i, hi, rfl⟩ := List.mem_map.1 hx
          exact (hR i (List.mem_range.1 hi)).1
        · simp only [repL, rep]
          refine ⟨_, _, rfl, ⟨some a, len, cap, rfl, by simp, hl, ?_⟩, rfl⟩
          rcases Nat.eq_zero_or_pos len with h0 | h0
          · exact .inl h0
          · refine .inr ?_
            obtain ⟨_, g2, g3⟩ := hR 0 h0
            obtain ⟨u, hu, _⟩ := g3 0 _ (List.getElem?_eq_getElem (by omega))
            obtain ⟨b, o, sp⟩ := a
            have hsp : sp = none := by
              simp only [Addr.add, World.cell?] at hu
              split at hu
              · cases sp with
                | none => rfl
                | some q => simp at hu
              · cases hu
            subst hsp
            rw [add_at, add_at] at hu
            have hb : b < W.heap.size := World.block_lt_of_cell? _ _ hu
            refine ⟨b, o, rfl, hb, repRows_mk _ o fun i x hx => ?_⟩
            have hi : i < len := by
              rcases Nat.lt_or_ge i len with q | q
              · exact q
              · rw [List.getElem?_eq_none (by simpa using q)] at hx; cases hx
            rw [List.getElem?_map, List.getElem?_range hi] at hx
            simp at hx
            subst hx
            obtain ⟨_, w2, w3⟩ := hR i hi
            exact ⟨w2, repCells_mk _ _ fun j c hc => by
              have := w3 j c hc
              rwa [add_at, add_at] at this⟩
    · rename_i fs hu
      simp only [Bool.and_eq_true] at hT
      obtain ⟨ho, hf⟩ := hT
      obtain ⟨ys, n, hn, hx, hlen, hyl, hget⟩ := DataW.trod_struct hu h
      have hx1 : x.1 = .agg (ys.map (·.1)) := by rw [hx]
      rw [hx1] at hz hL
      obtain ⟨ds, k1, k2, k3⟩ := fields_rep (P := P) (W := W) (L := L) hlen fs.toList 0 ho fun f hmem => by
        obtain ⟨i, hi, rfl⟩ := List.mem_iff_getElem.1 hmem
        have hi' : i < fs.size := by simpa using hi
        have hg := hget i _ (Array.getElem?_eq_getElem hi')
        rw [List.getElem?_eq_getElem (by omega)] at hg
        have hin : (fs[i]).type ∈ S := by
          have := List.all_eq_true.1 hf _ hmem
          simpa using this
        have e : fs.toList[i] = fs[i] := by simp
        rw [e]
        refine ih n (by omega) _ _ _ hin hg (fun m hm => hz m ?_) (hL.imp_right fun q => by
          simp only [lens] at q
          exact lensAll_mem q _ (List.mem_map_of_mem (List.getElem_mem _)))
        have hwm := DataW.weights_mem_each (P := P) (ts := fs.toList.map (·.type)) (ds := ys.map (·.1)) (j := i) (t := (fs[i]).type) (d := (ys[i]'(by omega)).1) (by rw [List.getElem?_map, Array.getElem?_toList, Array.getElem?_eq_getElem hi']; rfl) (by rw [List.getElem?_map, List.getElem?_eq_getElem (by omega)]; rfl) m hm
        simpa [DataW.weights, hu] using hwm
      rw [List.drop_zero] at k2 k3
      exact ⟨ds, .struct t fs ds hu k1, k2, k3⟩
    · cases hT
/-- An argument of one cell. -/
theorem rep_arg {L : Nat} {S : List TypeId} (hS : typesOK P S = true) {t : TypeId} (ht : t ∈ S) {v : Value} {d : DataW H} {ps : List MemPlace} (h : DataW.Trod enc P W 0 spare held t v d ps) (hz : ∀ n ∈ d.weights P t, n ≤ reachBytes) (hL : L = 0 ∨ lens L d) : ∃ ds, OfTz P L t ds ∧ repL noInj (There W) W ds v.cells.toList ∧ ∀ u ∈ v.cells.toList, oneCell u = true := by
  obtain ⟨fuel, hf⟩ := h
  exact rep_types hS fuel t _ _ ht hf hz hL
theorem rep_cell {c : D} {v : Value} (h : repL noInj (There W) W [c] v.cells.toList) (h1 : oneCell v = true) : rep noInj (There W) W c v := by
  have : v.cells.toList = [v] := by
    cases v <;> first | rfl | simp [oneCell] at h1
  rw [this] at h
  simp only [repL] at h
  obtain ⟨u, us, e, k, _⟩ := h
  simp at e
  rw [e.1]; exact k
theorem rep_agg {cs : List D} {xs : Array Value} (h : repL noInj (There W) W cs (Value.agg xs).cells.toList) : rep noInj (There W) W (.agg cs) (.agg xs) := by
  simp only [rep]
  exact ⟨xs.toList, by simp, h⟩
end
end

/-! ### XDro -/
section
open Go.ChangeShapes Go.WideShapes Go.ChangeAt Go.RowKit Go.Deep

/-- Data of a parameter's type. -/
def OfAz (P : Program) (L : Nat) (t : TypeId) (d : D) : Prop := match P.underlying t with
  | some (.struct _) => ∃ cs, d = .agg cs ∧ OfTz P L t cs
  | _ => OfTz P L t [d]
def OfAsz (P : Program) (L : Nat) : List TypeId → List D → Prop
  | [], [] => True
  | t :: ts, d :: ds => OfAz P L t d ∧ OfAsz P L ts ds
  | _, _ => False
abbrev OfA (P : Program) := OfAz P 0
abbrev OfAs (P : Program) := OfAsz P 0

section
variable {H : Type} {enc : TypeId × Value → H} {P : Program} {W : World}
theorem ofT_one {L : Nat} {t : TypeId} {ds : List D} (hu : ∀ fs, P.underlying t ≠ some (.struct fs)) (h : OfTz P L t ds) : ∃ d, ds = [d] := by
  cases h with
  | struct => rename_i ht _; exact absurd ht (hu _)
  | _ => exact ⟨_, rfl⟩
theorem args_repL {L : Nat} {S : List TypeId} (hS : typesOK P S = true) {base : Nat} : ∀ (ts : List TypeId) (vs : List Value) (ds : List (DataW H)) (ps : List MemPlace), (∀ t ∈ ts, t ∈ S) → (∀ (j : Nat) (t : TypeId) (v : Value), ts[j]? = some t → vs[j]? = some v → Value.okWide P W .any base t v) →
    DataW.TrodAll enc P W 0 (fun _ => true) true ts vs ds ps → (∀ n ∈ DataW.weightsEach P ts ds, n ≤ reachBytes) → (L = 0 ∨ lensAll L ds) → ∃ Ds, OfAsz P L ts Ds ∧ repL noInj (There W) W Ds vs
  | [], [], [], _, _, _, _, _, _ => ⟨[], trivial, by simp only [repL]⟩
  | t :: ts, v :: vs, d :: ds, ps, hts, hval, h, hz, hL => by
    obtain ⟨p, q, h1, h2, _⟩ := h
    obtain ⟨cs, k1, k2, k3⟩ := rep_arg hS (hts t (by simp)) h1 (fun n hn => hz n (by simp [DataW.weightsEach, hn])) (hL.imp_right fun q => by simp only [lensAll] at q; exact q.1)
    obtain ⟨Ds, g1, g2⟩ := args_repL hS ts vs ds q (fun u hu => hts u (by simp [hu])) (fun j u x hj hx => hval (j + 1) u x (by simpa using hj) (by simpa using hx)) h2 (fun n hn => hz n (by simp [DataW.weightsEach, hn])) (hL.imp_right fun q => by simp only [lensAll] at q; exact q.2)
    have hv := hval 0 t v rfl rfl
    have one : ∃ c, OfAz P L t c ∧ rep noInj (There W) W c v := by
      unfold OfAz
      split
      · rename_i fs hu
        obtain ⟨xs, rfl, _⟩ := okWide_struct hu hv
        exact ⟨_, ⟨cs, rfl, k1⟩, rep_agg k2⟩
      · rename_i hu
        obtain ⟨c, rfl⟩ := ofT_one hu k1
        have h1v : v.cells.toList = [v] := by
          have hlen := repL_len _ _ k2
          cases v with
          | agg xs =>
            exfalso
            have hT := List.all_eq_true.1 hS t (hts t (by simp))
            unfold Value.okWide at hv
            split at hT
            · rename_i e; rw [e] at hv; simp [Cell.okWide, Cell.ok, e] at hv
            · rename_i e; rw [e] at hv; simp [Cell.okWide, Cell.ok, e] at hv
            · rename_i e; rw [e] at hv; simp [Cell.okWide, Cell.ok, e] at hv
            · rename_i e; rw [e] at hv; simp [Cell.okWide, Cell.ok, e] at hv
            · rename_i fs e; exact hu fs e
            · cases hT
          | _ => rfl
        refine ⟨c, k1, ?_⟩
        rw [h1v] at k2
        simp only [repL] at k2
        obtain ⟨u, us, e, k, _⟩ := k2
        simp at e
        rw [e.1]; exact k
    obtain ⟨c, c1, c2⟩ := one
    exact ⟨c :: Ds, ⟨c1, g1⟩, by simp only [repL]; exact ⟨v, vs, rfl, c2, g2⟩⟩
  | [], _ :: _, _, _, _, _, h, _, _ => by simp [DataW.TrodAll] at h
  | [], [], _ :: _, _, _, _, h, _, _ => by simp [DataW.TrodAll] at h
  | _ :: _, [], _, _, _, _, h, _, _ => by simp [DataW.TrodAll] at h
  | _ :: _, _ :: _, [], _, _, _, h, _, _ => by simp [DataW.TrodAll] at h
theorem args_rep {S : List TypeId} (hS : typesOK P S = true) {base : Nat} (ts : List TypeId) (vs : List Value) (ds : List (DataW H)) (ps : List MemPlace) (h1 : ∀ t ∈ ts, t ∈ S) (h2 : ∀ (j : Nat) (t : TypeId) (v : Value), ts[j]? = some t → vs[j]? = some v → Value.okWide P W .any base t v)
    (h3 : DataW.TrodAll enc P W 0 (fun _ => true) true ts vs ds ps) (h4 : ∀ n ∈ DataW.weightsEach P ts ds, n ≤ reachBytes) : ∃ Ds, OfAs P ts Ds ∧ repL noInj (There W) W Ds vs := args_repL hS ts vs ds ps h1 h2 h3 h4 (.inl rfl)

theorem weightsEach_pre : ∀ (ts ts' : List TypeId) (ds ds' : List (DataW H)), ts.length = ds.length → ∀ n ∈ DataW.weightsEach P ts ds, n ∈ DataW.weightsEach P (ts ++ ts') (ds ++ ds')
  | [], _, [], _, _, n, hn => by simp [DataW.weightsEach] at hn
  | t :: ts, ts', d :: ds, ds', hl, n, hn => by
    simp only [List.cons_append, DataW.weightsEach, List.mem_append] at hn ⊢
    exact hn.imp_right (weightsEach_pre ts ts' ds ds' (by simpa using hl) n)
/-- Arguments read behind the call as ahead of it. -/
theorem kept_all (hl : laidOutB P = true) {W' : World} {sp : Nat → Bool} (hb : Below W.heap.size W W') : ∀ (ts : List TypeId) (vs : List Value) (ds : List (DataW H)) (ps : List MemPlace), (∀ t ∈ ts, P.readableRec t = true ∧ t < P.types.size) →
    (∀ x ∈ ps, x.block < W.heap.size) → (∀ x ∈ ps, sp x.block = true) → DataW.TrodAll enc P W 0 (fun _ => true) true ts vs ds ps → DataW.TrodAll enc P W' 0 sp true ts vs ds ps
  | [], [], [], _, _, _, _, h => h
  | t :: ts, v :: vs, d :: ds, ps, hts, hlt, hsp, h => by
    obtain ⟨p, q, h1, h2, rfl⟩ := h
    refine ⟨p, q, WideElems.Trod_stays hl (hts t (by simp)).1 (hts t (by simp)).2 h1 (fun x hx => hb.same (hlt x (by simp [hx]))) fun x hx => hsp x (by simp [hx]), kept_all hl hb ts vs ds q (fun u hu => hts u (by simp [hu])) (fun x hx => hlt x (by simp [hx])) (fun x hx => hsp x (by simp [hx])) h2, rfl⟩
  | [], _ :: _, _, _, _, _, _, h => by simp [DataW.TrodAll] at h
  | [], [], _ :: _, _, _, _, _, h => by simp [DataW.TrodAll] at h
  | _ :: _, [], _, _, _, _, _, h => by simp [DataW.TrodAll] at h
  | _ :: _, _ :: _, [], _, _, _, _, h => by simp [DataW.TrodAll] at h
theorem trodAll_len {sp : Nat → Bool} {hd : Bool} {b : Nat} : ∀ (ts : List TypeId) (vs : List Value) (ds : List (DataW H)) (ps : List MemPlace), DataW.TrodAll enc P W b sp hd ts vs ds ps → ds.length = ts.length
  | [], [], [], _, _ => rfl
  | t :: ts, v :: vs, d :: ds, ps, h => by
    obtain ⟨p, q, _, h2, _⟩ := h
    simp [trodAll_len ts vs ds q h2]
  | [], _ :: _, _, _, h => by simp [DataW.TrodAll] at h
  | [], [], _ :: _, _, h => by simp [DataW.TrodAll] at h
  | _ :: _, [], _, _, h => by simp [DataW.TrodAll] at h
  | _ :: _, _ :: _, [], _, h => by simp [DataW.TrodAll] at h

theorem below_of_ext {F' : Nat → Prop} {W' : World} (h : Ext noInj (There W) W noInj F' W') : Below W.heap.size W W' := ⟨h.os, h.tape, h.output, h.size, fun k hk => h.block k hk (noOwns k)⟩

/-- A law's end. -/
theorem row_post {f : Func} {s : ChangeSpec} {apart fresh handsOn again : Bool} {W' : World} {args : Array Value} {ds gs : List (DataW H)} {before : List MemPlace} {tb : TypeId}
    (hW : DataW.Whole enc P f.params.toList s.vars apart W args.toList ds gs before) (hvars : s.vars = []) (hrt : f.resultTypes = #[tb]) (htb : P.underlying tb = some .bool)
    (hl : laidOutB P = true) (hr : ∀ t ∈ f.params.toList, P.readableRec t = true ∧ t < P.types.size)
    (hs : ∀ ds : List (DataW H), ds.length = f.params.toList.length → s.fn H ds = { results := [.lit (.bool true)], args := ds })
    (hb : Below W.heap.size W W') (hok : ∀ (j : Nat) (t : TypeId) (r : Value), f.resultTypes[j]? = some t → ((Value.bool true).resultList f.resultTypes.size)[j]? = some r → Value.okWide P W' .any 0 t r) :
    s.post enc P f apart fresh handsOn again W args (.bool true) W' := by
  have hlt : ∀ p ∈ before, p.block < W.heap.size := fun p hp => hW.lt p hp
  have hold : ∀ p ∈ before, (fun b => decide (b < W.heap.size)) p.block = true := fun p hp => by simpa using hlt p hp
  obtain ⟨pa, pv, hA, hV, hps, hz, hn⟩ := id hW
  rw [hvars] at hV
  have hV' : gs = [] ∧ pv = [] := by
    cases gs with
    | nil => exact ⟨rfl, hV⟩
    | cons _ _ => simp [DataW.TrodVars] at hV
  obtain ⟨rfl, rfl⟩ := hV'
  simp only [List.append_nil] at hps
  subst hps
  have hfn := hs ds (trodAll_len _ _ _ _ hA)
  have hresL : ((Value.bool true).resultList f.resultTypes.size) = [.bool true] := by rw [hrt]; rfl
  have hres : ∀ (b : Nat) (sp : Nat → Bool) (hd : Bool), DataW.TrodAll enc P W' b sp hd f.resultTypes.toList ((Value.bool true).resultList f.resultTypes.size) (s.fn H (ds ++ [])).results [] := fun b sp hd => by
    rw [List.append_nil, hfn, hrt]
    exact trodAll_cons_mk (shut_bool htb _) trodAll_mk0
  have hargs : ∀ sp : Nat → Bool, (∀ p ∈ before, sp p.block = true) → DataW.TrodAll enc P W' 0 sp true f.params.toList args.toList (s.fn H (ds ++ [])).args before := fun sp hsp => by
    rw [List.append_nil, hfn]
    exact kept_all hl hb _ _ _ _ hr hlt hsp hA
  have hvars' : ∀ sp : Nat → Bool, DataW.TrodVars enc P W' sp s.vars (s.fn H (ds ++ [])).vars [] := fun sp => by
    rw [List.append_nil, hfn, hvars]
    rfl
  refine ⟨ds, [], before, [], before, [], hW, hres _ _ _, hargs _ hold, hvars' _, World.keptBut_mono (fun p hp => ⟨hp, Or.inr (Or.inl hp)⟩) (hb.frame (· ∈ before)), fun _ => ?_⟩
  · refine ⟨hok, _, _, ([] ++ before) ++ [], ⟨[] ++ before, [], trodAll_append (hargs _ (fun _ _ => rfl)) (hres _ _ _), hvars' _, rfl, ?_, ?_⟩, ?_⟩
    · intro b off hp
      have hin : MemPlace.cell b off ∈ before := by simpa using hp
      rw [hb.frozen (hlt _ hin)]
      exact hz b off hin
    · intro ha
      have := hn ha
      simpa using this
    · intro p hp _
      simpa using hp
end
end

end Go.Proofs.YtgkodbnomgabdaaDoor
