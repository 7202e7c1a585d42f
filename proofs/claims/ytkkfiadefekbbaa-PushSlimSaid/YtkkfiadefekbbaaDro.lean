/-
  A law's row over deep values: from a contract of data to the given statement. No statement is proved here.
-/
import Derived.Test.YtkkfiadefekbbaaDfr
import Derived.ProofKit
import Derived.OpenShut
import Derived.ShutString
import Derived.ChangeSame
import Derived.Deep.Slices
import Derived.Deep.Fields
import Derived.Lib.SmallJoins
namespace Go.Proofs.Ytkkfiadefekbbaa
open Go.ChangeShapes Go.WideShapes Go.ChangeAt Go.RowKit Go.Deep

/-- Data of a parameter's type. -/
def OfA (P : Program) (t : TypeId) (d : D) : Prop := match P.underlying t with
  | some (.struct _) => ∃ cs, d = .agg cs ∧ OfT P t cs
  | _ => OfT P t [d]
def OfAs (P : Program) : List TypeId → List D → Prop
  | [], [] => True
  | t :: ts, d :: ds => OfA P t d ∧ OfAs P ts ds
  | _, _ => False

section
variable {H : Type} {enc : TypeId × Value → H} {P : Program} {W : World}
theorem ofT_one {t : TypeId} {ds : List D} (hu : ∀ fs, P.underlying t ≠ some (.struct fs)) (h : OfT P t ds) : ∃ d, ds = [d] := by
  cases h with
  | struct => rename_i ht _; exact absurd ht (hu _)
  | _ => exact ⟨_, rfl⟩
theorem args_rep {S : List TypeId} (hS : typesOK P S = true) {base : Nat} : ∀ (ts : List TypeId) (vs : List Value) (ds : List (DataW H)) (ps : List MemPlace), (∀ t ∈ ts, t ∈ S) → (∀ (j : Nat) (t : TypeId) (v : Value), ts[j]? = some t → vs[j]? = some v → Value.okWide P W .any base t v) →
    DataW.TrodAll enc P W 0 (fun _ => true) true ts vs ds ps → ∃ Ds, OfAs P ts Ds ∧ repL noInj (There W) W Ds vs
  | [], [], [], _, _, _, _ => ⟨[], trivial, by simp only [repL]⟩
  | t :: ts, v :: vs, d :: ds, ps, hts, hval, h => by
    obtain ⟨p, q, h1, h2, _⟩ := h
    obtain ⟨cs, k1, k2, k3⟩ := rep_arg hS (hts t (by simp)) h1
    obtain ⟨Ds, g1, g2⟩ := args_rep hS ts vs ds q (fun u hu => hts u (by simp [hu])) (fun j u x hj hx => hval (j + 1) u x (by simpa using hj) (by simpa using hx)) h2
    have hv := hval 0 t v rfl rfl
    have one : ∃ c, OfA P t c ∧ rep noInj (There W) W c v := by
      unfold OfA
      split
      · rename_i fs hu
        obtain ⟨xs, rfl, _⟩ := okWide_struct hu hv
        exact ⟨_, ⟨cs, rfl, k1⟩, rep_agg k2⟩
      · rename_i hu
        obtain ⟨c, rfl⟩ := ofT_one hu k1
        have h1v : v.cells.toList = [v] := by
          have hlen := repL_len _ _ k2
          cases v with
          | agg xs =>
            exfalso
            have hT := List.all_eq_true.1 hS t (hts t (by simp))
            unfold Value.okWide at hv
            split at hT
            · rename_i e; rw [e] at hv; simp [Cell.okWide, Cell.ok, e] at hv
            · rename_i e; rw [e] at hv; simp [Cell.okWide, Cell.ok, e] at hv
            · rename_i e; rw [e] at hv; simp [Cell.okWide, Cell.ok, e] at hv
            · rename_i e; rw [e] at hv; simp [Cell.okWide, Cell.ok, e] at hv
            · rename_i fs e; exact hu fs e
            · cases hT
          | _ => rfl
        refine ⟨c, k1, ?_⟩
        rw [h1v] at k2
        simp only [repL] at k2
        obtain ⟨u, us, e, k, _⟩ := k2
        simp at e
        rw [e.1]; exact k
    obtain ⟨c, c1, c2⟩ := one
    exact ⟨c :: Ds, ⟨c1, g1⟩, by simp only [repL]; exact ⟨v, vs, rfl, c2, g2⟩⟩
  | [], _ :: _, _, _, _, _, h => by simp [DataW.TrodAll] at h
  | [], [], _ :: _, _, _, _, h => by simp [DataW.TrodAll] at h
  | _ :: _, [], _, _, _, _, h => by simp [DataW.TrodAll] at h
  | _ :: _, _ :: _, [], _, _, _, h => by simp [DataW.TrodAll] at h

/-- Arguments read behind the call as ahead of it. -/
theorem kept_all (hl : laidOutB P = true) {W' : World} {sp : Nat → Bool} (hb : Below W.heap.size W W') : ∀ (ts : List TypeId) (vs : List Value) (ds : List (DataW H)) (ps : List MemPlace), (∀ t ∈ ts, P.readableRec t = true ∧ t < P.types.size) →
    (∀ x ∈ ps, x.block < W.heap.size) → (∀ x ∈ ps, sp x.block = true) → DataW.TrodAll enc P W 0 (fun _ => true) true ts vs ds ps → DataW.TrodAll enc P W' 0 sp true ts vs ds ps
  | [], [], [], _, _, _, _, h => h
  | t :: ts, v :: vs, d :: ds, ps, hts, hlt, hsp, h => by
    obtain ⟨p, q, h1, h2, rfl⟩ := h
    refine ⟨p, q, WideElems.Trod_stays hl (hts t (by simp)).1 (hts t (by simp)).2 h1 (fun x hx => hb.same (hlt x (by simp [hx]))) fun x hx => hsp x (by simp [hx]), kept_all hl hb ts vs ds q (fun u hu => hts u (by simp [hu])) (fun x hx => hlt x (by simp [hx])) (fun x hx => hsp x (by simp [hx])) h2, rfl⟩
  | [], _ :: _, _, _, _, _, _, h => by simp [DataW.TrodAll] at h
  | [], [], _ :: _, _, _, _, _, h => by simp [DataW.TrodAll] at h
  | _ :: _, [], _, _, _, _, _, h => by simp [DataW.TrodAll] at h
  | _ :: _, _ :: _, [], _, _, _, _, h => by simp [DataW.TrodAll] at h
theorem trodAll_len {sp : Nat → Bool} {hd : Bool} {b : Nat} : ∀ (ts : List TypeId) (vs : List Value) (ds : List (DataW H)) (ps : List MemPlace), DataW.TrodAll enc P W b sp hd ts vs ds ps → ds.length = ts.length
  | [], [], [], _, _ => rfl
  | t :: ts, v :: vs, d :: ds, ps, h => by
    obtain ⟨p, q, _, h2, _⟩ := h
    simp [trodAll_len ts vs ds q h2]
  | [], _ :: _, _, _, h => by simp [DataW.TrodAll] at h
  | [], [], _ :: _, _, h => by simp [DataW.TrodAll] at h
  | _ :: _, [], _, _, h => by simp [DataW.TrodAll] at h
  | _ :: _, _ :: _, [], _, h => by simp [DataW.TrodAll] at h

theorem below_of_ext {F' : Nat → Prop} {W' : World} (h : Ext noInj (There W) W noInj F' W') : Below W.heap.size W W' := ⟨h.os, h.tape, h.output, h.size, fun k hk => h.block k hk (noOwns k)⟩

/-- A law's end. -/
theorem row_post {f : Func} {s : ChangeSpec} {apart fresh handsOn again : Bool} {W' : World} {args : Array Value} {ds gs : List (DataW H)} {before : List MemPlace} {tb : TypeId}
    (hW : DataW.Whole enc P f.params.toList s.vars apart W args.toList ds gs before) (hvars : s.vars = []) (hrt : f.resultTypes = #[tb]) (htb : P.underlying tb = some .bool)
    (hl : laidOutB P = true) (hr : ∀ t ∈ f.params.toList, P.readableRec t = true ∧ t < P.types.size)
    (hs : ∀ ds : List (DataW H), ds.length = f.params.toList.length → s.fn H ds = { results := [.lit (.bool true)], args := ds })
    (hb : Below W.heap.size W W') (hok : ∀ (j : Nat) (t : TypeId) (r : Value), f.resultTypes[j]? = some t → ((Value.bool true).resultList f.resultTypes.size)[j]? = some r → Value.okWide P W' .any 0 t r) :
    s.post enc P f apart fresh handsOn again W args (.bool true) W' := by
  have hlt : ∀ p ∈ before, p.block < W.heap.size := fun p hp => hW.lt p hp
  have hold : ∀ p ∈ before, (fun b => decide (b < W.heap.size)) p.block = true := fun p hp => by simpa using hlt p hp
  obtain ⟨pa, pv, hA, hV, hps, hz, hn⟩ := id hW
  rw [hvars] at hV
  have hV' : gs = [] ∧ pv = [] := by
    cases gs with
    | nil => exact ⟨rfl, hV⟩
    | cons _ _ => simp [DataW.TrodVars] at hV
  obtain ⟨rfl, rfl⟩ := hV'
  simp only [List.append_nil] at hps
  subst hps
  have hfn := hs ds (trodAll_len _ _ _ _ hA)
  have hresL : ((Value.bool true).resultList f.resultTypes.size) = [.bool true] := by rw [hrt]; rfl
  have hres : ∀ (b : Nat) (sp : Nat → Bool) (hd : Bool), DataW.TrodAll enc P W' b sp hd f.resultTypes.toList ((Value.bool true).resultList f.resultTypes.size) (s.fn H (ds ++ [])).results [] := fun b sp hd => by
    rw [List.append_nil, hfn, hrt]
    exact trodAll_cons_mk (shut_bool htb _) trodAll_mk0
  have hargs : ∀ sp : Nat → Bool, (∀ p ∈ before, sp p.block = true) → DataW.TrodAll enc P W' 0 sp true f.params.toList args.toList (s.fn H (ds ++ [])).args before := fun sp hsp => by
    rw [List.append_nil, hfn]
    exact kept_all hl hb _ _ _ _ hr hlt hsp hA
  have hvars' : ∀ sp : Nat → Bool, DataW.TrodVars enc P W' sp s.vars (s.fn H (ds ++ [])).vars [] := fun sp => by
    rw [List.append_nil, hfn, hvars]
    rfl
  refine ⟨ds, [], before, [], before, [], hW, hres _ _ _, hargs _ hold, hvars' _, World.keptBut_mono (fun p hp => ⟨hp, Or.inr (Or.inl hp)⟩) (hb.frame (· ∈ before)), fun _ => ?_⟩
  · refine ⟨hok, _, _, ([] ++ before) ++ [], ⟨[] ++ before, [], trodAll_append (hargs _ (fun _ _ => rfl)) (hres _ _ _), hvars' _, rfl, ?_, ?_⟩, ?_⟩
    · intro b off hp
      have hin : MemPlace.cell b off ∈ before := by simpa using hp
      rw [hb.frozen (hlt _ hin)]
      exact hz b off hin
    · intro ha
      have := hn ha
      simpa using this
    · intro p hp _
      simpa using hp
end
end Go.Proofs.Ytkkfiadefekbbaa
