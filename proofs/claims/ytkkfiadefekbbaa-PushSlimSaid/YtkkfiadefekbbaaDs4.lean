/-
  What an operation's reckoning says is what the machine does: slices made, structs built. No statement is proved here.
-/
import Derived.Test.YtkkfiadefekbbaaDs3
import Derived.Laws.MakeOwn
import Derived.Laws.Append
namespace Go.Proofs.Ytkkfiadefekbbaa
open Go.RowKit
set_option linter.unusedSimpArgs false
set_option linter.unusedVariables false

theorem put_fold (off : Nat) : ∀ (l : List Value) (n : Nat) (cells : Array Value), off + n + l.length ≤ cells.size →
    ((l.zipIdx n).foldl (fun (cs : Array Value) (p : Value × Nat) => cs.setIfInBounds (off + p.2) p.1) cells).size = cells.size ∧
    ∀ i, ((l.zipIdx n).foldl (fun (cs : Array Value) (p : Value × Nat) => cs.setIfInBounds (off + p.2) p.1) cells)[i]? = if off + n ≤ i ∧ i < off + n + l.length then l[i - (off + n)]? else cells[i]?
  | [], n, cells, _ => ⟨rfl, fun i => by simp; intro h1 h2; omega⟩
  | c :: r, n, cells, h => by
    simp only [List.zipIdx_cons, List.foldl_cons]
    simp only [List.length_cons] at h
    obtain ⟨k1, k2⟩ := put_fold off r (n + 1) (cells.setIfInBounds (off + n) c) (by simp; omega)
    refine ⟨by rw [k1]; simp, fun i => ?_⟩
    rw [k2]
    by_cases h1 : i = off + n
    · subst h1
      rw [if_neg (by omega), if_pos (by simp)]
      simp [Array.getElem?_setIfInBounds, show off + n < cells.size by omega]
    · by_cases h2 : off + (n + 1) ≤ i ∧ i < off + (n + 1) + r.length
      · rw [if_pos h2, if_pos (by simp; omega), show i - (off + n) = i - (off + (n + 1)) + 1 by omega, List.getElem?_cons_succ]
      · rw [if_neg h2, if_neg (by simp; omega), Array.getElem?_setIfInBounds_ne (by omega)]

theorem fill_cons (place : Nat → Option (Nat × Nat)) (cells : Array Value) (i : Nat) (v : Value) (rest : List (Nat × Value)) (off : Nat) (hp : place i = some (off, v.cells.size)) (hb : off + v.cells.size ≤ cells.size) :
    ∃ cells', Instr.fill place cells ((i, v) :: rest) = Instr.fill place cells' rest ∧ cells'.size = cells.size ∧ ∀ j, cells'[j]? = if off ≤ j ∧ j < off + v.cells.size then v.cells[j - off]? else cells[j]? := by
  obtain ⟨h1, h2⟩ := put_fold off v.cells.toList 0 cells (by simpa using hb)
  refine ⟨(v.cells.toList.zipIdx 0).foldl (fun (cs : Array Value) (p : Value × Nat) => cs.setIfInBounds (off + p.2) p.1) cells, ?_, h1, fun j => by simpa using h2 j⟩
  simp only [Instr.fill, hp]
  rw [if_neg (by simp; omega)]
  congr 1
  rw [← Array.foldl_toList, Array.toList_zipIdx]

theorem inOrder_spec : ∀ (l : List (Nat × Operand)) (k : Nat) (xs : List Operand), inOrder k l = some xs → l = (xs.zipIdx k).map fun p => (p.2, p.1)
  | [], k, xs, h => by simp [inOrder] at h; subst h; rfl
  | (i, x) :: r, k, xs, h => by
    simp only [inOrder] at h
    split at h
    · rename_i e
      cases e2 : inOrder (k + 1) r with
      | none => rw [e2] at h; cases h
      | some ys =>
        rw [e2] at h
        simp at h
        subst h; subst e
        rw [inOrder_spec r (i + 1) ys e2]
        simp
    · cases h

theorem fill_order (esz : Nat) : ∀ (vs : List Value) (k : Nat) (cells : Array Value), (∀ v ∈ vs, v.cells.size = esz) → (k + vs.length) * esz ≤ cells.size →
    ∃ cells', Instr.fill (fun i => some (i * esz, esz)) cells ((vs.zipIdx k).map fun p => (p.2, p.1)) = some cells' ∧ cells'.size = cells.size ∧ (∀ j, j < k * esz → cells'[j]? = cells[j]?) ∧
      ∀ i v j c, vs[i]? = some v → v.cells[j]? = some c → cells'[(k + i) * esz + j]? = some c
  | [], k, cells, _, _ => ⟨cells, rfl, rfl, fun _ _ => rfl, fun i v j c h => by simp at h⟩
  | v :: r, k, cells, hv, hb => by
    simp only [List.zipIdx_cons, List.map_cons]
    have hs : v.cells.size = esz := hv v (by simp)
    simp only [List.length_cons] at hb
    have hm : (k + (r.length + 1)) * esz = k * esz + esz + r.length * esz := by rw [Nat.add_mul, Nat.add_mul]; omega
    obtain ⟨c1, e1, e2, e3⟩ := fill_cons (fun i => some (i * esz, esz)) cells k v ((r.zipIdx (k + 1)).map fun p => (p.2, p.1)) (k * esz) (by rw [hs]) (by omega)
    obtain ⟨c2, f1, f2, f3, f4⟩ := fill_order esz r (k + 1) c1 (fun u hu => hv u (by simp [hu])) (by rw [e2]; rw [show k + 1 + r.length = k + (r.length + 1) by omega]; exact hb)
    refine ⟨c2, by rw [e1]; exact f1, by rw [f2, e2], fun j hj => ?_, fun i u j c hi hc => ?_⟩
    · rw [f3 j (by rw [Nat.add_mul]; omega), e3, if_neg (by omega)]
    · cases i with
      | zero =>
        simp at hi; subst hi
        have hj : j < v.cells.size := by
          rcases Nat.lt_or_ge j v.cells.size with h | h
          · exact h
          · rw [Array.getElem?_eq_none h] at hc; cases hc
        rw [Nat.add_zero, f3 _ (by rw [Nat.add_mul]; omega), e3, if_pos (by omega), show k * esz + j - k * esz = j by omega]
        exact hc
      | succ i =>
        have := f4 i u j c (by simpa using hi) hc
        rwa [show k + 1 + i = k + (i + 1) by omega] at this

/-- A slice's array that has been made. -/
theorem newVec_ok {J : Inj} {F : Nat → Prop} {w : World} {G : Nat → Option AObj} (h : StOK J F w G) (id : Nat) (hid : J id = none) {esz cap : Nat} {xs : List (List D)} {vals : Array Value} (te : TypeId)
    (hlen : xs.length ≤ cap) (hsz : cap * esz ≤ vals.size) (hx : ∀ (j : Nat) (x : List D), xs[j]? = some x → x.length = esz ∧ ∀ (k : Nat) (c : D), x[k]? = some c → ∃ u, vals[j * esz + k]? = some u ∧ oneCell u = true ∧ rep J F w c u) :
    ∃ J', StOK J' F (w.alloc (.cells vals te)) (fun i => if i = id then some (.vec true 0 esz xs) else G i) ∧ Ext J F w J' F (w.alloc (.cells vals te)) ∧
      (∀ i, i ≠ id → J' i = J i) ∧ rep J' F (w.alloc (.cells vals te)) (.own id 0 0 xs.length) (.slice (some ⟨w.heap.size, 0, none⟩) xs.length cap) := by
  have hle : J.le (fun i => if i = id then some ⟨false, 0, some ⟨w.heap.size, 0, none⟩, esz, cap, xs.length⟩ else J i) := fun i s hi => by
    have e : i ≠ id := fun e => by rw [e, hid] at hi; cases hi
    exact ⟨s, by simp [e, hi], Nat.le_refl _, fun _ => rfl⟩
  have hrows : repRows (fun i => if i = id then some ⟨false, 0, some ⟨w.heap.size, 0, none⟩, esz, cap, xs.length⟩ else J i) F (w.alloc (.cells vals te)) w.heap.size esz xs 0 := by
    refine repRows_mk _ _ fun j x hj => ?_
    obtain ⟨k1, k2⟩ := hx j x hj
    refine ⟨k1, repCells_mk _ _ fun k c hc => ?_⟩
    obtain ⟨u, q1, q0, q2⟩ := k2 k c hc
    exact ⟨u, by simp [q1], q0, rep_mono hle (fun _ h => h) (fun b hb => heap_push_lt w _ (h.lt b hb)) _ _ q2⟩
  obtain ⟨h1, h2⟩ := h.alloc id hid ⟨false, 0, some ⟨w.heap.size, 0, none⟩, esz, cap, xs.length⟩ (.vec true 0 esz xs) vals te rfl
    ⟨rfl, rfl, rfl, rfl, hlen, .inr ⟨w.heap.size, 0, vals, te, rfl, heap_alloc_new w _, by simpa using hsz, hrows, fun q => by cases q⟩⟩
  refine ⟨_, h1, h2, fun i hi => by simp [hi], ?_⟩
  simp only [rep]
  exact ⟨_, _, _, _, by simp; rfl, rfl, Nat.le_refl _, fun _ => ⟨rfl, Nat.zero_le _, Nat.le_refl _, by simp, by simp, .inr ⟨w.heap.size, 0, rfl, by simp⟩⟩⟩

section
variable {P : Program} {seq : Bool} {o : Oper} {env : Env} {H : List AObj} {K : Cont}

theorem rowsK_spec (esz : Nat) : ∀ (xs : List Operand) (K' : List (List D) → Prop), rowsK env esz xs K' → (∀ x ∈ xs, storable (evalD env x) = true ∧ esz = (evalD env x).cells.length) ∧ K' (xs.map fun x => (evalD env x).cells)
  | [], K', h => ⟨(fun _ h => by cases h), h⟩
  | x :: r, K', h => by
    simp only [rowsK, evK_eq, cellsK_iff, sameK_iff] at h
    obtain ⟨h1, h2, h3⟩ := h
    obtain ⟨h4, h5⟩ := rowsK_spec esz r _ h3
    refine ⟨fun y hy => ?_, h5⟩
    rcases List.mem_cons.1 hy with rfl | hy
    · exact ⟨h1, h2⟩
    · exact h4 y hy

theorem s_bslice {t e : TypeId} {n : Nat} {parts : Array (Nat × Operand)} {xs : List Operand} {z : Value} (ht : P.underlying t = some (.slice e)) (hz : (P.info? e).bind (·.zero) = some z) (h24 : n * P.cellsOf e ≤ 16777216) (hpos : 0 < P.cellsOf e)
    (hxs : inOrder 0 parts.toList = some xs) (ho : o.op = .buildSlice t n parts) (h : step P seq (.bslice (P.cellsOf e) n xs) env H K) : Sound P o env H K := by
  simp only [step] at h
  obtain ⟨h1, h23⟩ := rowsK_spec _ _ _ h
  rw [sameK_iff] at h23
  obtain ⟨h2, h3⟩ := h23
  rw [hpushK_iff] at h3
  simp only [List.length_map] at h2
  obtain ⟨ei, hi1, hi2⟩ := info_of_cells (e := e) (P := P) (by omega)
  subst h2
  refine sound_new h3 fun J F w a G hok hops hrd hn => ?_
  have hparts := inOrder_spec _ _ _ hxs
  have hmem : ∀ x ∈ xs, x ∈ o.op.operands := fun x hx => by
    simp only [ho, Op.operands]
    simp only [List.mem_toArray, List.mem_map]
    obtain ⟨j, hj, e⟩ := List.mem_iff_getElem.1 hx
    refine ⟨(j, x), ?_, rfl⟩
    rw [hparts]
    refine List.mem_map.2 ⟨(x, j), ?_, rfl⟩
    rw [List.mem_zipIdx_iff_getElem?]
    simp [hj, e]
  have hcs : ∀ v ∈ xs.map a.eval, v.cells.size = P.cellsOf e := fun v hv => by
    obtain ⟨x, hx, rfl⟩ := List.mem_map.1 hv
    have := repL_len _ _ (cells_rep (h1 x hx).1 (hops x (hmem x hx))).1
    rw [(h1 x hx).2, ← this]; simp
  let zc : Array Value := (Array.range (xs.length * P.cellsOf e)).map (z.cells[· % z.cells.size]!)
  obtain ⟨c', f1, f2, _, f4⟩ := fill_order (P.cellsOf e) (xs.map a.eval) 0 zc hcs (by simp [zc])
  have hrun : (execOp a.eval o).run P w = .ok (.value (.slice (some ⟨w.heap.size, 0, none⟩) xs.length xs.length)) (w.alloc (.cells c' e)) := by
    have e1 : (parts.map fun (i, x) => (i, a.eval x)).toList = ((xs.map a.eval).zipIdx 0).map fun p => (p.2, p.1) := by
      rw [Array.toList_map, hparts, List.map_map, List.zipIdx_map, List.map_map]
      rfl
    by_cases hx0 : xs.length * P.cellsOf e = 0
    · have hx : xs = [] := by
        rcases Nat.mul_eq_zero.1 hx0 with h | h
        · exact List.length_eq_zero_iff.1 h
        · omega
      subst hx
      simp only [List.map_nil, List.zipIdx_nil, List.length_nil] at e1 f1 ⊢
      have hzc : zc = #[] := by simp [zc]
      rw [hzc] at f1
      simp [Instr.fill] at f1
      subst f1
      have hp : parts = #[] := Array.ext' (by rw [hparts]; rfl)
      subst hp
      simp [execOp, ho, Instr.buildSlice, underlying, program, Sem.run, ht, pure, run_sizeOf' hi1, hi2, Instr.fill, newRow, newObj]
      congr 2
      apply Array.ext'
      simp
    · have hz' : ¬ (xs.length * P.cellsOf e > 2 ^ 24) := by omega
      simp only [execOp, ho, Instr.buildSlice, underlying, program, Sem.run_bind, Sem.run, ht, pure, Result.andThen_ok, run_sizeOf' hi1, hi2, if_neg hz', if_neg hx0, run_zeroValue hz, e1]
      rw [show (Array.map (fun x => z.cells[x % z.cells.size]!) (Array.range (xs.length * P.cellsOf e))) = zc from rfl, f1]
      simp [newRow, newObj, Sem.run, pure]
  obtain ⟨J', k1, k2, k3, k4⟩ := newVec_ok (esz := P.cellsOf e) (cap := xs.length) (xs := xs.map fun x => (evalD env x).cells) (vals := c') hok H.length hn e (by simp) (by rw [f2]; simp [zc]) fun j x hj => by
    rw [List.getElem?_map] at hj
    cases ej : xs[j]? with
    | none => rw [ej] at hj; cases hj
    | some y =>
      rw [ej] at hj
      simp at hj; subst hj
      have hy := List.mem_of_getElem? ej
      refine ⟨(h1 y hy).2.symm, fun k c hc => ?_⟩
      obtain ⟨q1, q0⟩ := cells_rep (h1 y hy).1 (hops y (hmem y hy))
      obtain ⟨u, q2, q3⟩ := repL_get _ _ _ _ hc q1
      refine ⟨u, ?_, q0 u (List.mem_of_getElem? q2), q3⟩
      have := f4 j (a.eval y) k u (by simp [ej]) (by simpa using q2)
      simpa using this
  simp only [List.length_map] at k4
  exact ⟨_, _, J', F, hrun, k4, k1, k2, k3⟩

theorem s_mslice {t e : TypeId} {l c : Operand} {z : Value} (ht : P.underlying t = some (.slice e)) (hz : (P.info? e).bind (·.zero) = some z) (hzs : z.cells.size = P.cellsOf e) (hpos : 0 < P.cellsOf e) (hbp : 0 < P.bytesOf e) (hone : z.cells.toList.all oneCell = true)
    (ho : o.op = .makeSlice t l c) (h : step P seq (.mslice (P.cellsOf e) (P.bytesOf e) z.cells.toList l c) env H K) : Sound P o env H K := by
  simp only [step, evK_eq] at h
  obtain ⟨ei, hi1, hi2⟩ := info_of_cells (e := e) (P := P) (by omega)
  have hi3 : ei.bytes = P.bytesOf e := by simp [Program.bytesOf, hi1]
  split at h
  · rename_i nl nc e1 e2
    obtain ⟨h0, h1, h2, h3⟩ := h
    rw [hpushK_iff] at h3
    refine sound_new h3 fun J F w a G hok hops hrd hn => ?_
    have k1 := hops l (by simp [ho, Op.operands])
    have k2 := hops c (by simp [ho, Op.operands])
    rw [e1] at k1; rw [e2] at k2
    simp only [rep] at k1 k2
    have hz' : ei.zero = some z := by simpa [hi1] using hz
    have hb : (ei.bytes : Int) * nc ≤ 281474976710656 := by rw [hi3, Int.mul_comm]; omega
    have hbig : nc ≤ 9223372036854775807 := by
      have : nc * 1 ≤ nc * (P.bytesOf e : Int) := Int.mul_le_mul_of_nonneg_left (by omega) (by omega)
      omega
    · have run := run_make (P := P) w t e ei z ht hi1 hz' .i64 .i64 nl nc h0 h1 hb hbig
      obtain ⟨J', q1, q2, q3, q4⟩ := newVec_ok (esz := P.cellsOf e) (cap := nc.toNat) (xs := List.replicate nl.toNat (z.cells.toList.map .sc)) (vals := madeCells z.cells (nc.toNat * ei.size)) hok H.length hn e (by simp; omega) (by simp [madeCells, hi2]) fun j x hj => by
        rw [List.getElem?_replicate] at hj
        split at hj
        · rename_i hjl
          cases hj
          refine ⟨by simp [hzs], fun k c hc => ?_⟩
          rw [List.getElem?_map] at hc
          cases ek : z.cells.toList[k]? with
          | none => rw [ek] at hc; cases hc
          | some u =>
            rw [ek] at hc
            cases hc
            have hk : k < P.cellsOf e := by
              have : k < z.cells.toList.length := by
                rcases Nat.lt_or_ge k z.cells.toList.length with h | h
                · exact h
                · rw [List.getElem?_eq_none h] at ek; cases ek
              rw [← hzs]; simpa using this
            refine ⟨u, ?_, List.all_eq_true.1 hone u (List.mem_of_getElem? ek), by simp only [rep]⟩
            have hlt : j * P.cellsOf e + k < nc.toNat * ei.size := by
              rw [hi2]
              have : (j + 1) * P.cellsOf e ≤ nc.toNat * P.cellsOf e := Nat.mul_le_mul_right _ (by omega)
              rw [Nat.add_mul] at this; omega
            have hm : (j * P.cellsOf e + k) % z.cells.size = k := by rw [hzs, Nat.mul_comm, Nat.mul_add_mod]; exact Nat.mod_eq_of_lt hk
            have hks : k < z.cells.size := by rw [hzs]; exact hk
            have ek' : z.cells[k] = u := by
              rw [Array.getElem?_toList] at ek
              simpa [Array.getElem?_eq_getElem hks] using ek
            simp only [madeCells, Array.getElem?_map]
            rw [Array.getElem?_eq_getElem (by simpa using hlt)]
            simp [hm, hks, ek']
        · cases hj
      simp only [List.length_replicate] at q4
      have e3 : nl.toNat ≤ nc.toNat := by omega
      refine ⟨_, _, J', F, ?_, q4, q1, q2, q3⟩
      simp [execOp, ho, k1, k2, run, Sem.run, pure]
  · exact h.elim
end
end Go.Proofs.Ytkkfiadefekbbaa
