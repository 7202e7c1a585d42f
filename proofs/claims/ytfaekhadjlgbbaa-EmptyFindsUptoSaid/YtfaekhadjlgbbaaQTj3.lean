/-
  The parts of a graph: the program's begin and close, over deep values. No statement is proved here.
-/
import Derived.Test.YtfaekhadjlgbbaaQTj2
import Derived.Test.YtfaekhadjlgbbaaQSc2
import Derived.Test.YtfaekhadjlgbbaaQGl
namespace Go.Proofs.Ytfaekhadjlgbbaa
open Go.RowKit
set_option linter.unusedSimpArgs false
set_option linter.unusedVariables false
/-- Numbers by place. -/
def gn (f : Nat → Nat) : Nat → Int := fun i => (f i : Int)
def theap (g : List (List Int)) (num low : Nat → Nat) (part : Nat → Int) (Z : List Int) (h ver count got : Nat) : List AObj :=
  [.vec true 0 1 (i64s (gl g.length (gn num))), .vec true 0 1 (i64s (gl g.length (gn low))), .vec true 0 1 (i64s (gl g.length part)), .row true [dgrid g, .own 0 0 0 g.length, .own 1 0 0 g.length, .own 2 0 0 g.length, .own 4 ver 0 h, .sc (.int .i64 count), .sc (.int .i64 got)], .vec true ver 1 (i64s Z)]
theorem under_theap {g : List (List Int)} {num low : Nat → Nat} {part : Nat → Int} {Z : List Int} {h ver count got : Nat} : ∀ o ∈ theap g num low part Z h ver count got, o.under 5 := by
  intro o ho
  simp only [theap, List.mem_cons, List.not_mem_nil, or_false] at ho
  rcases ho with rfl | rfl | rfl | rfl | rfl <;> simp [AObj.under, UnderL, Under, under_pure _ (pure_dgrid g)]
theorem gn_up (f : Nat → Nat) (k v : Nat) : putA (gn f) k (v : Int) = gn (up f k v) := by
  funext i
  unfold putA gn up
  split <;> rfl
theorem i64s_app {Z : List Int} {h : Nat} {x : Int} : List.drop 0 (List.take h (i64s Z)) ++ List.drop 0 (List.take 1 [[D.sc (.int .i64 x)]]) = i64s (Z.take h ++ [x]) := by simp [i64s, List.map_take]
def c129 : PC := .seq (.ops [⟨some 4,.move (.tmp 0),none,0⟩,
 ⟨some 5,.nilchk (.tmp 4),none,0⟩,
 ⟨some 6,.faddr 5 (.tmp 5),none,0⟩,
 ⟨some 7,.load1 (.tmp 6),none,0⟩,
 ⟨some 8,.bin .add (.tmp 7) (.const (.int .i64 1)),none,0⟩,
 ⟨some 9,.nilchk (.tmp 4),none,0⟩,
 ⟨some 10,.faddr 5 (.tmp 9),none,0⟩,
 ⟨none,.store 1 (.tmp 10) (.tmp 8),none,0⟩] false) (.seq (.ops [⟨some 11,.move (.tmp 0),none,0⟩,
 ⟨some 12,.nilchk (.tmp 11),none,1⟩,
 ⟨some 13,.faddr 1 (.tmp 12),none,3⟩,
 ⟨some 14,.load1 (.tmp 13),none,7⟩,
 ⟨some 15,.move (.tmp 1),none,0⟩,
 ⟨some 16,.move (.tmp 0),none,0⟩,
 ⟨some 17,.nilchk (.tmp 16),none,32⟩,
 ⟨some 18,.faddr 2 (.tmp 17),none,96⟩,
 ⟨some 19,.load1 (.tmp 18),none,224⟩,
 ⟨some 20,.move (.tmp 1),none,0⟩,
 ⟨some 21,.move (.tmp 0),none,0⟩,
 ⟨some 22,.nilchk (.tmp 21),none,1024⟩,
 ⟨some 23,.faddr 5 (.tmp 22),none,3072⟩,
 ⟨some 24,.load1 (.tmp 23),none,7168⟩,
 ⟨some 25,.move (.tmp 0),none,0⟩,
 ⟨some 26,.nilchk (.tmp 25),none,16384⟩,
 ⟨some 27,.faddr 5 (.tmp 26),none,49152⟩,
 ⟨some 28,.load1 (.tmp 27),none,114688⟩,
 ⟨some 29,.iaddr 1 (.tmp 14) (.tmp 15),none,261631⟩,
 ⟨none,.store 1 (.tmp 29) (.tmp 24),none,523775⟩,
 ⟨some 30,.iaddr 1 (.tmp 19) (.tmp 20),none,1048575⟩,
 ⟨none,.store 1 (.tmp 30) (.tmp 28),none,2097151⟩] true) (.ops [⟨some 31,.move (.tmp 0),none,0⟩,
 ⟨some 32,.move (.tmp 0),none,0⟩,
 ⟨some 33,.nilchk (.tmp 32),none,0⟩,
 ⟨some 34,.faddr 4 (.tmp 33),none,0⟩,
 ⟨some 35,.load1 (.tmp 34),none,0⟩,
 ⟨some 36,.move (.tmp 1),none,0⟩,
 ⟨some 37,.bslice 1 1 [(.tmp 36)],none,0⟩,
 ⟨some 38,.append 1 8 (.tmp 35) (.tmp 37),none,0⟩,
 ⟨some 39,.nilchk (.tmp 31),none,0⟩,
 ⟨some 40,.faddr 4 (.tmp 39),none,0⟩,
 ⟨none,.store 1 (.tmp 40) (.tmp 38),none,0⟩] false))
set_option maxRecDepth 100000 in
theorem c129_ok : FunOK Try.prog 129 41 [] c129 := ⟨⟨Try.f129, Try.func129, rfl, by kernel_rfl, rfl, by kernel_rfl⟩⟩
set_option maxRecDepth 100000 in
theorem tj_begin (g : List (List Int)) (hn : g.length ≤ 1000000000) (num low : Nat → Nat) (part : Nat → Int) (Z : List Int) (h ver count got : Nat) (hh : h ≤ Z.length) (hh' : h ≤ 1000000000) (hc : count ≤ 1000000000) (v : Nat) (hv : v < g.length) :
    ACall Try.prog 129 [.loc 3 0, .sc (.int .i64 v)] (theap g num low part Z h ver count got) (.tup []) (theap g (up num v (count + 1)) (up low v (count + 1)) part (Z.take h ++ [(v : Int)]) (h + 1) (ver + 1) (count + 1) got) := by
  refine acall_intro c129_ok (by simp) (by simp [theap]) ?_ (by simp [Under, UnderL]) under_theap
  unfold theap
  (apply rd_sound; focus (repeat' constructor))
  ((conv=>whnf);repeat(refine .intro rfl ?_;conv=>whnf))
  (refine .inl ⟨by (unfold InR; rw [IntKind.wrap_i64]; omega), ?_⟩; ((conv=>whnf);repeat(refine .intro rfl ?_;conv=>whnf)))
  (refine ⟨by omega, (by first | omega | (simp; done) | (simp; omega) | (simp only [ll]; omega)), ?_⟩; ((conv=>whnf);repeat(refine .intro rfl ?_;conv=>whnf)))
  refine ⟨_, gl_atN v (by omega) hv, ?_⟩
  ((conv=>whnf);repeat(refine .intro rfl ?_;conv=>whnf))
  (refine ⟨by omega, (by first | omega | (simp; done) | (simp; omega) | (simp only [ll]; omega)), ?_⟩; ((conv=>whnf);repeat(refine .intro rfl ?_;conv=>whnf)))
  refine ⟨_, gl_atN v (by omega) hv, ?_⟩
  ((conv=>whnf);repeat(refine .intro rfl ?_;conv=>whnf))
  refine ⟨(by unfold sliceAppend; simp only [ll]; omega), ?_⟩
  ((conv=>whnf);repeat(refine .intro rfl ?_;conv=>whnf))
  refine ⟨?_, by simp⟩
  rw [show (count : Int) + 1 = ((count + 1 : Nat) : Int) from rfl, gl_set (k := v) (by omega), gl_set (k := v) (by omega), gn_up, gn_up, i64s_app]
  rfl
/-! ### close -/
/-- What is closed after so many. -/
def cutP (part : Nat → Int) (st : List Nat) (got : Nat) : Nat → Int := fun v => if v ∈ st then (got : Int) else part v
theorem cutP_nil (part : Nat → Int) (got : Nat) : cutP part [] got = part := by funext v; simp [cutP]
theorem cutP_snoc (part : Nat → Int) (st : List Nat) (got k : Nat) : putA (cutP part st got) k (got : Int) = cutP part (st ++ [k]) got := by
  funext i
  unfold putA cutP
  by_cases e : i = k
  · subst e; simp
  · simp [e]
def c130_1 : PC := .block 1 (.seq (.ops [⟨some 5,.move (.tmp 0),none,0⟩,
 ⟨some 6,.nilchk (.tmp 5),none,1⟩,
 ⟨some 7,.faddr 4 (.tmp 6),none,3⟩,
 ⟨some 8,.load1 (.tmp 7),none,7⟩,
 ⟨some 9,.move (.tmp 0),none,0⟩,
 ⟨some 10,.nilchk (.tmp 9),none,16⟩,
 ⟨some 11,.faddr 4 (.tmp 10),none,48⟩,
 ⟨some 12,.load1 (.tmp 11),none,112⟩,
 ⟨some 13,.len (.tmp 12),none,240⟩,
 ⟨some 14,.bin .sub (.tmp 13) (.const (.int .i64 1)),none,496⟩,
 ⟨some 15,.iaddr 1 (.tmp 8) (.tmp 14),none,1023⟩,
 ⟨some 16,.load1 (.tmp 15),none,2047⟩,
 ⟨some 4,.move (.tmp 16),none,4095⟩] true) (.seq (.ops [⟨some 17,.move (.tmp 0),none,0⟩,
 ⟨some 18,.move (.tmp 0),none,0⟩,
 ⟨some 19,.nilchk (.tmp 18),none,2⟩,
 ⟨some 20,.faddr 4 (.tmp 19),none,6⟩,
 ⟨some 21,.load1 (.tmp 20),none,14⟩,
 ⟨some 22,.move (.tmp 0),none,0⟩,
 ⟨some 23,.nilchk (.tmp 22),none,32⟩,
 ⟨some 24,.faddr 4 (.tmp 23),none,96⟩,
 ⟨some 25,.load1 (.tmp 24),none,224⟩,
 ⟨some 26,.len (.tmp 25),none,480⟩,
 ⟨some 27,.bin .sub (.tmp 26) (.const (.int .i64 1)),none,992⟩,
 ⟨some 28,.slc 1 (.tmp 21) none (some (.tmp 27)) none,none,2046⟩,
 ⟨some 29,.nilchk (.tmp 17),none,4095⟩,
 ⟨some 30,.faddr 4 (.tmp 29),none,8191⟩,
 ⟨none,.store 1 (.tmp 30) (.tmp 28),none,16383⟩] true) (.seq (.ops [⟨some 31,.move (.tmp 0),none,0⟩,
 ⟨some 32,.nilchk (.tmp 31),none,1⟩,
 ⟨some 33,.faddr 3 (.tmp 32),none,3⟩,
 ⟨some 34,.load1 (.tmp 33),none,7⟩,
 ⟨some 35,.move (.tmp 4),none,0⟩,
 ⟨some 36,.move (.tmp 0),none,0⟩,
 ⟨some 37,.nilchk (.tmp 36),none,32⟩,
 ⟨some 38,.faddr 6 (.tmp 37),none,96⟩,
 ⟨some 39,.load1 (.tmp 38),none,224⟩,
 ⟨some 40,.iaddr 1 (.tmp 34) (.tmp 35),none,511⟩,
 ⟨none,.store 1 (.tmp 40) (.tmp 39),none,1023⟩] true) (.seq (.ops [⟨some 41,.move (.tmp 4),none,0⟩,
 ⟨some 42,.move (.tmp 1),none,0⟩,
 ⟨some 43,.bin .eql (.tmp 41) (.tmp 42),none,0⟩] false) (.cond (.tmp 43) (.exit 0) (.skip))))))
def c130 : PC := .seq (.block 0 (.loop c130_1)) (.ops [⟨some 44,.move (.tmp 0),none,0⟩,
 ⟨some 45,.nilchk (.tmp 44),none,0⟩,
 ⟨some 46,.faddr 6 (.tmp 45),none,0⟩,
 ⟨some 47,.load1 (.tmp 46),none,0⟩,
 ⟨some 48,.bin .add (.tmp 47) (.const (.int .i64 1)),none,0⟩,
 ⟨some 49,.nilchk (.tmp 44),none,0⟩,
 ⟨some 50,.faddr 6 (.tmp 49),none,0⟩,
 ⟨none,.store 1 (.tmp 50) (.tmp 48),none,0⟩] false)
set_option maxRecDepth 100000 in
theorem c130_ok : FunOK Try.prog 130 51 [] c130 := ⟨⟨Try.f130, Try.func130, rfl, by kernel_rfl, rfl, by kernel_rfl⟩⟩
set_option maxRecDepth 100000 in
theorem tj_close (g : List (List Int)) (hn : g.length ≤ 1000000000) (num low : Nat → Nat) (part : Nat → Int) (Z : List Int) (pre post : List Nat) (n : Nat) (ver count got : Nat) (hh : (pre ++ n :: post).length ≤ Z.length) (hh' : (pre ++ n :: post).length ≤ 1000000000) (hg : got ≤ 1000000000)
    (hZ : ∀ j, j < (pre ++ n :: post).length → Z.getD ((pre ++ n :: post).length - 1 - j) 0 = (((pre ++ n :: post).getD j 0 : Nat) : Int)) (hst : ∀ v ∈ pre ++ n :: post, v < g.length) (hp : n ∉ pre) :
    ACall Try.prog 130 [.loc 3 0, .sc (.int .i64 n)] (theap g num low part Z (pre ++ n :: post).length ver count got) (.tup []) (theap g num low (cutP part (pre ++ [n]) got) Z post.length ver count (got + 1)) := by
  refine acall_intro c130_ok (by simp) (by simp [theap]) ?_ (by simp [Under, UnderL]) under_theap
  (apply rd_sound; focus (repeat' constructor))
  generalize hst0 : pre ++ n :: post = st at *
  refine pwp_forH [0, 1] (fun _ : Nat => []) (fun j => theap g num low (cutP part (st.take j) got) Z (st.length - j) ver count got)
    (fun j => j ≤ pre.length) (fun j => pre.length - j) 0 ?_
  ((conv=>whnf);repeat(refine .intro rfl ?_;conv=>whnf))
  refine ⟨by omega, by (repeat' (first | exact trivial | refine And.intro rfl ?_)), by rw [List.take_zero, cutP_nil]; rfl, ?_⟩
  rintro j hj
  have hlen : st.length = pre.length + post.length + 1 := by rw [← hst0]; simp; omega
  have hkz := hZ j (by omega)
  have hks : st.getD j 0 ∈ st := by rw [List.getD_eq_getElem?_getD, List.getElem?_eq_getElem (by omega)]; exact List.getElem_mem _
  have hkn := hst _ hks
  have htk : st.take (j + 1) = st.take j ++ [st.getD j 0] := by
    rw [List.take_add_one, List.getElem?_eq_getElem (by omega), List.getD_eq_getElem?_getD, List.getElem?_eq_getElem (by omega)]; rfl
  have hend : st.getD j 0 = n ↔ j = pre.length := by
    rw [← hst0]
    constructor
    · intro e
      rcases Nat.lt_or_ge j pre.length with q | q
      · exfalso
        rw [List.getD_eq_getElem?_getD, List.getElem?_append_left q, List.getElem?_eq_getElem q] at e
        exact hp (e ▸ List.getElem_mem q)
      · omega
    · intro e
      subst e
      rw [List.getD_eq_getElem?_getD, List.getElem?_append_right (Nat.le_refl _), Nat.sub_self]
      rfl
  generalize hk : st.getD j 0 = k at *
  unfold theap
  ((conv=>whnf);repeat(refine .intro rfl ?_;conv=>whnf))
  (apply rd_sound; focus (repeat' constructor))
  ((conv=>whnf);repeat(refine .intro rfl ?_;conv=>whnf))
  (refine .inl ⟨by (unfold InR; rw [IntKind.wrap_i64]; omega), ?_⟩; ((conv=>whnf);repeat(refine .intro rfl ?_;conv=>whnf)))
  (refine ⟨by omega, (by first | omega | (simp; done) | (simp; omega) | (simp only [ll]; omega)), ?_⟩; ((conv=>whnf);repeat(refine .intro rfl ?_;conv=>whnf)))
  refine ⟨_, intsD_at (l := Z) (k := st.length - 1 - j) (by omega) (by omega), ?_⟩
  rw [hkz]
  ((conv=>whnf);repeat(refine .intro rfl ?_;conv=>whnf))
  (refine .inl ⟨by (unfold InR; rw [IntKind.wrap_i64]; omega), ?_⟩; ((conv=>whnf);repeat(refine .intro rfl ?_;conv=>whnf)))
  refine ⟨by omega, by omega, by omega, ?_⟩
  ((conv=>whnf);repeat(refine .intro rfl ?_;conv=>whnf))
  (refine ⟨by omega, (by first | omega | (simp; done) | (simp; omega) | (simp only [ll]; omega)), ?_⟩; ((conv=>whnf);repeat(refine .intro rfl ?_;conv=>whnf)))
  refine ⟨_, gl_atN k (by omega) hkn, ?_⟩
  ((conv=>whnf);repeat(refine .intro rfl ?_;conv=>whnf))
  (refine ifK_split (fun q => ?_) (fun q => ?_) <;> (rw [q]; ((conv=>whnf);repeat(refine .intro rfl ?_;conv=>whnf))))
  · have q : k = n := by ((try simp only[oo,reduceCtorEq]at*)<;>omega)
    have q' := hend.1 q
    (refine .inl ⟨by (unfold InR; rw [IntKind.wrap_i64]; omega), ?_⟩; ((conv=>whnf);repeat(refine .intro rfl ?_;conv=>whnf)))
    have hpn : st.take (j + 1) = pre ++ [n] := by
      rw [← hst0, q', show pre ++ n :: post = (pre ++ [n]) ++ post by simp, List.take_left' (by simp)]
    refine ⟨?_, by simp⟩
    rw [gl_set (k := k) (by omega), cutP_snoc, ← htk, hpn, show 0 + ((st.length - j - 0 : Nat) - 1 : Int).toNat = post.length by omega]
    rfl
  · have q : k ≠ n := by ((try simp only[oo,reduceCtorEq]at*)<;>omega)
    have q' := fun z => q (hend.2 z)
    refine ⟨j + 1, by omega, by dsimp only; omega, leB_envH (by (repeat' (first | exact trivial | refine And.intro rfl ?_))) ?_⟩
    rw [gl_set (k := k) (by omega), cutP_snoc, ← htk, show 0 + ((st.length - j - 0 : Nat) - 1 : Int).toNat = st.length - (j + 1) by omega]
end Go.Proofs.Ytfaekhadjlgbbaa
