/-
  The parts of a graph: the program's visit, over deep values. No statement is proved here.
-/
import Derived.Test.YtfaekhadjlgbbaaQTj4
import Derived.Test.YtfaekhadjlgbbaaQOg
import Derived.Test.YtfaekhadjlgbbaaQDk2
namespace Go.Proofs.Ytfaekhadjlgbbaa
open Go.RowKit
set_option linter.unusedSimpArgs false
set_option linter.unusedVariables false
def pz (l : List (Nat × Nat)) : List (List D) := l.map fun q => [.sc (.int .i64 q.1), .sc (.int .i64 q.2)]
@[simp] theorem pz_len (l : List (Nat × Nat)) : (pz l).length = l.length := by simp [pz]
theorem pure_pz (l : List (Nat × Nat)) : PureLL (pz l) := pureLL_map _ (fun l => by simp [PureL, Pure]) l
@[simp] theorem underLL_pz {m : Nat} (l : List (Nat × Nat)) : UnderLL m (pz l) ↔ True := ⟨fun _ => trivial, fun _ => underLL_pure _ (pure_pz l)⟩
theorem pz_at {l : List (Nat × Nat)} {z k : Nat} (hz : z = k) (h : k < l.length) : (pz l)[z]? = some [.sc (.int .i64 (l.getD k (0, 0)).1), .sc (.int .i64 (l.getD k (0, 0)).2)] := by
  subst hz
  rw [List.getD_eq_getElem?_getD, List.getElem?_eq_getElem h]
  simp [pz, h]
theorem pz_set {l : List (Nat × Nat)} {z k a b : Nat} (hz : z = k) : (pz l).set z [.sc (.int .i64 a), .sc (.int .i64 b)] = pz (l.set k (a, b)) := by
  subst hz; simp [pz, List.map_set]
theorem pz_app {Z : List (Nat × Nat)} {h a : Nat} : List.drop 0 (List.take h (pz Z)) ++ List.drop 0 (List.take 1 [[D.sc (.int .i64 a), D.sc (.int .i64 0)]]) = pz (Z.take h ++ [(a, 0)]) := by simp [pz, List.map_take]
/-- The path as it lies. -/
structure POK (pa : List (Nat × Nat)) (PZ : List (Nat × Nat)) : Prop where
  len : pa.length ≤ PZ.length
  eq : PZ.take pa.length = pa.reverse
theorem POK.top {q : Nat × Nat} {r PZ : List (Nat × Nat)} (h : POK (q :: r) PZ) : PZ.getD r.length (0, 0) = q := by
  have h1 := h.len
  have h2 := h.eq
  simp only [List.length_cons, List.reverse_cons] at h1 h2
  have h3 : (PZ.take (r.length + 1)).getD r.length (0, 0) = (r.reverse ++ [q]).getD r.length (0, 0) := by rw [h2]
  rw [List.getD_eq_getElem?_getD, List.getD_eq_getElem?_getD, List.getElem?_take, if_pos (by omega), List.getElem?_append_right (by simp)] at h3
  rw [List.getD_eq_getElem?_getD, h3]
  simp
theorem POK.set {q q' : Nat × Nat} {r PZ : List (Nat × Nat)} (h : POK (q :: r) PZ) : POK (q' :: r) (PZ.set r.length q') where
  len := by have := h.len; simpa using this
  eq := by
    have h1 := h.len
    have h2 := h.eq
    simp only [List.length_cons, List.reverse_cons] at h1 h2 ⊢
    rw [List.take_set, h2, List.set_append_right _ _ (by simp)]
    simp
theorem POK.push {r PZ : List (Nat × Nat)} (h : POK r PZ) (q : Nat × Nat) : POK (q :: r) (PZ.take r.length ++ [q]) where
  len := by have := h.len; simp; omega
  eq := by
    have h1 := h.len
    rw [List.take_of_length_le (by simp; omega), h.eq]
    simp
theorem POK.pop {q : Nat × Nat} {r PZ : List (Nat × Nat)} (h : POK (q :: r) PZ) : POK r PZ where
  len := by have := h.len; simp at this; omega
  eq := by
    have h2 := h.eq
    simp only [List.length_cons, List.reverse_cons] at h2
    have h3 : (PZ.take (r.length + 1)).take r.length = (r.reverse ++ [q]).take r.length := by rw [h2]
    rw [List.take_take, Nat.min_eq_left (by omega), List.take_left' (by simp)] at h3
    exact h3
def theapR (g : List (List Int)) (R : TR) : List AObj := theap g R.S.num R.S.low R.S.part R.Z R.S.stack.length R.ver R.S.count R.S.got
theorem theap_ren {g : List (List Int)} {num low : Nat → Nat} {part : Nat → Int} {Z : List Int} {h ver count got : Nat} (X : List AObj) :
    [] ++ ((theap g num low part Z h ver count got).map (AObj.ren fun i => ([] : List AObj).length + i) ++ X) = theap g num low part Z h ver count got ++ X := by
  have e : (fun i => ([] : List AObj).length + i) = fun i => 0 + i := rfl
  have hg := fun ρ => ren_pure (ρ := ρ) _ (pure_dgrid g)
  have h1 := fun ρ l => renLL_pure (ρ := ρ) _ (pureLL_map (fun n : Int => [D.sc (.int .i64 n)]) (fun l => by simp [PureL, Pure]) l)
  simp only [theap, List.map_cons, List.map_nil, AObj.ren, renL, hg, i64s, h1, List.nil_append, List.cons_append]
  simp only [D.ren, Nat.zero_add, List.length_nil]
theorem under_theapO {g : List (List Int)} {num low : Nat → Nat} {part : Nat → Int} {Z : List Int} {h ver count got : Nat} : UnderO 5 (theap g num low part Z h ver count got) := by
  simp [theap, UnderO, AObj.under, UnderL, Under, under_pure _ (pure_dgrid g)]
/-- A call on the search's own memory, with something behind it. -/
theorem acall_behind {g : List (List Int)} {f : FuncId} {v : Int} {num low num' low' : Nat → Nat} {part part' : Nat → Int} {Z Z' : List Int} {h ver count got h' ver' count' got' : Nat}
    (hA : ACall Try.prog f [.loc 3 0, .sc (.int .i64 v)] (theap g num low part Z h ver count got) (.tup []) (theap g num' low' part' Z' h' ver' count' got')) (X : List AObj) :
    ACall Try.prog f [.loc 3 0, .sc (.int .i64 v)] (theap g num low part Z h ver count got ++ X) (.tup []) (theap g num' low' part' Z' h' ver' count' got' ++ X) :=
  acall_mid hA [] X (by simp [theap]) (by simp [theap, UnderL, Under]) under_theapO (by simp [renL, D.ren]) (by simp [D.ren, renL]) (theap_ren X) (theap_ren X)
theorem TRI.bounds {g : List (List Int)} {R : TR} (h : TRI g R) (hn : g.length ≤ 1000000000) : R.S.stack.length ≤ 1000000000 ∧ R.S.count ≤ 1000000000 ∧ R.S.got ≤ 1000000000 ∧ R.S.path.length ≤ 1000000000 := by
  have h1 := h.tj.size
  have h2 := h.tj.seen
  have h3 := h.tj.deep
  omega
theorem acall_closed {g : List (List Int)} (hn : g.length ≤ 1000000000) {R : TR} (hI : TRI g R) {p : Nat} (hp : p ∈ R.S.stack) (low : Nat → Nat) (path : List (Nat × Nat)) (X : List AObj) :
    ACall Try.prog 130 [.loc 3 0, .sc (.int .i64 p)] (theap g R.S.num low R.S.part R.Z R.S.stack.length R.ver R.S.count R.S.got ++ X) (.tup []) (theapR g ⟨R.S.shut p path low, R.Z, R.ver⟩ ++ X) := by
  have hb := hI.bounds hn
  obtain ⟨pre, post, e, e1, e2, e3⟩ := hI.tj.split hp
  have hst : ∀ v ∈ pre ++ p :: post, v < g.length := fun v hv => hI.tj.node v ((hI.tj.stk v).1 (e ▸ hv)).1
  have hl := hI.zok.len
  have ha := hI.zok.at_
  rw [e] at hl ha hb
  have hC := tj_close g hn R.S.num low R.S.part R.Z pre post p R.ver R.S.count R.S.got hl hb.1 hb.2.2.1 ha hst e1
  have ep : cutP R.S.part (pre ++ [p]) R.S.got = (R.S.shut p path low).part := by
    funext v
    show (if v ∈ pre ++ [p] then _ else _) = if v ∈ R.S.stack ∧ R.S.num p ≤ R.S.num v then _ else _
    by_cases q : v ∈ pre ++ [p]
    · rw [if_pos q, if_pos ((e2 v).1 q)]
    · rw [if_neg q, if_neg (fun z => q ((e2 v).2 z))]
  have es : (R.S.shut p path low).stack = post := e3
  have := acall_behind hC X
  rw [ep, ← e, ← es] at this
  exact this
def c105_1 : PC := .seq (.seq (.ops [⟨some 15,.move (.tmp 4),none,0⟩,
 ⟨some 16,.len (.tmp 15),none,0⟩,
 ⟨some 17,.bin .gtr (.tmp 16) (.const (.int .i64 0)),none,0⟩] false) (.cond (.tmp 17) (.skip) (.exit 0))) (.block 1 (.seq (.ops [⟨some 18,.move (.tmp 4),none,0⟩,
 ⟨some 19,.move (.tmp 4),none,0⟩,
 ⟨some 20,.len (.tmp 19),none,0⟩,
 ⟨some 21,.bin .sub (.tmp 20) (.const (.int .i64 1)),none,0⟩,
 ⟨some 22,.iaddr 2 (.tmp 18) (.tmp 21),none,0⟩,
 ⟨some 5,.move (.tmp 22),none,0⟩] false) (.seq (.seq (.ops [⟨some 23,.move (.tmp 5),none,0⟩,
 ⟨some 24,.nilchk (.tmp 23),none,1⟩,
 ⟨some 25,.faddr 1 (.tmp 24),none,3⟩,
 ⟨some 26,.load1 (.tmp 25),none,7⟩,
 ⟨some 27,.move (.tmp 0),none,0⟩,
 ⟨some 28,.nilchk (.tmp 27),none,16⟩,
 ⟨some 29,.faddr 0 (.tmp 28),none,48⟩,
 ⟨some 30,.load1 (.tmp 29),none,112⟩,
 ⟨some 31,.move (.tmp 5),none,0⟩,
 ⟨some 32,.nilchk (.tmp 31),none,256⟩,
 ⟨some 33,.faddr 0 (.tmp 32),none,768⟩,
 ⟨some 34,.load1 (.tmp 33),none,1792⟩,
 ⟨some 35,.iaddr 1 (.tmp 30) (.tmp 34),none,4080⟩,
 ⟨some 36,.load1 (.tmp 35),none,8176⟩,
 ⟨some 37,.len (.tmp 36),none,16368⟩,
 ⟨some 38,.bin .lss (.tmp 26) (.tmp 37),none,32767⟩] true) (.cond (.tmp 38) (.seq (.ops [⟨some 39,.move (.tmp 0),none,0⟩,
 ⟨some 40,.nilchk (.tmp 39),none,1⟩,
 ⟨some 41,.faddr 0 (.tmp 40),none,3⟩,
 ⟨some 42,.load1 (.tmp 41),none,7⟩,
 ⟨some 43,.move (.tmp 5),none,0⟩,
 ⟨some 44,.nilchk (.tmp 43),none,16⟩,
 ⟨some 45,.faddr 0 (.tmp 44),none,48⟩,
 ⟨some 46,.load1 (.tmp 45),none,112⟩,
 ⟨some 47,.iaddr 1 (.tmp 42) (.tmp 46),none,255⟩,
 ⟨some 48,.load1 (.tmp 47),none,511⟩,
 ⟨some 49,.move (.tmp 5),none,0⟩,
 ⟨some 50,.nilchk (.tmp 49),none,1024⟩,
 ⟨some 51,.faddr 1 (.tmp 50),none,3072⟩,
 ⟨some 52,.load1 (.tmp 51),none,7168⟩,
 ⟨some 53,.iaddr 1 (.tmp 48) (.tmp 52),none,16383⟩,
 ⟨some 54,.load1 (.tmp 53),none,32767⟩,
 ⟨some 6,.move (.tmp 54),none,65535⟩] true) (.seq (.ops [⟨some 55,.move (.tmp 5),none,0⟩,
 ⟨some 56,.nilchk (.tmp 55),none,0⟩,
 ⟨some 57,.faddr 1 (.tmp 56),none,0⟩,
 ⟨some 58,.load1 (.tmp 57),none,0⟩,
 ⟨some 59,.bin .add (.tmp 58) (.const (.int .i64 1)),none,0⟩,
 ⟨some 60,.nilchk (.tmp 55),none,0⟩,
 ⟨some 61,.faddr 1 (.tmp 60),none,0⟩,
 ⟨none,.store 1 (.tmp 61) (.tmp 59),none,0⟩] false) (.seq (.block 2 (.seq (.ops [⟨some 63,.move (.tmp 0),none,0⟩,
 ⟨some 64,.nilchk (.tmp 63),none,0⟩,
 ⟨some 65,.faddr 1 (.tmp 64),none,0⟩,
 ⟨some 66,.load1 (.tmp 65),none,0⟩,
 ⟨some 67,.move (.tmp 6),none,0⟩,
 ⟨some 68,.iaddr 1 (.tmp 66) (.tmp 67),none,0⟩,
 ⟨some 69,.load1 (.tmp 68),none,0⟩,
 ⟨some 70,.bin .eql (.tmp 69) (.const (.int .i64 0)),none,0⟩,
 ⟨some 62,.move (.tmp 70),none,0⟩] false) (.cond (.tmp 62) (.seq (.ops [⟨some 71,.move (.tmp 0),none,0⟩,
 ⟨some 72,.move (.tmp 6),none,0⟩,
 ⟨some 73,.call 129 [(.tmp 71), (.tmp 72)],none,0⟩] false) (.ops [⟨some 74,.move (.tmp 4),none,0⟩,
 ⟨some 75,.move (.tmp 6),none,0⟩,
 ⟨some 76,.build [(.int .i64 0), (.int .i64 0)] [(0, 1, (.tmp 75)), (1, 1, (.const (.int .i64 0)))],none,0⟩,
 ⟨some 77,.bslice 2 1 [(.tmp 76)],none,0⟩,
 ⟨some 78,.append 2 16 (.tmp 74) (.tmp 77),none,0⟩,
 ⟨some 4,.move (.tmp 78),none,0⟩] false)) (.seq (.ops [⟨some 80,.move (.tmp 0),none,0⟩,
 ⟨some 81,.nilchk (.tmp 80),none,0⟩,
 ⟨some 82,.faddr 3 (.tmp 81),none,0⟩,
 ⟨some 83,.load1 (.tmp 82),none,0⟩,
 ⟨some 84,.move (.tmp 6),none,0⟩,
 ⟨some 85,.iaddr 1 (.tmp 83) (.tmp 84),none,0⟩,
 ⟨some 86,.load1 (.tmp 85),none,0⟩,
 ⟨some 87,.bin .lss (.tmp 86) (.const (.int .i64 0)),none,0⟩,
 ⟨some 79,.move (.tmp 87),none,0⟩] false) (.cond (.tmp 79) (.ops [⟨some 88,.move (.tmp 0),none,0⟩,
 ⟨some 89,.nilchk (.tmp 88),none,1⟩,
 ⟨some 90,.faddr 2 (.tmp 89),none,3⟩,
 ⟨some 91,.load1 (.tmp 90),none,7⟩,
 ⟨some 92,.move (.tmp 5),none,0⟩,
 ⟨some 93,.nilchk (.tmp 92),none,16⟩,
 ⟨some 94,.faddr 0 (.tmp 93),none,48⟩,
 ⟨some 95,.load1 (.tmp 94),none,112⟩,
 ⟨some 96,.move (.tmp 0),none,0⟩,
 ⟨some 97,.nilchk (.tmp 96),none,256⟩,
 ⟨some 98,.faddr 2 (.tmp 97),none,768⟩,
 ⟨some 99,.load1 (.tmp 98),none,1792⟩,
 ⟨some 100,.move (.tmp 5),none,0⟩,
 ⟨some 101,.nilchk (.tmp 100),none,4096⟩,
 ⟨some 102,.faddr 0 (.tmp 101),none,12288⟩,
 ⟨some 103,.load1 (.tmp 102),none,28672⟩,
 ⟨some 104,.iaddr 1 (.tmp 99) (.tmp 103),none,65280⟩,
 ⟨some 105,.load1 (.tmp 104),none,130816⟩,
 ⟨some 106,.move (.tmp 0),none,0⟩,
 ⟨some 107,.nilchk (.tmp 106),none,262144⟩,
 ⟨some 108,.faddr 1 (.tmp 107),none,786432⟩,
 ⟨some 109,.load1 (.tmp 108),none,1835008⟩,
 ⟨some 110,.move (.tmp 6),none,0⟩,
 ⟨some 111,.iaddr 1 (.tmp 109) (.tmp 110),none,8126464⟩,
 ⟨some 112,.load1 (.tmp 111),none,16515072⟩,
 ⟨some 113,.mx false (.tmp 105) (.tmp 112),none,33554176⟩,
 ⟨some 114,.iaddr 1 (.tmp 91) (.tmp 95),none,67108863⟩,
 ⟨none,.store 1 (.tmp 114) (.tmp 113),none,134217727⟩] true) (.skip)))))) (.exit 1)))) (.skip))) (.seq (.ops [⟨some 115,.move (.tmp 5),none,0⟩,
 ⟨some 116,.nilchk (.tmp 115),none,0⟩,
 ⟨some 117,.faddr 0 (.tmp 116),none,0⟩,
 ⟨some 118,.load1 (.tmp 117),none,0⟩,
 ⟨some 7,.move (.tmp 118),none,0⟩] false) (.seq (.ops [⟨some 119,.move (.tmp 4),none,0⟩,
 ⟨some 120,.move (.tmp 4),none,0⟩,
 ⟨some 121,.len (.tmp 120),none,0⟩,
 ⟨some 122,.bin .sub (.tmp 121) (.const (.int .i64 1)),none,0⟩,
 ⟨some 123,.slc 2 (.tmp 119) none (some (.tmp 122)) none,none,0⟩,
 ⟨some 4,.move (.tmp 123),none,0⟩] false) (.seq (.seq (.ops [⟨some 124,.move (.tmp 4),none,0⟩,
 ⟨some 125,.len (.tmp 124),none,0⟩,
 ⟨some 126,.bin .gtr (.tmp 125) (.const (.int .i64 0)),none,0⟩] false) (.cond (.tmp 126) (.seq (.ops [⟨some 127,.move (.tmp 4),none,0⟩,
 ⟨some 128,.move (.tmp 4),none,0⟩,
 ⟨some 129,.len (.tmp 128),none,0⟩,
 ⟨some 130,.bin .sub (.tmp 129) (.const (.int .i64 1)),none,0⟩,
 ⟨some 131,.iaddr 2 (.tmp 127) (.tmp 130),none,0⟩,
 ⟨some 132,.faddr 0 (.tmp 131),none,0⟩,
 ⟨some 133,.load1 (.tmp 132),none,0⟩,
 ⟨some 8,.move (.tmp 133),none,0⟩] false) (.ops [⟨some 134,.move (.tmp 0),none,0⟩,
 ⟨some 135,.nilchk (.tmp 134),none,1⟩,
 ⟨some 136,.faddr 2 (.tmp 135),none,3⟩,
 ⟨some 137,.load1 (.tmp 136),none,7⟩,
 ⟨some 138,.move (.tmp 8),none,0⟩,
 ⟨some 139,.move (.tmp 0),none,0⟩,
 ⟨some 140,.nilchk (.tmp 139),none,32⟩,
 ⟨some 141,.faddr 2 (.tmp 140),none,96⟩,
 ⟨some 142,.load1 (.tmp 141),none,224⟩,
 ⟨some 143,.move (.tmp 8),none,0⟩,
 ⟨some 144,.iaddr 1 (.tmp 142) (.tmp 143),none,992⟩,
 ⟨some 145,.load1 (.tmp 144),none,2016⟩,
 ⟨some 146,.move (.tmp 0),none,0⟩,
 ⟨some 147,.nilchk (.tmp 146),none,4096⟩,
 ⟨some 148,.faddr 2 (.tmp 147),none,12288⟩,
 ⟨some 149,.load1 (.tmp 148),none,28672⟩,
 ⟨some 150,.move (.tmp 7),none,0⟩,
 ⟨some 151,.iaddr 1 (.tmp 149) (.tmp 150),none,126976⟩,
 ⟨some 152,.load1 (.tmp 151),none,258048⟩,
 ⟨some 153,.mx false (.tmp 145) (.tmp 152),none,524256⟩,
 ⟨some 154,.iaddr 1 (.tmp 137) (.tmp 138),none,1048575⟩,
 ⟨none,.store 1 (.tmp 154) (.tmp 153),none,2097151⟩] true)) (.skip))) (.seq (.ops [⟨some 155,.move (.tmp 0),none,0⟩,
 ⟨some 156,.nilchk (.tmp 155),none,1⟩,
 ⟨some 157,.faddr 2 (.tmp 156),none,3⟩,
 ⟨some 158,.load1 (.tmp 157),none,7⟩,
 ⟨some 159,.move (.tmp 7),none,0⟩,
 ⟨some 160,.iaddr 1 (.tmp 158) (.tmp 159),none,31⟩,
 ⟨some 161,.load1 (.tmp 160),none,63⟩,
 ⟨some 162,.move (.tmp 0),none,0⟩,
 ⟨some 163,.nilchk (.tmp 162),none,128⟩,
 ⟨some 164,.faddr 1 (.tmp 163),none,384⟩,
 ⟨some 165,.load1 (.tmp 164),none,896⟩,
 ⟨some 166,.move (.tmp 7),none,0⟩,
 ⟨some 167,.iaddr 1 (.tmp 165) (.tmp 166),none,3968⟩,
 ⟨some 168,.load1 (.tmp 167),none,8064⟩,
 ⟨some 169,.bin .eql (.tmp 161) (.tmp 168),none,16383⟩] true) (.cond (.tmp 169) (.ops [⟨some 170,.move (.tmp 0),none,0⟩,
 ⟨some 171,.move (.tmp 7),none,0⟩,
 ⟨some 172,.call 130 [(.tmp 170), (.tmp 171)],none,0⟩] false) (.skip)))))))))
def c105 : PC := .seq (.ops [⟨some 9,.move (.tmp 1),none,0⟩,
 ⟨some 10,.build [(.int .i64 0), (.int .i64 0)] [(0, 1, (.tmp 9)), (1, 1, (.const (.int .i64 0)))],none,0⟩,
 ⟨some 11,.bslice 2 1 [(.tmp 10)],none,0⟩,
 ⟨some 4,.move (.tmp 11),none,0⟩] false) (.seq (.ops [⟨some 12,.move (.tmp 0),none,0⟩,
 ⟨some 13,.move (.tmp 1),none,0⟩,
 ⟨some 14,.call 129 [(.tmp 12), (.tmp 13)],none,0⟩] false) (.block 0 (.loop c105_1)))
set_option maxRecDepth 100000 in
theorem c105_ok : FunOK Try.prog 105 173 [] c105 := ⟨⟨Try.f105, Try.func105, rfl, by kernel_rfl, rfl, by kernel_rfl⟩⟩
set_option maxRecDepth 100000 in
theorem tj_visit (g : List (List Int)) (hn : g.length ≤ 1000000000) (hin0 : ∀ l ∈ g, inB l g.length = true) (hF : FitsG g) (R : TR) (hR : TRI g R) (hp : R.S.path = []) (v : Nat) (hv : v < g.length) (h0 : R.S.num v = 0) :
    ACall Try.prog 105 [.loc 3 0, .sc (.int .i64 v)] (theapR g R) (.tup []) (theapR g (visitT g R v)) := by
  have hrow := fun k => inB_row hin0 k
  have hin : ∀ v x, x ∈ g.getD v [] → x.toNat < g.length := fun v x hx => by have := inB_mem (hrow v) hx; omega
  have hb := hR.bounds hn
  have hB := acall_behind (tj_begin g hn R.S.num R.S.low R.S.part R.Z R.S.stack.length R.ver R.S.count R.S.got hR.zok.len hb.1 hb.2.1 v hv) [.vec true 0 2 (pz [(v, 0)])]
  refine acall_intro c105_ok (by simp) (by simp [theapR, theap]) ?_ (by simp [Under, UnderL]) under_theap
  have hI0 := hR.root hp hv h0
  have eF : visitT g R v = runT g (TJ.fuel g (R.open v []).S) (R.open v []) := rfl
  generalize visitT g R v = Fin at *
  have eO : theapR g (R.open v []) = theap g (up R.S.num v (R.S.count + 1)) (up R.S.low v (R.S.count + 1)) R.S.part (R.Z.take R.S.stack.length ++ [(v : Int)]) (R.S.stack.length + 1) (R.ver + 1) (R.S.count + 1) R.S.got := rfl
  rw [← eO] at hB
  clear eO
  have ep : (R.open v []).S.path = [(v, 0)] := rfl
  generalize R.open v [] = R0 at *
  unfold theapR theap at hB ⊢
  (apply rd_sound; focus (repeat' constructor))
  ((conv=>whnf);repeat(refine .intro rfl ?_;conv=>whnf))
  (refine .inr (.inr (.inl ⟨rfl, _, _, hB, ?_⟩)); ((conv=>whnf);repeat(refine .intro rfl ?_;conv=>whnf)))
  refine pwp_forH [0] (fun ((R, PZ, pver, k) : TR × List (Nat × Nat) × Nat × Nat) => [(4, .own 5 pver 0 R.S.path.length)]) (fun (R, PZ, pver, k) => theapR g R ++ [.vec true pver 2 (pz PZ)])
    (fun (R, PZ, pver, k) => TRI g R ∧ POK R.S.path PZ ∧ TJ.fuel g R.S ≤ k ∧ runT g k R = Fin) (fun (R, PZ, pver, k) => TJ.fuel g R.S) (R0, [(v, 0)], 0, TJ.fuel g R0.S) ?_
  ((conv=>whnf);repeat(refine .intro rfl ?_;conv=>whnf))
  refine ⟨⟨hI0, by rw [ep]; exact ⟨by simp, rfl⟩, Nat.le_refl _, eF.symm⟩, ⟨by rw [ep]; rfl, by (repeat' (first | exact trivial | refine And.intro rfl ?_))⟩, rfl, ?_⟩
  clear hB hI0 ep eF
  rintro ⟨R, PZ, pver, k⟩ ⟨hI, hPZ, hk, hF'⟩
  have hb := hI.bounds hn
  cases ep : R.S.path with
  | nil =>
    rw [runT_nil ep] at hF'
    subst hF'
    have hph : R.S.path.length = 0 := by rw [ep]; rfl
    unfold theapR theap
    ((conv=>whnf);repeat(refine .intro rfl ?_;conv=>whnf))
    (apply rd_sound; focus (repeat' constructor))
    ((conv=>whnf);repeat(refine .intro rfl ?_;conv=>whnf))
    rw [hph]
    ((conv=>whnf);repeat(refine .intro rfl ?_;conv=>whnf))
    show (5 : Nat) ≤ 6
    omega
  | cons q r =>
    obtain ⟨p, i⟩ := q
    have hst := hI.tj.seg
    rw [ep] at hst hPZ
    have hps := hst.1
    have hpn := hI.tj.node p ((hI.tj.stk p).1 hps).1
    have hsO := stepT_ok hin hI (by rw [ep]; simp)
    obtain ⟨k', rfl⟩ : ∃ k', k = k' + 1 := ⟨k - 1, by have := hsO.2.1; omega⟩
    have hF'' : runT g k' (stepT g R) = Fin := by rw [← hF']; simp only [runT]; rw [if_neg (by rw [ep]; simp)]
    have hlt := hsO.2.1
    have hI' := hsO.1
    have htop := hPZ.top
    have hPl := hPZ.len
    rw [ep] at hb
    simp only [List.length_cons] at hb hPl
    have hgF := hF.at p
    have hph : R.S.path.length = r.length + 1 := by rw [ep]; rfl
    generalize hS' : stepT g R = R' at *
    unfold theapR theap dgrid
    ((conv=>whnf);repeat(refine .intro rfl ?_;conv=>whnf))
    (apply rd_sound; focus (repeat' constructor))
    ((conv=>whnf);repeat(refine .intro rfl ?_;conv=>whnf))
    rw [hph]
    (refine ifK_split (fun q0 => ?_) (fun q0 => ?_) <;> (rw [q0]; ((conv=>whnf);repeat(refine .intro rfl ?_;conv=>whnf))))
    · have hat : (pz PZ)[r.length]? = some [.sc (.int .i64 p), .sc (.int .i64 i)] := by rw [pz_at rfl (by omega), htop]
      (refine .inl ⟨by (unfold InR; rw [IntKind.wrap_i64]; omega), ?_⟩; ((conv=>whnf);repeat(refine .intro rfl ?_;conv=>whnf)))
      (refine ⟨by omega, (by first | omega | (simp; done) | (simp; omega) | (simp only [ll]; omega)), ?_⟩; ((conv=>whnf);repeat(refine .intro rfl ?_;conv=>whnf)))
      rw [show 0 + (((r.length + 1 - 0 : Nat) : Int) - 1).toNat = r.length by omega]
      refine ⟨_, hat, ?_⟩
      ((conv=>whnf);repeat(refine .intro rfl ?_;conv=>whnf))
      refine ⟨_, hat, ?_⟩
      ((conv=>whnf);repeat(refine .intro rfl ?_;conv=>whnf))
      refine ⟨by omega, _, gridD_at (k := p) (by omega) hpn, ?_⟩
      ((conv=>whnf);repeat(refine .intro rfl ?_;conv=>whnf))
      rw [List.length_map]
      (refine ifK_split (fun hi => ?_) (fun hi => ?_) <;> (rw [hi]; ((conv=>whnf);repeat(refine .intro rfl ?_;conv=>whnf))))
      · have hi : i < (g.getD p []).length := by ((try simp only[oo,reduceCtorEq]at*)<;>omega)
        have hx := inB_mem (hrow p) (mem_getD hi)
        refine ⟨_, hat, ?_⟩
        ((conv=>whnf);repeat(refine .intro rfl ?_;conv=>whnf))
        refine ⟨by omega, _, gridD_at (k := p) (by omega) hpn, ?_⟩
        ((conv=>whnf);repeat(refine .intro rfl ?_;conv=>whnf))
        refine ⟨_, hat, ?_⟩
        ((conv=>whnf);repeat(refine .intro rfl ?_;conv=>whnf))
        refine ⟨by omega, _, intsD_at (l := g.getD p []) (k := i) (by omega) hi, ?_⟩
        ((conv=>whnf);repeat(refine .intro rfl ?_;conv=>whnf))
        refine ⟨_, hat, ?_⟩
        ((conv=>whnf);repeat(refine .intro rfl ?_;conv=>whnf))
        (refine .inl ⟨by (unfold InR; rw [IntKind.wrap_i64]; omega), ?_⟩; ((conv=>whnf);repeat(refine .intro rfl ?_;conv=>whnf)))
        refine ⟨_, hat, ?_⟩
        ((conv=>whnf);repeat(refine .intro rfl ?_;conv=>whnf))
        rw [show (i : Int) + 1 = ((i + 1 : Nat) : Int) from rfl, pz_set (k := r.length) rfl]
        have hPS := hPZ.set (q' := (p, i + 1))
        have hSl : (PZ.set r.length (p, i + 1)).length = PZ.length := by simp
        have hto : stepT g R = if R.S.num ((g.getD p []).getD i 0).toNat = 0 then R.open ((g.getD p []).getD i 0).toNat ((p, i + 1) :: r) else ⟨R.S.skip p i r ((g.getD p []).getD i 0).toNat, R.Z, R.ver⟩ := by
          unfold stepT; rw [ep]; simp only [if_pos hi]
        have hxe : ∀ k, k = i → (g.getD p []).getD k 0 = (g.getD p []).getD i 0 := fun k e => by rw [e]
        generalize (g.getD p []).getD i 0 = x at *
        obtain ⟨to, rfl⟩ : ∃ to : Nat, x = to := ⟨x.toNat, by omega⟩
        rw [Int.toNat_natCast] at hto
        have htn : to < g.length := by omega
        (refine ⟨by omega, (by first | omega | (simp; done) | (simp; omega) | (simp only [ll]; omega)), ?_⟩; ((conv=>whnf);repeat(refine .intro rfl ?_;conv=>whnf)))
        refine ⟨_, gl_atN to (by omega) htn, ?_⟩
        ((conv=>whnf);repeat(refine .intro rfl ?_;conv=>whnf))
        rw [show gn R.S.num to = (R.S.num to : Int) from rfl]
        (refine ifK_split (fun h1 => ?_) (fun h1 => ?_) <;> (rw [h1]; ((conv=>whnf);repeat(refine .intro rfl ?_;conv=>whnf))))
        · have h1 : R.S.num to = 0 := by ((try simp only[oo,reduceCtorEq]at*)<;>omega)
          rw [if_pos h1, hS'] at hto
          subst hto
          have hB := acall_behind (tj_begin g hn R.S.num R.S.low R.S.part R.Z R.S.stack.length R.ver R.S.count R.S.got hI.zok.len hb.1 hb.2.1 to htn) [.vec true pver 2 (pz (PZ.set r.length (p, i + 1)))]
          unfold theap dgrid at hB
          (refine .inr (.inr (.inl ⟨rfl, _, _, hB, ?_⟩)); ((conv=>whnf);repeat(refine .intro rfl ?_;conv=>whnf)))
          refine ⟨(by unfold sliceAppend; simp only [ll]; omega), ?_⟩
          ((conv=>whnf);repeat(refine .intro rfl ?_;conv=>whnf))
          refine ⟨(R.open to ((p, i + 1) :: r), (PZ.set r.length (p, i + 1)).take (r.length + 1) ++ [(to, 0)], pver + 1, k'), ⟨hI', hPS.push (to, 0), by omega, hF''⟩, by dsimp only; omega, ?_⟩
          (refine leB_close 6 (by simp) rfl ?_ ?_ <;> (repeat' (first | exact trivial | exact rfl | exact DeepM.refl _ | exact DeepML.refl _ | exact DeepMLL.refl _ | refine And.intro ?_ ?_ | (simp [Under, UnderL, UnderLL, -List.map_take, -List.map_drop]; done))))
          exact deepMLL_eq pz_app
        · have h1 : R.S.num to ≠ 0 := by ((try simp only[oo,reduceCtorEq]at*)<;>omega)
          rw [if_neg h1, hS'] at hto
          subst hto
          have hcn := hI.tj.cnt to
          have hcp := hI.tj.cnt p
          (refine ⟨by omega, (by first | omega | (simp; done) | (simp; omega) | (simp only [ll]; omega)), ?_⟩; ((conv=>whnf);repeat(refine .intro rfl ?_;conv=>whnf)))
          refine ⟨_, gl_atN to (by omega) htn, ?_⟩
          ((conv=>whnf);repeat(refine .intro rfl ?_;conv=>whnf))
          (refine ifK_split (fun h2 => ?_) (fun h2 => ?_) <;> (rw [h2]; ((conv=>whnf);repeat(refine .intro rfl ?_;conv=>whnf))))
          · have h2 : R.S.part to < 0 := by ((try simp only[oo,reduceCtorEq]at*)<;>omega)
            have hat' : (pz (PZ.set r.length (p, i + 1)))[r.length]? = some [.sc (.int .i64 p), .sc (.int .i64 ((i + 1 : Nat) : Int))] := by
              rw [pz_at rfl (by omega), hPS.top]
            refine ⟨_, hat', ?_⟩
            ((conv=>whnf);repeat(refine .intro rfl ?_;conv=>whnf))
            refine ⟨_, hat', ?_⟩
            ((conv=>whnf);repeat(refine .intro rfl ?_;conv=>whnf))
            (refine ⟨by omega, (by first | omega | (simp; done) | (simp; omega) | (simp only [ll]; omega)), ?_⟩; ((conv=>whnf);repeat(refine .intro rfl ?_;conv=>whnf)))
            refine ⟨_, gl_atN p (by omega) hpn, ?_⟩
            ((conv=>whnf);repeat(refine .intro rfl ?_;conv=>whnf))
            (refine ⟨by omega, (by first | omega | (simp; done) | (simp; omega) | (simp only [ll]; omega)), ?_⟩; ((conv=>whnf);repeat(refine .intro rfl ?_;conv=>whnf)))
            refine ⟨_, gl_atN to (by omega) htn, ?_⟩
            ((conv=>whnf);repeat(refine .intro rfl ?_;conv=>whnf))
            (refine ⟨by omega, (by first | omega | (simp; done) | (simp; omega) | (simp only [ll]; omega)), ?_⟩; ((conv=>whnf);repeat(refine .intro rfl ?_;conv=>whnf)))
            refine ⟨_, gl_atN p (by omega) hpn, ?_⟩
            ((conv=>whnf);repeat(refine .intro rfl ?_;conv=>whnf))
            have el : (R.S.skip p i r to).low = up R.S.low p (min (R.S.low p) (R.S.num to)) := if_pos h2
            refine ⟨(⟨R.S.skip p i r to, R.Z, R.ver⟩, PZ.set r.length (p, i + 1), pver, k'), ⟨hI', hPS, by omega, hF''⟩, by dsimp only; omega, leB_envH (by (repeat' (first | exact trivial | refine And.intro rfl ?_))) ?_⟩
            dsimp only
            rw [el, show min (gn R.S.low p) (gn R.S.num to) = ((min (R.S.low p) (R.S.num to) : Nat) : Int) by unfold gn; omega, gl_set (k := p) (by omega), gn_up]
            rfl
          · have h2 : ¬ R.S.part to < 0 := by ((try simp only[oo,reduceCtorEq]at*)<;>omega)
            have el : (R.S.skip p i r to).low = R.S.low := if_neg h2
            refine ⟨(⟨R.S.skip p i r to, R.Z, R.ver⟩, PZ.set r.length (p, i + 1), pver, k'), ⟨hI', hPS, by omega, hF''⟩, by dsimp only; omega, leB_envH (by (repeat' (first | exact trivial | refine And.intro rfl ?_))) ?_⟩
            dsimp only
            rw [el]
            rfl
      · have hi : (g.getD p []).length ≤ i := by have : ¬ i < (g.getD p []).length := by ((try simp only[oo,reduceCtorEq]at*)<;>omega)
                                                 omega
        refine ⟨_, hat, ?_⟩
        ((conv=>whnf);repeat(refine .intro rfl ?_;conv=>whnf))
        (refine .inl ⟨by (unfold InR; rw [IntKind.wrap_i64]; omega), ?_⟩; ((conv=>whnf);repeat(refine .intro rfl ?_;conv=>whnf)))
        refine ⟨by omega, by omega, by omega, ?_⟩
        ((conv=>whnf);repeat(refine .intro rfl ?_;conv=>whnf))
        rw [show 0 + (((r.length + 1 - 0 : Nat) : Int) - 1).toNat = r.length by omega]
        have hPP := hPZ.pop
        have hpl := hI.tj.cnt p
        have hlp : R.S.low p ≤ R.S.num p := hst.2.2.2.2.1
        cases r with
        | nil =>
          have hto : stepT g R = ⟨R.S.shut p [] R.S.low, R.Z, R.ver⟩ := by
            unfold stepT; rw [ep]; simp only [if_neg (Nat.not_lt.2 hi)]
          rw [hS'] at hto
          ((conv=>whnf);repeat(refine .intro rfl ?_;conv=>whnf))
          (refine ⟨by omega, (by first | omega | (simp; done) | (simp; omega) | (simp only [ll]; omega)), ?_⟩; ((conv=>whnf);repeat(refine .intro rfl ?_;conv=>whnf)))
          refine ⟨_, gl_atN p (by omega) hpn, ?_⟩
          ((conv=>whnf);repeat(refine .intro rfl ?_;conv=>whnf))
          (refine ⟨by omega, (by first | omega | (simp; done) | (simp; omega) | (simp only [ll]; omega)), ?_⟩; ((conv=>whnf);repeat(refine .intro rfl ?_;conv=>whnf)))
          refine ⟨_, gl_atN p (by omega) hpn, ?_⟩
          ((conv=>whnf);repeat(refine .intro rfl ?_;conv=>whnf))
          rw [show gn R.S.low p = (R.S.low p : Int) from rfl, show gn R.S.num p = (R.S.num p : Int) from rfl]
          have hll := hI.tj.low_last ep
          (refine ifK_split (fun h3 => ?_) (fun h3 => ?_) <;> (rw [h3]; ((conv=>whnf);repeat(refine .intro rfl ?_;conv=>whnf))))
          · have hC := acall_closed hn hI hps R.S.low [] [.vec true pver 2 (pz PZ)]
            unfold theapR theap dgrid at hC
            (refine .inr (.inr (.inl ⟨rfl, _, _, hC, ?_⟩)); ((conv=>whnf);repeat(refine .intro rfl ?_;conv=>whnf)))
            subst hto
            refine ⟨(⟨R.S.shut p [] R.S.low, R.Z, R.ver⟩, PZ, pver, k'), ⟨hI', hPP, by omega, hF''⟩, by dsimp only; omega, leB_envH (by (repeat' (first | exact trivial | refine And.intro rfl ?_))) rfl⟩
          · exfalso; ((try simp only[oo,reduceCtorEq]at*)<;>omega)
        | cons q r =>
          obtain ⟨q, j⟩ := q
          have hqp := hst.2.2.2.2.2.2.2.2
          have hqs := hqp.1
          have hqn := hI.tj.node q ((hI.tj.stk q).1 hqs).1
          have hne : p ≠ q := fun e => by
            have := hqp.2.1
            rw [e] at this
            omega
          have hto : stepT g R = if R.S.low p = R.S.num p then ⟨R.S.shut p ((q, j) :: r) (up R.S.low q (min (R.S.low q) (R.S.low p))), R.Z, R.ver⟩ else ⟨R.S.back p q j r, R.Z, R.ver⟩ := by
            unfold stepT; rw [ep]; simp only [if_neg (Nat.not_lt.2 hi)]
          rw [hS'] at hto
          have hat2 : (pz PZ)[r.length]? = some [.sc (.int .i64 q), .sc (.int .i64 j)] := by rw [pz_at rfl (by simp at hPl; omega), hPP.top]
          rw [List.length_cons] at hPl hb
          rw [List.length_cons]
          (refine ifK_split (fun q5 => ?_) (fun q5 => ?_) <;> (rw [q5]; ((conv=>whnf);repeat(refine .intro rfl ?_;conv=>whnf))))
          · (refine .inl ⟨by (unfold InR; rw [IntKind.wrap_i64]; omega), ?_⟩; ((conv=>whnf);repeat(refine .intro rfl ?_;conv=>whnf)))
            (refine ⟨by omega, (by first | omega | (simp; done) | (simp; omega) | (simp only [ll]; omega)), ?_⟩; ((conv=>whnf);repeat(refine .intro rfl ?_;conv=>whnf)))
            rw [show 0 + (((r.length + 1 - (0 + 0) : Nat) : Int) - 1).toNat = r.length by omega]
            refine ⟨_, hat2, ?_⟩
            ((conv=>whnf);repeat(refine .intro rfl ?_;conv=>whnf))
            (refine ⟨by omega, (by first | omega | (simp; done) | (simp; omega) | (simp only [ll]; omega)), ?_⟩; ((conv=>whnf);repeat(refine .intro rfl ?_;conv=>whnf)))
            refine ⟨_, gl_atN q (by omega) hqn, ?_⟩
            ((conv=>whnf);repeat(refine .intro rfl ?_;conv=>whnf))
            (refine ⟨by omega, (by first | omega | (simp; done) | (simp; omega) | (simp only [ll]; omega)), ?_⟩; ((conv=>whnf);repeat(refine .intro rfl ?_;conv=>whnf)))
            refine ⟨_, gl_atN p (by omega) hpn, ?_⟩
            ((conv=>whnf);repeat(refine .intro rfl ?_;conv=>whnf))
            (refine ⟨by omega, (by first | omega | (simp; done) | (simp; omega) | (simp only [ll]; omega)), ?_⟩; ((conv=>whnf);repeat(refine .intro rfl ?_;conv=>whnf)))
            refine ⟨_, gl_atN q (by omega) hqn, ?_⟩
            ((conv=>whnf);repeat(refine .intro rfl ?_;conv=>whnf))
            rw [show min (gn R.S.low q) (gn R.S.low p) = ((min (R.S.low q) (R.S.low p) : Nat) : Int) by unfold gn; omega, gl_set (k := q) (by omega), gn_up]
            (refine ⟨by omega, (by first | omega | (simp; done) | (simp; omega) | (simp only [ll]; omega)), ?_⟩; ((conv=>whnf);repeat(refine .intro rfl ?_;conv=>whnf)))
            refine ⟨_, gl_atN p (by omega) hpn, ?_⟩
            ((conv=>whnf);repeat(refine .intro rfl ?_;conv=>whnf))
            (refine ⟨by omega, (by first | omega | (simp; done) | (simp; omega) | (simp only [ll]; omega)), ?_⟩; ((conv=>whnf);repeat(refine .intro rfl ?_;conv=>whnf)))
            refine ⟨_, gl_atN p (by omega) hpn, ?_⟩
            ((conv=>whnf);repeat(refine .intro rfl ?_;conv=>whnf))
            rw [show gn (up R.S.low q (min (R.S.low q) (R.S.low p))) p = (R.S.low p : Int) by unfold gn; rw [up_ne hne], show gn R.S.num p = (R.S.num p : Int) from rfl]
            (refine ifK_split (fun h3 => ?_) (fun h3 => ?_) <;> (rw [h3]; ((conv=>whnf);repeat(refine .intro rfl ?_;conv=>whnf))))
            · have h3 : R.S.low p = R.S.num p := by ((try simp only[oo,reduceCtorEq]at*)<;>omega)
              rw [if_pos h3] at hto
              have hC := acall_closed hn hI hps (up R.S.low q (min (R.S.low q) (R.S.low p))) ((q, j) :: r) [.vec true pver 2 (pz PZ)]
              unfold theapR theap dgrid at hC
              (refine .inr (.inr (.inl ⟨rfl, _, _, hC, ?_⟩)); ((conv=>whnf);repeat(refine .intro rfl ?_;conv=>whnf)))
              subst hto
              refine ⟨(⟨R.S.shut p ((q, j) :: r) (up R.S.low q (min (R.S.low q) (R.S.low p))), R.Z, R.ver⟩, PZ, pver, k'), ⟨hI', hPP, by omega, hF''⟩, by dsimp only; omega, leB_envH (by (repeat' (first | exact trivial | refine And.intro rfl ?_))) rfl⟩
            · have h3 : R.S.low p ≠ R.S.num p := by ((try simp only[oo,reduceCtorEq]at*)<;>omega)
              rw [if_neg h3] at hto
              subst hto
              refine ⟨(⟨R.S.back p q j r, R.Z, R.ver⟩, PZ, pver, k'), ⟨hI', hPP, by omega, hF''⟩, by dsimp only; omega, leB_envH (by (repeat' (first | exact trivial | refine And.intro rfl ?_))) rfl⟩
          · exfalso; ((try simp only[oo,reduceCtorEq]at*)<;>omega)
    · exfalso; ((try simp only[oo,reduceCtorEq]at*)<;>omega)
end Go.Proofs.Ytfaekhadjlgbbaa
