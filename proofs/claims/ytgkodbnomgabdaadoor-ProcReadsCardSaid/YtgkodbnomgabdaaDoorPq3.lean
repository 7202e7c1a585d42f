/-
  proc.Parse, over deep values. No statement is proved here.
-/
import Derived.Test.YtgkodbnomgabdaaDoorPq2
namespace Go.Proofs.YtgkodbnomgabdaaDoor
open Go.RowKit
set_option linter.unusedSimpArgs false
set_option linter.unusedVariables false
theorem lineR_fits {st st' : RdS} {ln : ByteArray} {a : Int} (h : lineR st ln a = some st') (hn : ∀ x ∈ st.nodes, x.1.size ≤ 1000000) (hl : ln.size ≤ 1000000) :
    st'.nodes.length ≤ st.nodes.length + 1 ∧ st'.flows.length ≤ st.flows.length + 1 ∧ ∀ x ∈ st'.nodes, x.1.size ≤ 1000000 := by
  unfold lineR at h
  split at h
  · split at h
    · cases h; exact ⟨by simp, by simp, hn⟩
    · cases h
  · split at h
    · split at h
      · cases h
        refine ⟨by simp, by simp, fun x hx => ?_⟩
        rcases List.mem_append.1 hx with hx | hx
        · exact hn x hx
        · rw [List.mem_singleton] at hx
          subst hx
          show (w0 (pcs ln 0) 1).size ≤ _
          unfold w0
          rw [List.getD_eq_getElem?_getD]
          cases e : (pcs ln 0)[1]? with
          | none => show (0 : Nat) ≤ _; omega
          | some y => have := pcs_size ln _ 0 rfl (Nat.zero_le _) y (List.mem_of_getElem? e); show y.size ≤ _; omega
      · cases h
    · cases h
theorem deepLL_all {H : List AObj} {n : Nat} {l : List (List D)} (h : l.length ≤ n) : DeepLL H (List.drop 0 (List.take n l)) l := by rw [List.drop_zero, List.take_of_length_le h]; exact deepLL_refl _
theorem renLL_nrows (ρ : Nat → Nat) (l : List (ByteArray × Int)) : renLL ρ (l.map nrow) = l.map nrow := renLL_pure _ (pureLL_map _ pure_nrow _)
theorem renLL_flrows (ρ : Nat → Nat) (l : List (ByteArray × ByteArray × Int)) : renLL ρ (l.map flrow) = l.map flrow := renLL_pure _ (pureLL_map _ (fun x => by simp [flrow, PureL, Pure]) _)
theorem renLL_frows (ρ : Nat → Nat) (l : List (Int × Int)) : renLL ρ (l.map frow) = l.map frow := renLL_pure _ (pureLL_map _ pure_frow _)
theorem rdO_ren (ρ : Nat → Nat) (st : RdS) : (rdO st).map (AObj.ren ρ) = [.row true [.own (ρ 1) st.nodes.length 0 st.nodes.length, .sc (.slice none 0 0), .own (ρ 2) st.flows.length 0 st.flows.length], .vec true st.nodes.length 2 (st.nodes.map nrow), .vec true st.flows.length 3 (st.flows.map flrow)] := by
  simp only [rdO, List.map_cons, List.map_nil, AObj.ren, renL, D.ren, renLL_nrows, renLL_flrows]
/-- A reader's own memory when flows are laid. -/
def rdQ (st : RdS) (fl : List (Int × Int)) : List AObj := [.row true [.own 1 st.nodes.length 0 st.nodes.length, .own 3 fl.length 0 fl.length, .own 2 st.flows.length 0 st.flows.length], .vec true st.nodes.length 2 (st.nodes.map nrow), .vec true st.flows.length 3 (st.flows.map flrow), .vec true fl.length 2 (fl.map frow)]
theorem rdQ_under (st : RdS) (fl : List (Int × Int)) : UnderO 4 (rdQ st fl) :=
  ⟨by simp [AObj.under, UnderL, Under], underLL_pure _ (pureLL_map _ pure_nrow _), underLL_pure _ (pureLL_map _ (fun x => by simp [flrow, PureL, Pure]) _), underLL_pure _ (pureLL_map _ pure_frow _), trivial⟩
def c38 : PC := .seq (.ops [q 2 (.box (.tmp 0)),q 3 (.move (.const (.bool false)))] false) (.seq (.ops [q 4 (.faddr 0 (.tmp 2)),q 5 (.load1 (.tmp 4)),q 6 (.load1 (.tmp 1)),q 7 (.bin .eql (.tmp 5) (.tmp 6)),qm 3 7] false) (.ret))
set_option maxRecDepth 100000 in
theorem c38_ok : FunOK Tryd.prog 38 8 [.tmp 3] c38 := ⟨⟨Tryd.f38, Tryd.func38, rfl, by kernel_rfl, rfl, by kernel_rfl⟩⟩
theorem proc_node1 (m : ByteArray × Int) (x : ByteArray) : PCall Tryd.prog 38 [.agg (nrow m), .ipt [.sc (.string x)]] (.sc (.bool (eqS m.1 x))) := by
  refine pcall_intro c38_ok (by simp) (by simp [PureL, Pure, pure_nrow]) ?_ (by simp [Pure])
  (apply rd_sound; focus (repeat' constructor))
  ((conv=>whnf);repeat(refine⟨rfl,?_⟩;conv=>whnf))
  exact .refl _
def nodeZ (nodes : List (ByteArray × Int)) (x : ByteArray) : Int := idxF (fun n => eqS n.1 x) nodes
def c22 : PC := .seq (.ops [q 3 (.box (.tmp 1)),q 4 (.move (.const (.int .i64 0)))] false) (.seq (.ops [qm 5 0,q 6 (.nilchk (.tmp 5)),q 7 (.faddr 0 (.tmp 6)),q 8 (.faddr 0 (.tmp 7)),q 9 (.load1 (.tmp 8)),q 10 (.mkfn (.func 38) [] [(.tmp 3)]),q 11 (.call 37 [(.tmp 9), (.tmp 10)]),qm 4 11] false) (.ret))
set_option maxRecDepth 100000 in
theorem c22_ok : FunOK Tryd.prog 22 12 [.tmp 4] c22 := ⟨⟨Tryd.f22, Tryd.func22, rfl, by kernel_rfl, rfl, by kernel_rfl⟩⟩
theorem proc_node (st : RdS) (hst : st.nodes.length ≤ 1000000000) (fl : List (Int × Int)) (x : ByteArray) : ACall Tryd.prog 22 [.loc 0 0, .sc (.string x)] (rdQ st fl) (.sc (.int .i64 (nodeZ st.nodes x))) (rdQ st fl) := by
  have hI := indexF_node st.nodes (by omega) (fun n => eqS n.1 x) 38 [.ipt [.sc (.string x)]] (by simp [PureL, Pure]) fun a _ => proc_node1 a x
  refine acall_intro c22_ok (by simp) (by simp [rdQ]) ?_ (by simp [Under]) (by
    intro o ho
    simp only [rdQ, List.mem_cons, List.not_mem_nil, or_false] at ho
    rcases ho with rfl | rfl | rfl | rfl
    · simp [AObj.under, UnderL, Under, rdQ]
    · exact underLL_pure _ (pureLL_map _ pure_nrow _)
    · exact underLL_pure _ (pureLL_map _ (fun x => by simp [flrow, PureL, Pure]) _)
    · exact underLL_pure _ (pureLL_map _ pure_frow _))
  unfold rdQ
  (apply rd_sound; focus (repeat' constructor))
  ((conv=>whnf);repeat(refine⟨rfl,?_⟩;conv=>whnf))
  refine .inr (.inl ⟨_, _, DeepL.cons _ _ _ _ (.own 1 _ _ _ 2 true _ _ rfl (by rw [List.drop_zero, List.take_of_length_le (by simp)]; exact deepLL_refl _)) (.cons _ _ _ _ (.fn _ _ _ _ _ (.nil) (.cons _ _ _ _ (.loc 4 0 true _ _ rfl (deepL_refl _)) .nil)) .nil), hI, rfl, ?_⟩)
  ((conv=>whnf);repeat(refine⟨rfl,?_⟩;conv=>whnf))
  simp
theorem node_read (st : RdS) (hst : st.nodes.length ≤ 1000000000) (fl : List (Int × Int)) (x : ByteArray) {r0 : AObj} {T : List AObj} :
    ARead Tryd.prog 22 [.loc 1 0, .sc (.string x)] (r0 :: .row true [.own 2 st.nodes.length 0 st.nodes.length, .own 4 fl.length 0 fl.length, .own 3 st.flows.length 0 st.flows.length] :: .vec true st.nodes.length 2 (st.nodes.map nrow) :: .vec true st.flows.length 3 (st.flows.map flrow) :: .vec true fl.length 2 (fl.map frow) :: T) (.sc (.int .i64 (nodeZ st.nodes x))) [1, 2, 3, 4] := by
  refine aread_of (proc_node st hst fl x) [1, 2, 3, 4] rfl (by decide) (by simp [UnderL, Under, rdQ]) (rdQ_under st fl) (by simp [renL, D.ren]) (by simp [D.ren]) (fun i o ho => ?_) 1 (q := true) (cs := [.own 2 st.nodes.length 0 st.nodes.length, .own 4 fl.length 0 fl.length, .own 3 st.flows.length 0 st.flows.length]) (by simp) rfl (by simp) (fun id hid => ?_)
  · match i, ho with
    | 0, ho => cases ho; simp [AObj.ren, renL, D.ren]
    | 1, ho => cases ho; exact congrArg some (show AObj.vec true _ 2 (st.nodes.map nrow) = AObj.ren _ (.vec true _ 2 (st.nodes.map nrow)) by simp only [AObj.ren, renLL_nrows])
    | 2, ho => cases ho; exact congrArg some (show AObj.vec true _ 3 (st.flows.map flrow) = AObj.ren _ (.vec true _ 3 (st.flows.map flrow)) by simp only [AObj.ren, renLL_flrows])
    | 3, ho => cases ho; exact congrArg some (show AObj.vec true _ 2 (fl.map frow) = AObj.ren _ (.vec true _ 2 (fl.map frow)) by simp only [AObj.ren, renLL_frows])
  · simp only [List.mem_cons, List.not_mem_nil, or_false] at hid
    rcases hid with rfl | rfl | rfl | rfl
    · exact .inl rfl
    · exact .inr ⟨st.nodes.length, 0, st.nodes.length, by simp⟩
    · exact .inr ⟨st.flows.length, 0, st.flows.length, by simp⟩
    · exact .inr ⟨fl.length, 0, fl.length, by simp⟩
def dpans (x : ProcD × Int × Int) : D := .tup [dproc x.1, .sc (.int .i64 x.2.1), .sc (.int .i64 x.2.2)]
theorem pure_dpans (x : ProcD × Int × Int) : Pure (dpans x) := by simp [dpans, Pure, PureL, pure_dproc]
def c7_1 : PC := .seq (.seq (.ops [qm 21 0,q 22 (.bin .neq (.tmp 21) (.const (.string ⟨#[]⟩)))] false) (.cond (.tmp 22) (.skip) (.exit 0))) (.seq (.block 1 (.seq (.ops [qm 26 0,q 27 (.call 20 [(.tmp 26), (.const (.string ⟨#[10]⟩))]),qm 25 27,q 28 (.ext 0 (.tmp 25)),q 29 (.ext 1 (.tmp 25)),q 30 (.ext 2 (.tmp 25)),qm 7 28,qm 8 29,qm 9 30] false) (.seq (.seq (.ops [qm 31 9,q 32 (.un .not (.tmp 31)),qm 33 32,⟨some 34,.move (.tmp 5),some (33,false),0⟩,⟨some 35,.move (.tmp 7),some (33,false),0⟩,⟨some 36,.move (.tmp 6),some (33,false),0⟩,⟨some 37,.call 21 [(.tmp 34), (.tmp 35), (.tmp 36)],some (33,false),0⟩,⟨some 38,.un .not (.tmp 37),some (33,false),0⟩,q 39 (.pick (.tmp 33) (.const (.bool true)) (.tmp 38))] false) (.cond (.tmp 39) (.seq (.ops [q 40 (.build [(.slice none 0 0), (.slice none 0 0)] []),qm 41 6,qn (.store 2 (.tmp 2) (.tmp 40)),qm 3 41,q 4 (.move (.const (.int .i64 3)))] false) (.ret)) (.skip))) (.ops [qm 42 8,qm 0 42] false)))) (.ops [qm 23 6,q 24 (.bin .add (.tmp 23) (.const (.int .i64 1))),qm 6 24] false))
def c7_2 : PC := .seq (.ops [q 49 (.bin .lss (.tmp 48) (.tmp 47))] false) (.seq (.cond (.tmp 49) (.skip) (.exit 2)) (.seq (.block 3 (.seq (.ops [q 50 (.iaddr 3 (.tmp 46) (.tmp 48)),q 51 (.loadA 3 (.tmp 50)),q 11 (.alloc [(.string ⟨#[]⟩), (.string ⟨#[]⟩), (.int .i64 0)]),qn (.store 3 (.tmp 11) (.tmp 51))] false) (.seq (.ops [qm 52 5,q 53 (.faddr 0 (.tmp 11)),qd 54 (.load1 (.tmp 53)) 2,qd 55 (.call 22 [(.tmp 52), (.tmp 54)]) 7,qm 56 5,q 57 (.faddr 1 (.tmp 11)),qd 58 (.load1 (.tmp 57)) 32,qd 59 (.call 22 [(.tmp 56), (.tmp 58)]) 127,qw 12 55 255,qw 13 59 511] true) (.seq (.seq (.ops [qm 60 12,q 61 (.bin .lss (.tmp 60) (.const (.int .i64 0))),qm 62 61,⟨some 63,.move (.tmp 13),some (62,false),0⟩,⟨some 64,.bin .lss (.tmp 63) (.const (.int .i64 0)),some (62,false),0⟩,q 65 (.pick (.tmp 62) (.const (.bool true)) (.tmp 64))] false) (.cond (.tmp 65) (.seq (.ops [q 66 (.build [(.slice none 0 0), (.slice none 0 0)] []),q 67 (.faddr 2 (.tmp 11)),qd 68 (.load1 (.tmp 67)) 2,qk (.store 2 (.tmp 2) (.tmp 66)) 1,qw 3 68 15,qd 4 (.move (.const (.int .i64 4))) 31] true) (.ret)) (.skip))) (.ops [qm 69 5,qm 70 5,q 71 (.nilchk (.tmp 70)),q 72 (.faddr 0 (.tmp 71)),q 73 (.faddr 1 (.tmp 72)),q 74 (.load1 (.tmp 73)),qm 75 12,qm 76 13,q 77 (.build [(.int .i64 0), (.int .i64 0)] [(0, 1, (.tmp 75)), (1, 1, (.tmp 76))]),q 78 (.bslice 2 1 [(.tmp 77)]),q 79 (.append 2 16 (.tmp 74) (.tmp 78)),q 80 (.nilchk (.tmp 69)),q 81 (.faddr 0 (.tmp 80)),q 82 (.faddr 1 (.tmp 81)),qn (.store 1 (.tmp 82) (.tmp 79))] false))))) (.ops [q 83 (.bin .add (.tmp 48) (.const (.int .i64 1))),qm 48 83] false)))
def c7 : PC := .seq (.ops [q 2 (.alloc [(.slice none 0 0), (.slice none 0 0)]),q 3 (.move (.const (.int .i64 0))),q 4 (.move (.const (.int .i64 0)))] false) (.seq (.seq (.ops [qm 15 0,q 16 (.slen (.tmp 15)),q 17 (.bin .gtr (.tmp 16) (.const (.int .i64 4096)))] false) (.cond (.tmp 17) (.seq (.ops [q 18 (.build [(.slice none 0 0), (.slice none 0 0)] []),qn (.store 2 (.tmp 2) (.tmp 18)),q 3 (.move (.const (.int .i64 0))),q 4 (.move (.const (.int .i64 2)))] false) (.ret)) (.skip))) (.seq (.ops [q 19 (.build [(.slice none 0 0), (.slice none 0 0), (.slice none 0 0)] []),q 20 (.box (.tmp 19)),qm 5 20] false) (.seq (.seq (.ops [q 6 (.move (.const (.int .i64 1)))] false) (.block 0 (.loop c7_1))) (.seq (.seq (.ops [qm 43 5,q 44 (.nilchk (.tmp 43)),q 45 (.faddr 2 (.tmp 44)),q 46 (.load1 (.tmp 45)),q 47 (.len (.tmp 46)),q 48 (.move (.const (.int .i64 0)))] false) (.block 2 (.loop c7_2))) (.seq (.seq (.ops [qm 84 5,q 85 (.nilchk (.tmp 84)),q 86 (.faddr 0 (.tmp 85)),q 87 (.loadA 2 (.tmp 86)),q 88 (.call 16 [(.tmp 87)]),qm 14 88] false) (.seq (.ops [qm 89 14,q 90 (.bin .neq (.tmp 89) (.const (.int .i64 0)))] false) (.cond (.tmp 90) (.seq (.ops [q 91 (.build [(.slice none 0 0), (.slice none 0 0)] []),qm 92 14,qn (.store 2 (.tmp 2) (.tmp 91)),q 3 (.move (.const (.int .i64 0))),qm 4 92] false) (.ret)) (.skip)))) (.seq (.ops [qm 93 5,q 94 (.nilchk (.tmp 93)),q 95 (.faddr 0 (.tmp 94)),q 96 (.loadA 2 (.tmp 95)),qn (.store 2 (.tmp 2) (.tmp 96)),q 3 (.move (.const (.int .i64 0))),q 4 (.move (.const (.int .i64 0)))] false) (.ret)))))))
set_option maxRecDepth 100000 in
theorem c7_ok : FunOK Tryd.prog 7 97 [.agg 2 2, .tmp 3, .tmp 4] c7 := ⟨⟨Tryd.f7, Tryd.func7, rfl, by kernel_rfl, rfl, by kernel_rfl⟩⟩
theorem proc_Parse_large (s : ByteArray) (hs : ¬ s.size ≤ 4096) : PCall Tryd.prog 7 [.sc (.string s)] (dpans (⟨[], []⟩, 0, 2)) := by
  refine pcall_intro c7_ok (by simp) (by simp [PureL, Pure]) ?_ (pure_dpans _)
  (apply rd_sound; focus (repeat' constructor))
  ((conv=>whnf);repeat(refine⟨rfl,?_⟩;conv=>whnf))
  refine ifK_t (by simp; omega) ?_
  ((conv=>whnf);repeat(refine⟨rfl,?_⟩;conv=>whnf))
  (repeat' (first | exact Deep.refl _ | exact Deep.none _ | exact deep_row _ | exact DeepL.nil | exact DeepLL.nil | refine Deep.agg _ _ ?_ | refine Deep.tup _ _ ?_ | refine Deep.own _ _ _ _ _ _ _ _ rfl ?_ | refine Deep.loc _ _ _ _ _ rfl ?_ | refine Deep.ifc _ _ _ ?_ | refine Deep.fn _ _ _ _ _ ?_ ?_ | refine DeepL.cons _ _ _ _ ?_ ?_ | refine DeepLL.cons _ _ _ _ ?_ ?_ | exact deepLL_refl _))
theorem proc_Parse (s : ByteArray) (hs : s.size ≤ 4096) : PCall Tryd.prog 7 [.sc (.string s)] (dpans (procR s)) := by
  refine pcall_intro c7_ok (by simp) (by simp [PureL, Pure]) ?_ (pure_dpans _)
  obtain ⟨R, hR⟩ : ∃ R, R = linesR s (s.size + 1) 0 1 ⟨[], []⟩ := ⟨_, rfl⟩
  obtain ⟨T, hT⟩ : ∃ T, T = procR s := ⟨_, rfl⟩
  rw [← hT]
  unfold procR at hT
  rw [← hR] at hT
  (apply rd_sound; focus (repeat' constructor))
  ((conv=>whnf);repeat(refine⟨rfl,?_⟩;conv=>whnf))
  refine ifK_f (by simp; omega) ?_
  ((conv=>whnf);repeat(refine⟨rfl,?_⟩;conv=>whnf))
  refine pwp_ghostB (leB_trans (leB_nilc 1 0 2 (by simp) rfl rfl) (leB_nilc 1 2 3 (by simp) rfl rfl)) ?_
  refine pwp_for [2, 5] (fun ((f, p, a, st) : Nat × Nat × Int × RdS) => [(0, .sc (.string (sfx s p))), (6, .sc (.int .i64 a))])
    (fun (f, p, a, st) => [(1, .row true [.own 2 st.nodes.length 0 st.nodes.length, .sc (.slice none 0 0), .own 3 st.flows.length 0 st.flows.length]), (2, .vec true st.nodes.length 2 (st.nodes.map nrow)), (3, .vec true st.flows.length 3 (st.flows.map flrow))])
    (fun (f, p, a, st) => R = linesR s f p a st ∧ p ≤ s.size ∧ s.size - p < f ∧ st.nodes.length ≤ p ∧ st.flows.length ≤ p ∧ 1 ≤ a ∧ a ≤ p + 1 ∧ ∀ x ∈ st.nodes, x.1.size ≤ 1000000) (fun (f, p, a, st) => f) (s.size + 1, 0, 1, ⟨[], []⟩) ?_
  ((conv=>whnf);repeat(refine⟨rfl,?_⟩;conv=>whnf))
  refine ⟨⟨hR, Nat.zero_le _, by omega, Nat.zero_le _, Nat.zero_le _, by omega, by omega, fun x hx => by cases hx⟩, by dsimp only; rw [sfx_zero]; (repeat' (first | exact trivial | refine And.intro rfl ?_)), rfl, ?_⟩
  rintro ⟨f, p, a, st⟩ ⟨hR, hp, hf, hn, hfl, ha1, ha2, hnm⟩
  obtain ⟨f, rfl⟩ : ∃ g, f = g + 1 := ⟨f - 1, by omega⟩
  have hC := strings_Cut 10 s (by omega) p hp
  have hz := sfx_size hp
  ((conv=>whnf);repeat(refine⟨rfl,?_⟩;conv=>whnf))
  (apply rd_sound; focus (repeat' constructor))
  ((conv=>whnf);repeat(refine⟨rfl,?_⟩;conv=>whnf))
  simp only [linesR] at hR
  by_cases hps : p < s.size
  · rw [if_pos hps] at hR
    have he : eqS (sfx s p) ⟨#[]⟩ = false := by
      cases h : eqS (sfx s p) ⟨#[]⟩ with
      | false => rfl
      | true => have := (eqS_empty _).1 h; omega
    rw [show ((sfx s p).toList == (⟨#[]⟩ : ByteArray).toList) = false from he]
    ((conv=>whnf);repeat(refine⟨rfl,?_⟩;conv=>whnf))
    by_cases hnl : fndE 10 s p < s.size
    · rw [if_pos hnl] at hR
      rw [show (10 : UInt8).toNat = 10 from rfl, if_pos hnl] at hC
      (refine .inl ⟨_, hC, ?_⟩; ((conv=>whnf);repeat(refine⟨rfl,?_⟩;conv=>whnf)))
      have hg := fndE_ge (c := 10) (s := s) p
      have hln : (s.extract p (fndE 10 s p)).size ≤ 1000000 := by rw [ByteArray.size_extract]; omega
      have hE := proc_line st ⟨by omega, by omega⟩ (s.extract p (fndE 10 s p)) (by omega) a
      (refine .inr (.inr (.inl ⟨rfl, _, _, (acall_mid hE [_] [] rfl (by simp [UnderL, Under, rdO]) (rdO_under st) rfl rfl (by rw [rdO_ren]; try rfl) (by rw [rdO_ren]; try rfl)), ?_⟩)); ((conv=>whnf);repeat(refine⟨rfl,?_⟩;conv=>whnf)))
      cases hlr : lineR st (s.extract p (fndE 10 s p)) a with
      | none =>
        rw [hlr] at hR
        subst hR
        simp only at hT
        subst hT
        ((conv=>whnf);repeat(refine⟨rfl,?_⟩;conv=>whnf))
        (repeat' (first | exact Deep.refl _ | exact Deep.none _ | exact deep_row _ | exact DeepL.nil | exact DeepLL.nil | refine Deep.agg _ _ ?_ | refine Deep.tup _ _ ?_ | refine Deep.own _ _ _ _ _ _ _ _ rfl ?_ | refine Deep.loc _ _ _ _ _ rfl ?_ | refine Deep.ifc _ _ _ ?_ | refine Deep.fn _ _ _ _ _ ?_ ?_ | refine DeepL.cons _ _ _ _ ?_ ?_ | refine DeepLL.cons _ _ _ _ ?_ ?_ | exact deepLL_refl _))
      | some st' =>
        rw [hlr] at hR
        obtain ⟨f1, f2, f3⟩ := lineR_fits hlr hnm hln
        ((conv=>whnf);repeat(refine⟨rfl,?_⟩;conv=>whnf))
        (refine .inl ⟨by (unfold InR; rw [IntKind.wrap_i64]; omega), ?_⟩; ((conv=>whnf);repeat(refine⟨rfl,?_⟩;conv=>whnf)))
        exact ⟨(f, fndE 10 s p + 1, a + 1, st'), ⟨hR, by omega, by omega, by omega, by omega, by omega, by omega, f3⟩, by dsimp only; omega, leB_envH (by (repeat' (first | exact trivial | refine And.intro rfl ?_))) rfl⟩
    · rw [if_neg hnl] at hR
      rw [show (10 : UInt8).toNat = 10 from rfl, if_neg hnl] at hC
      subst hR
      simp only at hT
      subst hT
      (refine .inl ⟨_, hC, ?_⟩; ((conv=>whnf);repeat(refine⟨rfl,?_⟩;conv=>whnf)))
      (repeat' (first | exact Deep.refl _ | exact Deep.none _ | exact deep_row _ | exact DeepL.nil | exact DeepLL.nil | refine Deep.agg _ _ ?_ | refine Deep.tup _ _ ?_ | refine Deep.own _ _ _ _ _ _ _ _ rfl ?_ | refine Deep.loc _ _ _ _ _ rfl ?_ | refine Deep.ifc _ _ _ ?_ | refine Deep.fn _ _ _ _ _ ?_ ?_ | refine DeepL.cons _ _ _ _ ?_ ?_ | refine DeepLL.cons _ _ _ _ ?_ ?_ | exact deepLL_refl _))
  · rw [if_neg hps] at hR
    have he : eqS (sfx s p) ⟨#[]⟩ = true := (eqS_empty _).2 (by omega)
    rw [show ((sfx s p).toList == (⟨#[]⟩ : ByteArray).toList) = true from he]
    subst hR
    ((conv=>whnf);repeat(refine⟨rfl,?_⟩;conv=>whnf))
    obtain ⟨FR, hFR⟩ : ∃ FR, FR = flowsR st.nodes st.flows [] := ⟨_, rfl⟩
    simp only at hT
    rw [← hFR] at hT
    refine pwp_ghostB (leB_nilc 1 1 2 (by simp) rfl rfl) ?_
    refine pwp_for [2, 5, 46, 47] (fun ((k, c, out) : Nat × Nat × List (Int × Int)) => [(48, .sc (.int .i64 k))])
      (fun (k, c, out) => [(1, .row true [.own 2 st.nodes.length 0 st.nodes.length, .own 4 c 0 c, .own 3 st.flows.length 0 st.flows.length]), (4, .vec true c 2 (out.map frow))])
      (fun (k, c, out) => FR = flowsR st.nodes (st.flows.drop k) out ∧ k ≤ st.flows.length ∧ out.length = k ∧ c = out.length) (fun (k, c, out) => st.flows.length - k) (0, 0, []) ?_
    ((conv=>whnf);repeat(refine⟨rfl,?_⟩;conv=>whnf))
    refine ⟨⟨by rw [List.drop_zero]; exact hFR, Nat.zero_le _, rfl, rfl⟩, by (repeat' (first | exact trivial | refine And.intro rfl ?_)), rfl, ?_⟩
    rintro ⟨k, c, out⟩ ⟨hR, hk, ho, rfl⟩
    ((conv=>whnf);repeat(refine⟨rfl,?_⟩;conv=>whnf))
    (apply rd_sound; focus (repeat' constructor))
    ((conv=>whnf);repeat(refine⟨rfl,?_⟩;conv=>whnf))
    (refine ifK_split (fun h6 => ?_) (fun h6 => ?_) <;> (rw [h6]; ((conv=>whnf);repeat(refine⟨rfl,?_⟩;conv=>whnf))))
    · have hk' : k < st.flows.length := by ((try simp only[oo,reduceCtorEq]at*)<;>omega)
      obtain ⟨x, y, al, hx⟩ : ∃ x y al, st.flows[k] = (x, y, al) := ⟨_, _, _, rfl⟩
      have hat : (st.flows.map flrow)[k]? = some (flrow (x, y, al)) := by rw [List.getElem?_map, List.getElem?_eq_getElem hk', hx]; rfl
      rw [List.drop_eq_getElem_cons hk', hx] at hR
      simp only [flowsR] at hR
      refine ⟨by omega, by omega, ?_⟩
      ((conv=>whnf);repeat(refine⟨rfl,?_⟩;conv=>whnf))
      refine ⟨_, by rw [show 0 + (k : Int).toNat = k by omega]; exact hat, ?_⟩
      ((conv=>whnf);repeat(refine⟨rfl,?_⟩;conv=>whnf))
      (refine .inr (.inr (.inr (.inr (.inr (.inr ⟨_, _, (node_read st (by omega) out x), ?_⟩))))); ((conv=>whnf);repeat(refine⟨rfl,?_⟩;conv=>whnf)))
      (refine .inr (.inr (.inr (.inr (.inr (.inr ⟨_, _, (node_read st (by omega) out y), ?_⟩))))); ((conv=>whnf);repeat(refine⟨rfl,?_⟩;conv=>whnf)))
      cases hx1 : nodeI st.nodes x with
      | none =>
        rw [hx1] at hR
        rw [show nodeZ st.nodes x = -1 by unfold nodeZ idxF; unfold nodeI at hx1; rw [hx1]]
        subst hR
        simp only at hT
        subst hT
        ((conv=>whnf);repeat(refine⟨rfl,?_⟩;conv=>whnf))
        (repeat' (first | exact Deep.refl _ | exact Deep.none _ | exact deep_row _ | exact DeepL.nil | exact DeepLL.nil | refine Deep.agg _ _ ?_ | refine Deep.tup _ _ ?_ | refine Deep.own _ _ _ _ _ _ _ _ rfl ?_ | refine Deep.loc _ _ _ _ _ rfl ?_ | refine Deep.ifc _ _ _ ?_ | refine Deep.fn _ _ _ _ _ ?_ ?_ | refine DeepL.cons _ _ _ _ ?_ ?_ | refine DeepLL.cons _ _ _ _ ?_ ?_ | exact deepLL_refl _))
      | some i =>
        rw [hx1] at hR
        rw [show nodeZ st.nodes x = (i : Int) by unfold nodeZ idxF; unfold nodeI at hx1; rw [hx1]]
        rw [show decide ((i : Int) < 0) = false by simp]
        ((conv=>whnf);repeat(refine⟨rfl,?_⟩;conv=>whnf))
        cases hy1 : nodeI st.nodes y with
        | none =>
          rw [hy1] at hR
          rw [show nodeZ st.nodes y = -1 by unfold nodeZ idxF; unfold nodeI at hy1; rw [hy1]]
          subst hR
          simp only at hT
          subst hT
          ((conv=>whnf);repeat(refine⟨rfl,?_⟩;conv=>whnf))
          (repeat' (first | exact Deep.refl _ | exact Deep.none _ | exact deep_row _ | exact DeepL.nil | exact DeepLL.nil | refine Deep.agg _ _ ?_ | refine Deep.tup _ _ ?_ | refine Deep.own _ _ _ _ _ _ _ _ rfl ?_ | refine Deep.loc _ _ _ _ _ rfl ?_ | refine Deep.ifc _ _ _ ?_ | refine Deep.fn _ _ _ _ _ ?_ ?_ | refine DeepL.cons _ _ _ _ ?_ ?_ | refine DeepLL.cons _ _ _ _ ?_ ?_ | exact deepLL_refl _))
        | some j =>
          rw [hy1] at hR
          rw [show nodeZ st.nodes y = (j : Int) by unfold nodeZ idxF; unfold nodeI at hy1; rw [hy1]]
          rw [show decide ((j : Int) < 0) = false by simp]
          ((conv=>whnf);repeat(refine⟨rfl,?_⟩;conv=>whnf))
          refine ⟨(by unfold sliceAppend; simp only [ll]; omega), ?_⟩
          ((conv=>whnf);repeat(refine⟨rfl,?_⟩;conv=>whnf))
          (refine .inl ⟨by (unfold InR; rw [IntKind.wrap_i64]; omega), ?_⟩; ((conv=>whnf);repeat(refine⟨rfl,?_⟩;conv=>whnf)))
          refine ⟨(k + 1, out.length + 1, out ++ [((i : Int), (j : Int))]), ⟨hR, by omega, by simp [ho], by simp⟩, by dsimp only; omega, ?_⟩
          (refine leB_close 5 (by simp) rfl ?_ ?_ <;> (repeat' (first | exact trivial | exact rfl | exact DeepM.refl _ | exact DeepML.refl _ | exact DeepMLL.refl _ | refine And.intro ?_ ?_ | (simp [Under, UnderL, UnderLL, -List.map_take, -List.map_drop]; done))))
          all_goals first
            | exact deepMLL_eq (by rw [List.drop_zero, List.take_of_length_le (by simp), List.map_append]; rfl)
            | exact underLL_pure _ (pureLL_map _ pure_frow _)
            | exact underLL_pure _ (pureLL_map _ pure_nrow _)
            | exact underLL_pure _ (pureLL_map _ (fun x => by simp [flrow, PureL, Pure]) _)
    · have hk' : k = st.flows.length := by have : ¬ k < st.flows.length := by ((try simp only[oo,reduceCtorEq]at*)<;>omega)
                                           omega
      subst hk'
      rw [List.drop_length] at hR
      simp only [flowsR] at hR
      subst hR
      simp only at hT
      have hC := proc_Check ⟨st.nodes, out⟩ ⟨by show st.nodes.length ≤ _; omega, by show out.length ≤ _; omega, fun x hx => by have := hnm x hx; omega⟩
      (refine .inr (.inl ⟨_, _, (by (repeat' (first | exact Deep.refl _ | exact deepLL_all (by first | (simp; done) | (simp [i64s]; done)) | exact Deep.none _ | exact deep_row _ | exact DeepL.nil | exact DeepLL.nil | refine Deep.agg _ _ ?_ | refine Deep.tup _ _ ?_ | refine Deep.own _ _ _ _ _ _ _ _ rfl ?_ | refine Deep.loc _ _ _ _ _ rfl ?_ | refine Deep.ifc _ _ _ ?_ | refine Deep.fn _ _ _ _ _ ?_ ?_ | refine DeepL.cons _ _ _ _ ?_ ?_ | refine DeepLL.cons _ _ _ _ ?_ ?_ | exact deepLL_refl _))), hC, rfl, ?_⟩); ((conv=>whnf);repeat(refine⟨rfl,?_⟩;conv=>whnf)))
      by_cases h0 : (ProcD.mk st.nodes out).chk = 0
      · rw [if_pos h0] at hT
        subst hT
        refine ifK_f (by simp [h0]) ?_
        ((conv=>whnf);repeat(refine⟨rfl,?_⟩;conv=>whnf))
        exact .tup _ _ (.cons _ _ _ _ (.agg _ _ (.cons _ _ _ _ (.own 2 _ _ _ 2 true _ _ rfl (deepLL_all (by simp))) (.cons _ _ _ _ (.own 4 _ _ _ 2 true _ _ rfl (deepLL_all (by simp))) .nil))) (.cons _ _ _ _ (.refl _) (.cons _ _ _ _ (.refl _) .nil)))
      · rw [if_neg h0] at hT
        subst hT
        refine ifK_t (by simpa using h0) ?_
        ((conv=>whnf);repeat(refine⟨rfl,?_⟩;conv=>whnf))
        (repeat' (first | exact Deep.refl _ | exact Deep.none _ | exact deep_row _ | exact DeepL.nil | exact DeepLL.nil | refine Deep.agg _ _ ?_ | refine Deep.tup _ _ ?_ | refine Deep.own _ _ _ _ _ _ _ _ rfl ?_ | refine Deep.loc _ _ _ _ _ rfl ?_ | refine Deep.ifc _ _ _ ?_ | refine Deep.fn _ _ _ _ _ ?_ ?_ | refine DeepL.cons _ _ _ _ ?_ ?_ | refine DeepLL.cons _ _ _ _ ?_ ?_ | exact deepLL_refl _))
end Go.Proofs.YtgkodbnomgabdaaDoor
