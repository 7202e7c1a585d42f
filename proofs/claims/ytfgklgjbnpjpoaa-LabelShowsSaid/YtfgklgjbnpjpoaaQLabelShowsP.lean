/-
  watchlaw.LabelShows returns true for every world, formula and number, and each argument reads afterwards as it read before. No conditions.
-/
import Derived.Test.YtfgklgjbnpjpoaaQDC
import Derived.Test.YtfgklgjbnpjpoaaQAt
import Derived.Test.YtfgklgjbnpjpoaaQAf
import Derived.Test.YtfgklgjbnpjpoaaQLsA
import Derived.Test.YtfgklgjbnpjpoaaQRl
import Derived.Test.YtfgklgjbnpjpoaaRows
namespace Go.Proofs.Ytfgklgjbnpjpoaa
open Go.RowKit Go.ChangeShapes Go.WideShapes Go.ChangeAt
set_option linter.unusedSimpArgs false
set_option linter.unusedVariables false
def labE (W : WorldD) (t : Tree) : Int := if W.chk = 0 then chk cKids t else W.chk
def c109 : PC := .seq (.ops [⟨some 2,.box (.tmp 0),none,0⟩,
 ⟨some 3,.box (.tmp 1),none,0⟩,
 ⟨some 4,.move (.const (.int .i64 0)),none,0⟩] false) (.seq (.seq (.ops [⟨some 6,.loadA 4 (.tmp 2),none,0⟩,
 ⟨some 7,.call 33 [(.tmp 6)],none,0⟩,
 ⟨some 5,.move (.tmp 7),none,0⟩] false) (.seq (.ops [⟨some 8,.move (.tmp 5),none,0⟩,
 ⟨some 9,.bin .neq (.tmp 8) (.const (.int .i64 0)),none,0⟩] false) (.cond (.tmp 9) (.seq (.ops [⟨some 10,.move (.tmp 5),none,0⟩,
 ⟨some 4,.move (.tmp 10),none,0⟩] false) (.ret)) (.skip)))) (.seq (.ops [⟨some 11,.loadA 3 (.tmp 3),none,0⟩,
 ⟨some 12,.call 189 [(.tmp 11)],none,0⟩,
 ⟨some 4,.move (.tmp 12),none,0⟩] false) (.ret)))
set_option maxRecDepth 100000 in
theorem c109_ok : FunOK Try.prog 109 13 [.tmp 4] c109 := ⟨⟨Try.f109, Try.func109, rfl, by kernel_rfl, rfl, by kernel_rfl⟩⟩
theorem lab_check (W : WorldD) (hW : W.Fits) (t : Tree) (hs : Small t) : PCall Try.prog 109 [dworld W, dtree t] (.sc (.int .i64 (labE W t))) := by
  have hC := wo_Check W hW
  have hT := ctl_Check t hs
  refine pcall_intro c109_ok (by simp) (by simp [PureL, pure_dworld, pure_dtree]) ?_ (by simp [Pure])
  unfold labE
  generalize W.chk = c at *
  unfold dworld at *
  (apply rd_sound; focus (repeat' constructor))
  ((conv=>whnf);repeat(refine .intro rfl ?_;conv=>whnf))
  (refine .inl ⟨_, hC, ?_⟩; ((conv=>whnf);repeat(refine .intro rfl ?_;conv=>whnf)))
  (refine ifK_split (fun q => ?_) (fun q => ?_) <;> (rw [q]; ((conv=>whnf);repeat(refine .intro rfl ?_;conv=>whnf))))
  · have q : ¬ c = 0 := by ((try simp only[oo,reduceCtorEq]at*)<;>omega)
    rw [if_neg q]
    exact .refl _
  · have q : c = 0 := by ((try simp only[oo,reduceCtorEq]at*)<;>omega)
    rw [if_pos q]
    (refine .inl ⟨_, hT, ?_⟩; ((conv=>whnf);repeat(refine .intro rfl ?_;conv=>whnf)))
    exact .refl _
theorem deep_path0 {H : List AObj} {e : Int} : Deep H (.tup [.agg [.sc (.slice none 0 0), .sc (.slice none 0 0)], .sc (.bool false), .sc (.int .i64 e)]) (.tup [dpath [] [], .sc (.bool false), .sc (.int .i64 e)]) :=
  .tup _ _ (.cons _ _ _ _ (.agg _ _ (.cons _ _ _ _ (.none _) (.cons _ _ _ _ (.none _) .nil))) (deepL_refl _))
def c44 : PC := .seq (.ops [⟨some 3,.box (.tmp 0),none,0⟩,
 ⟨some 4,.box (.tmp 1),none,0⟩,
 ⟨some 6,.alloc [(.slice none 0 0), (.slice none 0 0)],none,0⟩,
 ⟨some 7,.move (.const (.bool false)),none,0⟩,
 ⟨some 8,.move (.const (.int .i64 0)),none,0⟩] false) (.seq (.seq (.ops [⟨some 12,.loadA 4 (.tmp 3),none,0⟩,
 ⟨some 13,.loadA 3 (.tmp 4),none,0⟩,
 ⟨some 14,.call 109 [(.tmp 12), (.tmp 13)],none,0⟩,
 ⟨some 9,.move (.tmp 14),none,0⟩] false) (.seq (.ops [⟨some 15,.move (.tmp 9),none,0⟩,
 ⟨some 16,.bin .neq (.tmp 15) (.const (.int .i64 0)),none,0⟩] false) (.cond (.tmp 16) (.seq (.ops [⟨some 17,.build [(.slice none 0 0), (.slice none 0 0)] [],none,0⟩,
 ⟨some 18,.move (.tmp 9),none,0⟩,
 ⟨none,.store 2 (.tmp 6) (.tmp 17),none,0⟩,
 ⟨some 7,.move (.const (.bool false)),none,0⟩,
 ⟨some 8,.move (.tmp 18),none,0⟩] false) (.ret)) (.skip)))) (.seq (.seq (.ops [⟨some 19,.move (.tmp 2),none,0⟩,
 ⟨some 20,.bin .lss (.tmp 19) (.const (.int .i64 0)),none,0⟩,
 ⟨some 21,.move (.tmp 20),none,0⟩,
 ⟨some 22,.move (.tmp 2),some (21,false),0⟩,
 ⟨some 23,.faddr 1 (.tmp 3),some (21,false),0⟩,
 ⟨some 24,.load1 (.tmp 23),some (21,false),0⟩,
 ⟨some 25,.len (.tmp 24),some (21,false),0⟩,
 ⟨some 26,.bin .geq (.tmp 22) (.tmp 25),some (21,false),0⟩,
 ⟨some 27,.pick (.tmp 21) (.const (.bool true)) (.tmp 26),none,0⟩,
 ⟨some 28,.move (.tmp 27),none,0⟩,
 ⟨some 29,.faddr 0 (.tmp 4),some (28,false),0⟩,
 ⟨some 30,.load1 (.tmp 29),some (28,false),0⟩,
 ⟨some 31,.bin .lss (.tmp 30) (.const (.int .i64 7)),some (28,false),0⟩,
 ⟨some 32,.pick (.tmp 28) (.const (.bool true)) (.tmp 31),none,0⟩,
 ⟨some 33,.move (.tmp 32),none,0⟩,
 ⟨some 34,.faddr 0 (.tmp 4),some (33,false),0⟩,
 ⟨some 35,.load1 (.tmp 34),some (33,false),0⟩,
 ⟨some 36,.bin .gtr (.tmp 35) (.const (.int .i64 10)),some (33,false),0⟩,
 ⟨some 37,.pick (.tmp 33) (.const (.bool true)) (.tmp 36),none,0⟩] false) (.cond (.tmp 37) (.seq (.ops [⟨some 38,.build [(.slice none 0 0), (.slice none 0 0)] [],none,0⟩,
 ⟨none,.store 2 (.tmp 6) (.tmp 38),none,0⟩,
 ⟨some 7,.move (.const (.bool false)),none,0⟩,
 ⟨some 8,.move (.const (.int .i64 1)),none,0⟩] false) (.ret)) (.skip))) (.seq (.ops [⟨some 39,.loadA 4 (.tmp 3),none,0⟩,
 ⟨some 40,.call 110 [(.tmp 39)],none,0⟩,
 ⟨some 10,.move (.tmp 40),none,0⟩] false) (.seq (.seq (.ops [⟨some 41,.move (.tmp 10),none,0⟩,
 ⟨some 42,.loadA 3 (.tmp 4),none,0⟩,
 ⟨some 43,.call 111 [(.tmp 41), (.tmp 42)],none,0⟩,
 ⟨some 44,.move (.tmp 2),none,0⟩,
 ⟨some 45,.iaddr 1 (.tmp 43) (.tmp 44),none,0⟩,
 ⟨some 46,.load1 (.tmp 45),none,0⟩,
 ⟨some 47,.un .not (.tmp 46),none,0⟩] false) (.cond (.tmp 47) (.seq (.ops [⟨some 48,.build [(.slice none 0 0), (.slice none 0 0)] [],none,0⟩,
 ⟨none,.store 2 (.tmp 6) (.tmp 48),none,0⟩,
 ⟨some 7,.move (.const (.bool false)),none,0⟩,
 ⟨some 8,.move (.const (.int .i64 0)),none,0⟩] false) (.ret)) (.skip))) (.seq (.ops [⟨some 49,.move (.tmp 10),none,0⟩,
 ⟨some 50,.loadA 3 (.tmp 4),none,0⟩,
 ⟨some 51,.move (.tmp 2),none,0⟩,
 ⟨some 52,.call 128 [(.tmp 49), (.tmp 50), (.tmp 51)],none,0⟩,
 ⟨some 11,.alloc [(.slice none 0 0), (.slice none 0 0)],none,0⟩,
 ⟨none,.store 2 (.tmp 11) (.tmp 52),none,0⟩] false) (.seq (.ops [⟨some 53,.faddr 0 (.tmp 11),none,0⟩,
 ⟨some 54,.load1 (.tmp 53),none,1⟩,
 ⟨some 55,.call 47 [(.tmp 54)],none,3⟩,
 ⟨some 56,.faddr 1 (.tmp 11),none,0⟩,
 ⟨some 57,.load1 (.tmp 56),none,8⟩,
 ⟨some 58,.call 47 [(.tmp 57)],none,31⟩,
 ⟨some 59,.build [(.slice none 0 0), (.slice none 0 0)] [(0, 1, (.tmp 55)), (1, 1, (.tmp 58))],none,63⟩,
 ⟨none,.store 2 (.tmp 6) (.tmp 59),none,127⟩,
 ⟨some 7,.move (.const (.bool true)),none,255⟩,
 ⟨some 8,.move (.const (.int .i64 0)),none,511⟩] true) (.ret)))))))
set_option maxRecDepth 100000 in
theorem c44_ok : FunOK Try.prog 44 60 [.agg 6 2, .tmp 7, .tmp 8] c44 := ⟨⟨Try.f44, Try.func44, rfl, by kernel_rfl, rfl, by kernel_rfl⟩⟩
theorem wit_bad (W : WorldD) (hW : W.Fits) (t : Tree) (hs : Small t) (n : Int) (h : labE W t ≠ 0) : PCall Try.prog 44 [dworld W, dtree t, .sc (.int .i64 n)] (.tup [dpath [] [], .sc (.bool false), .sc (.int .i64 (labE W t))]) := by
  have hC := lab_check W hW t hs
  refine pcall_intro c44_ok (by simp) (by simp [PureL, Pure, pure_dworld, pure_dtree]) ?_ (by simp [Pure, PureL, pure_dpath])
  generalize labE W t = e at *
  unfold dworld at *
  (apply rd_sound; focus (repeat' constructor))
  ((conv=>whnf);repeat(refine .intro rfl ?_;conv=>whnf))
  (refine .inl ⟨_, hC, ?_⟩; ((conv=>whnf);repeat(refine .intro rfl ?_;conv=>whnf)))
  (refine ifK_split (fun q => ?_) (fun q => ?_) <;> (rw [q]; ((conv=>whnf);repeat(refine .intro rfl ?_;conv=>whnf))))
  · exact deep_path0
  · exfalso; ((try simp only[oo,reduceCtorEq]at*)<;>omega)
theorem wit_arg (W : WorldD) (hW : W.Fits) (t : Tree) (hs : Small t) (n : Int) (h : labE W t = 0) (hbad : n < 0 ∨ (W.next.length : Int) ≤ n ∨ t.kind < 7 ∨ 10 < t.kind) : PCall Try.prog 44 [dworld W, dtree t, .sc (.int .i64 n)] (.tup [dpath [] [], .sc (.bool false), .sc (.int .i64 1)]) := by
  have hC := lab_check W hW t hs
  rw [h] at hC
  refine pcall_intro c44_ok (by simp) (by simp [PureL, Pure, pure_dworld, pure_dtree]) ?_ (by simp [Pure, PureL, pure_dpath])
  unfold dworld at *
  (apply rd_sound; focus (repeat' constructor))
  ((conv=>whnf);repeat(refine .intro rfl ?_;conv=>whnf))
  (refine .inl ⟨_, hC, ?_⟩; ((conv=>whnf);repeat(refine .intro rfl ?_;conv=>whnf)))
  (refine ifK_split (fun a1 => ?_) (fun a1 => ?_) <;> (rw [a1]; ((conv=>whnf);repeat(refine .intro rfl ?_;conv=>whnf))))
  · exact deep_path0
  rw [List.length_map]
  (refine ifK_split (fun a2 => ?_) (fun a2 => ?_) <;> (rw [a2]; ((conv=>whnf);repeat(refine .intro rfl ?_;conv=>whnf))))
  · exact deep_path0
  (refine ifK_split (fun a3 => ?_) (fun a3 => ?_) <;> (rw [a3]; ((conv=>whnf);repeat(refine .intro rfl ?_;conv=>whnf))))
  · exact deep_path0
  (refine ifK_split (fun a4 => ?_) (fun a4 => ?_) <;> (rw [a4]; ((conv=>whnf);repeat(refine .intro rfl ?_;conv=>whnf))))
  · exact deep_path0
  · exfalso; ((try simp only[oo,reduceCtorEq]at*)<;>omega)
theorem wit_ok (W : WorldD) (hW : W.Fits) (hL : Lett W.label) (t : Tree) (hs : Small t) (n : Nat) (hc : W.chk = 0) (h : chk cKids t = 0) (hn : n < W.next.length) (hk : 7 ≤ t.kind ∧ t.kind ≤ 10) :
    PCall Try.prog 44 [dworld W, dtree t, .sc (.int .i64 n)] (if labT W t n = true then .tup [dpath (showR W t n).1 (showR W t n).2, .sc (.bool true), .sc (.int .i64 0)] else .tup [dpath [] [], .sc (.bool false), .sc (.int .i64 0)]) := by
  have hwf := ((chk_zero _ _).1 h).2.2
  have hC := lab_check W hW t hs
  rw [show labE W t = 0 by unfold labE; rw [if_pos hc, h]] at hC
  have hB := la_begun W hW hc
  have hT := la_label W hW hc hL t hwf
  have hSh := fun q => la_show W hW hc hL t hwf hk n hn q
  have hOk := fun q => show_ok hc t hwf hk n hn q
  refine pcall_intro c44_ok (by simp) (by simp [PureL, Pure, pure_dworld, pure_dtree]) ?_ (by split <;> simp [Pure, PureL, pure_dpath])
  unfold dworld at *
  (apply rd_sound; focus (repeat' constructor))
  ((conv=>whnf);repeat(refine .intro rfl ?_;conv=>whnf))
  (refine .inl ⟨_, hC, ?_⟩; ((conv=>whnf);repeat(refine .intro rfl ?_;conv=>whnf)))
  rw [List.length_map]
  (refine ifK_split (fun a2 => ?_) (fun a2 => ?_) <;> (rw [a2]; ((conv=>whnf);repeat(refine .intro rfl ?_;conv=>whnf))))
  · exfalso; ((try simp only[oo,reduceCtorEq]at*)<;>omega)
  (refine ifK_split (fun a3 => ?_) (fun a3 => ?_) <;> (rw [a3]; ((conv=>whnf);repeat(refine .intro rfl ?_;conv=>whnf))))
  · exfalso; ((try simp only[oo,reduceCtorEq]at*)<;>omega)
  (refine ifK_split (fun a4 => ?_) (fun a4 => ?_) <;> (rw [a4]; ((conv=>whnf);repeat(refine .intro rfl ?_;conv=>whnf))))
  · exfalso; ((try simp only[oo,reduceCtorEq]at*)<;>omega)
  (refine .inl ⟨_, hB, ?_⟩; ((conv=>whnf);repeat(refine .intro rfl ?_;conv=>whnf)))
  (refine .inl ⟨_, hT, ?_⟩; ((conv=>whnf);repeat(refine .intro rfl ?_;conv=>whnf)))
  refine ⟨by omega, _, rbl_atN n (by omega) hn, ?_⟩
  ((conv=>whnf);repeat(refine .intro rfl ?_;conv=>whnf))
  cases r : labT W t n
  · ((conv=>whnf);repeat(refine .intro rfl ?_;conv=>whnf))
    rw [if_neg (by decide)]
    exact deep_path0
  · have hSh := hSh r
    obtain ⟨_, _, b1, b2⟩ := hOk r
    rw [if_pos rfl]
    generalize (showR W t n).1 = s at *
    generalize (showR W t n).2 = l at *
    ((conv=>whnf);repeat(refine .intro rfl ?_;conv=>whnf))
    (refine .inl ⟨_, hSh, ?_⟩; ((conv=>whnf);repeat(refine .intro rfl ?_;conv=>whnf)))
    (refine .inl ⟨_, (clone_int s (by omega)), ?_⟩; ((conv=>whnf);repeat(refine .intro rfl ?_;conv=>whnf)))
    (refine .inl ⟨_, (clone_int l (by omega)), ?_⟩; ((conv=>whnf);repeat(refine .intro rfl ?_;conv=>whnf)))
    exact .refl _
def c11 : PC := .seq (.ops [⟨some 3,.box (.tmp 0),none,0⟩,
 ⟨some 4,.box (.tmp 1),none,0⟩,
 ⟨some 6,.move (.const (.bool false)),none,0⟩] false) (.seq (.ops [⟨some 12,.loadA 4 (.tmp 3),none,0⟩,
 ⟨some 13,.loadA 3 (.tmp 4),none,0⟩,
 ⟨some 14,.move (.tmp 2),none,0⟩,
 ⟨some 15,.call 44 [(.tmp 12), (.tmp 13), (.tmp 14)],none,0⟩,
 ⟨some 11,.move (.tmp 15),none,0⟩,
 ⟨some 16,.ext 0 (.tmp 11),none,0⟩,
 ⟨some 17,.ext 1 (.tmp 11),none,0⟩,
 ⟨some 18,.ext 2 (.tmp 11),none,0⟩,
 ⟨some 7,.alloc [(.slice none 0 0), (.slice none 0 0)],none,0⟩,
 ⟨none,.store 2 (.tmp 7) (.tmp 16),none,0⟩,
 ⟨some 8,.move (.tmp 17),none,0⟩,
 ⟨some 9,.move (.tmp 18),none,0⟩] false) (.seq (.ops [⟨some 19,.loadA 4 (.tmp 3),none,0⟩,
 ⟨some 20,.call 31 [(.tmp 19)],none,0⟩,
 ⟨some 10,.move (.tmp 20),none,0⟩] false) (.seq (.seq (.ops [⟨some 21,.move (.tmp 10),none,0⟩,
 ⟨some 22,.bin .eql (.tmp 21) (.const (.int .i64 0)),none,0⟩] false) (.cond (.tmp 22) (.ops [⟨some 23,.loadA 3 (.tmp 4),none,0⟩,
 ⟨some 24,.call 42 [(.tmp 23)],none,0⟩,
 ⟨some 10,.move (.tmp 24),none,0⟩] false) (.skip))) (.seq (.seq (.ops [⟨some 25,.move (.tmp 10),none,0⟩,
 ⟨some 26,.bin .eql (.tmp 25) (.const (.int .i64 0)),none,0⟩,
 ⟨some 27,.move (.tmp 26),none,0⟩,
 ⟨some 28,.move (.tmp 2),some (27,true),0⟩,
 ⟨some 29,.bin .lss (.tmp 28) (.const (.int .i64 0)),some (27,true),0⟩,
 ⟨some 30,.move (.tmp 29),some (27,true),0⟩,
 ⟨some 31,.move (.tmp 2),some (30,false),0⟩,
 ⟨some 32,.faddr 1 (.tmp 3),some (30,false),0⟩,
 ⟨some 33,.load1 (.tmp 32),some (30,false),0⟩,
 ⟨some 34,.len (.tmp 33),some (30,false),0⟩,
 ⟨some 35,.bin .geq (.tmp 31) (.tmp 34),some (30,false),0⟩,
 ⟨some 36,.pick (.tmp 30) (.const (.bool true)) (.tmp 35),some (27,true),0⟩,
 ⟨some 37,.move (.tmp 36),some (27,true),0⟩,
 ⟨some 38,.faddr 0 (.tmp 4),some (37,false),0⟩,
 ⟨some 39,.load1 (.tmp 38),some (37,false),0⟩,
 ⟨some 40,.bin .lss (.tmp 39) (.const (.int .i64 7)),some (37,false),0⟩,
 ⟨some 41,.pick (.tmp 37) (.const (.bool true)) (.tmp 40),some (27,true),0⟩,
 ⟨some 42,.move (.tmp 41),some (27,true),0⟩,
 ⟨some 43,.faddr 0 (.tmp 4),some (42,false),0⟩,
 ⟨some 44,.load1 (.tmp 43),some (42,false),0⟩,
 ⟨some 45,.bin .gtr (.tmp 44) (.const (.int .i64 10)),some (42,false),0⟩,
 ⟨some 46,.pick (.tmp 42) (.const (.bool true)) (.tmp 45),some (27,true),0⟩,
 ⟨some 47,.pick (.tmp 27) (.tmp 46) (.const (.bool false)),none,0⟩] false) (.cond (.tmp 47) (.ops [⟨some 10,.move (.const (.int .i64 1)),none,0⟩] false) (.skip))) (.seq (.seq (.ops [⟨some 48,.move (.tmp 10),none,0⟩,
 ⟨some 49,.bin .neq (.tmp 48) (.const (.int .i64 0)),none,0⟩] false) (.cond (.tmp 49) (.seq (.ops [⟨some 50,.move (.tmp 9),none,0⟩,
 ⟨some 51,.move (.tmp 10),none,0⟩,
 ⟨some 52,.bin .eql (.tmp 50) (.tmp 51),none,0⟩,
 ⟨some 53,.move (.tmp 52),none,0⟩,
 ⟨some 54,.move (.tmp 8),some (53,true),0⟩,
 ⟨some 55,.un .not (.tmp 54),some (53,true),0⟩,
 ⟨some 56,.pick (.tmp 53) (.tmp 55) (.const (.bool false)),none,0⟩,
 ⟨some 57,.move (.tmp 56),none,0⟩,
 ⟨some 58,.faddr 0 (.tmp 7),some (57,true),0⟩,
 ⟨some 59,.load1 (.tmp 58),some (57,true),0⟩,
 ⟨some 60,.len (.tmp 59),some (57,true),0⟩,
 ⟨some 61,.bin .eql (.tmp 60) (.const (.int .i64 0)),some (57,true),0⟩,
 ⟨some 62,.pick (.tmp 57) (.tmp 61) (.const (.bool false)),none,0⟩,
 ⟨some 63,.move (.tmp 62),none,0⟩,
 ⟨some 64,.faddr 1 (.tmp 7),some (63,true),0⟩,
 ⟨some 65,.load1 (.tmp 64),some (63,true),0⟩,
 ⟨some 66,.len (.tmp 65),some (63,true),0⟩,
 ⟨some 67,.bin .eql (.tmp 66) (.const (.int .i64 0)),some (63,true),0⟩,
 ⟨some 68,.pick (.tmp 63) (.tmp 67) (.const (.bool false)),none,0⟩,
 ⟨some 6,.move (.tmp 68),none,0⟩] false) (.ret)) (.skip))) (.seq (.seq (.ops [⟨some 69,.move (.tmp 9),none,0⟩,
 ⟨some 70,.bin .neq (.tmp 69) (.const (.int .i64 0)),none,0⟩,
 ⟨some 71,.move (.tmp 70),none,0⟩,
 ⟨some 72,.faddr 1 (.tmp 3),some (71,false),0⟩,
 ⟨some 73,.load1 (.tmp 72),some (71,false),0⟩,
 ⟨some 74,.len (.tmp 73),some (71,false),0⟩,
 ⟨some 75,.bin .gtr (.tmp 74) (.const (.int .i64 200)),some (71,false),0⟩,
 ⟨some 76,.pick (.tmp 71) (.const (.bool true)) (.tmp 75),none,0⟩,
 ⟨some 77,.move (.tmp 76),none,0⟩,
 ⟨some 78,.move (.tmp 8),some (77,false),0⟩,
 ⟨some 79,.un .not (.tmp 78),some (77,false),0⟩,
 ⟨some 80,.pick (.tmp 77) (.const (.bool true)) (.tmp 79),none,0⟩] false) (.cond (.tmp 80) (.seq (.ops [⟨some 81,.move (.tmp 9),none,0⟩,
 ⟨some 82,.bin .eql (.tmp 81) (.const (.int .i64 0)),none,0⟩,
 ⟨some 83,.move (.tmp 82),none,0⟩,
 ⟨some 84,.faddr 1 (.tmp 3),some (83,true),0⟩,
 ⟨some 85,.load1 (.tmp 84),some (83,true),0⟩,
 ⟨some 86,.len (.tmp 85),some (83,true),0⟩,
 ⟨some 87,.bin .gtr (.tmp 86) (.const (.int .i64 200)),some (83,true),0⟩,
 ⟨some 88,.move (.tmp 87),some (83,true),0⟩,
 ⟨some 89,.loadA 4 (.tmp 3),some (88,false),0⟩,
 ⟨some 90,.loadA 3 (.tmp 4),some (88,false),0⟩,
 ⟨some 91,.call 43 [(.tmp 89), (.tmp 90)],some (88,false),0⟩,
 ⟨some 92,.move (.tmp 2),some (88,false),0⟩,
 ⟨some 93,.iaddr 1 (.tmp 91) (.tmp 92),some (88,false),0⟩,
 ⟨some 94,.load1 (.tmp 93),some (88,false),0⟩,
 ⟨some 95,.un .not (.tmp 94),some (88,false),0⟩,
 ⟨some 96,.pick (.tmp 88) (.const (.bool true)) (.tmp 95),some (83,true),0⟩,
 ⟨some 97,.pick (.tmp 83) (.tmp 96) (.const (.bool false)),none,0⟩,
 ⟨some 98,.move (.tmp 97),none,0⟩,
 ⟨some 99,.move (.tmp 8),some (98,true),0⟩,
 ⟨some 100,.move (.tmp 99),some (98,true),0⟩,
 ⟨some 101,.faddr 0 (.tmp 7),some (100,false),0⟩,
 ⟨some 102,.load1 (.tmp 101),some (100,false),0⟩,
 ⟨some 103,.len (.tmp 102),some (100,false),0⟩,
 ⟨some 104,.faddr 1 (.tmp 7),some (100,false),0⟩,
 ⟨some 105,.load1 (.tmp 104),some (100,false),0⟩,
 ⟨some 106,.len (.tmp 105),some (100,false),0⟩,
 ⟨some 107,.bin .add (.tmp 103) (.tmp 106),some (100,false),0⟩,
 ⟨some 108,.bin .eql (.tmp 107) (.const (.int .i64 0)),some (100,false),0⟩,
 ⟨some 109,.pick (.tmp 100) (.const (.bool true)) (.tmp 108),some (98,true),0⟩,
 ⟨some 110,.pick (.tmp 98) (.tmp 109) (.const (.bool false)),none,0⟩,
 ⟨some 6,.move (.tmp 110),none,0⟩] false) (.ret)) (.skip))) (.seq (.ops [⟨some 111,.loadA 4 (.tmp 3),none,0⟩,
 ⟨some 112,.loadA 3 (.tmp 4),none,0⟩,
 ⟨some 113,.call 43 [(.tmp 111), (.tmp 112)],none,3⟩,
 ⟨some 114,.move (.tmp 2),none,0⟩,
 ⟨some 115,.iaddr 1 (.tmp 113) (.tmp 114),none,15⟩,
 ⟨some 116,.load1 (.tmp 115),none,31⟩,
 ⟨some 117,.move (.tmp 116),none,63⟩,
 ⟨some 118,.loadA 4 (.tmp 3),some (117,true),127⟩,
 ⟨some 119,.move (.tmp 2),some (117,true),127⟩,
 ⟨some 120,.bslice 1 1 [(.tmp 119)],some (117,true),383⟩,
 ⟨some 121,.loadA 2 (.tmp 7),some (117,true),127⟩,
 ⟨some 122,.call 45 [(.tmp 118), (.tmp 120), (.tmp 121)],some (117,true),2047⟩,
 ⟨some 123,.pick (.tmp 117) (.tmp 122) (.const (.bool false)),none,4095⟩,
 ⟨some 124,.move (.tmp 123),none,8191⟩,
 ⟨some 125,.loadA 4 (.tmp 3),some (124,true),16383⟩,
 ⟨some 126,.loadA 3 (.tmp 4),some (124,true),16383⟩,
 ⟨some 127,.faddr 0 (.tmp 7),some (124,true),16383⟩,
 ⟨some 128,.load1 (.tmp 127),some (124,true),81919⟩,
 ⟨some 129,.call 47 [(.tmp 128)],some (124,true),212991⟩,
 ⟨some 130,.faddr 1 (.tmp 7),some (124,true),16383⟩,
 ⟨some 131,.load1 (.tmp 130),some (124,true),540671⟩,
 ⟨some 132,.append 1 8 (.tmp 129) (.tmp 131),some (124,true),2047999⟩,
 ⟨some 133,.faddr 1 (.tmp 7),some (124,true),16383⟩,
 ⟨some 134,.load1 (.tmp 133),some (124,true),4210687⟩,
 ⟨some 135,.iaddr 1 (.tmp 134) (.const (.int .i64 0)),some (124,true),12599295⟩,
 ⟨some 136,.load1 (.tmp 135),some (124,true),29376511⟩,
 ⟨some 137,.call 46 [(.tmp 125), (.tmp 126), (.tmp 132), (.tmp 136)],some (124,true),67108863⟩,
 ⟨some 138,.pick (.tmp 124) (.tmp 137) (.const (.bool false)),none,134217727⟩,
 ⟨some 6,.move (.tmp 138),none,268435455⟩] true) (.ret))))))))
set_option maxRecDepth 100000 in
theorem c11_ok : FunOK Try.prog 11 139 [.tmp 6] c11 := ⟨⟨Try.f11, Try.func11, rfl, by kernel_rfl, rfl, by kernel_rfl⟩⟩
set_option maxRecDepth 100000 in
theorem law_LabelShows_bad (W : WorldD) (hW : W.Fits) (t : Tree) (hs : Small t) (n : Int) (h : labE W t ≠ 0) : PCall Try.prog 11 [dworld W, dtree t, .sc (.int .i64 n)] (dbool true) := by
  have hR := ref_World W hW
  have hRC := ref_Ctl t hs
  have hB := wit_bad W hW t hs n h
  refine pcall_intro c11_ok (by simp) (by simp [PureL, Pure, pure_dworld, pure_dtree]) ?_ (by simp [dbool, Pure])
  by_cases hc : W.chk = 0
  · have he : labE W t = chk cKids t := by unfold labE; rw [if_pos hc]
    rw [he] at h hB
    rw [hc] at hR
    generalize chk cKids t = e at *
    unfold dworld dpath pcells at *
    (apply rd_sound; focus (repeat' constructor))
    ((conv=>whnf);repeat(refine .intro rfl ?_;conv=>whnf))
    (refine .inl ⟨_, hB, ?_⟩; ((conv=>whnf);repeat(refine .intro rfl ?_;conv=>whnf)))
    (refine .inl ⟨_, hR, ?_⟩; ((conv=>whnf);repeat(refine .intro rfl ?_;conv=>whnf)))
    (refine .inl ⟨_, hRC, ?_⟩; ((conv=>whnf);repeat(refine .intro rfl ?_;conv=>whnf)))
    (refine ifK_split (fun q => ?_) (fun q => ?_) <;> (rw [q]; ((conv=>whnf);repeat(refine .intro rfl ?_;conv=>whnf))))
    · exfalso; ((try simp only[oo,reduceCtorEq]at*)<;>omega)
    (refine ifK_split (fun q2 => ?_) (fun q2 => ?_) <;> (rw [q2]; ((conv=>whnf);repeat(refine .intro rfl ?_;conv=>whnf))))
    · rw [show (e == e) = true by simp]
      ((conv=>whnf);repeat(refine .intro rfl ?_;conv=>whnf))
      exact .refl _
    · exfalso; ((try simp only[oo,reduceCtorEq]at*)<;>omega)
  · have he : labE W t = W.chk := by unfold labE; rw [if_neg hc]
    rw [he] at h hB
    generalize W.chk = e at *
    unfold dworld dpath pcells at *
    (apply rd_sound; focus (repeat' constructor))
    ((conv=>whnf);repeat(refine .intro rfl ?_;conv=>whnf))
    (refine .inl ⟨_, hB, ?_⟩; ((conv=>whnf);repeat(refine .intro rfl ?_;conv=>whnf)))
    (refine .inl ⟨_, hR, ?_⟩; ((conv=>whnf);repeat(refine .intro rfl ?_;conv=>whnf)))
    (refine ifK_split (fun q => ?_) (fun q => ?_) <;> (rw [q]; ((conv=>whnf);repeat(refine .intro rfl ?_;conv=>whnf))))
    · exfalso; ((try simp only[oo,reduceCtorEq]at*)<;>omega)
    (refine ifK_split (fun q1 => ?_) (fun q1 => ?_) <;> (rw [q1]; ((conv=>whnf);repeat(refine .intro rfl ?_;conv=>whnf))))
    · exfalso; ((try simp only[oo,reduceCtorEq]at*)<;>omega)
    (refine ifK_split (fun q2 => ?_) (fun q2 => ?_) <;> (rw [q2]; ((conv=>whnf);repeat(refine .intro rfl ?_;conv=>whnf))))
    · rw [show (e == e) = true by simp]
      ((conv=>whnf);repeat(refine .intro rfl ?_;conv=>whnf))
      exact .refl _
    · exfalso; ((try simp only[oo,reduceCtorEq]at*)<;>omega)
set_option maxRecDepth 100000 in
theorem law_LabelShows_arg (W : WorldD) (hW : W.Fits) (t : Tree) (hs : Small t) (n : Int) (hc : W.chk = 0) (h : chk cKids t = 0) (hbad : n < 0 ∨ (W.next.length : Int) ≤ n ∨ t.kind < 7 ∨ 10 < t.kind) : PCall Try.prog 11 [dworld W, dtree t, .sc (.int .i64 n)] (dbool true) := by
  have hR := ref_World W hW
  have hRC := ref_Ctl t hs
  have hB := wit_arg W hW t hs n (by unfold labE; rw [if_pos hc, h]) hbad
  rw [hc] at hR
  rw [h] at hRC
  refine pcall_intro c11_ok (by simp) (by simp [PureL, Pure, pure_dworld, pure_dtree]) ?_ (by simp [dbool, Pure])
  unfold dworld dpath pcells at *
  (apply rd_sound; focus (repeat' constructor))
  ((conv=>whnf);repeat(refine .intro rfl ?_;conv=>whnf))
  (refine .inl ⟨_, hB, ?_⟩; ((conv=>whnf);repeat(refine .intro rfl ?_;conv=>whnf)))
  (refine .inl ⟨_, hR, ?_⟩; ((conv=>whnf);repeat(refine .intro rfl ?_;conv=>whnf)))
  (refine .inl ⟨_, hRC, ?_⟩; ((conv=>whnf);repeat(refine .intro rfl ?_;conv=>whnf)))
  (refine ifK_split (fun a1 => ?_) (fun a1 => ?_) <;> (rw [a1]; ((conv=>whnf);repeat(refine .intro rfl ?_;conv=>whnf))))
  · exact .refl _
  rw [List.length_map]
  (refine ifK_split (fun a2 => ?_) (fun a2 => ?_) <;> (rw [a2]; ((conv=>whnf);repeat(refine .intro rfl ?_;conv=>whnf))))
  · exact .refl _
  (refine ifK_split (fun a3 => ?_) (fun a3 => ?_) <;> (rw [a3]; ((conv=>whnf);repeat(refine .intro rfl ?_;conv=>whnf))))
  · exact .refl _
  (refine ifK_split (fun a4 => ?_) (fun a4 => ?_) <;> (rw [a4]; ((conv=>whnf);repeat(refine .intro rfl ?_;conv=>whnf))))
  · exact .refl _
  · exfalso; ((try simp only[oo,reduceCtorEq]at*)<;>omega)
set_option maxRecDepth 100000 in
theorem law_LabelShows_ok (W : WorldD) (hW : W.Fits) (hL : Lett W.label) (t : Tree) (hs : Small t) (n : Nat) (hc : W.chk = 0) (h : chk cKids t = 0) (hn : n < W.next.length) (hk : 7 ≤ t.kind ∧ t.kind ≤ 10) : PCall Try.prog 11 [dworld W, dtree t, .sc (.int .i64 n)] (dbool true) := by
  obtain ⟨_, h600, _⟩ := chk_label W hc
  have hwf := ((chk_zero _ _).1 h).2.2
  have hR := ref_World W hW
  have hRC := ref_Ctl t hs
  have hB := wit_ok W hW hL t hs n hc h hn hk
  have hRL := ref_Label W hW hc hL t hwf
  rw [hc] at hR
  rw [h] at hRC
  refine pcall_intro c11_ok (by simp) (by simp [PureL, Pure, pure_dworld, pure_dtree]) ?_ (by simp [dbool, Pure])
  cases r : labT W t n
  · rw [if_neg (by rw [r]; decide)] at hB
    unfold dworld dpath pcells at *
    (apply rd_sound; focus (repeat' constructor))
    ((conv=>whnf);repeat(refine .intro rfl ?_;conv=>whnf))
    (refine .inl ⟨_, hB, ?_⟩; ((conv=>whnf);repeat(refine .intro rfl ?_;conv=>whnf)))
    (refine .inl ⟨_, hR, ?_⟩; ((conv=>whnf);repeat(refine .intro rfl ?_;conv=>whnf)))
    (refine .inl ⟨_, hRC, ?_⟩; ((conv=>whnf);repeat(refine .intro rfl ?_;conv=>whnf)))
    rw [List.length_map]
    (refine ifK_split (fun a2 => ?_) (fun a2 => ?_) <;> (rw [a2]; ((conv=>whnf);repeat(refine .intro rfl ?_;conv=>whnf))))
    · exfalso; ((try simp only[oo,reduceCtorEq]at*)<;>omega)
    (refine ifK_split (fun a3 => ?_) (fun a3 => ?_) <;> (rw [a3]; ((conv=>whnf);repeat(refine .intro rfl ?_;conv=>whnf))))
    · exfalso; ((try simp only[oo,reduceCtorEq]at*)<;>omega)
    (refine ifK_split (fun a4 => ?_) (fun a4 => ?_) <;> (rw [a4]; ((conv=>whnf);repeat(refine .intro rfl ?_;conv=>whnf))))
    · exfalso; ((try simp only[oo,reduceCtorEq]at*)<;>omega)
    rw [List.length_map]
    (refine ifK_split (fun big => ?_) (fun big => ?_) <;> (rw [big]; ((conv=>whnf);repeat(refine .intro rfl ?_;conv=>whnf))))
    · rw [List.length_map]
      (refine ifK_split (fun big2 => ?_) (fun big2 => ?_) <;> (rw [big2]; ((conv=>whnf);repeat(refine .intro rfl ?_;conv=>whnf))))
      · (refine .inl ⟨by (unfold InR; rw [IntKind.wrap_i64]; simp), ?_⟩)
        ((conv=>whnf);repeat(refine .intro rfl ?_;conv=>whnf))
        exact .refl _
      · exfalso; ((try simp only[oo,reduceCtorEq]at*)<;>omega)
    · rw [List.length_map]
      (refine ifK_split (fun big2 => ?_) (fun big2 => ?_) <;> (rw [big2]; ((conv=>whnf);repeat(refine .intro rfl ?_;conv=>whnf))))
      · exfalso; ((try simp only[oo,reduceCtorEq]at*)<;>omega)
      (refine .inl ⟨_, hRL, ?_⟩; ((conv=>whnf);repeat(refine .intro rfl ?_;conv=>whnf)))
      refine ⟨by omega, _, rbl_atN n (by omega) hn, ?_⟩
      rw [r]
      ((conv=>whnf);repeat(refine .intro rfl ?_;conv=>whnf))
      (refine .inl ⟨by (unfold InR; rw [IntKind.wrap_i64]; simp), ?_⟩)
      ((conv=>whnf);repeat(refine .intro rfl ?_;conv=>whnf))
      exact .refl _
  · rw [if_pos r] at hB
    obtain ⟨P, hS, b1, b2⟩ := show_ok hc t hwf hk n hn r
    have hgood := P.good
    have hPa := ref_Path W hW [(n : Int)] (by simp) (showR W t n).1 (showR W t n).2 b1 b2
    rw [hgood] at hPa
    have hSh := law_shows W hW hc hL t hwf hk ((showR W t n).1 ++ (showR W t n).2) (by rw [List.length_append]; omega) ((showR W t n).2.getD 0 0) hS
    have hne := P.ne
    generalize (showR W t n).1 = s at *
    generalize (showR W t n).2 = l at *
    unfold dworld dpath pcells at *
    (apply rd_sound; focus (repeat' constructor))
    ((conv=>whnf);repeat(refine .intro rfl ?_;conv=>whnf))
    (refine .inl ⟨_, hB, ?_⟩; ((conv=>whnf);repeat(refine .intro rfl ?_;conv=>whnf)))
    (refine .inl ⟨_, hR, ?_⟩; ((conv=>whnf);repeat(refine .intro rfl ?_;conv=>whnf)))
    (refine .inl ⟨_, hRC, ?_⟩; ((conv=>whnf);repeat(refine .intro rfl ?_;conv=>whnf)))
    rw [List.length_map]
    (refine ifK_split (fun a2 => ?_) (fun a2 => ?_) <;> (rw [a2]; ((conv=>whnf);repeat(refine .intro rfl ?_;conv=>whnf))))
    · exfalso; ((try simp only[oo,reduceCtorEq]at*)<;>omega)
    (refine ifK_split (fun a3 => ?_) (fun a3 => ?_) <;> (rw [a3]; ((conv=>whnf);repeat(refine .intro rfl ?_;conv=>whnf))))
    · exfalso; ((try simp only[oo,reduceCtorEq]at*)<;>omega)
    (refine ifK_split (fun a4 => ?_) (fun a4 => ?_) <;> (rw [a4]; ((conv=>whnf);repeat(refine .intro rfl ?_;conv=>whnf))))
    · exfalso; ((try simp only[oo,reduceCtorEq]at*)<;>omega)
    rw [List.length_map]
    (refine ifK_split (fun big => ?_) (fun big => ?_) <;> (rw [big]; ((conv=>whnf);repeat(refine .intro rfl ?_;conv=>whnf))))
    · rw [List.length_map]
      (refine ifK_split (fun big2 => ?_) (fun big2 => ?_) <;> (rw [big2]; ((conv=>whnf);repeat(refine .intro rfl ?_;conv=>whnf))))
      · exact .refl _
      · exfalso; ((try simp only[oo,reduceCtorEq]at*)<;>omega)
    · (refine .inl ⟨_, hRL, ?_⟩; ((conv=>whnf);repeat(refine .intro rfl ?_;conv=>whnf)))
      refine ⟨by omega, _, rbl_atN n (by omega) hn, ?_⟩
      rw [r]
      ((conv=>whnf);repeat(refine .intro rfl ?_;conv=>whnf))
      have hpos : 0 < l.length := by cases l with | nil => exact absurd rfl hne | cons a q => simp
      refine .inr (.inl ⟨_, _, .cons _ _ _ _ (.refl _) (.cons _ _ _ _ (.own _ _ _ _ _ _ _ _ rfl (deepLL_refl [[D.sc (.int .i64 (n : Int))]])) (.cons _ _ _ _ (.refl _) .nil)), hPa, rfl, ?_⟩)
      rw [show List.range ([AObj.row true W.cells, AObj.row true (drow t), AObj.row true [dints s, dints l], AObj.vec true 0 1 [[D.sc (.int .i64 (n : Int))]]] : List AObj).length = [0, 1, 2, 3] from rfl]
      ((conv=>whnf);repeat(refine .intro rfl ?_;conv=>whnf))
      (refine .inr (.inr (.inr (.inr (.inl ⟨_, _, _, (acallAt_new (cloneO_int s (by omega)) (by simp [PureL, Pure]) [4] rfl rfl (by simp [AObj.ren, renL, D.ren]; rfl)), ?_⟩)))); ((conv=>whnf);repeat(refine .intro rfl ?_;conv=>whnf)))
      refine ⟨(by unfold sliceAppend; simp only [ll]; omega), ?_⟩
      ((conv=>whnf);repeat(refine .intro rfl ?_;conv=>whnf))
      refine ⟨by omega, _, intsD_at (l := l) (k := 0) (by omega) hpos, ?_⟩
      ((conv=>whnf);repeat(refine .intro rfl ?_;conv=>whnf))
      refine .inr (.inl ⟨_, _, .cons _ _ _ _ (.refl _) (.cons _ _ _ _ (.refl _) (.cons _ _ _ _ (.own _ _ _ _ _ _ _ _ rfl (by rw [app_map, drop_take_all (by simp)]; exact deepLL_refl _)) (.cons _ _ _ _ (.refl _) .nil))), hSh, rfl, ?_⟩)
      ((conv=>whnf);repeat(refine .intro rfl ?_;conv=>whnf))
      exact .refl _
theorem law_LabelShows (W : WorldD) (hW : W.Fits) (hL : Lett W.label) (t : Tree) (hs : Small t) (n : Int) : PCall Try.prog 11 [dworld W, dtree t, .sc (.int .i64 n)] (dbool true) := by
  by_cases h : labE W t = 0
  · have hc : W.chk = 0 := by
      by_cases q : W.chk = 0
      · exact q
      · unfold labE at h; rw [if_neg q] at h; exact h
    have h2 : chk cKids t = 0 := by unfold labE at h; rwa [if_pos hc] at h
    by_cases hb : n < 0 ∨ (W.next.length : Int) ≤ n ∨ t.kind < 7 ∨ 10 < t.kind
    · exact law_LabelShows_arg W hW t hs n hc h2 hb
    · obtain ⟨m, rfl⟩ : ∃ m : Nat, n = m := ⟨n.toNat, by omega⟩
      exact law_LabelShows_ok W hW hL t hs m hc h2 (by omega) (by omega)
  · exact law_LabelShows_bad W hW t hs n h
namespace labelShows
set_option maxRecDepth 100000 in
theorem law : ∀ Ds, OfAs Try.prog [56, 71, 3] Ds → PCall Try.prog 11 Ds (dbool true)
  | [d, e, x], h => by
    obtain ⟨t, rfl, ht⟩ := argCtl h.2.1
    obtain ⟨n, rfl, _, _⟩ := argInt Try.underlying3 h.2.2.1
    have h1 := h.1
    unfold OfA OfAz at h1
    rw [Try.underlying56] at h1
    obtain ⟨cs, rfl, h1⟩ := h1
    have k1 := of_struct Try.underlying56 h1
    simp only [List.map_cons, List.map_nil] at k1
    obtain ⟨start, r, rfl, b1, _, k1⟩ := fList Try.underlying22 Try.underlying3 (by kernel_rfl) (by kernel_rfl) k1
    obtain ⟨next, r, rfl, b2, k1⟩ := fGrid Try.underlying23 Try.underlying22 Try.underlying3 (by kernel_rfl) (by kernel_rfl) (by kernel_rfl) (of_decide_eq_true (by kernel_rfl)) k1
    obtain ⟨label, r, rfl, b3, r3, k1⟩ := fList Try.underlying24 Try.underlying99 (by kernel_rfl) (by kernel_rfl) k1
    obtain ⟨fair, r, rfl, b4, k1⟩ := fGrid Try.underlying23 Try.underlying22 Try.underlying3 (by kernel_rfl) (by kernel_rfl) (by kernel_rfl) (of_decide_eq_true (by kernel_rfl)) k1
    obtain rfl := ofTs_nil k1
    exact law_LabelShows ⟨start, next, label, fair⟩ ⟨b1, b2.len, b3, b4.len, b2.each, b4.each⟩ (fun x hx => by have := r3 x hx; simp [IntKind.min, IntKind.max, IntKind.signed, IntKind.bits] at this; omega) t ht n
theorem types : typesOK Try.prog [56, 71, 3, 22, 23, 24, 69, 99] = true := by kernel_rfl
set_option maxRecDepth 100000 in
theorem laidOut : laidOutB Try.prog = true := by kernel_rfl
set_option maxRecDepth 100000 in
theorem readable : (Try.f11.params.toList.all fun t => Try.prog.readableRec t && decide (t < Try.prog.types.size)) = true := by kernel_rfl
theorem own : ownKnob Try.prog.godebug = none := by kernel_rfl
set_option maxRecDepth 100000 in
theorem lifted (os : Os) (started : os.Started) (H : Type) (enc : TypeId × Value → H) :
    ReturnsInHanded {} Try.checked os 11 .any (Rows.labelShowsSpec.pre6 enc Try.prog Try.f11 Rows.labelShowsRow.domain false) (Rows.labelShowsSpec.post enc Try.prog Try.f11 false true false false) := by
  refine returnsInHanded_of_change_sized (C := Try.checked) own started (by kernel_rfl) Try.func11
    (ChangeSpec.witness6 (enc := enc) (C := Try.checked) false ⟨#[], #[.agg #[.slice none 0 0, .slice none 0 0, .slice none 0 0, .slice none 0 0], .agg #[.int .i64 0, .int .i64 0, .slice none 0 0], .int .i64 0], []⟩ 8 (by kernel_rfl) (by kernel_rfl) (by kernel_rfl) (by kernel_rfl)) ?_
  intro W base args ds gs before hval0 hW _ hsz _
  have hval : ∀ (j : Nat) t v, Try.f11.params[j]? = some t → args[j]? = some v → Value.okWide Try.prog W .any base t v := hval0
  have hW' := hW
  obtain ⟨p, q, hA0, hV, _, hfz, hnd⟩ := hW
  have hA : DataW.TrodAll enc Try.prog W 0 (fun _ => true) true Try.f11.params.toList args.toList ds p := hA0
  have hps : Try.f11.params.toList = [56, 71, 3] := by kernel_rfl
  obtain ⟨Ds, hD, hR⟩ := args_rep types (base := base) _ _ _ _ (fun t ht => by rw [hps] at ht; revert t; decide) (fun j t v h1 h2 => hval j t v (by simpa using h1) (by simpa using h2)) hA fun n hn => by
    have := List.all_eq_true.1 hsz n (weightsEach_pre _ _ _ _ (trodAll_len _ _ _ _ hA).symm n hn)
    simpa using this
  rw [hps] at hD
  have hC := (law Ds hD).run noInj (There W) W args.toList (fun b h => h) hR
  rw [show args.toList.toArray = args from rfl] at hC
  refine hC.mono fun e W' ⟨v, F', he, _, hv, hx⟩ => ?_
  have hv' : v = .bool true := by simpa only [rep, dbool] using hv
  subst he hv'
  exact ⟨_, rfl, row_post hW' rfl (by kernel_rfl) Try.underlying4 laidOut (fun t ht => by
      have := List.all_eq_true.1 readable t ht
      simp only [Bool.and_eq_true, decide_eq_true_eq] at this
      exact this) (fun ds h => by rw [hps] at h; match ds, h with | [_, _, _], _ => rfl) (below_of_ext hx) (ok_one (by kernel_rfl) rfl (okWide_bool_mk Try.underlying4 _))⟩

theorem over : Rows.labelShowsRow.holds Try.pinned (OpenSpec.ofChange Rows.labelShowsSpec) :=
  OpenClaim.holds_of_wide 11 Try.f11 rfl rfl rfl rfl rfl rfl rfl ⟨rfl, rfl, rfl, rfl, rfl⟩ rfl rfl rfl rfl rfl (by kernel_rfl) Try.func11 (by kernel_rfl)
    (of_decide_eq_true (by kernel_rfl)) (by unfold Func.isWrapper; first | (rw [if_pos (by decide +kernel)]; kernel_rfl) | (rw [if_neg (by decide +kernel)]; exact ⟨rfl, rfl⟩))
    (fun os started H enc _ => lifted os started H enc)

theorem proved : Rows.LabelShowsSaid := over
end labelShows
end Go.Proofs.Ytfgklgjbnpjpoaa
