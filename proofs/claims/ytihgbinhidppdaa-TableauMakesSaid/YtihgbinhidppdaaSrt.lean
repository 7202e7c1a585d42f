/-
  The library's sort of integers, over deep values: a list of the call's own is put in order. No statement is proved here.
-/
import Derived.Test.YtihgbinhidppdaaDl
import Derived.Test.YtihgbinhidppdaaFn
import Derived.Test.YtihgbinhidppdaaSc2
import Derived.Shelf.Sort.Plain
namespace Go.Proofs.Ytihgbinhidppdaa
open Go.RowKit Go.Shelf Go.Sort
set_option linter.unusedSimpArgs false
set_option linter.unusedVariables false
def lays189_ren : Go.Shelf.Ren := ⟨fun | 189 => 11 | 125 => 38 | 257 => 37 | 128 => 59 | 129 => 60 | 294 => 50 | 295 => 51 | 296 => 52 | 297 => 53 | 298 => 54 | 299 => 55 | 216 => 56 | 300 => 57 | 301 => 58 | 328 => 62 | 329 => 63 | 330 => 64 | 331 => 65 | 332 => 66 | 215 => 67 | 343 => 68 | n => n, fun | 28 => 25 | 3 => 3 | 46 => 65 | 0 => 0 | 51 => 81 | 53 => 47 | 4 => 4 | 183 => 73 | 182 => 72 | 131 => 78 | 5 => 5 | 9 => 9 | 218 => 83 | 222 => 68 | 228 => 89 | 229 => 90 | n => n, fun | n => n⟩
theorem lays189 : Go.Proofs.Lays.n189 Try.prog lays189_ren := {
  mixed := by kernel_rfl,
  f125 := Try.func38.trans (congrArg some (by kernel_rfl)),
  f128 := Try.func59.trans (congrArg some (by kernel_rfl)),
  f129 := Try.func60.trans (congrArg some (by kernel_rfl)),
  f189 := Try.func11.trans (congrArg some (by kernel_rfl)),
  f215 := Try.func67.trans (congrArg some (by kernel_rfl)),
  f216 := Try.func56.trans (congrArg some (by kernel_rfl)),
  f257 := Try.func37.trans (congrArg some (by kernel_rfl)),
  f294 := Try.func50.trans (congrArg some (by kernel_rfl)),
  f295 := Try.func51.trans (congrArg some (by kernel_rfl)),
  f296 := Try.func52.trans (congrArg some (by kernel_rfl)),
  f297 := Try.func53.trans (congrArg some (by kernel_rfl)),
  f298 := Try.func54.trans (congrArg some (by kernel_rfl)),
  f299 := Try.func55.trans (congrArg some (by kernel_rfl)),
  f300 := Try.func57.trans (congrArg some (by kernel_rfl)),
  f301 := Try.func58.trans (congrArg some (by kernel_rfl)),
  f328 := Try.func62.trans (congrArg some (by kernel_rfl)),
  f329 := Try.func63.trans (congrArg some (by kernel_rfl)),
  f330 := Try.func64.trans (congrArg some (by kernel_rfl)),
  f331 := Try.func65.trans (congrArg some (by kernel_rfl)),
  f332 := Try.func66.trans (congrArg some (by kernel_rfl)),
  f343 := Try.func68.trans (congrArg some (by kernel_rfl)),
  t0 := Try.underlying0,
  a0 := Try.isAgg0,
  z0 := Try.sizeOf0,
  v0 := Try.zeroValue0,
  t3 := Try.underlying3,
  a3 := Try.isAgg3,
  z3 := Try.sizeOf3,
  v3 := Try.zeroValue3,
  t4 := Try.underlying4,
  a4 := Try.isAgg4,
  z4 := Try.sizeOf4,
  v4 := Try.zeroValue4,
  t5 := Try.underlying5,
  a5 := Try.isAgg5,
  z5 := Try.sizeOf5,
  v5 := Try.zeroValue5,
  t9 := Try.underlying9,
  a9 := Try.isAgg9,
  z9 := Try.sizeOf9,
  v9 := Try.zeroValue9,
  t28 := Try.underlying25,
  a28 := Try.isAgg25,
  z28 := Try.sizeOf25,
  v28 := Try.zeroValue25,
  t46 := Try.underlying65,
  a46 := Try.isAgg65,
  z46 := Try.sizeOf65,
  v46 := Try.zeroValue65,
  t51 := Try.underlying81,
  a51 := Try.isAgg81,
  z51 := Try.sizeOf81,
  v51 := Try.zeroValue81,
  t53 := Try.underlying47,
  a53 := Try.isAgg47,
  z53 := Try.sizeOf47,
  v53 := Try.zeroValue47,
  t131 := Try.underlying78,
  a131 := Try.isAgg78,
  z131 := Try.sizeOf78,
  v131 := Try.zeroValue78,
  t182 := Try.underlying72,
  a182 := Try.isAgg72,
  z182 := Try.sizeOf72,
  v182 := Try.zeroValue72,
  t183 := Try.underlying73,
  a183 := Try.isAgg73,
  z183 := Try.sizeOf73,
  v183 := Try.zeroValue73,
  t218 := Try.underlying83,
  a218 := Try.isAgg83,
  z218 := Try.sizeOf83,
  v218 := Try.zeroValue83,
  t222 := Try.underlying68,
  a222 := Try.isAgg68,
  z222 := Try.sizeOf68,
  v222 := Try.zeroValue68,
  t228 := Try.underlying89,
  a228 := Try.isAgg89,
  z228 := Try.sizeOf89,
  v228 := Try.zeroValue89,
  t229 := Try.underlying90,
  a229 := Try.isAgg90,
  z229 := Try.sizeOf90,
  v229 := Try.zeroValue90 }

def sortI (l : List Int) : List Int := l.mergeSort fun x y => decide (x ≤ y)
@[simp] theorem sortI_len (l : List Int) : (sortI l).length = l.length := by unfold sortI; exact List.length_mergeSort _
theorem int_eq (n : Int) : D.sc (.int .i64 n) = .sc (.int .i64 n) := rfl
theorem sort_row {w : World} {b o : Nat} {vals : Array Value} {te : TypeId} {fr : Nat × Nat} {n : Nat} {os : Array Obj} (d : Array Int) (hb : w.heap[b]? = some (.cells vals te fr)) :
    (grow (putRow (Value.int .i64) (Sort.ahead w n) b o d) os).heap[b]? = some (.cells (putCells (Value.int .i64) o d vals) te fr) := by
  have hg : b < w.heap.size := (Array.getElem?_eq_some_iff.1 hb).1
  rw [heap_grow_old _ _ (by simpa using hg)]
  simp [putRow, mapBlock, Sort.ahead, Array.getElem?_modify, hb, onCells]
theorem sort_other {w : World} {b o : Nat} {n : Nat} {os : Array Obj} (d : Array Int) {k : Nat} (hk : k < w.heap.size) (hne : k ≠ b) : (grow (putRow (Value.int .i64) (Sort.ahead w n) b o d) os).heap[k]? = w.heap[k]? := by
  rw [heap_grow_old _ _ (by simpa using hk)]
  have : b ≠ k := fun e => hne e.symm
  simp [putRow, mapBlock, Sort.ahead, Array.getElem?_modify, this]
theorem sort_own (ver : Nat) (l : List Int) (h0 : 0 < l.length) (hl : l.length < 4611686018427387904) :
    ACall Try.prog 11 [.own 0 ver 0 l.length] [.vec true ver 1 (i64s l)] (.tup []) [.vec true ver 1 (i64s (sortI l))] where
  ok := ⟨_, Try.func11, by kernel_rfl, by kernel_rfl⟩
  len := by simp
  run J F w vs hst hdom hR := by
    simp only [repL, rep] at hR
    obtain ⟨v, us, rfl, ⟨s, A, n, c, hJ, rfl, _, hq⟩, rfl⟩ := hR
    obtain ⟨ob, ho, hO⟩ := hst.obj 0 s hJ
    have ho : AObj.vec true ver 1 (i64s l) = ob := Option.some.inj ho
    subst ho
    simp only [ObjOK] at hO
    obtain ⟨hrow, hver, hesz, hlen, hcap, hmem⟩ := hO
    obtain ⟨_, _, hhi, hn, hc, hA⟩ := hq hver.symm
    have hsl : s.len = l.length := by rw [hlen]; simp [i64s]
    have hc0 : ¬ s.cap = 0 := by omega
    obtain ⟨b, o, had, hAv⟩ := hA.resolve_left hc0
    obtain ⟨b', o', vals, te, had', hb, hsz, hrr, _⟩ := hmem.resolve_left hc0
    rw [had] at had'
    obtain ⟨rfl, rfl⟩ : b = b' ∧ o = o' := by
      have := Option.some.inj had'
      injection this with h1 h2 h3
      exact ⟨h1, h2⟩
    rw [Nat.zero_mul, Nat.add_zero] at hAv
    subst hAv
    have hnl : n = l.length := by omega
    subst hnl
    have hbs : b < w.heap.size := (Array.getElem?_eq_some_iff.1 hb).1
    have hH : Holds (Value.int .i64) w b o l.toArray := fun j hj => by
      have hj' : j < l.length := by simpa using hj
      obtain ⟨_, hcell⟩ := repRows_get (i64s l) o j [.sc (.int .i64 l[j])] (by simp [i64s, hj']) hrr
      simp only [repCells, rep] at hcell
      obtain ⟨⟨u, hu, _, rfl⟩, _⟩ := hcell
      rw [Nat.mul_one] at hu
      refine ⟨by rw [hu]; simp [hj'], by simp [World.frozen?, hb]⟩
    have hblk : s.blk = some b := by unfold Site.blk; rw [if_neg (by simp [hc0]), had]; rfl
    have hnF : ¬ F b := hst.apart 0 s b _ hJ hblk rfl rfl
    refine (Any.slices_Sort_int lays189 b o c l w hH hbs hl).mono fun e w' ⟨he, nd, os, hw'⟩ => ?_
    have hrow' : w'.heap[b]? = some (.cells (putCells (Value.int .i64) o (sortI l).toArray vals) te (0, 0)) := by rw [hw']; exact sort_row _ hb
    have hoth : ∀ k, k < w.heap.size → k ≠ b → w'.heap[k]? = w.heap[k]? := fun k h1 h2 => by rw [hw']; exact sort_other _ h1 h2
    have hsize : w.heap.size ≤ w'.heap.size := by rw [hw']; simp [Sort.ahead]
    have hfr : ∀ k, F k → w'.heap[k]? = w.heap[k]? := fun k hk => hoth k (hst.lt k hk) fun e => hnF (e ▸ hk)
    have hos : w'.os = w.os ∧ w'.tape = w.tape ∧ w'.output = w.output := by rw [hw']; exact ⟨rfl, rfl, rfl⟩
    refine ⟨_, J, F, he, ?_, hdom, by simp [rep, repL], ?_⟩
    · refine hst.update 0 s (.vec true ver 1 (i64s (sortI l))) (fun i => ?_) (fun i => ?_) (Inj.le_refl J) hfr hsize ?_ (fun b2 h2 => .inr ⟨s, hJ, h2⟩) (fun i s2 b2 h1 h2 => hst.blk_lt h1 h2) ?_ ?_
      · by_cases e : i = 0
        · subst e; rw [if_pos rfl, hJ]
        · rw [if_neg e]
      · by_cases e : i = 0
        · subst e; rfl
        · rw [if_neg e]
          cases i with
          | zero => exact absurd rfl e
          | succ i => rfl
      · intro i s2 b2 hi h1 h2
        refine hoth b2 (hst.blk_lt h1 h2) fun e => hi ?_
        subst e
        exact hst.one i 0 s2 s b2 h1 hJ h2 hblk
      · intro b2 h1 _
        rw [hblk] at h1
        cases h1
        exact hnF
      · simp only [ObjOK]
        refine ⟨hrow, hver, hesz, by rw [hlen]; simp [i64s], hcap, .inr ⟨b, o, _, te, had, hrow', by simp [putCells]; omega, ?_, fun h => by cases h⟩⟩
        refine repRows_mk _ _ fun j x hx => ?_
        have hj : j < (sortI l).length := by
          have := (List.getElem?_eq_some_iff.1 hx).1
          simpa [i64s] using this
        have hx' : x = [.sc (.int .i64 (sortI l)[j])] := by
          have : (i64s (sortI l))[j]? = some [.sc (.int .i64 (sortI l)[j])] := by simp [i64s, hj]
          rw [hx] at this
          exact Option.some.inj this
        subst hx'
        refine ⟨rfl, ?_⟩
        simp only [repCells, rep]
        refine ⟨⟨_, ?_, rfl, rfl⟩, trivial⟩
        have hjv : o + j < vals.size := by
          rw [sortI_len] at hj
          rw [Nat.mul_one] at hsz
          omega
        simp only [World.cell?, hrow', Nat.mul_one]
        simp only [Option.isSome_none, Bool.false_eq_true, if_false]
        have hjl : j < l.length := by simpa using hj
        simp [putCells, hjv, hjl, List.getElem?_eq_getElem hj]
    · exact ⟨hos.1, hos.2.1, hos.2.2, hsize, fun k hk ho => hoth k hk fun e => ho ⟨0, s, hJ, e ▸ hblk⟩, hfr, Inj.le_refl J, fun _ h => h, fun _ h => .inl h, fun _ h => .inl h⟩
def c11 : PC := .seq (.ops [⟨some 3,.move (.tmp 0),none,0⟩,
 ⟨some 4,.len (.tmp 3),none,0⟩,
 ⟨some 2,.move (.tmp 4),none,0⟩] false) (.ops [⟨some 5,.move (.tmp 0),none,0⟩,
 ⟨some 6,.move (.tmp 2),none,0⟩,
 ⟨some 7,.move (.tmp 2),none,0⟩,
 ⟨some 8,.conv .u64 (.tmp 7),none,0⟩,
 ⟨some 9,.call 38 [(.tmp 8)],none,0⟩,
 ⟨some 10,.call 37 [(.tmp 5), (.const (.int .i64 0)), (.tmp 6), (.tmp 9)],none,0⟩] false)
set_option maxRecDepth 100000 in
theorem c11_ok : FunOK Try.prog 11 11 [] c11 := ⟨⟨Try.f11, Try.func11, rfl, by kernel_rfl, rfl, by kernel_rfl⟩⟩
def c37_1 : PC := .block 1 (.seq (.ops [⟨some 19,.move (.tmp 2),none,0⟩,
 ⟨some 20,.move (.tmp 1),none,0⟩,
 ⟨some 21,.bin .sub (.tmp 19) (.tmp 20),none,0⟩,
 ⟨some 10,.move (.tmp 21),none,0⟩] false) (.seq (.seq (.ops [⟨some 22,.move (.tmp 10),none,0⟩,
 ⟨some 23,.bin .leq (.tmp 22) (.const (.int .i64 12)),none,0⟩] false) (.cond (.tmp 23) (.seq (.ops [⟨some 24,.move (.tmp 0),none,0⟩,
 ⟨some 25,.move (.tmp 1),none,0⟩,
 ⟨some 26,.move (.tmp 2),none,0⟩,
 ⟨some 27,.call 50 [(.tmp 24), (.tmp 25), (.tmp 26)],none,0⟩] false) (.ret)) (.skip))) (.seq (.seq (.ops [⟨some 28,.move (.tmp 3),none,0⟩,
 ⟨some 29,.bin .eql (.tmp 28) (.const (.int .i64 0)),none,0⟩] false) (.cond (.tmp 29) (.seq (.ops [⟨some 30,.move (.tmp 0),none,0⟩,
 ⟨some 31,.move (.tmp 1),none,0⟩,
 ⟨some 32,.move (.tmp 2),none,0⟩,
 ⟨some 33,.call 51 [(.tmp 30), (.tmp 31), (.tmp 32)],none,0⟩] false) (.ret)) (.skip))) (.seq (.seq (.ops [⟨some 34,.move (.tmp 8),none,0⟩,
 ⟨some 35,.un .not (.tmp 34),none,0⟩] false) (.cond (.tmp 35) (.seq (.ops [⟨some 36,.move (.tmp 0),none,0⟩,
 ⟨some 37,.move (.tmp 1),none,0⟩,
 ⟨some 38,.move (.tmp 2),none,0⟩,
 ⟨some 39,.call 52 [(.tmp 36), (.tmp 37), (.tmp 38)],none,0⟩] false) (.ops [⟨some 40,.move (.tmp 3),none,0⟩,
 ⟨some 41,.bin .sub (.tmp 40) (.const (.int .i64 1)),none,0⟩,
 ⟨some 3,.move (.tmp 41),none,0⟩] false)) (.skip))) (.seq (.ops [⟨some 43,.move (.tmp 0),none,0⟩,
 ⟨some 44,.move (.tmp 1),none,0⟩,
 ⟨some 45,.move (.tmp 2),none,0⟩,
 ⟨some 46,.call 53 [(.tmp 43), (.tmp 44), (.tmp 45)],none,0⟩,
 ⟨some 42,.move (.tmp 46),none,0⟩,
 ⟨some 47,.ext 0 (.tmp 42),none,0⟩,
 ⟨some 48,.ext 1 (.tmp 42),none,0⟩,
 ⟨some 11,.move (.tmp 47),none,0⟩,
 ⟨some 12,.move (.tmp 48),none,0⟩] false) (.seq (.seq (.ops [⟨some 49,.move (.tmp 12),none,0⟩,
 ⟨some 50,.bin .eql (.tmp 49) (.const (.int .i64 2)),none,0⟩] false) (.cond (.tmp 50) (.seq (.ops [⟨some 51,.move (.tmp 0),none,0⟩,
 ⟨some 52,.move (.tmp 1),none,0⟩,
 ⟨some 53,.move (.tmp 2),none,0⟩,
 ⟨some 54,.call 54 [(.tmp 51), (.tmp 52), (.tmp 53)],none,0⟩] false) (.seq (.ops [⟨some 55,.move (.tmp 2),none,0⟩,
 ⟨some 56,.bin .sub (.tmp 55) (.const (.int .i64 1)),none,0⟩,
 ⟨some 57,.move (.tmp 11),none,0⟩,
 ⟨some 58,.move (.tmp 1),none,0⟩,
 ⟨some 59,.bin .sub (.tmp 57) (.tmp 58),none,0⟩,
 ⟨some 60,.bin .sub (.tmp 56) (.tmp 59),none,0⟩,
 ⟨some 11,.move (.tmp 60),none,0⟩] false) (.ops [⟨some 12,.move (.const (.int .i64 1)),none,0⟩] false))) (.skip))) (.seq (.seq (.ops [⟨some 61,.move (.tmp 8),none,0⟩,
 ⟨some 62,.move (.tmp 61),none,0⟩,
 ⟨some 63,.move (.tmp 9),some (62,true),0⟩,
 ⟨some 64,.pick (.tmp 62) (.tmp 63) (.const (.bool false)),none,0⟩,
 ⟨some 65,.move (.tmp 64),none,0⟩,
 ⟨some 66,.move (.tmp 12),some (65,true),0⟩,
 ⟨some 67,.bin .eql (.tmp 66) (.const (.int .i64 1)),some (65,true),0⟩,
 ⟨some 68,.pick (.tmp 65) (.tmp 67) (.const (.bool false)),none,0⟩] false) (.cond (.tmp 68) (.seq (.ops [⟨some 69,.move (.tmp 0),none,0⟩,
 ⟨some 70,.move (.tmp 1),none,0⟩,
 ⟨some 71,.move (.tmp 2),none,0⟩,
 ⟨some 72,.call 55 [(.tmp 69), (.tmp 70), (.tmp 71)],none,0⟩] false) (.cond (.tmp 72) (.ret) (.skip))) (.skip))) (.seq (.seq (.ops [⟨some 73,.move (.tmp 1),none,0⟩,
 ⟨some 74,.bin .gtr (.tmp 73) (.const (.int .i64 0)),none,1⟩,
 ⟨some 75,.move (.tmp 74),none,3⟩,
 ⟨some 76,.move (.tmp 0),some (75,true),7⟩,
 ⟨some 77,.move (.tmp 1),some (75,true),7⟩,
 ⟨some 78,.bin .sub (.tmp 77) (.const (.int .i64 1)),some (75,true),23⟩,
 ⟨some 79,.iaddr 1 (.tmp 76) (.tmp 78),some (75,true),63⟩,
 ⟨some 80,.load1 (.tmp 79),some (75,true),127⟩,
 ⟨some 81,.move (.tmp 0),some (75,true),7⟩,
 ⟨some 82,.move (.tmp 11),some (75,true),7⟩,
 ⟨some 83,.iaddr 1 (.tmp 81) (.tmp 82),some (75,true),775⟩,
 ⟨some 84,.load1 (.tmp 83),some (75,true),1799⟩,
 ⟨some 85,.call 56 [(.tmp 80), (.tmp 84)],some (75,true),4095⟩,
 ⟨some 86,.un .not (.tmp 85),some (75,true),8191⟩,
 ⟨some 87,.pick (.tmp 75) (.tmp 86) (.const (.bool false)),none,16383⟩] true) (.cond (.tmp 87) (.seq (.ops [⟨some 88,.move (.tmp 0),none,0⟩,
 ⟨some 89,.move (.tmp 1),none,0⟩,
 ⟨some 90,.move (.tmp 2),none,0⟩,
 ⟨some 91,.move (.tmp 11),none,0⟩,
 ⟨some 92,.call 57 [(.tmp 88), (.tmp 89), (.tmp 90), (.tmp 91)],none,0⟩,
 ⟨some 13,.move (.tmp 92),none,0⟩] false) (.seq (.ops [⟨some 93,.move (.tmp 13),none,0⟩,
 ⟨some 1,.move (.tmp 93),none,0⟩] false) (.exit 1))) (.skip))) (.seq (.ops [⟨some 95,.move (.tmp 0),none,0⟩,
 ⟨some 96,.move (.tmp 1),none,0⟩,
 ⟨some 97,.move (.tmp 2),none,0⟩,
 ⟨some 98,.move (.tmp 11),none,0⟩,
 ⟨some 99,.call 58 [(.tmp 95), (.tmp 96), (.tmp 97), (.tmp 98)],none,0⟩,
 ⟨some 94,.move (.tmp 99),none,0⟩,
 ⟨some 100,.ext 0 (.tmp 94),none,0⟩,
 ⟨some 101,.ext 1 (.tmp 94),none,0⟩,
 ⟨some 14,.move (.tmp 100),none,0⟩,
 ⟨some 15,.move (.tmp 101),none,0⟩] false) (.seq (.ops [⟨some 102,.move (.tmp 15),none,0⟩,
 ⟨some 9,.move (.tmp 102),none,0⟩] false) (.seq (.ops [⟨some 103,.move (.tmp 14),none,0⟩,
 ⟨some 104,.move (.tmp 1),none,0⟩,
 ⟨some 105,.bin .sub (.tmp 103) (.tmp 104),none,0⟩,
 ⟨some 106,.move (.tmp 2),none,0⟩,
 ⟨some 107,.move (.tmp 14),none,0⟩,
 ⟨some 108,.bin .sub (.tmp 106) (.tmp 107),none,0⟩,
 ⟨some 16,.move (.tmp 105),none,0⟩,
 ⟨some 17,.move (.tmp 108),none,0⟩] false) (.seq (.ops [⟨some 109,.move (.tmp 10),none,0⟩,
 ⟨some 110,.bin .quo (.tmp 109) (.const (.int .i64 8)),none,0⟩,
 ⟨some 18,.move (.tmp 110),none,0⟩] false) (.seq (.ops [⟨some 111,.move (.tmp 16),none,0⟩,
 ⟨some 112,.move (.tmp 17),none,0⟩,
 ⟨some 113,.bin .lss (.tmp 111) (.tmp 112),none,0⟩] false) (.cond (.tmp 113) (.seq (.ops [⟨some 114,.move (.tmp 16),none,0⟩,
 ⟨some 115,.move (.tmp 18),none,0⟩,
 ⟨some 116,.bin .geq (.tmp 114) (.tmp 115),none,0⟩,
 ⟨some 8,.move (.tmp 116),none,0⟩] false) (.seq (.ops [⟨some 117,.move (.tmp 0),none,0⟩,
 ⟨some 118,.move (.tmp 1),none,0⟩,
 ⟨some 119,.move (.tmp 14),none,0⟩,
 ⟨some 120,.move (.tmp 3),none,0⟩,
 ⟨some 121,.call 37 [(.tmp 117), (.tmp 118), (.tmp 119), (.tmp 120)],none,0⟩] false) (.ops [⟨some 122,.move (.tmp 14),none,0⟩,
 ⟨some 123,.bin .add (.tmp 122) (.const (.int .i64 1)),none,0⟩,
 ⟨some 1,.move (.tmp 123),none,0⟩] false))) (.seq (.ops [⟨some 124,.move (.tmp 17),none,0⟩,
 ⟨some 125,.move (.tmp 18),none,0⟩,
 ⟨some 126,.bin .geq (.tmp 124) (.tmp 125),none,0⟩,
 ⟨some 8,.move (.tmp 126),none,0⟩] false) (.seq (.ops [⟨some 127,.move (.tmp 0),none,0⟩,
 ⟨some 128,.move (.tmp 14),none,0⟩,
 ⟨some 129,.bin .add (.tmp 128) (.const (.int .i64 1)),none,0⟩,
 ⟨some 130,.move (.tmp 2),none,0⟩,
 ⟨some 131,.move (.tmp 3),none,0⟩,
 ⟨some 132,.call 37 [(.tmp 127), (.tmp 129), (.tmp 130), (.tmp 131)],none,0⟩] false) (.ops [⟨some 133,.move (.tmp 14),none,0⟩,
 ⟨some 2,.move (.tmp 133),none,0⟩] false)))))))))))))))))
def c37 : PC := .seq (.ops [⟨some 8,.move (.const (.bool true)),none,0⟩] false) (.seq (.ops [⟨some 9,.move (.const (.bool true)),none,0⟩] false) (.block 0 (.loop c37_1)))
set_option maxRecDepth 100000 in
theorem c37_ok : FunOK Try.prog 37 134 [] c37 := ⟨⟨Try.f37, Try.func37, rfl, by kernel_rfl, rfl, by kernel_rfl⟩⟩
def c50_2 : PC := .seq (.seq (.ops [⟨some 16,.move (.tmp 7),none,0⟩,
 ⟨some 17,.move (.tmp 1),none,0⟩,
 ⟨some 18,.bin .gtr (.tmp 16) (.tmp 17),none,3⟩,
 ⟨some 19,.move (.tmp 18),none,7⟩,
 ⟨some 20,.move (.tmp 0),some (19,true),15⟩,
 ⟨some 21,.move (.tmp 7),some (19,true),15⟩,
 ⟨some 22,.iaddr 1 (.tmp 20) (.tmp 21),some (19,true),63⟩,
 ⟨some 23,.load1 (.tmp 22),some (19,true),127⟩,
 ⟨some 24,.move (.tmp 0),some (19,true),15⟩,
 ⟨some 25,.move (.tmp 7),some (19,true),15⟩,
 ⟨some 26,.bin .sub (.tmp 25) (.const (.int .i64 1)),some (19,true),527⟩,
 ⟨some 27,.iaddr 1 (.tmp 24) (.tmp 26),some (19,true),1807⟩,
 ⟨some 28,.load1 (.tmp 27),some (19,true),3855⟩,
 ⟨some 29,.call 56 [(.tmp 23), (.tmp 28)],some (19,true),8191⟩,
 ⟨some 30,.pick (.tmp 19) (.tmp 29) (.const (.bool false)),none,16383⟩] true) (.cond (.tmp 30) (.skip) (.exit 2))) (.seq (.block 3 (.ops [⟨some 33,.move (.tmp 0),none,0⟩,
 ⟨some 34,.move (.tmp 7),none,0⟩,
 ⟨some 35,.move (.tmp 0),none,0⟩,
 ⟨some 36,.move (.tmp 7),none,0⟩,
 ⟨some 37,.bin .sub (.tmp 36) (.const (.int .i64 1)),none,8⟩,
 ⟨some 38,.move (.tmp 0),none,0⟩,
 ⟨some 39,.move (.tmp 7),none,0⟩,
 ⟨some 40,.bin .sub (.tmp 39) (.const (.int .i64 1)),none,64⟩,
 ⟨some 41,.iaddr 1 (.tmp 38) (.tmp 40),none,224⟩,
 ⟨some 42,.load1 (.tmp 41),none,480⟩,
 ⟨some 43,.move (.tmp 0),none,0⟩,
 ⟨some 44,.move (.tmp 7),none,0⟩,
 ⟨some 45,.iaddr 1 (.tmp 43) (.tmp 44),none,3072⟩,
 ⟨some 46,.load1 (.tmp 45),none,7168⟩,
 ⟨some 47,.iaddr 1 (.tmp 33) (.tmp 34),none,16355⟩,
 ⟨none,.store 1 (.tmp 47) (.tmp 42),none,32739⟩,
 ⟨some 48,.iaddr 1 (.tmp 35) (.tmp 37),none,65535⟩,
 ⟨none,.store 1 (.tmp 48) (.tmp 46),none,131071⟩] true)) (.ops [⟨some 31,.move (.tmp 7),none,0⟩,
 ⟨some 32,.bin .sub (.tmp 31) (.const (.int .i64 1)),none,0⟩,
 ⟨some 7,.move (.tmp 32),none,0⟩] false))
def c50_1 : PC := .seq (.seq (.ops [⟨some 10,.move (.tmp 6),none,0⟩,
 ⟨some 11,.move (.tmp 2),none,0⟩,
 ⟨some 12,.bin .lss (.tmp 10) (.tmp 11),none,0⟩] false) (.cond (.tmp 12) (.skip) (.exit 0))) (.seq (.block 1 (.seq (.ops [⟨some 15,.move (.tmp 6),none,0⟩,
 ⟨some 7,.move (.tmp 15),none,0⟩] false) (.block 2 (.loop c50_2)))) (.ops [⟨some 13,.move (.tmp 6),none,0⟩,
 ⟨some 14,.bin .add (.tmp 13) (.const (.int .i64 1)),none,0⟩,
 ⟨some 6,.move (.tmp 14),none,0⟩] false))
def c50 : PC := .seq (.ops [⟨some 8,.move (.tmp 1),none,0⟩,
 ⟨some 9,.bin .add (.tmp 8) (.const (.int .i64 1)),none,0⟩,
 ⟨some 6,.move (.tmp 9),none,0⟩] false) (.block 0 (.loop c50_1))
set_option maxRecDepth 100000 in
theorem c50_ok : FunOK Try.prog 50 49 [] c50 := ⟨⟨Try.f50, Try.func50, rfl, by kernel_rfl, rfl, by kernel_rfl⟩⟩
/-- bits.Len of nothing. -/
theorem bits_Len_0 : PCall Try.prog 38 [.sc (.int .u64 0)] (.sc (.int .i64 0)) where
  ok := ⟨_, Try.func38, by kernel_rfl, by kernel_rfl⟩
  run J F w vs hF hR := by
    simp only [repL, rep] at hR
    obtain ⟨v, us, rfl, rfl, rfl⟩ := hR
    refine (calls_of_every_depth fun D => AnyS.bits_LenIn { lays189 with } D 0 w (by omega) (by omega)).mono fun e w' ⟨he, hw⟩ => ?_
    subst hw
    exact ⟨_, F, he, hF.lt, rfl, Ext.refl _ _ _⟩
theorem insertion_0 : PCall Try.prog 50 [.lst 1 [], .sc (.int .i64 0), .sc (.int .i64 0)] (.tup []) := by
  refine pcall_intro c50_ok (by simp) (by simp [PureL, Pure, PureLL]) ?_ (by simp [Pure, PureL])
  (apply rd_sound; focus (repeat' constructor))
  ((conv=>whnf);repeat(refine .intro rfl ?_;conv=>whnf))
  (refine .inl ⟨by (unfold InR; rw [IntKind.wrap_i64]; omega), ?_⟩; ((conv=>whnf);repeat(refine .intro rfl ?_;conv=>whnf)))
  refine pwp_for [0, 1, 2] (fun _ : Nat => [(6, .sc (.int .i64 1))]) (fun _ => []) (fun _ => True) (fun _ => 0) 0 ?_
  ((conv=>whnf);repeat(refine .intro rfl ?_;conv=>whnf))
  refine ⟨trivial, by (repeat' (first | exact trivial | refine And.intro rfl ?_)), rfl, ?_⟩
  rintro k -
  ((conv=>whnf);repeat(refine .intro rfl ?_;conv=>whnf))
  (apply rd_sound; focus (repeat' constructor))
  ((conv=>whnf);repeat(refine .intro rfl ?_;conv=>whnf))
  exact .refl _
theorem pdqsort_0 (n : Int) : PCall Try.prog 37 [.lst 1 [], .sc (.int .i64 0), .sc (.int .i64 0), .sc (.int .i64 n)] (.tup []) := by
  refine pcall_intro c37_ok (by simp) (by simp [PureL, Pure, PureLL]) ?_ (by simp [Pure, PureL])
  (apply rd_sound; focus (repeat' constructor))
  ((conv=>whnf);repeat(refine .intro rfl ?_;conv=>whnf))
  refine pwp_for [0] (fun _ : Nat => [(1, .sc (.int .i64 0)), (2, .sc (.int .i64 0)), (3, .sc (.int .i64 n)), (8, .sc (.bool true)), (9, .sc (.bool true))]) (fun _ => []) (fun _ => True) (fun _ => 0) 0 ?_
  ((conv=>whnf);repeat(refine .intro rfl ?_;conv=>whnf))
  refine ⟨trivial, by (repeat' (first | exact trivial | refine And.intro rfl ?_)), rfl, ?_⟩
  rintro k -
  ((conv=>whnf);repeat(refine .intro rfl ?_;conv=>whnf))
  (apply rd_sound; focus (repeat' constructor))
  ((conv=>whnf);repeat(refine .intro rfl ?_;conv=>whnf))
  (refine .inl ⟨by (unfold InR; rw [IntKind.wrap_i64]; omega), ?_⟩; ((conv=>whnf);repeat(refine .intro rfl ?_;conv=>whnf)))
  (refine .inl ⟨_, insertion_0, ?_⟩; ((conv=>whnf);repeat(refine .intro rfl ?_;conv=>whnf)))
  exact .refl _
theorem sort_0 : PCall Try.prog 11 [.lst 1 []] (.tup []) := by
  refine pcall_intro c11_ok (by simp) (by simp [PureL, Pure, PureLL]) ?_ (by simp [Pure, PureL])
  (apply rd_sound; focus (repeat' constructor))
  ((conv=>whnf);repeat(refine .intro rfl ?_;conv=>whnf))
  rw [show (([] : List (List D)).length : Int) = 0 from rfl]
  refine .inl ⟨by unfold InR; rw [IntKind.wrap_u64]; omega, ?_⟩
  ((conv=>whnf);repeat(refine .intro rfl ?_;conv=>whnf))
  (refine .inl ⟨_, bits_Len_0, ?_⟩; ((conv=>whnf);repeat(refine .intro rfl ?_;conv=>whnf)))
  (refine .inl ⟨_, (pdqsort_0 0), ?_⟩; ((conv=>whnf);repeat(refine .intro rfl ?_;conv=>whnf)))
  exact .refl _
theorem sort_int (ver : Nat) (l : List Int) (hl : l.length < 4611686018427387904) :
    ACall Try.prog 11 [.own 0 ver 0 l.length] [.vec true ver 1 (i64s l)] (.tup []) [.vec true ver 1 (i64s (sortI l))] := by
  rcases Nat.eq_zero_or_pos l.length with h0 | h0
  · have h0 := List.length_eq_zero_iff.1 h0
    subst h0
    refine ⟨sort_0.1, by simp, fun J F w vs hst hdom hR => ?_⟩
    simp only [repL, rep] at hR
    obtain ⟨v, us, rfl, ⟨s, A, n, c, hJ, rfl, _, hq⟩, rfl⟩ := hR
    obtain ⟨ob, ho, hO⟩ := hst.obj 0 s hJ
    have ho : AObj.vec true ver 1 (i64s []) = ob := Option.some.inj ho
    subst ho
    simp only [ObjOK] at hO
    obtain ⟨hrow, hver, hesz, hlen, hcap, hmem⟩ := hO
    obtain ⟨_, _, hhi, hn, hc, hA⟩ := hq hver.symm
    have hn0 : n = 0 := by simpa using hn
    subst hn0
    refine (sort_0.run J F w [.slice A 0 c] hst.lt (by simp only [repL, rep]; exact ⟨_, _, rfl, ⟨_, _, _, rfl, rfl, by omega, .inl rfl⟩, rfl⟩)).mono fun e w' ⟨v, F', he, h1, h2, h3⟩ => ?_
    refine ⟨v, J, F', he, ?_, hdom, rep_mono (noInj_le J) (fun _ h => h) (fun _ _ => rfl) _ _ h2, Ext.ofPure hst h3⟩
    rw [show sortI [] = [] by simp [sortI]]
    exact hst.keep (fun b hb => h3.block b hb (noOwns b)) h3.size h3.grow (fun b hb => (h3.growBack b hb).imp_right fun q => q.resolve_left (noOwns b)) h1
  · exact sort_own ver l h0 hl
end Go.Proofs.Ytihgbinhidppdaa
