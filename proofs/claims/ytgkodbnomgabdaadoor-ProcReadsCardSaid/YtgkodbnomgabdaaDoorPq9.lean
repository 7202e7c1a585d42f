/-
  proc.Print: the text of a process, by the Builder's contracts. No statement is proved here.
-/
import Derived.Test.YtgkodbnomgabdaaDoorPq8
namespace Go.Proofs.YtgkodbnomgabdaaDoor
open Go.RowKit Go.Shelf
set_option linter.unusedSimpArgs false
set_option linter.unusedVariables false
def c6_1 : PC := .seq (.ops [q 19 (.bin .lss (.tmp 18) (.tmp 17))] false) (.seq (.cond (.tmp 19) (.skip) (.exit 0)) (.seq (.block 1 (.seq (.ops [q 20 (.iaddr 2 (.tmp 16) (.tmp 18)),q 21 (.loadA 2 (.tmp 20)),q 7 (.alloc [(.string ⟨#[]⟩), (.int .i64 0)]),qn (.store 2 (.tmp 7) (.tmp 21))] false) (.ops [q 22 (.faddr 1 (.tmp 7)),qd 23 (.load1 (.tmp 22)) 1,qd 24 (.call 18 [(.tmp 23)]) 3,qd 25 (.bin .add (.tmp 24) (.const (.string ⟨#[32]⟩))) 7,q 26 (.faddr 0 (.tmp 7)),qd 27 (.load1 (.tmp 26)) 16,qd 28 (.bin .add (.tmp 25) (.tmp 27)) 63,qd 29 (.bin .add (.tmp 28) (.const (.string ⟨#[10]⟩))) 127,qd 30 (.call 17 [(.tmp 5), (.tmp 29)]) 255] true))) (.ops [q 31 (.bin .add (.tmp 18) (.const (.int .i64 1))),qm 18 31] false)))
def c6_2 : PC := .seq (.ops [q 36 (.bin .lss (.tmp 35) (.tmp 34))] false) (.seq (.cond (.tmp 36) (.skip) (.exit 2)) (.seq (.block 3 (.seq (.ops [q 37 (.iaddr 2 (.tmp 33) (.tmp 35)),q 38 (.loadA 2 (.tmp 37)),q 9 (.alloc [(.int .i64 0), (.int .i64 0)]),qn (.store 2 (.tmp 9) (.tmp 38))] false) (.ops [q 39 (.faddr 0 (.tmp 1)),qd 40 (.load1 (.tmp 39)) 1,q 41 (.faddr 0 (.tmp 9)),qd 42 (.load1 (.tmp 41)) 4,qd 43 (.iaddr 2 (.tmp 40) (.tmp 42)) 15,qd 44 (.faddr 0 (.tmp 43)) 31,qd 45 (.load1 (.tmp 44)) 63,qd 46 (.bin .add (.const (.string ⟨#[102, 108, 111, 119, 32]⟩)) (.tmp 45)) 127,qd 47 (.bin .add (.tmp 46) (.const (.string ⟨#[32]⟩))) 255,q 48 (.faddr 0 (.tmp 1)),qd 49 (.load1 (.tmp 48)) 512,q 50 (.faddr 1 (.tmp 9)),qd 51 (.load1 (.tmp 50)) 2048,qd 52 (.iaddr 2 (.tmp 49) (.tmp 51)) 7680,qd 53 (.faddr 0 (.tmp 52)) 15872,qd 54 (.load1 (.tmp 53)) 32256,qd 55 (.bin .add (.tmp 47) (.tmp 54)) 65535,qd 56 (.bin .add (.tmp 55) (.const (.string ⟨#[10]⟩))) 131071,qd 57 (.call 17 [(.tmp 5), (.tmp 56)]) 262143] true))) (.ops [q 58 (.bin .add (.tmp 35) (.const (.int .i64 1))),qm 35 58] false)))
def c6 : PC := .seq (.ops [q 1 (.box (.tmp 0)),q 2 (.move (.const (.string ⟨#[]⟩))),q 3 (.move (.const (.int .i64 0)))] false) (.seq (.seq (.ops [q 10 (.loadA 2 (.tmp 1)),q 11 (.call 16 [(.tmp 10)]),qm 4 11] false) (.seq (.ops [qm 12 4,q 13 (.bin .neq (.tmp 12) (.const (.int .i64 0)))] false) (.cond (.tmp 13) (.seq (.ops [qm 14 4,q 2 (.move (.const (.string ⟨#[]⟩))),qm 3 14] false) (.ret)) (.skip)))) (.seq (.ops [q 5 (.alloc [(.pointer none), (.slice none 0 0)])] false) (.seq (.seq (.ops [q 15 (.faddr 0 (.tmp 1)),q 16 (.load1 (.tmp 15)),q 17 (.len (.tmp 16)),q 18 (.move (.const (.int .i64 0)))] false) (.block 0 (.loop c6_1))) (.seq (.seq (.ops [q 32 (.faddr 1 (.tmp 1)),q 33 (.load1 (.tmp 32)),q 34 (.len (.tmp 33)),q 35 (.move (.const (.int .i64 0)))] false) (.block 2 (.loop c6_2))) (.seq (.ops [q 59 (.call 19 [(.tmp 5)]),qm 2 59,q 3 (.move (.const (.int .i64 0)))] false) (.ret))))))
set_option maxRecDepth 100000 in
theorem c6_ok : FunOK Tryd.prog 6 60 [.tmp 2, .tmp 3] c6 := ⟨⟨Tryd.f6, Tryd.func6, rfl, by kernel_rfl, rfl, by kernel_rfl⟩⟩
theorem proc_Print_bad (P : ProcD) (hP : P.Fits) (h0 : P.chk ≠ 0) : PCall Tryd.prog 6 [dproc P] (.tup [.sc (.string ⟨#[]⟩), .sc (.int .i64 P.chk)]) := by
  refine pcall_intro c6_ok (by simp) (by simp [PureL, Pure, pure_dproc]) ?_ (by simp [Pure, PureL])
  (apply rd_sound; focus (repeat' constructor))
  ((conv=>whnf);repeat(refine⟨rfl,?_⟩;conv=>whnf))
  (refine .inl ⟨_, (proc_Check P hP), ?_⟩; ((conv=>whnf);repeat(refine⟨rfl,?_⟩;conv=>whnf)))
  refine ifK_t (by simpa using h0) ?_
  ((conv=>whnf);repeat(refine⟨rfl,?_⟩;conv=>whnf))
  exact .refl _
/-- Rows of a slice's array, told by its first cell. -/
def RowsAt (w : World) (B : Nat) (A : Option Addr) (rows : List (List D)) : Prop := rows = [] ∨ ∃ b o, A = some ⟨b, o, none⟩ ∧ b < B ∧ repRows noInj (fun b => b < B) w b 2 rows o
theorem node_cells {w wr : World} {A : Option Addr} {l : List (ByteArray × Int)} (h : RowsAt w w.heap.size A (l.map nrow)) (hb : Below w.heap.size w wr) (k : Nat) (hk : k < l.length) :
    ∃ b o, A = some ⟨b, o, none⟩ ∧ b < w.heap.size ∧ wr.cell? ⟨b, o + k * 2, none⟩ = some (.string l[k].1) ∧ wr.cell? ⟨b, o + k * 2 + 1, none⟩ = some (.int .i64 l[k].2) := by
  rcases h with h | ⟨b, o, rfl, hlt, hr⟩
  · have := congrArg List.length h; simp at this; rw [this] at hk; simp at hk
  · obtain ⟨_, hc⟩ := repRows_get (l.map nrow) o k (nrow l[k]) (by rw [List.getElem?_map, List.getElem?_eq_getElem hk]; rfl) hr
    simp only [nrow, repCells, rep] at hc
    obtain ⟨⟨u, e1, _, rfl⟩, ⟨v, e2, _, rfl⟩, _⟩ := hc
    exact ⟨b, o, rfl, hlt, by rw [cell_of_heap (hb.block b hlt)]; exact e1, by rw [cell_of_heap (hb.block b hlt)]; exact e2⟩
theorem flow_cells {w wr : World} {A : Option Addr} {l : List (Int × Int)} (h : RowsAt w w.heap.size A (l.map frow)) (hb : Below w.heap.size w wr) (k : Nat) (hk : k < l.length) :
    ∃ b o, A = some ⟨b, o, none⟩ ∧ b < w.heap.size ∧ wr.cell? ⟨b, o + k * 2, none⟩ = some (.int .i64 l[k].1) ∧ wr.cell? ⟨b, o + k * 2 + 1, none⟩ = some (.int .i64 l[k].2) := by
  rcases h with h | ⟨b, o, rfl, hlt, hr⟩
  · have := congrArg List.length h; simp at this; rw [this] at hk; simp at hk
  · obtain ⟨_, hc⟩ := repRows_get (l.map frow) o k (frow l[k]) (by rw [List.getElem?_map, List.getElem?_eq_getElem hk]; rfl) hr
    simp only [frow, repCells, rep] at hc
    obtain ⟨⟨u, e1, _, rfl⟩, ⟨v, e2, _, rfl⟩, _⟩ := hc
    exact ⟨b, o, rfl, hlt, by rw [cell_of_heap (hb.block b hlt)]; exact e1, by rw [cell_of_heap (hb.block b hlt)]; exact e2⟩
/-- What holds of memory while a text is being built. -/
structure PrI (w : World) (b : Nat) (A A2 : Option Addr) (n c n2 c2 : Nat) (t : ByteArray) (wr : World) : Prop where
  below : Below w.heap.size w wr
  box : wr.heap[w.heap.size]? = some (.cells #[.slice A n c, .slice A2 n2 c2] 25 (0, 0))
  bld : Bld w.heap.size b t wr
  lt : w.heap.size < b
theorem start_print {w w1 : World} {A A2 : Option Addr} {n c n2 c2 : Nat} (hb : Below (w.alloc (.cells #[.slice A n c, .slice A2 n2 c2] 25)).heap.size (w.alloc (.cells #[.slice A n c, .slice A2 n2 c2] 25)) w1) :
    (w1.alloc (.cells #[.pointer none, .slice none 0 0] 49)).cell? ⟨w.heap.size, 0, none⟩ = some (.slice A n c) ∧ (w1.alloc (.cells #[.pointer none, .slice none 0 0] 49)).cell? ⟨w.heap.size, 1, none⟩ = some (.slice A2 n2 c2) ∧
    PrI w w1.heap.size A A2 n c n2 c2 (textN (([] : List (ByteArray × Int)).take 0)) (w1.alloc (.cells #[.pointer none, .slice none 0 0] 49)) := by
  have hsz := hb.size
  have h0 : (w.alloc (.cells #[.slice A n c, .slice A2 n2 c2] 25)).heap.size = w.heap.size + 1 := by simp
  have hx : (w1.alloc (.cells #[.pointer none, .slice none 0 0] 49)).heap[w.heap.size]? = some (.cells #[.slice A n c, .slice A2 n2 c2] 25 (0, 0)) := by
    rw [Lib.alloc_old _ _ _ (by omega), hb.block _ (by omega)]
    show (w.heap.push _)[w.heap.size]? = _
    simp
  refine ⟨by rw [Lib.cell_of_heap hx]; rfl, by rw [Lib.cell_of_heap hx]; rfl, ?_, hx, ?_, by omega⟩
  · exact ((((Below.refl _ w).alloc (Nat.le_refl _) _).trans (hb.mono (by omega)))).alloc (by omega) _
  · exact .inl ⟨by omega, .slice none 0 0, by (show (w1.heap.push _)[w1.heap.size]? = _); simp, World.ownsRowF_nil _ _ _ _, by simp [Value.ownBlock]⟩
theorem call_wordI (k : Int) (h1 : 1 ≤ k) (h7 : k ≤ 7) (w : World) : Calls Tryd.prog 18 #[.int .i64 k] w fun e w' => e = .returned (.string (wordK k.toNat)) ∧ Below w.heap.size w w' := by
  have := call_word k.toNat (by omega) w
  rwa [show ((k.toNat : Nat) : Int) = k by omega] at this
theorem PrI.later {w : World} {b : Nat} {A A2 : Option Addr} {n c n2 c2 : Nat} {t : ByteArray} {wr w' : World} (h : PrI w b A A2 n c n2 c2 t wr) (hb : Below wr.heap.size wr w') : PrI w b A A2 n c n2 c2 t w' where
  below := h.below.trans (hb.mono h.below.size)
  box := (hb.block _ (Array.getElem?_eq_some_iff.1 h.box).1).trans h.box
  bld := h.bld.later hb
  lt := h.lt
theorem PrI.node {w : World} {b : Nat} {A A2 : Option Addr} {n c n2 c2 : Nat} {t : ByteArray} {wr : World} (h : PrI w b A A2 n c n2 c2 t wr) (x : ByteArray) (k : Int) :
    wr.heap.size < (wr.alloc (.cells #[.string x, .int .i64 k] 37)).heap.size ∧ (wr.alloc (.cells #[.string x, .int .i64 k] 37)).cell? ⟨wr.heap.size, 0, none⟩ = some (.string x) ∧ (wr.alloc (.cells #[.string x, .int .i64 k] 37)).cell? ⟨wr.heap.size, 1, none⟩ = some (.int .i64 k) ∧
    (wr.alloc (.cells #[.string x, .int .i64 k] 37)).heap[wr.heap.size]? = some (.cells #[.string x, .int .i64 k] 37 (0, 0)) ∧ PrI w b A A2 n c n2 c2 t (wr.alloc (.cells #[.string x, .int .i64 k] 37)) := by
  have hx : (wr.alloc (.cells #[.string x, .int .i64 k] 37)).heap[wr.heap.size]? = some (.cells #[.string x, .int .i64 k] 37 (0, 0)) := by
    show (wr.heap.push _)[wr.heap.size]? = _
    simp
  exact ⟨by simp, by rw [Lib.cell_of_heap hx]; rfl, by rw [Lib.cell_of_heap hx]; rfl, hx, h.later ((Below.refl _ wr).alloc (Nat.le_refl _) _)⟩
theorem later_node {w : World} {b : Nat} {A A2 : Option Addr} {n c n2 c2 : Nat} {t : ByteArray} {wx w2 : World} {m : Nat} {u v : Value} {o : Obj} (hm : m < wx.heap.size) (m0 : wx.cell? ⟨m, 0, none⟩ = some u) (m1 : wx.cell? ⟨m, 1, none⟩ = some v) (mb : wx.heap[m]? = some o) (h : PrI w b A A2 n c n2 c2 t wx)
    (hb : Below wx.drew.heap.size wx.drew w2) : w2.cell? ⟨m, 0, none⟩ = some u ∧ w2.cell? ⟨m, 1, none⟩ = some v ∧ w2.heap[m]? = some o ∧ PrI w b A A2 n c n2 c2 t w2 := by
  have hb' : Below wx.heap.size wx w2 := (Below.drew (Below.refl _ wx)).trans hb
  have e := hb'.block m hm
  exact ⟨by rw [cell_of_heap e]; exact m0, by rw [cell_of_heap e]; exact m1, e.trans mb, h.later hb'⟩
theorem PrI.write {w : World} {b : Nat} {A A2 : Option Addr} {n c n2 c2 : Nat} {t : ByteArray} {wr : World} (h : PrI w b A A2 n c n2 c2 t wr) (s : ByteArray) (hs : t.size + s.size ≤ 1000000) :
    Calls Tryd.prog 17 #[.pointer (some ⟨b, 0, none⟩), .string s] wr fun e w' => e = .returned (.tuple #[.int .i64 s.size, .nilIface]) ∧ PrI w b A A2 n c n2 c2 (t ++ s) w' := by
  refine (bld_write w.heap.size b t s wr h.bld hs h.below.size).mono ?_
  rintro e w' ⟨rfl, h1, h2, h3⟩
  exact ⟨rfl, h.below.trans h2, h3 _ _ h.box (by have := h.lt; simp; omega) (fun c fz q => by cases q), h1, h.lt⟩
theorem PrI.flow {w : World} {b : Nat} {A A2 : Option Addr} {n c n2 c2 : Nat} {t : ByteArray} {wr : World} (h : PrI w b A A2 n c n2 c2 t wr) (x k : Int) :
    (wr.alloc (.cells #[.int .i64 x, .int .i64 k] 40)).cell? ⟨wr.heap.size, 0, none⟩ = some (.int .i64 x) ∧ (wr.alloc (.cells #[.int .i64 x, .int .i64 k] 40)).cell? ⟨wr.heap.size, 1, none⟩ = some (.int .i64 k) ∧
    PrI w b A A2 n c n2 c2 t (wr.alloc (.cells #[.int .i64 x, .int .i64 k] 40)).drew ∧ ∀ b o u, b ≤ w.heap.size → wr.cell? ⟨b, o, none⟩ = some u → (wr.alloc (.cells #[.int .i64 x, .int .i64 k] 40)).cell? ⟨b, o, none⟩ = some u := by
  have hx : (wr.alloc (.cells #[.int .i64 x, .int .i64 k] 40)).heap[wr.heap.size]? = some (.cells #[.int .i64 x, .int .i64 k] 40 (0, 0)) := by
    show (wr.heap.push _)[wr.heap.size]? = _
    simp
  have hlt : w.heap.size < wr.heap.size := (Array.getElem?_eq_some_iff.1 h.box).1
  exact ⟨by rw [Lib.cell_of_heap hx]; rfl, by rw [Lib.cell_of_heap hx]; rfl, h.later (Below.drew ((Below.refl _ wr).alloc (Nat.le_refl _) _)), fun b o u hb hc => by rw [cell_of_heap (Lib.alloc_old wr _ b (by omega))]; exact hc⟩
theorem PrI.writes (w : World) (b : Nat) (A A2 : Option Addr) (n c n2 c2 : Nat) (t : ByteArray) (s ln : ByteArray) (hln : s = ln) (hs : t.size + ln.size ≤ 1000000) (wr : World) (h : PrI w b A A2 n c n2 c2 t wr) :
    Calls Tryd.prog 17 #[.pointer (some ⟨b, 0, none⟩), .string s] wr fun e w' => e = .returned (.tuple #[.int .i64 ln.size, .nilIface]) ∧ PrI w b A A2 n c n2 c2 (t ++ ln) w' := by
  subst hln
  exact h.write s hs
end Go.Proofs.YtgkodbnomgabdaaDoor
