/-
  The library's Builder of texts, as the shelf's contracts tell it, over this seat; calls of data as calls. No statement is proved here.
-/
import Derived.Test.YtgkodbnomgabdaaDoorPq7
import Derived.Shelf.Strings.BuilderK
import Derived.Deep.RegionHeld3
import Derived.Deep.RegionWith
import Derived.StillTailTactics
import Derived.Deep.LoopGhost
namespace Go.Proofs.YtgkodbnomgabdaaDoor
open Go.RowKit Go.Shelf
set_option linter.unusedSimpArgs false
set_option linter.unusedVariables false
def lays166_ren : Go.Shelf.Ren := ⟨fun | 166 => 17 | 240 => 33 | 276 => 44 | n => n, fun | 70 => 46 | 9 => 9 | 3 => 3 | 75 => 51 | 0 => 0 | 72 => 49 | 37 => 47 | 4 => 4 | 164 => 84 | 80 => 54 | 5 => 5 | n => n, fun | n => n⟩
theorem lays166 : Go.Proofs.Lays.n166 Tryd.prog lays166_ren := {
  mixed := by kernel_rfl,
  f166 := Tryd.func17.trans (congrArg some (by kernel_rfl)),
  f240 := Tryd.func33.trans (congrArg some (by kernel_rfl)),
  f276 := Tryd.func44.trans (congrArg some (by kernel_rfl)),
  t0 := Tryd.underlying0,
  a0 := Tryd.isAgg0,
  z0 := Tryd.sizeOf0,
  v0 := Tryd.zeroValue0,
  t3 := Tryd.underlying3,
  a3 := Tryd.isAgg3,
  z3 := Tryd.sizeOf3,
  v3 := Tryd.zeroValue3,
  t4 := Tryd.underlying4,
  a4 := Tryd.isAgg4,
  z4 := Tryd.sizeOf4,
  v4 := Tryd.zeroValue4,
  t9 := Tryd.underlying9,
  a9 := Tryd.isAgg9,
  z9 := Tryd.sizeOf9,
  v9 := Tryd.zeroValue9,
  t20 := Tryd.underlying20,
  a20 := Tryd.isAgg20,
  z20 := Tryd.sizeOf20,
  v20 := Tryd.zeroValue20,
  t37 := Tryd.underlying47,
  a37 := Tryd.isAgg47,
  z37 := Tryd.sizeOf47,
  v37 := Tryd.zeroValue47,
  t70 := Tryd.underlying46,
  a70 := Tryd.isAgg46,
  z70 := Tryd.sizeOf46,
  v70 := Tryd.zeroValue46,
  t72 := Tryd.underlying49,
  a72 := Tryd.isAgg49,
  z72 := Tryd.sizeOf49,
  v72 := Tryd.zeroValue49,
  t75 := Tryd.underlying51,
  a75 := Tryd.isAgg51,
  z75 := Tryd.sizeOf51,
  v75 := Tryd.zeroValue51,
  t164 := Tryd.underlying84,
  a164 := Tryd.isAgg84,
  z164 := Tryd.sizeOf84,
  v164 := Tryd.zeroValue84 }

def lays169_ren : Go.Shelf.Ren := ⟨fun | 169 => 19 | n => n, fun | 70 => 46 | 9 => 9 | 0 => 0 | 72 => 49 | 37 => 47 | 127 => 76 | 3 => 3 | 5 => 5 | n => n, fun | n => n⟩
theorem lays169 : Go.Proofs.Lays.n169 Tryd.prog lays169_ren := {
  mixed := by kernel_rfl,
  f169 := Tryd.func19.trans (congrArg some (by kernel_rfl)),
  t0 := Tryd.underlying0,
  a0 := Tryd.isAgg0,
  z0 := Tryd.sizeOf0,
  v0 := Tryd.zeroValue0,
  t3 := Tryd.underlying3,
  a3 := Tryd.isAgg3,
  z3 := Tryd.sizeOf3,
  v3 := Tryd.zeroValue3,
  t9 := Tryd.underlying9,
  a9 := Tryd.isAgg9,
  z9 := Tryd.sizeOf9,
  v9 := Tryd.zeroValue9,
  t37 := Tryd.underlying47,
  a37 := Tryd.isAgg47,
  z37 := Tryd.sizeOf47,
  v37 := Tryd.zeroValue47,
  t70 := Tryd.underlying46,
  a70 := Tryd.isAgg46,
  z70 := Tryd.sizeOf46,
  v70 := Tryd.zeroValue46,
  t72 := Tryd.underlying49,
  a72 := Tryd.isAgg49,
  z72 := Tryd.sizeOf49,
  v72 := Tryd.zeroValue49,
  t127 := Tryd.underlying76,
  a127 := Tryd.isAgg76,
  z127 := Tryd.sizeOf76,
  v127 := Tryd.zeroValue76 }

theorem extra166 : Builder.Extra Tryd.prog lays166_ren where
  sizeBuilder := by kernel_rfl
  liesBuilder := by kernel_rfl
  t5 := by kernel_rfl
  a5 := Tryd.isAgg5
  z5 := Tryd.sizeOf5
  v5 := Tryd.zeroValue5
  infoByte := by kernel_rfl
  cellsByte := by kernel_rfl
  sizeByte := by kernel_rfl
  neB5 := by decide
/-- What a builder holds. -/
def Bld (B b : Nat) (s : ByteArray) (w : World) : Prop := Lib.IsBuilderF 49 5 B b (Lib.strCells s) w
theorem strCells_app (a b : ByteArray) : Lib.strCells a ++ Lib.strCells b = Lib.strCells (a ++ b) := by
  simp [Lib.strCells, ByteArray.data_append, Array.toList_append]
theorem Bld.later {B b : Nat} {s : ByteArray} {w w' : World} (h : Bld B b s w) (hb : Below w.heap.size w w') : Bld B b s w' := by
  have one : ∀ p, Lib.BuilderAtF 49 5 B b p (Lib.strCells s) w → Lib.BuilderAtF 49 5 B b p (Lib.strCells s) w' := by
    rintro p ⟨hB, v, hv, ⟨h1, h2⟩, hne⟩
    refine ⟨hB, v, (hb.block b (Array.getElem?_eq_some_iff.1 hv).1).trans hv, ⟨h1, ?_⟩, hne⟩
    rcases h2 with h2 | ⟨g, cap, cur, fz, e1, e2, e3, r⟩
    · exact .inl h2
    · exact .inr ⟨g, cap, cur, fz, e1, e2, (hb.block g (Array.getElem?_eq_some_iff.1 e3).1).trans e3, r⟩
  rcases h with h | h
  · exact .inl (one _ h)
  · exact .inr (one _ h)
theorem bld_write (B b : Nat) (t s : ByteArray) (w : World) (h : Bld B b t w) (hlen : t.size + s.size ≤ 1000000) (hB : B ≤ w.heap.size) :
    Calls Tryd.prog 17 #[.pointer (some ⟨b, 0, none⟩), .string s] w fun e w' => e = .returned (.tuple #[.int .i64 s.size, .nilIface]) ∧ Bld B b (t ++ s) w' ∧ Below B w w' ∧ Lib.OthersKept 5 (some b) w w' := by
  refine (Any.Builder_WriteString_k lays166 extra166 B b (Lib.strCells t) s w h (by rw [Lib.strCells_length]; omega) hB).mono ?_
  rintro e w' ⟨rfl, h1, h2, h3⟩
  refine ⟨rfl, .inr ?_, h2, h3⟩
  rw [← strCells_app]
  exact h1
theorem extra169 : Builder.Extra Tryd.prog lays169_ren where
  sizeBuilder := by kernel_rfl
  liesBuilder := by kernel_rfl
  t5 := by kernel_rfl
  a5 := Tryd.isAgg5
  z5 := Tryd.sizeOf5
  v5 := Tryd.zeroValue5
  infoByte := by kernel_rfl
  cellsByte := by kernel_rfl
  sizeByte := by kernel_rfl
  neB5 := by decide
theorem bld_string (B b : Nat) (t : ByteArray) (w : World) (h : Bld B b t w) (hB : B ≤ w.heap.size) :
    Calls Tryd.prog 19 #[.pointer (some ⟨b, 0, none⟩)] w fun e w' => e = .returned (.string t) ∧ Below B w w' := by
  refine (Any.Builder_String_any_k lays169 extra169 B b t.data.toList w (by rw [← Lib.strCells_eq]; exact h) hB).mono ?_
  rintro e w' ⟨rfl, _, h2, _⟩
  exact ⟨by simp, h2⟩
theorem fok_all (w : World) : FOK (fun b => b < w.heap.size) w := ⟨fun b h => h, fun g cs hg => absurd hg (by simp [theGlobs]), fun g t s hg => absurd hg (by simp [theSents])⟩
/-- A call of data, as a call: nothing that was there turns. -/
theorem pcall_calls {f : FuncId} {args : List D} {u : Value} (h : PCall Tryd.prog f args (.sc u)) (w : World) (vs : List Value) (hr : repL noInj (fun b => b < w.heap.size) w args vs) :
    Calls Tryd.prog f vs.toArray w fun e w' => e = .returned u ∧ Below w.heap.size w w' := by
  refine (h.run noInj _ w vs (fok_all w) hr).mono ?_
  rintro e w' ⟨v, F', rfl, _, hv, hx⟩
  simp only [rep] at hv
  subst hv
  exact ⟨rfl, hx.os, hx.tape, hx.output, hx.size, fun k hk => hx.frozen k hk⟩
theorem call_word (k : Nat) (hk : k < 8) (w : World) : Calls Tryd.prog 18 #[.int .i64 k] w fun e w' => e = .returned (.string (wordK k)) ∧ Below w.heap.size w w' :=
  pcall_calls (proc_word k hk) w [.int .i64 k] (by simp [repL, rep])
end Go.Proofs.YtgkodbnomgabdaaDoor
