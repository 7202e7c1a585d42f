/-
  What an operation does to deep values: a function that reckons a verification condition. No statement is proved here.
-/
import Derived.Test.YtkkfiadefekbbaaDp
namespace Go.Proofs.Ytkkfiadefekbbaa
open Go.RowKit

inductive POp where
  | move (x : Operand)
  | pick (c a b : Operand)
  | alloc (z : List Value)
  | box (x : Operand)
  | build (z : List Value) (parts : List (Nat × Nat × Operand))
  | bslice (esz n : Nat) (parts : List Operand)
  | load1 (a : Operand)
  | loadA (n : Nat) (a : Operand)
  | store (n : Nat) (a v : Operand)
  | nilchk (x : Operand)
  | bin (op : BinOp) (x y : Operand)
  | eqb (neq : Bool) (x y : Operand)
  | isnil (kind : Nat) (neq : Bool) (x : Operand)
  | un (op : UnOp) (x : Operand)
  | ext (i : Nat) (x : Operand)
  | faddr (off : Nat) (x : Operand)
  | field (off n : Nat) (agg : Bool) (x : Operand)
  | iaddr (esz : Nat) (x i : Operand)
  | aaddr (len esz : Nat) (x i : Operand)
  | sidx (x i : Operand)
  | mkfn (f : Fn) (first cap : List Operand)
  | mslice (esz bytes : Nat) (z : List Value) (l c : Operand)
  | slc (esz : Nat) (x : Operand) (lo hi mx : Option Operand)
  | sslc (x : Operand) (lo hi : Option Operand)
  | len (x : Operand)
  | slen (x : Operand)
  | append (esz bytes : Nat) (x y : Operand)
  | call (f : FuncId) (args : List Operand)
  | callv (x : Operand) (args : List Operand)
  | mkif (t : TypeId) (x : Operand)

structure POper where
  dst : Option Tmp
  op : POp
  guard : Option (Tmp × Bool)
  mask : Nat

inductive PC where
  | skip
  | ops (l : List POper) (draw : Bool)
  | seq (a b : PC)
  | cond (c : Operand) (a b : PC)
  | block (id : Nat) (c : PC)
  | loop (c : PC)
  | exit (id : Nat)
  | ret
  | stop (c : PC)

/-- The code without the marks at which the reckoning stops. -/
def PC.bare : PC → PC
  | .seq a b => .seq a.bare b.bare
  | .cond c a b => .cond c a.bare b.bare
  | .block id c => .block id c.bare
  | .loop c => .loop c.bare
  | .stop c => c.bare
  | c => c

abbrev Env := List (Nat × D)

/-! ### Reckoning -/

def lift : Value → D
  | .agg cs => .agg (cs.toList.map .sc)
  | v => .sc v

def lookD (t : Nat) : Env → D
  | [] => .junk
  | (k, d) :: r => match Nat.beq t k with | true => d | false => lookD t r

def evalD (env : Env) : Operand → D
  | .tmp t => lookD t env
  | .const v => lift v
  | .global g => .sc (.pointer (some ⟨g, 0, none⟩))
  | .func f => .fn (.func f) [] []

def lookK (t : Nat) (K : D → Prop) : Env → Prop
  | [] => K .junk
  | (k, d) :: r => match Nat.beq t k with | true => K d | false => lookK t K r

/-- Plain values as data. -/
def scK : List Value → (List D → Prop) → Prop
  | [], K => K []
  | v :: r, K => scK r fun cs => K (.sc v :: cs)

def evK (env : Env) (x : Operand) (K : D → Prop) : Prop :=
  match x with
  | .tmp t => lookK t K env
  | .const v => match v with
    | .agg cs => scK cs.toList fun l => K (.agg l)
    | v => K (.sc v)
  | .global g => K (.sc (.pointer (some ⟨g, 0, none⟩)))
  | .func f => K (.fn (.func f) [] [])

def evLK (env : Env) : List Operand → (List D → Prop) → Prop
  | [], K => K []
  | x :: r, K => evK env x fun d => evLK env r fun ds => K (d :: ds)

/-- The cell at a place of a row. -/
def atK : List D → Nat → (D → Prop) → Prop
  | [], _, _ => False
  | c :: _, 0, K => K c
  | _ :: r, n + 1, K => atK r n K

/-- n cells from a place on. -/
def takeK : List D → Nat → (List D → Prop) → Prop
  | _, 0, K => K []
  | [], _ + 1, _ => False
  | c :: r, n + 1, K => takeK r n fun cs => K (c :: cs)
def dropK : List D → Nat → (List D → Prop) → Prop
  | cs, 0, K => K cs
  | [], _ + 1, _ => False
  | _ :: r, n + 1, K => dropK r n K

def cell1 : D → Bool
  | .agg _ | .tup _ | .junk => false
  | .sc (.agg _) | .sc (.tuple _) => false
  | _ => true
def cells1 : List D → Bool
  | [] => true
  | c :: r => match cell1 c with | true => cells1 r | false => false

/-- The cells of a value that is to be stored. -/
def cellsK (d : D) (K : List D → Prop) : Prop :=
  match d with
  | .agg cs => match cells1 cs with | true => K cs | false => False
  | d => match cell1 d with | true => K [d] | false => False

/-- cs written into a row at a place. -/
def putK : List D → Nat → List D → (List D → Prop) → Prop
  | r, 0, [], K => K r
  | _ :: r, 0, c :: cs, K => putK r 0 cs fun r' => K (c :: r')
  | [], 0, _ :: _, _ => False
  | [], _ + 1, _, _ => False
  | x :: r, n + 1, cs, K => putK r n cs fun r' => K (x :: r')

def hputK : List AObj → Nat → AObj → (List AObj → Prop) → Prop
  | [], _, _, _ => False
  | _ :: r, 0, o, K => K (o :: r)
  | x :: r, n + 1, o, K => hputK r n o fun r' => K (x :: r')
def hpushK : List AObj → AObj → (List AObj → Nat → Prop) → Prop
  | [], o, K => K [o] 0
  | x :: r, o, K => hpushK r o fun r' n => K (x :: r') (n + 1)
def hgetK : List AObj → Nat → (AObj → Prop) → Prop
  | [], _, _ => False
  | o :: _, 0, K => K o
  | _ :: r, n + 1, K => hgetK r n K

/-- A test. -/
def ifK (c : Bool) (A B : Prop) : Prop := match c with
  | true => A
  | false => B
theorem ifK_split {c : Bool} {A B : Prop} (h : c = true → A) (k : c = false → B) : ifK c A B := by
  cases c
  · exact k rfl
  · exact h rfl

/-- Two numbers that are one. -/
def sameK (a b : Nat) (A : Prop) : Prop := match Nat.beq a b with
  | true => A
  | false => False

abbrev Cont := D → List AObj → List Nat → List Nat → Prop

def InR (k : IntKind) (z : Int) : Prop := k.wrap z = z

/-- A sum: it fits, or it is wrapped. -/
def arithK (k : IntKind) (z : Int) (K : D → Prop) : Prop := (InR k z ∧ K (.sc (.int k z))) ∨ ∀ u, u = k.wrap z → K (.sc (.int k u))

def bitsV (op : BinOp) (k : IntKind) (x y : Int) : Int :=
  let a := BitVec.ofInt k.bits x
  let b := BitVec.ofInt k.bits y
  match op with
  | .and => k.wrap (a &&& b).toNat
  | .or => k.wrap (a ||| b).toNat
  | .xor => k.wrap (a ^^^ b).toNat
  | _ => k.wrap (a &&& ~~~b).toNat

def kindNo : IntKind → Nat
  | .i8 => 0 | .i16 => 1 | .i32 => 2 | .i64 => 3 | .u8 => 4 | .u16 => 5 | .u32 => 6 | .u64 => 7

def binK (op : BinOp) (x y : D) (K : D → Prop) : Prop :=
  match x, y with
  | .sc (.int k a), .sc (.int k' b) =>
    match op with
    | .shl => 0 ≤ b ∧ arithK k (a * 2 ^ min b.toNat k.bits) K
    | .shr => 0 ≤ b ∧ K (.sc (.int k (a.fdiv (2 ^ min b.toNat k.bits))))
    | op => match Nat.beq (kindNo k) (kindNo k') with
     | false => False
     | true =>
      match op with
      | .add => arithK k (a + b) K
      | .sub => arithK k (a - b) K
      | .mul => arithK k (a * b) K
      | .quo => b ≠ 0 ∧ arithK k (a.tdiv b) K
      | .rem => b ≠ 0 ∧ K (.sc (.int k (a.tmod b)))
      | .eql => K (.sc (.bool (a == b)))
      | .neq => K (.sc (.bool (a != b)))
      | .lss => K (.sc (.bool (decide (a < b))))
      | .leq => K (.sc (.bool (decide (a ≤ b))))
      | .gtr => K (.sc (.bool (decide (a > b))))
      | .geq => K (.sc (.bool (decide (a ≥ b))))
      | .and => K (.sc (.int k (bitsV .and k a b)))
      | .or => K (.sc (.int k (bitsV .or k a b)))
      | .xor => K (.sc (.int k (bitsV .xor k a b)))
      | .andNot => K (.sc (.int k (bitsV .andNot k a b)))
      | _ => False
  | .sc (.string a), .sc (.string b) =>
    match op with
    | .add => (((a.size + b.size : Nat) : Int) ≤ 9223372036854775807) ∧ K (.sc (.string (a ++ b)))
    | .eql => K (.sc (.bool (a.toList == b.toList)))
    | .neq => K (.sc (.bool (!(a.toList == b.toList))))
    | .lss => K (.sc (.bool (Op.bytesLess a.toList b.toList)))
    | .leq => K (.sc (.bool (Op.bytesLess a.toList b.toList || a.toList == b.toList)))
    | .gtr => K (.sc (.bool (!(Op.bytesLess a.toList b.toList || a.toList == b.toList))))
    | .geq => K (.sc (.bool (!Op.bytesLess a.toList b.toList)))
    | _ => False
  | _, _ => False

def eqbK (neq : Bool) (x y : D) (K : D → Prop) : Prop :=
  match x, y with
  | .sc (.bool a), .sc (.bool b) => match neq with
    | false => K (.sc (.bool (a == b)))
    | true => K (.sc (.bool (!(a == b))))
  | _, _ => False

/-- 0: a pointer · 1: an interface value · 2: a function value · 3: a slice -/
def isnilK (kind : Nat) (neq : Bool) (x : D) (K : D → Prop) : Prop :=
  match kind with
  | 0 => match x with
    | .sc (.pointer none) => K (.sc (.bool (!neq)))
    | .loc .. | .ipt .. | .elt .. => K (.sc (.bool neq))
    | _ => False
  | 1 => match x with
    | .sc .nilIface => K (.sc (.bool (!neq)))
    | .ifc .. => K (.sc (.bool neq))
    | _ => False
  | 2 => match x with
    | .sc .nilFunc => K (.sc (.bool (!neq)))
    | .fn .. => K (.sc (.bool neq))
    | _ => False
  | 3 => match x with
    | .sc (.slice none 0 0) => K (.sc (.bool (!neq)))
    | _ => False
  | _ => False

def unK (op : UnOp) (x : D) (K : D → Prop) : Prop :=
  match op, x with
  | .not, .sc (.bool b) => K (.sc (.bool (!b)))
  | .neg, .sc (.int k n) => arithK k (0 - n) K
  | _, _ => False

/-- A slice expression's bounds: lo ≤ hi ≤ cap. -/
def bndK (env : Env) (x : Option Operand) (dflt : Nat) (K : Nat → Prop) : Prop :=
  match x with
  | none => K dflt
  | some x => evK env x fun d => match d with
    | .sc (.int _ i) => 0 ≤ i ∧ K i.toNat
    | _ => False

def partsK (env : Env) : List (Nat × Nat × Operand) → List D → (List D → Prop) → Prop
  | [], cs, K => K cs
  | (off, n, x) :: r, cs, K => evK env x fun d => cellsK d fun xs => sameK n xs.length (putK cs off xs fun cs' => partsK env r cs' K)

def rowsK (env : Env) (esz : Nat) : List Operand → (List (List D) → Prop) → Prop
  | [], K => K []
  | x :: r, K => evK env x fun d => cellsK d fun xs => sameK esz xs.length (rowsK env esz r fun rows => K (xs :: rows))

/-- A function that a call enters. -/
def okFun (P : Program) (f : FuncId) : Prop := ∃ fn, P.funcs[f]? = some fn ∧ (fn.name == "runtime.NumGoroutine") = false ∧ fn.body.isNone = false

/-- A call. -/
structure ACall (P : Program) (f : FuncId) (args : List D) (H : List AObj) (d : D) (H2 : List AObj) : Prop where
  ok : okFun P f
  len : H.length ≤ H2.length
  run : ∀ (J : Inj) (F : Nat → Prop) (w : World) (vs : List Value), StOK J F w (fun i => H[i]?) → (∀ id, J id ≠ none → id < H.length) → repL J F w args vs →
    Calls P f vs.toArray w fun e w' => ∃ v J' F', e = .returned v ∧ StOK J' F' w' (fun i => H2[i]?) ∧ (∀ id, J' id ≠ none → id < H2.length) ∧ rep J' F' w' d v ∧ Ext J F w J' F' w'

def noInj : Inj := fun _ => none

/-- A call whose arguments are data to the bottom. -/
structure PCall (P : Program) (f : FuncId) (args : List D) (d : D) : Prop where
  ok : okFun P f
  run : ∀ (J : Inj) (F : Nat → Prop) (w : World) (vs : List Value), (∀ b, F b → b < w.heap.size) → repL J F w args vs →
    Calls P f vs.toArray w fun e w' => ∃ v F', e = .returned v ∧ (∀ b, F' b → b < w'.heap.size) ∧ rep noInj F' w' d v ∧ Ext noInj F w noInj F' w'

mutual
/-- What the call's own memory reads as, to the bottom. -/
inductive Deep (H : List AObj) : D → D → Prop
  | refl (d : D) : Deep H d d
  | none (esz : Nat) : Deep H (.sc (.slice none 0 0)) (.lst esz [])
  | loc (id off : Nat) (m : Bool) (cs ds : List D) (h : H[id]? = some (.row m cs)) (k : DeepL H (cs.drop off) ds) : Deep H (.loc id off) (.ipt ds)
  | own (id ver lo hi esz : Nat) (m : Bool) (xs ys : List (List D)) (h : H[id]? = some (.vec m ver esz xs)) (k : DeepLL H ((xs.take hi).drop lo) ys) : Deep H (.own id ver lo hi) (.lst esz ys)
  | fn (f : Fn) (a b c e : List D) (h : DeepL H a b) (k : DeepL H c e) : Deep H (.fn f a c) (.fn f b e)
  | ifc (t : TypeId) (d e : D) (h : Deep H d e) : Deep H (.ifc t d) (.ifc t e)
  | agg (a b : List D) (h : DeepL H a b) : Deep H (.agg a) (.agg b)
  | tup (a b : List D) (h : DeepL H a b) : Deep H (.tup a) (.tup b)
inductive DeepL (H : List AObj) : List D → List D → Prop
  | nil : DeepL H [] []
  | cons (d e : D) (a b : List D) (h : Deep H d e) (k : DeepL H a b) : DeepL H (d :: a) (e :: b)
inductive DeepLL (H : List AObj) : List (List D) → List (List D) → Prop
  | nil : DeepLL H [] []
  | cons (x y : List D) (a b : List (List D)) (h : DeepL H x y) (k : DeepLL H a b) : DeepLL H (x :: a) (y :: b)
end

def isScalar : D → Bool
  | .sc _ => true
  | _ => false
def areScalar : List D → Bool
  | [] => true
  | d :: r => match isScalar d with | true => areScalar r | false => false
/-- A result without memory. -/
def bareD : D → Bool
  | .sc _ => true
  | .tup ds | .agg ds => areScalar ds
  | _ => false

mutual
/-- Only objects below this number are named. -/
def Under (m : Nat) : D → Prop
  | .junk | .sc _ => True
  | .loc id _ | .elt id _ _ _ | .own id _ _ _ => id < m
  | .ipt cs | .agg cs | .tup cs => UnderL m cs
  | .lst _ xs => UnderLL m xs
  | .fn _ a b => UnderL m a ∧ UnderL m b
  | .ifc _ d => Under m d
def UnderL (m : Nat) : List D → Prop
  | [] => True
  | d :: r => Under m d ∧ UnderL m r
def UnderLL (m : Nat) : List (List D) → Prop
  | [] => True
  | d :: r => UnderL m d ∧ UnderLL m r
end
def AObj.under (m : Nat) : AObj → Prop
  | .row _ cs => UnderL m cs
  | .vec _ _ _ xs => UnderLL m xs
def UnderO (m : Nat) : List AObj → Prop
  | [] => True
  | o :: r => o.under m ∧ UnderO m r
/-- The numbers below one. -/
def upTo : Nat → List Nat
  | 0 => []
  | n + 1 => n :: upTo n

/-- A call: of data alone; of what the own memory reads as, for a result without memory; at large. -/
def callK (P : Program) (seq : Bool) (f : FuncId) (args : List D) (H : List AObj) (K : Cont) : Prop :=
  (∃ d, PCall P f args d ∧ K d H [] []) ∨ (∃ args' d, DeepL H args args' ∧ PCall P f args' d ∧ bareD d = true ∧ K d H (List.range H.length) []) ∨
    (seq = true ∧ ∃ d H2, ACall P f args H d H2 ∧ K d H2 [] []) ∨
    (∃ d H2, UnderL H.length args ∧ UnderO H.length H ∧ ACall P f args H d H2 ∧ K d H2 (upTo H2.length) (upTo H2.length))

def sliceAppend (k : Nat) (bytes : Nat) (m : Nat) : Prop := (k + m) * bytes ≤ 140737488355328

/-- What is appended. -/
def srcK (H : List AObj) (esz : Nat) (dy : D) (K : List (List D) → List Nat → Prop) : Prop :=
  match dy with
  | .lst esz' ys => sameK esz esz' (K ys [])
  | .own id ver lo hi => hgetK H id fun o => match o with
    | .vec _ ver' esz' zs => ver = ver' ∧ sameK esz esz' (K ((zs.take hi).drop lo) [id])
    | _ => False
  | .sc (.slice none 0 0) => K [] []
  | _ => False

def step (P : Program) (seq : Bool) (p : POp) (env : Env) (H : List AObj) (K : Cont) : Prop :=
  match p with
  | .move x => evK env x fun d => K d H [] []
  | .pick c a b => evK env c fun dc => match dc with
    | .sc (.bool t) => ifK t (evK env a fun d => K d H [] []) (evK env b fun d => K d H [] [])
    | _ => False
  | .alloc z => scK z fun cs => hpushK H (.row true cs) fun H' id => K (.loc id 0) H' [] [id]
  | .box x => evK env x fun d => cellsK d fun cs => hpushK H (.row true cs) fun H' id => K (.loc id 0) H' [] [id]
  | .build z parts => scK z fun zs => partsK env parts zs fun cs => K (.agg cs) H [] []
  | .bslice esz n parts => rowsK env esz parts fun rows => sameK n rows.length (hpushK H (.vec true 0 esz rows) fun H' id => K (.own id 0 0 n) H' [] [id])
  | .load1 a => evK env a fun d => match d with
    | .loc id off => hgetK H id fun o => match o with
      | .row _ cs => atK cs off fun c => K c H [id] []
      | _ => False
    | .ipt cs => atK cs 0 fun c => K c H [] []
    | .elt id ver i off => hgetK H id fun o => match o with
      | .vec _ ver' _ xs => ver = ver' ∧ ∃ row, xs[i]? = some row ∧ atK row off fun c => K c H [id] []
      | _ => False
    | _ => False
  | .loadA n a => evK env a fun d => match d with
    | .loc id off => hgetK H id fun o => match o with
      | .row _ cs => dropK cs off fun r => takeK r n fun c => K (.agg c) H [id] []
      | _ => False
    | .ipt cs => takeK cs n fun c => K (.agg c) H [] []
    | .elt id ver i off => hgetK H id fun o => match o with
      | .vec _ ver' _ xs => ver = ver' ∧ ∃ row, xs[i]? = some row ∧ dropK row off fun r => takeK r n fun c => K (.agg c) H [id] []
      | _ => False
    | _ => False
  | .store n a x => evK env a fun d => evK env x fun dx => cellsK dx fun xs => sameK n xs.length (match d with
    | .loc id off => hgetK H id fun o => match o with
      | .row true cs => putK cs off xs fun cs' => hputK H id (.row true cs') fun H' => K (.sc undef) H' [] [id]
      | _ => False
    | .elt id ver i off => hgetK H id fun o => match o with
      | .vec true ver' esz ys => ver = ver' ∧ ∃ row, ys[i]? = some row ∧ putK row off xs fun row' => hputK H id (.vec true ver' esz (ys.set i row')) fun H' => K (.sc undef) H' [] [id]
      | _ => False
    | _ => False)
  | .nilchk x => evK env x fun d => match d with
    | .loc .. | .ipt .. | .elt .. | .fn (.func _) .. => K d H [] []
    | _ => False
  | .bin op x y => evK env x fun dx => evK env y fun dy => binK op dx dy fun d => K d H [] []
  | .eqb neq x y => evK env x fun dx => evK env y fun dy => eqbK neq dx dy fun d => K d H [] []
  | .isnil kind neq x => evK env x fun dx => isnilK kind neq dx fun d => K d H [] []
  | .un op x => evK env x fun dx => unK op dx fun d => K d H [] []
  | .ext i x => evK env x fun d => match d with
    | .tup cs => atK cs i fun c => K c H [] []
    | _ => False
  | .faddr off x => evK env x fun d => match d with
    | .loc id o => K (.loc id (o + off)) H [] []
    | .elt id ver i o => K (.elt id ver i (o + off)) H [] []
    | .ipt cs => dropK cs off fun r => K (.ipt r) H [] []
    | _ => False
  | .field off n agg x => evK env x fun d => match d with
    | .agg cs => match agg with
      | true => dropK cs off fun r => takeK r n fun c => K (.agg c) H [] []
      | false => atK cs off fun c => K c H [] []
    | _ => False
  | .iaddr esz x i => evK env x fun dx => evK env i fun di => match di with
    | .sc (.int _ z) => match dx with
      | .lst esz' xs => sameK esz esz' (0 ≤ z ∧ ∃ row, xs[z.toNat]? = some row ∧ K (.ipt row) H [] [])
      | .own id ver lo hi => hgetK H id fun o => match o with
        | .vec _ ver' esz' _ => ver = ver' ∧ sameK esz esz' (0 ≤ z ∧ z < (hi - lo : Nat) ∧ K (.elt id ver (lo + z.toNat) 0) H [id] [])
        | _ => False
      | _ => False
    | _ => False
  | .aaddr len esz x i => evK env x fun dx => evK env i fun di => match di with
    | .sc (.int _ z) => 0 ≤ z ∧ z < (len : Nat) ∧ match dx with
      | .loc id o => K (.loc id (o + z.toNat * esz)) H [] []
      | .elt id ver i o => K (.elt id ver i (o + z.toNat * esz)) H [] []
      | .ipt cs => dropK cs (z.toNat * esz) fun r => K (.ipt r) H [] []
      | _ => False
    | _ => False
  | .sidx x i => evK env x fun dx => evK env i fun di => match dx, di with
    | .sc (.string s), .sc (.int _ z) => 0 ≤ z ∧ ∃ b, s[z.toNat]? = some b ∧ K (.sc (.int .u8 b.toNat)) H [] []
    | _, _ => False
  | .mkfn f first cap => evLK env first fun ds => evLK env cap fun cs => K (.fn f ds cs) H [] []
  | .mslice esz bytes z l c => evK env l fun dl => evK env c fun dc => match dl, dc with
    | .sc (.int .i64 nl), .sc (.int .i64 nc) => 0 ≤ nl ∧ nl ≤ nc ∧ nc * bytes ≤ 140737488355328 ∧
      hpushK H (.vec true 0 esz (List.replicate nl.toNat (z.map .sc))) fun H' id => K (.own id 0 0 nl.toNat) H' [] [id]
    | _, _ => False
  | .slc esz x lo hi mx => evK env x fun dx => match dx, mx with
    | .lst esz' xs, none => sameK esz esz' (bndK env hi xs.length fun h => bndK env lo 0 fun l => l ≤ h ∧ h ≤ xs.length ∧ K (.lst esz' ((xs.take h).drop l)) H [] [])
    | .own id ver a b, none => hgetK H id fun o => match o with
      | .vec _ ver' esz' _ => ver = ver' ∧ sameK esz esz' (bndK env hi (b - a) fun h => bndK env lo 0 fun l => l ≤ h ∧ h ≤ b - a ∧ K (.own id ver (a + l) (a + h)) H [id] [])
      | _ => False
    | _, _ => False
  | .sslc x lo hi => evK env x fun dx => match dx with
    | .sc (.string s) => bndK env hi s.size fun h => bndK env lo 0 fun l => l ≤ h ∧ h ≤ s.size ∧ K (.sc (.string (s.extract l h))) H [] []
    | _ => False
  | .len x => evK env x fun dx => match dx with
    | .lst _ xs => K (.sc (.int .i64 xs.length)) H [] []
    | .own id ver lo hi => hgetK H id fun o => match o with
      | .vec _ ver' _ _ => ver = ver' ∧ K (.sc (.int .i64 (hi - lo : Nat))) H [id] []
      | _ => False
    | .sc (.slice none 0 0) => K (.sc (.int .i64 0)) H [] []
    | _ => False
  | .slen x => evK env x fun dx => match dx with
    | .sc (.string s) => K (.sc (.int .i64 s.size)) H [] []
    | _ => False
  | .append esz bytes x y => evK env x fun dx => evK env y fun dy => srcK H esz dy fun ys rd =>
    match dx with
      | .sc (.slice none 0 0) => 0 < ys.length ∧ sliceAppend 0 bytes ys.length ∧ hpushK H (.vec true 0 esz ys) fun H' id => K (.own id 0 0 ys.length) H' rd [id]
      | .own id ver lo hi => hgetK H id fun o => match o with
        | .vec true ver' esz' zs => ver = ver' ∧ sameK esz esz' (sliceAppend (hi - lo) bytes ys.length ∧
          hputK H id (.vec true (ver + 1) esz ((zs.take hi).drop lo ++ ys)) fun H' => K (.own id (ver + 1) 0 (hi - lo + ys.length)) H' rd [id])
        | _ => False
      | _ => False
  | .call f args => evLK env args fun ds => callK P seq f ds H K
  | .callv x args => evK env x fun dx => match dx with
    | .fn (.func f) first cap => evLK env args fun ds => callK P seq f (first ++ ds ++ cap) H K
    | _ => False
  | .mkif t x => evK env x fun d => K (.ifc t d) H [] []

/-- Operations one behind the other. -/
def runOps (P : Program) : List POper → Env → List AObj → (Env → List AObj → Prop) → Prop
  | [], env, H, K => K env H
  | o :: r, env, H, K =>
    match o.guard with
    | none => step P true o.op env H fun d H' _ _ => match o.dst with
      | some t => runOps P r ((t, d) :: env) H' K
      | none => runOps P r env H' K
    | some (t, b) => lookK t (fun g => match g with
      | .sc (.bool c) => match b with
        | true => ifK c
          (step P true o.op env H fun d H' _ _ => match o.dst with
            | some u => runOps P r ((u, d) :: env) H' K
            | none => runOps P r env H' K)
          (match o.dst with
            | some u => runOps P r ((u, .sc undef) :: env) H K
            | none => runOps P r env H K)
        | false => ifK c
          (match o.dst with
            | some u => runOps P r ((u, .sc undef) :: env) H K
            | none => runOps P r env H K)
          (step P true o.op env H fun d H' _ _ => match o.dst with
            | some u => runOps P r ((u, d) :: env) H' K
            | none => runOps P r env H' K)
      | .sc (.tuple _) => match o.dst with
        | some u => runOps P r ((u, .sc undef) :: env) H K
        | none => runOps P r env H K
      | _ => False) env

abbrev Trace := List (List Nat × List Nat)

/-- Operations of a region that draws its order, in the text's order; what each reads and writes is noted. -/
def runD (P : Program) : List POper → Env → List AObj → (Env → List AObj → Trace → Prop) → Prop
  | [], env, H, K => K env H []
  | o :: r, env, H, K =>
    match o.guard with
    | none => step P false o.op env H fun d H' rd wr => match o.dst with
      | some t => runD P r ((t, d) :: env) H' fun e h tr => K e h ((rd, wr) :: tr)
      | none => runD P r env H' fun e h tr => K e h ((rd, wr) :: tr)
    | some (t, b) => lookK t (fun g => match g with
      | .sc (.bool c) => match b with
        | true => ifK c
          (step P false o.op env H fun d H' rd wr => match o.dst with
            | some u => runD P r ((u, d) :: env) H' fun e h tr => K e h ((rd, wr) :: tr)
            | none => runD P r env H' fun e h tr => K e h ((rd, wr) :: tr))
          (match o.dst with
            | some u => runD P r ((u, .sc undef) :: env) H fun e h tr => K e h (([], []) :: tr)
            | none => runD P r env H fun e h tr => K e h (([], []) :: tr))
        | false => ifK c
          (match o.dst with
            | some u => runD P r ((u, .sc undef) :: env) H fun e h tr => K e h (([], []) :: tr)
            | none => runD P r env H fun e h tr => K e h (([], []) :: tr))
          (step P false o.op env H fun d H' rd wr => match o.dst with
            | some u => runD P r ((u, d) :: env) H' fun e h tr => K e h ((rd, wr) :: tr)
            | none => runD P r env H' fun e h tr => K e h ((rd, wr) :: tr))
      | .sc (.tuple _) => match o.dst with
        | some u => runD P r ((u, .sc undef) :: env) H fun e h tr => K e h (([], []) :: tr)
        | none => runD P r env H fun e h tr => K e h (([], []) :: tr)
      | _ => False) env

def memb (x : Nat) : List Nat → Bool
  | [] => false
  | y :: r => match Nat.beq x y with | true => true | false => memb x r
def meets : List Nat → List Nat → Bool
  | [], _ => false
  | x :: r, l => match memb x l with | true => true | false => meets r l
/-- Do two operations touch one object, one of them writing? -/
def clash (a b : List Nat × List Nat) : Bool := meets a.2 b.1 || meets a.2 b.2 || meets b.2 a.1
def bitOf (m i : Nat) : Bool := match Nat.beq ((m / 2 ^ i) % 2) 1 with | true => true | false => false
/-- The operation of mask m against those ahead of it, from number i on. -/
def traceOK (m : Nat) (b : List Nat × List Nat) : Nat → Trace → Bool
  | _, [] => true
  | i, a :: r => match (!clash a b || bitOf m i) with | true => traceOK m b (i + 1) r | false => false
def memOK (pre : Trace) : List POper → Trace → Bool
  | o :: r, b :: tr => match traceOK o.mask b 0 pre with | true => memOK (pre ++ [b]) r tr | false => false
  | _, _ => true

/-- Operations in whatever order: reckoned in the text's. -/
def runDraw (P : Program) (l : List POper) (env : Env) (H : List AObj) (K : Env → List AObj → Prop) : Prop := runD P l env H fun e h tr => match memOK [] l tr with
  | true => K e h
  | false => False
end Go.Proofs.Ytkkfiadefekbbaa
