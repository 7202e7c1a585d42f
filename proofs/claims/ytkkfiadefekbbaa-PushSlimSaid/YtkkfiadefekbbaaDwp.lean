/-
  Code over deep values: from the translation's code to its reckoned form, and the rules that walk it. No statement is proved here.
-/
import Derived.Test.YtkkfiadefekbbaaDstep
namespace Go.Proofs.Ytkkfiadefekbbaa
open Go.RowKit

/-! ### The translation's operations, with their types' numbers laid in -/

def isIntT (P : Program) (t : TypeId) : Bool := match P.underlying t with | some (.int _) => true | _ => false
def isStrT (P : Program) (t : TypeId) : Bool := match P.underlying t with | some .string => true | _ => false
def isBoolT (P : Program) (t : TypeId) : Bool := match P.underlying t with | some .bool => true | _ => false
/-- Which nil a type and a constant make. -/
def nilKind (P : Program) (t : TypeId) (y : Operand) : Option Nat :=
  match P.underlying t, y with
  | some (.pointer _), .const (.pointer none) => some 0
  | some (.interface _), .const .nilIface => some 1
  | some (.func _ _ _), .const .nilFunc => some 2
  | some (.slice _), .const (.slice none 0 0) => some 3
  | _, _ => none

def placeParts (place : Nat → Option (Nat × Nat)) : List (Nat × Operand) → Option (List (Nat × Nat × Operand))
  | [] => some []
  | (i, x) :: r => match place i, placeParts place r with
    | some (off, n), some l => some ((off, n, x) :: l)
    | _, _ => none

/-- The parts of a slice literal: each place once, in order. -/
def inOrder : Nat → List (Nat × Operand) → Option (List Operand)
  | _, [] => some []
  | k, (i, x) :: r => if i = k then (inOrder (k + 1) r).map (x :: ·) else none

def aggT (P : Program) (t : TypeId) : Option Bool := match P.underlying t with
  | some (.struct _) | some (.array _ _) => some true
  | some _ => some false
  | none => none

def cop (P : Program) (o : Oper) : Option POp :=
  match o.op with
  | .move x | .assign x => some (.move x)
  | .pick c a b => some (.pick c a b)
  | .alloc t => match (P.info? t).bind (·.zero) with
    | some z => if z.cells.toList.all oneCell then some (.alloc z.cells.toList) else none
    | none => none
  | .box _ x => some (.box x)
  | .build t parts => match (P.info? t).bind (·.zero), P.underlying t with
    | some z, some (.struct fs) => match fs.toList.mapM (fun f => (P.info? f.type).map fun i => (f.offset, i.size)) with
      | some places => (placeParts (places.toArray[·]?) parts.toList).map (.build z.cells.toList)
      | none => none
    | some z, some (.array _ e) => match P.info? e with
      | some ie => (placeParts (fun i => some (i * ie.size, ie.size)) parts.toList).map (.build z.cells.toList)
      | none => none
    | _, _ => none
  | .buildSlice t n parts => match P.underlying t with
    | some (.slice e) => match (P.info? e).bind (·.zero) with
      | some _ => if n * P.cellsOf e ≤ 16777216 ∧ 0 < P.cellsOf e then (inOrder 0 parts.toList).map (.bslice (P.cellsOf e) n) else none
      | none => none
    | _ => none
  | .load t a => match aggT P t with
    | some true => some (.loadA (P.cellsOf t) a)
    | some false => some (.load1 a)
    | none => none
  | .store t a v => if P.cellsOf t = 0 then none else some (.store (P.cellsOf t) a v)
  | .nilCheck x => some (.nilchk x)
  | .binOp op t x y _ =>
    if isIntT P t || isStrT P t then some (.bin op x y)
    else match op with
      | .eql => if isBoolT P t then some (.eqb false x y) else (nilKind P t y).map (.isnil · false x)
      | .neq => if isBoolT P t then some (.eqb true x y) else (nilKind P t y).map (.isnil · true x)
      | _ => none
  | .unOp op _ x => some (.un op x)
  | .extract x i => some (.ext i x)
  | .fieldAddr s x f => match P.underlying s with
    | some (.struct fs) => match fs[f]? with
      | some fd => if P.cellsOf fd.type = 0 then none else some (.faddr fd.offset x)
      | none => none
    | _ => none
  | .field s x f => match P.underlying s with
    | some (.struct fs) => match fs[f]? with
      | some fd => match aggT P fd.type with
        | some ag => some (.field fd.offset (P.cellsOf fd.type) ag x)
        | none => none
      | none => none
    | _ => none
  | .indexAddr t x i => match P.underlying t with
    | some (.slice e) => if P.cellsOf e = 0 then none else some (.iaddr (P.cellsOf e) x i)
    | some (.array n e) => if P.cellsOf e = 0 then none else some (.aaddr n (P.cellsOf e) x i)
    | _ => none
  | .index t x i => match P.underlying t with
    | some .string => some (.sidx x i)
    | _ => none
  | .makeFunc f first cap => some (.mkfn f first.toList cap.toList)
  | .makeSlice t l c => match P.underlying t with
    | some (.slice e) => match (P.info? e).bind (·.zero) with
      | some z => if z.cells.size = P.cellsOf e ∧ 0 < P.cellsOf e ∧ 0 < P.bytesOf e ∧ z.cells.toList.all oneCell = true then some (.mslice (P.cellsOf e) (P.bytesOf e) z.cells.toList l c) else none
      | none => none
    | _ => none
  | .slice t x lo hi mx => match P.underlying t with
    | some (.slice e) => if 0 < P.cellsOf e then some (.slc (P.cellsOf e) x lo hi mx) else none
    | some .string => match mx with
      | none => some (.sslc x lo hi)
      | some _ => none
    | _ => none
  | .call { callee := .builtin .len, args, argTypes } => match args.toList, argTypes.toList with
    | [x], [t] => match P.underlying t with
      | some (.slice _) => some (.len x)
      | some .string => some (.slen x)
      | _ => none
    | _, _ => none
  | .call { callee := .builtin .append, args, argTypes } => match args.toList, argTypes.toList with
    | [x, y], [t, u] => match P.underlying t, P.underlying u with
      | some (.slice e), some (.slice _) => match (P.info? e).bind (·.zero) with
        | some z => if z.cells.size = P.cellsOf e ∧ 0 < P.cellsOf e ∧ 0 < P.bytesOf e then some (.append (P.cellsOf e) (P.bytesOf e) x y) else none
        | none => none
      | _, _ => none
    | _, _ => none
  | .call { callee := .value (.func f), args, .. } => match P.funcs[f]? with
    | some fn => if fn.name == "runtime.NumGoroutine" || fn.body.isNone then none else some (.call f args.toList)
    | none => none
  | .call { callee := .value x, args, .. } => some (.callv x args.toList)
  | .makeInterface t x => match P.underlying t with
    | some (.interface _) => none
    | some _ => some (.mkif t x)
    | none => none
  | _ => none

def dstOK (n : Nat) (o : Oper) : Bool := match o.dst with
  | some d => decide (d < n)
  | none => true
def afterL (o : Oper) : List Nat := (o.after.toList.filter (Region.binds .any)).map (·.on)
/-- What must have come ahead, as bits. -/
def maskOf (ms : List Nat) : List Nat → Nat
  | [] => 0
  | i :: r => 2 ^ i ||| ms.getD i 0 ||| maskOf ms r
def masksOf : List Nat → List Oper → List Nat
  | acc, [] => acc
  | acc, o :: r => masksOf (acc ++ [maskOf acc (afterL o)]) r

/-- A region that may draw its order: each waits for elder ones alone; two that need not wait for each other touch no temporary of each other's. -/
def apartFrom (ops : Array Oper) (m : Nat) (o : Oper) : Nat → List Oper → Bool
  | _, [] => true
  | i, x :: r => (m.testBit i || x.apart ops o) && apartFrom ops m o (i + 1) r
def regOK (ops : Array Oper) (ms : List Nat) : List Oper → List Oper → Bool
  | _, [] => true
  | pre, o :: r => (afterL o).all (· < pre.length) && apartFrom ops (ms.getD pre.length 0) o 0 pre && regOK ops ms (pre ++ [o]) r

def cOper (P : Program) (n : Nat) (ops : Array Oper) (mask : Nat) (o : Oper) : Option POper :=
  match dstOK n o, cop P o, o.guard with
  | true, some p, none => some ⟨o.dst, p, none, mask⟩
  | true, some p, some (j, b) => match (ops[j]?).bind (·.dst) with
    | some t => some ⟨o.dst, p, some (t, b), mask⟩
    | none => none
  | _, _, _ => none

def cOpers (P : Program) (n : Nat) (ops : Array Oper) : List Nat → List Oper → Option (List POper)
  | _, [] => some []
  | ms, o :: r => match cOper P n ops (ms.headD 0) o, cOpers P n ops ms.tail r with
    | some p, some l => some (p :: l)
    | _, _ => none

def cRegion (P : Program) (n : Nat) (ops : Array Oper) (draw : Bool) : Option (List POper) :=
  match draw with
  | false => cOpers P n ops [] ops.toList
  | true => match P.follows .mixedOrders && regOK ops (masksOf [] ops.toList) [] ops.toList with
    | true => cOpers P n ops (masksOf [] ops.toList) ops.toList
    | false => none

def comp (P : Program) (n : Nat) : Code → Option PC
  | .skip => some .skip
  | .region _ ops draw => (cRegion P n ops draw).map (.ops · draw)
  | .seq a b => match comp P n a, comp P n b with
    | some x, some y => some (.seq x y)
    | _, _ => none
  | .cond c a b => match comp P n a, comp P n b with
    | some x, some y => some (.cond c x y)
    | _, _ => none
  | .block id c => (comp P n c).map (.block id)
  | .loop c => (comp P n c).map .loop
  | .exit id => some (.exit id)
  | .ret => some .ret
  | _ => none

/-! ### States, and what a piece of code does to them -/

structure StRep (n : Nat) (J : Inj) (F : Nat → Prop) (env : Env) (H : List AObj) (a : Act) (w : World) : Prop where
  defers : a.defers = []
  size : a.tmps.size = n
  tmps : ∀ t, rep J F w (lookD t env) (a.tmps.getD t undef)
  ok : StOK J F w (fun i => H[i]?)
  dom : ∀ id, J id ≠ none → id < H.length

abbrev Post := Exit → Env → List AObj → Prop

@[irreducible] def PWp (P : Program) (n : Nat) (p : PC) (Q : Post) (env : Env) (H : List AObj) : Prop :=
  ∀ c, comp P n c = some p.bare → ∀ (J : Inj) (F : Nat → Prop) (a : Act) (w : World), StRep n J F env H a w →
    c.wp P (fun e a' w' => ∃ env' H' J' F', Q e env' H' ∧ StRep n J' F' env' H' a' w' ∧ Ext J F w J' F' w') a w

/-- The reckoning of a piece of code: it stops at loops and at marks. -/
def pw (P : Program) (n : Nat) : PC → Post → Env → List AObj → Prop
  | .skip, Q, env, H => Q .normal env H
  | .ops l d, Q, env, H => match d with
    | false => runOps P l env H fun env H => Q .normal env H
    | true => runDraw P l env H fun env H => Q .normal env H
  | .seq a b, Q, env, H => pw P n a (fun e env H => match e with
    | .normal => pw P n b Q env H
    | e => Q e env H) env H
  | .cond c a b, Q, env, H => evK env c fun d => match d with
    | .sc (.bool t) => ifK t (pw P n a Q env H) (pw P n b Q env H)
    | _ => False
  | .block id c, Q, env, H => pw P n c (fun e env H => match e with
    | .exit id' => match Nat.beq id' id with
      | true => Q .normal env H
      | false => Q (.exit id') env H
    | e => Q e env H) env H
  | .loop c, Q, env, H => PWp P n (.loop c) Q env H
  | .exit id, Q, env, H => Q (.exit id) env H
  | .ret, Q, env, H => Q .ret env H
  | .stop c, Q, env, H => PWp P n c Q env H


/-- One state says no more than another. -/
def St.le (n : Nat) (env : Env) (H : List AObj) (env' : Env) (H' : List AObj) : Prop := ∀ J F a w, StRep n J F env H a w → ∃ J' F', StRep n J' F' env' H' a w ∧ Ext J F w J' F' w


/-- The slots of a state, one by one. -/
def sameE (env : Env) : Env → Prop
  | [] => True
  | (t, d) :: r => lookD t env = d ∧ sameE env r

/-- What a loop's round must hand on. -/
def loopQ {ι : Type} (n : Nat) (Q : Post) (E : ι → Env) (O : ι → List AObj) (G : ι → Prop) (m : ι → Nat) (k : Nat) : Post
  | .normal, env, H => ∃ j, G j ∧ m j < k ∧ St.le n env H (E j) (O j)
  | e, env, H => Q e env H

/-! ### Calls -/

/-- Where a result stands. -/
inductive RV where
  | tmp (t : Nat)
  | agg (t n : Nat)
  | one (t : Nat)

def crv (P : Program) : ResultVar → Option RV
  | .tmp t => some (.tmp t)
  | .cell t ty => match aggT P ty with
    | some true => some (.agg t (P.cellsOf ty))
    | some false => some (.one t)
    | none => none
def crvs (P : Program) : List ResultVar → Option (List RV)
  | [] => some []
  | r :: l => match crv P r, crvs P l with
    | some x, some y => some (x :: y)
    | _, _ => none

structure FunOK (P : Program) (f : FuncId) (n : Nat) (rs : List RV) (p : PC) : Prop where
  out : ∃ fn, P.funcs[f]? = some fn ∧ fn.ntmps = n ∧ (fn.name == "runtime.NumGoroutine") = false ∧ crvs P fn.results.toList = some rs ∧ fn.body.bind (comp P n) = some p.bare

def resultsK (env : Env) (H : List AObj) : List RV → (List D → Prop) → Prop
  | [], K => K []
  | .tmp t :: r, K => lookK t (fun d => resultsK env H r fun ds => K (d :: ds)) env
  | .agg t n :: r, K => lookK t (fun d => match d with
    | .loc id off => hgetK H id fun o => match o with
      | .row _ cs => dropK cs off fun cs' => takeK cs' n fun c => resultsK env H r fun ds => K (.agg c :: ds)
      | _ => False
    | _ => False) env
  | .one t :: r, K => lookK t (fun d => match d with
    | .loc id off => hgetK H id fun o => match o with
      | .row _ cs => atK cs off fun c => resultsK env H r fun ds => K (c :: ds)
      | _ => False
    | _ => False) env
def retK (rs : List RV) (R : D → List AObj → Prop) : Post
  | .normal, env, H | .ret, env, H => resultsK env H rs fun ds => match ds with
    | [d] => R d H
    | ds => R (.tup ds) H
  | _, _, _ => False

def params : Nat → List D → Env
  | _, [] => []
  | k, d :: r => (k, d) :: params (k + 1) r

mutual
/-- Data to the bottom. -/
def Pure : D → Prop
  | .junk | .sc _ => True
  | .loc .. | .elt .. | .own .. => False
  | .ipt cs | .agg cs | .tup cs => PureL cs
  | .lst _ xs => PureLL xs
  | .fn _ a b => PureL a ∧ PureL b
  | .ifc _ d => Pure d
def PureL : List D → Prop
  | [] => True
  | d :: r => Pure d ∧ PureL r
def PureLL : List (List D) → Prop
  | [] => True
  | d :: r => PureL d ∧ PureLL r
end

end Go.Proofs.Ytkkfiadefekbbaa
