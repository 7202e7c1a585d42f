/-
  The reckoning without recursion: what a piece of code's reckoning is, as one term. No statement is proved here.
-/
import Derived.Test.YtkkfiadefekbbaaDsh
namespace Go.Proofs.Ytkkfiadefekbbaa
open Go.RowKit
set_option linter.unusedVariables false

abbrev WP := Post → Env → List AObj → Prop
def skipW : WP := fun Q env H => Q .normal env H
def seqQ (g : WP) (Q : Post) : Post := fun e env H => match e with
  | .normal => g Q env H
  | e => Q e env H
def seqW (f g : WP) : WP := fun Q env H => f (seqQ g Q) env H
def condW (c : Operand) (f g : WP) : WP := fun Q env H => evK env c fun d => match d with
  | .sc (.bool t) => ifK t (f Q env H) (g Q env H)
  | _ => False
def blockQ (id : Nat) (Q : Post) : Post := fun e env H => match e with
  | .exit id' => match Nat.beq id' id with
    | true => Q .normal env H
    | false => Q (.exit id') env H
  | e => Q e env H
def blockW (id : Nat) (f : WP) : WP := fun Q env H => f (blockQ id Q) env H
def loopW (P : Program) (n : Nat) (c : PC) : WP := fun Q env H => PWp P n (.loop c) Q env H
def stopW (P : Program) (n : Nat) (c : PC) : WP := fun Q env H => PWp P n c Q env H
def exitW (id : Nat) : WP := fun Q env H => Q (.exit id) env H
def retW : WP := fun Q env H => Q .ret env H

abbrev WO := Env → List AObj → (Env → List AObj → Prop) → Prop
def nilO : WO := fun env H K => K env H
def opO (P : Program) (o : POper) (g : WO) : WO := fun env H K =>
  match o.guard with
  | none => step P true o.op env H fun d H' _ _ => match o.dst with
    | some t => g ((t, d) :: env) H' K
    | none => g env H' K
  | some (t, b) => lookK t (fun q => match q with
    | .sc (.bool c) => match b with
      | true => ifK c
        (step P true o.op env H fun d H' _ _ => match o.dst with
          | some u => g ((u, d) :: env) H' K
          | none => g env H' K)
        (match o.dst with
          | some u => g ((u, .sc undef) :: env) H K
          | none => g env H K)
      | false => ifK c
        (match o.dst with
          | some u => g ((u, .sc undef) :: env) H K
          | none => g env H K)
        (step P true o.op env H fun d H' _ _ => match o.dst with
          | some u => g ((u, d) :: env) H' K
          | none => g env H' K)
    | .sc (.tuple _) => match o.dst with
      | some u => g ((u, .sc undef) :: env) H K
      | none => g env H K
    | _ => False) env
def opsW (f : WO) : WP := fun Q env H => f env H fun env H => Q .normal env H

abbrev WD := Env → List AObj → (Env → List AObj → Trace → Prop) → Prop
def nilD : WD := fun env H K => K env H []
def opD (P : Program) (o : POper) (g : WD) : WD := fun env H K =>
  match o.guard with
  | none => step P false o.op env H fun d H' rd wr => match o.dst with
    | some t => g ((t, d) :: env) H' fun e h tr => K e h ((rd, wr) :: tr)
    | none => g env H' fun e h tr => K e h ((rd, wr) :: tr)
  | some (t, b) => lookK t (fun q => match q with
    | .sc (.bool c) => match b with
      | true => ifK c
        (step P false o.op env H fun d H' rd wr => match o.dst with
          | some u => g ((u, d) :: env) H' fun e h tr => K e h ((rd, wr) :: tr)
          | none => g env H' fun e h tr => K e h ((rd, wr) :: tr))
        (match o.dst with
          | some u => g ((u, .sc undef) :: env) H fun e h tr => K e h (([], []) :: tr)
          | none => g env H fun e h tr => K e h (([], []) :: tr))
      | false => ifK c
        (match o.dst with
          | some u => g ((u, .sc undef) :: env) H fun e h tr => K e h (([], []) :: tr)
          | none => g env H fun e h tr => K e h (([], []) :: tr))
        (step P false o.op env H fun d H' rd wr => match o.dst with
          | some u => g ((u, d) :: env) H' fun e h tr => K e h ((rd, wr) :: tr)
          | none => g env H' fun e h tr => K e h ((rd, wr) :: tr))
    | .sc (.tuple _) => match o.dst with
      | some u => g ((u, .sc undef) :: env) H fun e h tr => K e h (([], []) :: tr)
      | none => g env H fun e h tr => K e h (([], []) :: tr)
    | _ => False) env
def drawW (l : List POper) (f : WD) : WP := fun Q env H => f env H fun e h tr => match memOK [] l tr with
  | true => Q .normal e h
  | false => False

section
variable {P : Program} {n : Nat}
def RedO (P : Program) (l : List POper) (f : WO) : Prop := f = runOps P l
def RedD (P : Program) (l : List POper) (f : WD) : Prop := f = runD P l
def Red (P : Program) (n : Nat) (p : PC) (f : WP) : Prop := f = pw P n p

theorem RedO.nil : RedO P [] nilO := rfl
theorem RedO.cons (o : POper) {l : List POper} {g : WO} (h : RedO P l g) : RedO P (o :: l) (opO P o g) := by
  unfold RedO at h ⊢
  subst h
  funext env H K
  rfl
theorem RedD.nil : RedD P [] nilD := rfl
theorem RedD.cons (o : POper) {l : List POper} {g : WD} (h : RedD P l g) : RedD P (o :: l) (opD P o g) := by
  unfold RedD at h ⊢
  subst h
  funext env H K
  rfl
theorem Red.skip : Red P n .skip skipW := rfl
theorem Red.ops {l : List POper} {f : WO} (h : RedO P l f) : Red P n (.ops l false) (opsW f) := by
  unfold RedO at h; subst h; rfl
theorem Red.draw {l : List POper} {f : WD} (h : RedD P l f) : Red P n (.ops l true) (drawW l f) := by
  unfold RedD at h; subst h; rfl
theorem Red.seq {a b : PC} {f g : WP} (h : Red P n a f) (k : Red P n b g) : Red P n (.seq a b) (seqW f g) := by
  unfold Red at h k; subst h; subst k; rfl
theorem Red.cond (c : Operand) {a b : PC} {f g : WP} (h : Red P n a f) (k : Red P n b g) : Red P n (.cond c a b) (condW c f g) := by
  unfold Red at h k; subst h; subst k; rfl
theorem Red.block (id : Nat) {a : PC} {f : WP} (h : Red P n a f) : Red P n (.block id a) (blockW id f) := by
  unfold Red at h; subst h; rfl
theorem Red.loop (c : PC) : Red P n (.loop c) (loopW P n c) := rfl
theorem Red.stop (c : PC) : Red P n (.stop c) (stopW P n c) := rfl
theorem Red.exit (id : Nat) : Red P n (.exit id) (exitW id) := rfl
theorem Red.ret : Red P n .ret retW := rfl

theorem red_sound {p : PC} {f : WP} {Q : Post} {env : Env} {H : List AObj} (h : Red P n p f) (k : f Q env H) : PWp P n p Q env H :=
  pw_sound _ _ _ _ (by unfold Red at h; subst h; exact k)
end
end Go.Proofs.Ytkkfiadefekbbaa
