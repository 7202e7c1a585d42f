/-
  Parts of a proof, joined. No statement is proved here.
-/
import Derived.Laws.Tables
import Derived.Orders
import Derived.Still
import Derived.Deep.LoopGhost
import Derived.LoopN
import Derived.Test.YtojegakfidinaaaGreatZ0
import Derived.ProofKit
import Derived.ChangeArms
import Derived.ChangeSame
import Derived.OpenShut
import Derived.ShutString
import Derived.Deep.Slices
import Derived.Deep.Fields
import Derived.Lib.SmallJoins
import Derived.WalkKit
import Derived.Laws.OwnMore
import Derived.Laws.Rows
import Derived.Deep.AppendLies
import Derived.Deep.Draws
import Derived.Lib.Hide
import Derived.Test.YtojegakfidinaaaGreatProg
namespace Go.Proofs.YtojegakfidinaaaGreat
set_option linter.unusedSimpArgs false
set_option linter.unusedVariables false
set_option maxRecDepth 100000
section
section
open Go.RowKit
section
variable {P : Program} {seq : Bool} {o : Oper} {env : Env} {H : List AObj} {K : Cont}
theorem zbV {t : TypeId} {u v : Value} {w : World} {b : Bool} (h : (Op.equalIn (9999 + 1) t u v).run P w = .ok b w) : (Op.equal t u v).run P w = .ok b w:=h
theorem znl {t : TypeId} {y : Operand} {kind : Nat} (h : zfQ P t y = some kind) :
  (kind = 0∧(∃ e,P.underlying t = some (.pointer e))∧y = .const (.pointer none))∨(kind = 1∧(∃ e,P.underlying t = some (.interface e))∧y = .const .nilIface) ∨
  (kind = 2∧(∃ a b c,P.underlying t = some (.func a b c))∧y = .const .nilFunc)∨(kind = 3∧(∃ e,P.underlying t = some (.slice e))∧y = .const (.slice none 0 0)):=by
 unfold zfQ at h
 split at h
 all_goals (first | cases h | skip)
 ·rename_i h1; exact .inl ⟨rfl,⟨_,h1⟩,rfl⟩
 ·rename_i h1; exact .inr (.inl ⟨rfl,⟨_,h1⟩,rfl⟩)
 ·rename_i h1; exact .inr (.inr (.inl ⟨rfl,⟨_,_,_,h1⟩,rfl⟩))
 ·rename_i h1; exact .inr (.inr (.inr ⟨rfl,⟨_,h1⟩,rfl⟩))
def a_eval : Operand→Option Value
 | .const v=>some v
 | _=>none
theorem zoC {neq : Bool} {op : BinOp} {t yt : TypeId} {x y : Operand} {kind : Nat} (hop : op = if neq then .neq else .eql) (hk : zfQ P t y = some kind) (ho : o.op = .binOp op t x y yt) (h : step P seq (.isnil kind neq x) env H K) : zbr P o env H K∨(seq = true∧zdx P o env H K):=by
 simp only [step,zbf] at h
 have fin : ∀ (b : Bool) (v : Value),a_eval y = some v→K (.sc (.bool (if neq then !b else b))) H [] []→(∀ (J : Inj) (F : Nat→Prop) (w : World) (u : Value),rep J F w (evalD env x) u→(∀ z w,(Op.equal t u v).run P w = .ok b w∧(eqGuard op t x y u v).run P w = .ok z w∧z = ())∧(∀ k n,u≠.int k n)∧(∀ s,u≠.string s)∧(∀ k n,u≠.float k n)∧(∀ k n m,u≠.complex k n m))→zbr P o env H K:=by
  intro b v hv hK hall
  refine zaw hK fun J F w a G _ hops _=>⟨.bool (if neq then !b else b),?_,by simp only [rep]⟩
  obtain ⟨h1,h4,h5,h6,h7⟩:=hall J F w _ (hops x (by simp [ho,Op.operands]))
  obtain ⟨h1,h2,_⟩:=h1 () w
  have hy : a.eval y = v:=by
   cases y <;> simp [a_eval] at hv
   subst hv; rfl
  have hb : (binOp op t (a.eval x) v).run P w = .ok (.bool (if neq then !b else b)) w:=by
   revert h1 h4 h5 h6 h7
   generalize a.eval x = u
   intro q1 q2 q3 q4 q5
   subst hop
   cases neq <;> cases u <;> simp_all [binOp,pure,Sem.run]
  simp only [execOp,ho,hy,Sem.run_bind,h2,Result.andThen_ok,hb,pure,Sem.run]
 have hold:=@fin
 clear fin
 have fin:=fun b v h1 h2 h3=>Or.inl (b:=seq = true∧zdx P o env H K) (hold b v h1 h2 h3)
 have g1 : ∀ (A : Option Addr) (w : World),(eqGuard op t x y (.pointer A) (.pointer none)).run P w = .ok () w:=by
  intro A w; subst hop; cases neq <;> simp [eqGuard,pure,Sem.run]
 have g2 : ∀ (c : Value) (w : World),y = .const c→(eqGuard op t x y .nilIface .nilIface).run P w = .ok () w:=by
  intro c w hc; subst hop; subst hc; cases neq <;> simp [eqGuard,pure,Sem.run]
 have g3 : ∀ (d : TypeId) (v : Value) (w : World),(eqGuard op t x y (.iface d v) .nilIface).run P w = .ok () w:=by
  intro d v w; subst hop; cases neq <;> simp [eqGuard,pure,Sem.run]
 have g4 : ∀ (w : World),(eqGuard op t x y .nilFunc .nilFunc).run P w = .ok () w:=by
  intro w; subst hop; cases neq <;> simp [eqGuard,pure,Sem.run]
 have g5 : ∀ (f : Fn) (a b : Array Value) (w : World),(eqGuard op t x y (.func f a b) .nilFunc).run P w = .ok () w:=by
  intro f a b w; subst hop; cases neq <;> simp [eqGuard,pure,Sem.run]
 have g6 : ∀ (w : World),(eqGuard op t x y (.slice none 0 0) (.slice none 0 0)).run P w = .ok () w:=by
  intro w; subst hop; cases neq <;> simp [eqGuard,pure,Sem.run]
 rcases znl hk with ⟨rfl,⟨e,ht⟩,rfl⟩ | ⟨rfl,⟨e,ht⟩,rfl⟩ | ⟨rfl,⟨e1,e2,e3,ht⟩,rfl⟩ | ⟨rfl,⟨e,ht⟩,rfl⟩
 ·have eq1 : ∀ (A : Option Addr) (w : World),(Op.equal t (.pointer A) (.pointer none)).run P w = .ok A.isNone w:=fun A w=>by
   refine zbV ?_
   unfold Op.equalIn
   cases A <;> simp [underlying,program,Sem.run,ht,pure]
  simp only [zkR] at h
  split at h
  ·rename_i ex
   refine fin true _ rfl (by cases neq <;> exact h) fun J F w u hu=>?_
   rw [ex] at hu; simp only [rep] at hu; subst hu
   exact ⟨fun _ w=>⟨eq1 none w,g1 none w,rfl⟩,by simp,by simp,by simp,by simp⟩
  ·rename_i ex
   refine fin false _ rfl (by cases neq <;> exact h) fun J F w u hu=>?_
   rw [ex] at hu; simp only [rep] at hu; obtain ⟨_,_,_,_,_,rfl⟩:=hu
   exact ⟨fun _ w=>⟨eq1 (some _) w,g1 (some _) w,rfl⟩,by simp,by simp,by simp,by simp⟩
  ·rename_i ex
   refine fin false _ rfl (by cases neq <;> exact h) fun J F w u hu=>?_
   rw [ex] at hu; simp only [rep] at hu; obtain ⟨_,_,rfl,_⟩:=hu
   exact ⟨fun _ w=>⟨eq1 (some _) w,g1 (some _) w,rfl⟩,by simp,by simp,by simp,by simp⟩
  ·rename_i ex
   refine fin false _ rfl (by cases neq <;> exact h) fun J F w u hu=>?_
   rw [ex] at hu; simp only [rep] at hu; obtain ⟨_,_,_,rfl,_⟩:=hu
   exact ⟨fun _ w=>⟨eq1 (some _) w,g1 (some _) w,rfl⟩,by simp,by simp,by simp,by simp⟩
  ·exact h.elim
 ·have eq1 : ∀ (w : World),(Op.equal t .nilIface .nilIface).run P w = .ok true w:=fun w=>by
   refine zbV ?_
   unfold Op.equalIn
   simp [underlying,program,Sem.run,ht,pure]
  have eq2 : ∀ (d : TypeId) (v : Value) (w : World),(Op.equal t (.iface d v) .nilIface).run P w = .ok false w:=fun d v w=>by
   refine zbV ?_
   unfold Op.equalIn
   simp [underlying,program,Sem.run,ht,pure]
  simp only [zkR] at h
  split at h
  ·rename_i ex
   refine fin true _ rfl (by cases neq <;> exact h) fun J F w u hu=>?_
   rw [ex] at hu; simp only [rep] at hu; subst hu
   exact ⟨fun _ w=>⟨eq1 w,g2 _ w rfl,rfl⟩,by simp,by simp,by simp,by simp⟩
  ·rename_i ex
   refine fin false _ rfl (by cases neq <;> exact h) fun J F w u hu=>?_
   rw [ex] at hu; simp only [rep] at hu; obtain ⟨_,rfl,_⟩:=hu
   exact ⟨fun _ w=>⟨eq2 _ _ w,g3 _ _ w,rfl⟩,by simp,by simp,by simp,by simp⟩
  ·exact h.elim
 ·have eq1 : ∀ (w : World),(Op.equal t .nilFunc .nilFunc).run P w = .ok true w:=fun w=>by
   refine zbV ?_
   unfold Op.equalIn
   simp [underlying,program,Sem.run,ht,pure]
  have eq2 : ∀ (f : Fn) (a b : Array Value) (w : World),(Op.equal t (.func f a b) .nilFunc).run P w = .ok false w:=fun f a b w=>by
   refine zbV ?_
   unfold Op.equalIn
   simp [underlying,program,Sem.run,ht,pure]
  simp only [zkR] at h
  split at h
  ·rename_i ex
   refine fin true _ rfl (by cases neq <;> exact h) fun J F w u hu=>?_
   rw [ex] at hu; simp only [rep] at hu; subst hu
   exact ⟨fun _ w=>⟨eq1 w,g4 w,rfl⟩,by simp,by simp,by simp,by simp⟩
  ·rename_i ex
   refine fin false _ rfl (by cases neq <;> exact h) fun J F w u hu=>?_
   rw [ex] at hu; simp only [rep] at hu; obtain ⟨_,_,rfl,_⟩:=hu
   exact ⟨fun _ w=>⟨eq2 _ _ _ w,g5 _ _ _ w,rfl⟩,by simp,by simp,by simp,by simp⟩
  ·exact h.elim
 ·have eq1 : ∀ (w : World),(Op.equal t (.slice none 0 0) (.slice none 0 0)).run P w = .ok true w:=fun w=>by
   refine zbV ?_
   unfold Op.equalIn
   simp [underlying,program,Sem.run,ht,pure]
  simp only [zkR] at h
  split at h
  ·rename_i ex
   refine fin true _ rfl (by cases neq <;> exact h) fun J F w u hu=>?_
   rw [ex] at hu; simp only [rep] at hu; subst hu
   exact ⟨fun _ w=>⟨eq1 w,g6 w,rfl⟩,by simp,by simp,by simp,by simp⟩
  ·rename_i esz xs ex
   obtain ⟨hs,h⟩:=h
   refine .inr ⟨hs,fun J F w a hok hdom hops K2 Q hK2=>?_⟩
   have hu:=hops x (by simp [ho,Op.operands])
   rw [ex] at hu
   simp only [rep] at hu
   obtain ⟨A,n,c,hu,hn,hc,hx⟩:=hu
   have hb : A.isNone = true→xs = []:=fun hA=>by
    rcases hx with hx | ⟨b,o',rfl,_⟩
    ·exact List.length_eq_zero_iff.1 (by omega)
    ·cases hA
   have eq2 : (Op.equal t (.slice A n c) (.slice none 0 0)).run P w = .ok A.isNone w:=by
    refine zbV ?_
    unfold Op.equalIn
    cases A <;> simp [underlying,program,Sem.run,ht,pure]
   have g7 : (eqGuard op t x (.const (.slice none 0 0)) (.slice A n c) (.slice none 0 0)).run P w = .ok () w:=by
    subst hop; cases neq <;> simp [eqGuard,pure,Sem.run]
   have hrun : (execOp a.eval o).run P w = .ok (.value (.bool (zjC neq A.isNone))) w:=by
    have hbo : (binOp op t (.slice A n c) (.slice none 0 0)).run P w = .ok (.bool (zjC neq A.isNone)) w:=by
     clear hold fin h
     subst hop
     cases neq <;> simp_all [binOp,pure,Sem.run,zjC]
    have hy : a.eval (.const (.slice none 0 0)) = .slice none 0 0:=rfl
    simp only [execOp,ho,hu,hy,Sem.run_bind,g7,Result.andThen_ok,hbo,pure,Sem.run]
   unfold Oper.wp
   rw [hrun,Oper.upon_value]
   exact hK2 _ H [] [] _ w J F (h A.isNone hb) (by simp only [rep]) hok (Ext.refl _ _ _) hdom
  ·exact h.elim
theorem ziP (place : Nat→Option (Nat × Nat)) : ∀ (l : List (Nat × Operand)) (l' : List (Nat × Nat × Operand)) (cs : List D) (K' : List D→Prop),zcq place l = some l'→zmI env l' cs K'→∃ cs',K' cs' ∧
  ∀ (J : Inj) (F : Nat→Prop) (w : World) (a : Act) (cells : Array Value),(∀ p∈l,rep J F w (evalD env p.2) (a.eval p.2))→repL J F w cs cells.toList →
   ∃ cells',Instr.fill place cells (l.map fun p=>(p.1,a.eval p.2)) = some cells'∧repL J F w cs' cells'.toList
 | [],l',cs,K',hl,h=>by
  simp [zcq] at hl; subst hl
  exact ⟨cs,h,fun J F w a cells _ hr=>⟨cells,rfl,hr⟩⟩
 | (i,x) :: r,l',cs,K',hl,h=>by
  simp only [zcq] at hl
  split at hl
  ·rename_i off n rl e1 e2
   cases hl
   simp only [zmI,zbf,zfv,zbQ] at h
   obtain ⟨h1,h2,h3⟩:=h
   obtain ⟨h4,h5⟩:=(zgm _ _ _ _).1 h3
   obtain ⟨cs',h6,h7⟩:=ziP place r rl _ K' e2 h5
   refine ⟨cs',h6,fun J F w a cells hops hr=>?_⟩
   obtain ⟨k1,_⟩:=zek h1 (hops (i,x) (by simp))
   have hl1:=zbw _ _ k1
   have hl2:=zbw _ _ hr
   have hsz : (a.eval x).cells.size = n:=by rw [h2,← hl1]; simp
   obtain ⟨c1,f1,f2,f3⟩:=zk6 place cells i (a.eval x) (r.map fun p=>(p.1,a.eval p.2)) off (by rw [hsz]; exact e1) (by rw [hsz]; simp at hl2; omega)
   have hc1 : repL J F w (cs.take off ++ (evalD env x).cells ++ cs.drop (off + (evalD env x).cells.length)) c1.toList:=by
    have ec : c1.toList = cells.toList.take off ++ (a.eval x).cells.toList ++ cells.toList.drop (off + (a.eval x).cells.toList.length):=by
     apply List.ext_getElem?
     intro j
     have hsc : off + (a.eval x).cells.size≤cells.toList.length:=by rw [hsz,hl2]; omega
     rw [Array.getElem?_toList,f3]
     by_cases q1 : j < off
     ·rw [if_neg (by omega),List.append_assoc,List.getElem?_append_left (by simp at hsc ⊢; omega),List.getElem?_take,if_pos q1]; simp
     ·by_cases q2 : j < off + (a.eval x).cells.size
      ·rw [if_pos (by omega),List.append_assoc,List.getElem?_append_right (by simp at hsc ⊢; omega),List.getElem?_append_left (by simp at hsc ⊢; omega)]
       simp at hsc ⊢
       rw [show j - min off cells.size = j - off by omega]
      ·rw [if_neg (by omega),List.getElem?_append_right (by simp at hsc ⊢; omega),List.getElem?_drop]
       simp at hsc ⊢
       rw [show off + (a.eval x).cells.size + (j - (min off cells.size + (a.eval x).cells.size)) = j by omega]
    rw [ec]
    have e3 : (a.eval x).cells.toList.length = (evalD env x).cells.length:=hl1
    rw [e3]
    exact zdD (zdD (zhS hr _) k1) (zhI hr _)
   obtain ⟨c2,g1,g2⟩:=h7 J F w a c1 (fun p hp=>hops p (by simp [hp])) hc1
   exact ⟨c2,by simp only [List.map_cons]; rw [f1]; exact g1,g2⟩
  ·cases hl
theorem ziH {t : TypeId} {parts : Array (Nat × Operand)} {z : Value} {place : Nat→Option (Nat × Nat)} {l' : List (Nat × Nat × Operand)} (hz : (P.info? t).bind (·.zero) = some z) (hb : ∀ l cells,Instr.fill place z.cells l = some cells→P.built t l = some cells) (hl : zcq place parts.toList = some l')
  (ho : o.op = .build t parts) (h : step P seq (.build z.cells.toList l') env H K) : zbr P o env H K:=by
 simp only [step,zlW] at h
 obtain ⟨cs',h1,h2⟩:=ziP place parts.toList l' _ _ hl h
 refine zaw h1 fun J F w a G hok hops hrd=>?_
 obtain ⟨c',h3,h4⟩:=h2 J F w a z.cells (fun p hp=>hops p.2 (by
  simp only [ho,Op.operands,List.mem_toArray,List.mem_map]
  exact ⟨p,hp,rfl⟩)) (zip z.cells.toList)
 refine ⟨.agg c',?_,by simp only [rep]; exact ⟨c'.toList,by simp,h4⟩⟩
 have e1 : (parts.map fun (i,x)=>(i,a.eval x)).toList = parts.toList.map fun p=>(p.1,a.eval p.2):=by rw [Array.toList_map]
 have:=run_build (P:=P) w t (parts.map fun (i,x)=>(i,a.eval x)) c' (by rw [e1]; exact hb _ _ h3)
 simp only [execOp,ho,Sem.run_bind,this,Result.andThen_ok,pure,Sem.run]
end
end
section
open Go.RowKit
section
variable {P : Program} {seq : Bool} {o : Oper} {env : Env} {H : List AObj} {K : Cont}
theorem zgR {p : POp} (hc : cop P o = some p) (h : step P seq p env H K) : zbr P o env H K∨(seq = true∧zdx P o env H K):=by
 unfold cop at hc
 split at hc
 ·rename_i x ho; cases hc; exact .inl (s_move (.inl ho) h)
 ·rename_i x ho; cases hc; exact .inl (s_move (.inr ho) h)
 ·rename_i c a b ho; cases hc; exact .inl (s_pick ho h)
 ·rename_i t ho
  split at hc
  ·rename_i z hz
   split at hc
   ·rename_i hone; cases hc; exact .inl (s_alloc hz hone ho h)
   ·cases hc
  ·cases hc
 ·rename_i t x ho; cases hc; exact .inl (s_box ho h)
 ·rename_i t parts ho
  split at hc
  ·rename_i z fs hz hu
   split at hc
   ·rename_i places hp
    cases e : zcq (places.toArray[·]?) parts.toList with
    | none=>rw [e] at hc; cases hc
    | some l' =>
     rw [e] at hc; cases hc
     refine .inl (ziH hz (fun l cells hf=>?_) e ho h)
     unfold Program.built
     cases hi : P.info? t with
     | none=>rw [hi] at hz; cases hz
     | some it =>
      have hz' : it.zero = some z:=by simpa [hi] using hz
      simp only [hu,hz',hp]
      exact hf
   ·cases hc
  ·rename_i z n e hz hu
   split at hc
   ·rename_i ie hie
    cases e' : zcq (fun i=>some (i * ie.size,ie.size)) parts.toList with
    | none=>rw [e'] at hc; cases hc
    | some l' =>
     rw [e'] at hc; cases hc
     refine .inl (ziH hz (fun l cells hf=>?_) e' ho h)
     unfold Program.built
     cases hi : P.info? t with
     | none=>rw [hi] at hz; cases hz
     | some it =>
      have hz' : it.zero = some z:=by simpa [hi] using hz
      simp only [hu,hz',hie]
      exact hf
   ·cases hc
  ·cases hc
 ·rename_i t n parts ho
  split at hc
  ·rename_i e ht
   split at hc
   ·rename_i z hz
    split at hc
    ·rename_i hq
     cases e' : ze0 0 parts.toList with
     | none=>rw [e'] at hc; cases hc
     | some xs=>rw [e'] at hc; cases hc; exact .inl (s_bslice ht hz hq.1 hq.2 e' ho h)
    ·cases hc
   ·cases hc
  ·cases hc
 ·rename_i t x ho
  split at hc
  ·rename_i ht; cases hc; exact .inl (s_loadA ht ho h)
  ·rename_i ht; cases hc; exact .inl (s_load1 ht ho h)
  ·cases hc
 ·rename_i t x y ho
  split at hc
  ·cases hc
  ·rename_i hz; cases hc; exact .inl (s_store hz ho h)
 ·rename_i x ho; cases hc; exact .inl (s_nilchk ho h)
 ·rename_i op t x y yt ho
  split at hc
  ·cases hc; exact .inl (s_bin ho h)
  ·split at hc
   ·split at hc
    ·rename_i hb
     cases hc
     refine .inl (s_eqb (op:=.eql) rfl ?_ ho h)
     unfold zjJ at hb
     split at hb
     ·assumption
     ·cases hb
    ·split at hc
     ·rename_i ks hks
      cases hc
      exact .inl (s_eqa (op:=.eql) rfl hks ho h)
     ·cases e : zfQ P t y with
      | none=>rw [e] at hc; cases hc
      | some k=>rw [e] at hc; cases hc; exact zoC (op:=.eql) rfl e ho h
   ·split at hc
    ·rename_i hb
     cases hc
     refine .inl (s_eqb (op:=.neq) rfl ?_ ho h)
     unfold zjJ at hb
     split at hb
     ·assumption
     ·cases hb
    ·split at hc
     ·rename_i ks hks
      cases hc
      exact .inl (s_eqa (op:=.neq) rfl hks ho h)
     ·cases e : zfQ P t y with
      | none=>rw [e] at hc; cases hc
      | some k=>rw [e] at hc; cases hc; exact zoC (op:=.neq) rfl e ho h
   ·cases hc
 ·rename_i op t x ho; cases hc; exact .inl (s_un ho h)
 ·rename_i x i ho; cases hc; exact .inl (s_ext ho h)
 ·rename_i s x f ho
  split at hc
  ·rename_i fs hs
   split at hc
   ·rename_i fd hf
    split at hc
    ·cases hc
    ·rename_i hz; cases hc; exact .inl (s_faddr hs hf hz ho h)
   ·cases hc
  ·cases hc
 ·rename_i s x f ho
  split at hc
  ·rename_i fs hs
   split at hc
   ·rename_i fd hf
    split at hc
    ·rename_i ag hag; cases hc; exact .inl (s_field hs hf hag ho h)
    ·cases hc
   ·cases hc
  ·cases hc
 ·rename_i t x i ho
  split at hc
  ·rename_i e ht
   split at hc
   ·cases hc
   ·rename_i hz; cases hc; exact .inl (s_iaddr ht hz ho h)
  ·rename_i n e ht
   split at hc
   ·cases hc
   ·rename_i hz; cases hc; exact .inl (s_aaddr ht hz ho h)
  ·cases hc
 ·rename_i t x i ho
  split at hc
  ·rename_i ht; cases hc; exact .inl (s_sidx ht ho h)
  ·rename_i n e ht
   split at hc
   ·rename_i ag hag; cases hc; exact .inl (s_aidx ht hag ho h)
   ·cases hc
  ·cases hc
 ·rename_i f first cap ho; cases hc; exact .inl (s_mkfn ho h)
 ·rename_i t l c ho
  split at hc
  ·rename_i e ht
   split at hc
   ·rename_i z hz
    split at hc
    ·rename_i hq; cases hc; exact .inl (s_mslice ht hz hq.1 hq.2.1 hq.2.2.1 hq.2.2.2 ho h)
    ·cases hc
   ·cases hc
  ·cases hc
 ·rename_i t x lo hi mx ho
  split at hc
  ·rename_i e ht
   split at hc
   ·rename_i hz; cases hc; exact .inl (s_slc ht hz ho h)
   ·cases hc
  ·rename_i ht
   split at hc
   ·cases hc; exact .inl (s_sslc ht ho h)
   ·cases hc
  ·cases hc
 ·rename_i args ts ho
  split at hc
  ·rename_i x t ha hts
   split at hc
   ·rename_i e ht; cases hc; exact .inl (s_len ha hts ht ho h)
   ·rename_i ht; cases hc; exact .inl (s_slen ha hts ht ho h)
   ·cases hc
  ·cases hc
 ·rename_i args ts ho
  split at hc
  ·rename_i x y t u ha hts
   split at hc
   ·rename_i e e' ht hu
    split at hc
    ·rename_i z hz
     split at hc
     ·rename_i hq; cases hc; exact .inl (s_append ha hts ht hu hz hq.1 hq.2.1 hq.2.2 ho h)
     ·cases hc
    ·cases hc
   ·cases hc
  ·cases hc
 ·rename_i args ts ho
  split at hc
  ·rename_i x t ha hts
   split at hc
   ·rename_i e ht
    split at hc
    ·rename_i z hz
     split at hc
     ·rename_i u hu
      split at hc
      ·rename_i hq; cases hc; exact .inl (s_clr ha hts ht hz hu hq ho h)
      ·cases hc
     ·cases hc
    ·cases hc
   ·cases hc
  ·cases hc
 ·rename_i args ts _ ho
  split at hc
  ·rename_i x y ha; cases hc; exact .inl (s_max ha ho h)
  ·cases hc
 ·rename_i args ts _ ho
  split at hc
  ·rename_i x y ha; cases hc; exact .inl (s_min ha ho h)
  ·cases hc
 ·rename_i f args ts ho
  split at hc
  ·split at hc
   ·cases hc
   ·cases hc; exact s_call ho h
  ·cases hc
 ·rename_i x args ts _ ho; cases hc; exact s_callv ho h
 ·rename_i src dst x ho
  split at hc
  ·rename_i k0 k hs hd; cases hc; exact .inl (s_conv hs hd ho h)
  ·cases hc
 ·rename_i t ho
  split at hc
  ·rename_i k e ht; cases hc; exact .inl (s_mkmap ho h)
  ·cases hc
 ·rename_i t m x ho
  split at hc
  ·rename_i k e ht
   split at hc
   ·rename_i z hz
    split at hc
    ·rename_i h1; cases hc; exact .inl (s_look ht hz h1 ho h)
    ·cases hc
   ·cases hc
  ·cases hc
 ·rename_i t m x ho
  split at hc
  ·rename_i k e ht; cases hc; exact .inl (s_lookv ht ho h)
  ·cases hc
 ·rename_i t m x v ho
  split at hc
  ·rename_i k e ht; cases hc; exact .inl (s_mput ht ho h)
  ·cases hc
 ·rename_i t x ho
  split at hc
  ·cases hc
  ·rename_i d hd ht
   cases hc
   exact .inl (s_mkif (fun ms e=>by rw [e] at ht; cases ht; exact hd _ rfl) (fun e=>by rw [e] at ht; cases ht) ho h)
  ·cases hc
 ·cases hc
end
end
section
open Go.RowKit
theorem zc2 (t k : Nat) (d : D) (env : Env) : lookD t ((k,d) :: env) = if t = k then d else lookD t env:=by
 simp only [lookD]
 cases e : Nat.beq t k
 ·rw [if_neg]; intro h; subst h; simp at e
 ·rw [if_pos (Nat.eq_of_beq_eq_true e)]
theorem zmg (a : Array Value) (t u : Nat) (v : Value) (ht : t < a.size) : (a.setIfInBounds t v).getD u undef = if u = t then v else a.getD u undef:=by
 simp only [Array.getD_eq_getD_getElem?]
 by_cases h : u = t
 ·subst h; simp [Array.getElem?_setIfInBounds,ht]
 ·rw [if_neg h,Array.getElem?_setIfInBounds_ne (fun e=>h e.symm)]
section
variable {P : Program} {n : Nat} {J J' : Inj} {F F' : Nat→Prop} {env : Env} {H H' : List AObj} {a : Act} {w w' : World}
theorem StRep.tmps_ext (h : StRep n J F env H a w) (hx : Ext J F w J' F' w') : ∀ t,rep J' F' w' (lookD t env) (a.tmps.getD t undef):=fun t=>zjz hx (h.tmps t)
theorem StRep.put (h : StRep n J F env H a w) (hx : Ext J F w J' F' w') {t : Nat} {d : D} {v : Value} (ht : t < n) (hv : rep J' F' w' d v) (hok : StOK J' F' w' (fun i=>H'[i]?)) (hd : ∀ id,J' id≠none→id < H'.length) : StRep n J' F' ((t,d) :: env) H' (a.put (some t) v) w' where
 defers:=h.defers
 size:=by simp [Act.put,h.size]
 tmps u:=by
  rw [zc2]
  simp only [Act.put]
  rw [zmg _ _ _ _ (by rw [h.size]; exact ht)]
  split
  ·exact hv
  ·exact h.tmps_ext hx u
 ok:=hok
 dom:=hd
theorem StRep.skip (h : StRep n J F env H a w) (hx : Ext J F w J' F' w') (hok : StOK J' F' w' (fun i=>H'[i]?)) (hd : ∀ id,J' id≠none→id < H'.length) : StRep n J' F' env H' a w' where
 defers:=h.defers
 size:=h.size
 tmps:=h.tmps_ext hx
 ok:=hok
 dom:=hd
theorem StRep.eval (h : StRep n J F env H a w) (x : Operand) : rep J F w (evalD env x) (a.eval x):=by
 cases x with
 | tmp t=>exact h.tmps t
 | const v =>
  cases v <;> simp only [evalD,lift,Act.eval,rep]
  rename_i cs
  exact ⟨cs.toList,by simp,zip cs.toList⟩
 | global g=>exact zlN h.ok.lt g
 | func f=>simp only [evalD,Act.eval,rep]; exact ⟨[],[],rfl,by simp only [repL],by simp only [repL]⟩
theorem zgO {ops : Array Oper} {mask : Nat} {o : Oper} {p : POper} (h : cOper P n ops mask o = some p) :
  cop P o = some p.op∧p.dst = o.dst∧(∀ t,o.dst = some t→t < n)∧((o.guard = none∧p.guard = none)∨∃ j b t,o.guard = some (j,b)∧(ops[j]?).bind (·.dst) = some t∧p.guard = some (t,b)) ∧
   p.mask = mask:=by
 unfold cOper at h
 split at h
 ·rename_i q hd hq hg
  cases h
  exact ⟨hq,rfl,fun t ht=>by unfold dstOK at hd; rw [ht] at hd; simpa using hd,.inl ⟨hg,rfl⟩,rfl⟩
 ·rename_i q j b hd hq hg
  split at h
  ·rename_i t ht
   cases h
   exact ⟨hq,rfl,fun t ht=>by unfold dstOK at hd; rw [ht] at hd; simpa using hd,.inr ⟨j,b,t,hg,ht,rfl⟩,rfl⟩
  ·cases h
 ·cases h
def offV (b : Bool) : Value→Bool
 | .bool c=>c != b
 | .tuple _=>true
 | _=>false
theorem zn2 {ops : Array Oper} {o : Oper} {tmps : Array Value} {j : Nat} {b : Bool} {t : Nat} (h1 : o.guard = some (j,b)) (h2 : (ops[j]?).bind (·.dst) = some t) (h : tmps.getD t undef = .bool b) : Region.wanted o (yielded ops tmps) = true:=by
 have h4 : tmps[t]? = some (.bool b):=by
  rw [Array.getD_eq_getD_getElem?] at h
  cases e : tmps[t]? with
  | none=>rw [e] at h; simp [undef] at h
  | some v=>rw [e] at h; simp at h; rw [h]
 simp only [Region.wanted,h1,yielded,h2,Option.bind_some,h4]
 cases b <;> rfl
theorem ziS {ops : Array Oper} {o : Oper} {tmps : Array Value} {j : Nat} {b : Bool} {t : Nat} (h1 : o.guard = some (j,b)) (h2 : (ops[j]?).bind (·.dst) = some t) (h : offV b (tmps.getD t undef) = true) : Region.wanted o (yielded ops tmps) = false:=by
 rw [Array.getD_eq_getD_getElem?] at h
 cases e : tmps[t]? with
 | none=>simp only [Region.wanted,h1,yielded,h2,Option.bind_some,e]; cases b <;> rfl
 | some v =>
  rw [e] at h
  simp only [Option.getD_some] at h
  simp only [Region.wanted,h1,yielded,h2,Option.bind_some,e]
  cases v <;> simp [offV] at h ⊢
  exact h
theorem zoE {ops : Array Oper} {o : Oper} (h : StRep n J F env H a w) {j : Nat} {b c : Bool} {t : Nat} (h1 : o.guard = some (j,b)) (h2 : (ops[j]?).bind (·.dst) = some t) (hc : lookD t env = .sc (.bool c)) :
  Region.wanted o (yielded ops a.tmps) = (c == b):=by
 have h3:=h.tmps t
 rw [hc] at h3
 simp only [rep] at h3
 have h4 : a.tmps[t]? = some (.bool c):=by
  rw [Array.getD_eq_getD_getElem?] at h3
  cases e : a.tmps[t]? with
  | none=>rw [e] at h3; simp [undef] at h3
  | some v=>rw [e] at h3; simp at h3; rw [h3]
 simp only [Region.wanted,h1,yielded,h2,Option.bind_some,h4]
 cases b <;> cases c <;> rfl
end
section
variable {P : Program} {n : Nat} {ops : Array Oper} {K' : Env→List AObj→Prop} {Q : Exit→Act→World→Prop}
theorem ifK_iff {c : Bool} {A B : Prop} : ifK c A B↔(c = true→A)∧(c = false→B):=by
 cases c <;> simp [ifK]
theorem zlB {o : Oper} {p : POp} {env : Env} {H : List AObj} {K : Cont} (hc : cop P o = some p) (h : step P true p env H K) : zdx P o env H K :=
 (zgR hc h).elim zoM (·.2)
theorem zhc : ∀ (l : List Oper) (i : Nat) (ms : List Nat) (pl : List POper),(∀ j,l[j]? = ops[i + j]?)→zdJ P n ops ms l = some pl→∀ (env : Env) (H : List AObj) (J : Inj) (F : Nat→Prop) (a : Act) (w : World),zcx P pl env H K'→StRep n J F env H a w →
  (∀ env' H' J' F' a' w',K' env' H'→StRep n J' F' env' H' a' w'→Ext J F w J' F' w'→Q .normal a' w')→wpOps P ops Q (List.range' i l.length) a w
 | [],i,ms,pl,hl,hc,env,H,J,F,a,w,h,hr,hQ=>by
  simp [zdJ] at hc; subst hc
  simp only [List.length_nil,List.range'_zero,wpOps]
  exact hQ env H J F a w h hr (Ext.refl _ _ _)
 | o :: l,i,ms,pl,hl,hc,env,H,J,F,a,w,h,hr,hQ=>by
  simp only [zdJ] at hc
  split at hc
  ·rename_i p pr h1 h2
   cases hc
   have ho : ops[i]? = some o:=by simpa using (hl 0).symm
   have hl' : ∀ j,l[j]? = ops[i + 1 + j]?:=fun j=>by have:=hl (j + 1); simpa [Nat.add_assoc,Nat.add_comm 1 j] using this
   obtain ⟨k1,k2,k3,k4,_⟩:=zgO h1
   have go : ∀ env' H' J' F' a' w',Ext J F w J' F' w'→zcx P pr env' H' K'→StRep n J' F' env' H' a' w'→wpOps P ops Q (List.range' (i + 1) l.length) a' w':=fun env' H' J' F' a' w' hx h' hr' =>
    zhc l (i + 1) ms.tail pr hl' h2 env' H' J' F' a' w' h' hr' fun env'' H'' J'' F'' a'' w'' q1 q2 q3=>hQ env'' H'' J'' F'' a'' w'' q1 q2 (hx.trans q3)
   have exec : (step P true p.op env H fun d H' _ _=>match p.dst with
     | some t=>zcx P pr ((t,d) :: env) H' K'
     | none=>zcx P pr env H' K')→o.wp P a w (wpOps P ops Q (List.range' (i + 1) l.length)) Q:=fun hs=>by
    refine zlB k1 hs J F w a hr.ok hr.dom (fun x _=>hr.eval x) _ _ fun d H2 rd wr v w' J' F' hK q1 q2 q3 q4=>?_
    rw [k2] at hK
    cases hd : o.dst with
    | none =>
     rw [hd] at hK
     exact go env H2 J' F' _ w' q3 hK (hr.skip q3 q2 q4)
    | some t =>
     rw [hd] at hK
     exact go _ H2 J' F' _ w' q3 hK (hr.put q3 (k3 t hd) q1 q2 q4)
   have skip : (match p.dst with
     | some t=>zcx P pr ((t,.sc undef) :: env) H K'
     | none=>zcx P pr env H K')→wpOps P ops Q (List.range' (i + 1) l.length) (a.put o.dst undef) w:=fun hs=>by
    rw [k2] at hs
    cases hd : o.dst with
    | none =>
     rw [hd] at hs
     exact go env H J F _ w (Ext.refl _ _ _) hs hr
    | some t =>
     rw [hd] at hs
     exact go _ H J F _ w (Ext.refl _ _ _) hs (hr.put (Ext.refl _ _ _) (k3 t hd) (by simp only [rep]) hr.ok hr.dom)
   simp only [List.length_cons,List.range'_succ,wpOps,ho]
   simp only [zcx] at h
   rcases k4 with ⟨g1,g2⟩ | ⟨j,b,t,g1,g2,g3⟩
   ·rw [g2] at h
    rw [if_pos (by simp [Region.wanted,g1])]
    exact .inl (exec h)
   ·rw [g3] at h
    simp only [zeb] at h
    split at h
    ·rename_i c hcc
     have hw:=zoE hr g1 g2 hcc
     cases b with
     | true =>
      obtain ⟨hA,hB⟩:=ifK_iff.1 h
      cases c with
      | true=>rw [if_pos (by rw [hw]; rfl)]; exact .inl (exec (hA rfl))
      | false=>rw [if_neg (by rw [hw]; simp)]; exact skip (hB rfl)
     | false =>
      obtain ⟨hA,hB⟩:=ifK_iff.1 h
      cases c with
      | true=>rw [if_neg (by rw [hw]; simp)]; exact skip (hA rfl)
      | false=>rw [if_pos (by rw [hw]; rfl)]; exact .inl (exec (hB rfl))
    ·rename_i xs hcc
     have h3:=hr.tmps t
     rw [hcc] at h3
     simp only [rep] at h3
     rw [if_neg (by rw [ziS g1 g2 (by rw [h3]; rfl)]; simp)]
     exact skip h
    ·exact h.elim
  ·cases hc
end
end
section
open Go.RowKit
theorem ziQ {ms : List Nat} {i : Nat} : ∀ (l : List Nat),(zg9 ms l).testBit i = true→∃ a∈l,a = i∨(ms.getD a 0).testBit i = true
 | [],h=>by simp [zg9] at h
 | a :: r,h=>by
  simp only [zg9,Nat.testBit_or,Bool.or_eq_true] at h
  rcases h with (h | h) | h
  ·rw [Nat.testBit_two_pow] at h
   exact ⟨a,by simp,.inl (by simpa using h)⟩
  ·exact ⟨a,by simp,.inr h⟩
  ·obtain ⟨b,hb,k⟩:=ziQ r h
   exact ⟨b,by simp [hb],k⟩
theorem zg4 : ∀ (l : List Oper) (acc : List Nat),(∀ k,k < acc.length→(masksOf acc l).getD k 0 = acc.getD k 0)∧(masksOf acc l).length = acc.length + l.length ∧
  ∀ k o,l[k]? = some o→∃ acc',(∀ a,a < acc.length + k→acc'.getD a 0 = (masksOf acc l).getD a 0)∧(∀ a,acc.length + k≤a→acc'.getD a 0 = 0)∧(masksOf acc l).getD (acc.length + k) 0 = zg9 acc' (zcY o)
 | [],acc=>⟨fun _ _=>rfl,by simp [masksOf],fun k o h=>by simp at h⟩
 | x :: r,acc=>by
  obtain ⟨h1,h2,h3⟩:=zg4 r (acc ++ [zg9 acc (zcY x)])
  simp only [masksOf]
  simp only [List.length_append,List.length_singleton] at h1 h2 h3
  have hacc : ∀ k,k < acc.length→(acc ++ [zg9 acc (zcY x)]).getD k 0 = acc.getD k 0:=fun k hk=>by
   simp [List.getD,List.getElem?_append_left hk]
  refine ⟨fun k hk=>by rw [h1 k (by omega),hacc k hk],by rw [h2]; simp; omega,fun k o hk=>?_⟩
  cases k with
  | zero =>
   simp at hk; subst hk
   refine ⟨acc,fun a ha=>by rw [h1 a (by omega),hacc a (by omega)],fun a ha=>by simp [List.getD,List.getElem?_eq_none (by omega : acc.length≤a)],?_⟩
   rw [Nat.add_zero,h1 _ (by omega)]
   simp [List.getD]
  | succ k =>
   obtain ⟨acc',k1,k2,k3⟩:=h3 k o (by simpa using hk)
   rw [show acc.length + 1 + k = acc.length + (k + 1) by omega] at k1 k2 k3
   exact ⟨acc',k1,k2,k3⟩
theorem zfE {ops : Array Oper} {m : Nat} {o : Oper} : ∀ (l : List Oper) (i : Nat),zgb ops m o i l = true→∀ k x,l[k]? = some x→m.testBit (i + k) = true∨x.apart ops o = true
 | [],i,_,k,x,h=>by simp at h
 | y :: r,i,h,k,x,hk=>by
  simp only [zgb,Bool.and_eq_true,Bool.or_eq_true] at h
  cases k with
  | zero=>simp at hk; subst hk; exact h.1
  | succ k =>
   have:=zfE r (i + 1) h.2 k x (by simpa using hk)
   rwa [show i + 1 + k = i + (k + 1) by omega] at this
theorem zet {ops : Array Oper} {ms : List Nat} : ∀ (l pre : List Oper),regOK ops ms pre l = true→∀ k o,l[k]? = some o→(∀ a∈zcY o,a < pre.length + k) ∧
  ∀ i x,i < pre.length + k→(pre ++ l)[i]? = some x→(ms.getD (pre.length + k) 0).testBit i = true∨x.apart ops o = true
 | [],pre,_,k,o,h=>by simp at h
 | y :: r,pre,h,k,o,hk=>by
  simp only [regOK,Bool.and_eq_true] at h
  obtain ⟨⟨h1,h2⟩,h3⟩:=h
  cases k with
  | zero =>
   simp at hk; subst hk
   refine ⟨fun a ha=>by simpa using List.all_eq_true.1 h1 a ha,fun i x hi hx=>?_⟩
   rw [List.getElem?_append_left (by omega)] at hx
   have:=zfE pre 0 h2 i x hx
   simpa using this
  | succ k =>
   have:=zet r (pre ++ [y]) h3 k o (by simpa using hk)
   simp only [List.length_append,List.length_singleton,List.append_assoc,List.singleton_append] at this
   rw [show pre.length + 1 + k = pre.length + (k + 1) by omega] at this
   exact this
section
variable {ops : Array Oper}
def Bef (ops : Array Oper) (i j : Nat) : Prop:=((masksOf [] ops.toList).getD j 0).testBit i = true
def Closed (ops : Array Oper) (S : Nat→Bool) : Prop:=∀ j o,ops[j]? = some o→S j = true→∀ a∈zcY o,S a = true
theorem zjS (hreg : regOK ops (masksOf [] ops.toList) [] ops.toList = true) : ∀ (j : Nat) (o : Oper),ops[j]? = some o→∀ i,Bef ops i j→i < j∧∀ S : Nat→Bool,Closed ops S→(∀ a∈zcY o,S a = true)→S i = true:=by
 intro j
 induction j using Nat.strongRecOn with
 | _ j ih =>
  intro o ho i hb
  obtain ⟨acc,h1,h2,h3⟩:=(zg4 ops.toList []).2.2 j o (by simpa using ho)
  simp only [List.length_nil,Nat.zero_add] at h1 h2 h3
  unfold Bef at hb
  rw [h3] at hb
  have hlt:=(zet ops.toList [] hreg j o (by simpa using ho)).1
  simp only [List.length_nil,Nat.zero_add] at hlt
  obtain ⟨a,ha,rfl | hbit⟩:=ziQ _ hb
  ·exact ⟨hlt _ ha,fun S _ hS=>hS _ ha⟩
  ·have haj:=hlt a ha
   rw [h1 a haj] at hbit
   have hj : j < ops.size:=by
    rcases Nat.lt_or_ge j ops.size with h | h
    ·exact h
    ·rw [Array.getElem?_eq_none h] at ho; cases ho
   have hao : ops[a]? = some ops[a]:=Array.getElem?_eq_getElem (by omega)
   obtain ⟨q1,q2⟩:=ih a haj _ hao i hbit
   exact ⟨by omega,fun S hC hS=>q2 S hC (hC a _ hao (hS a ha))⟩
end
structure Rec where
 d : D
 rd : List Nat
 wr : List Nat
 H2 : List AObj
 lt : Option (Nat × Nat)
instance : Inhabited Rec:=⟨⟨.junk,[],[],[],none⟩⟩
def Rec.entry (r : Rec) : (List Nat × List Nat) × (Option (Nat × Nat) × D × List AObj):=((r.rd,r.wr),(r.lt,r.d,r.H2))
def liteE (x : (List Nat × List Nat) × (Option (Nat × Nat) × D × List AObj)) : List Nat × List Nat:=match x.2.1 with
 | some _=>([],x.1.2)
 | none=>x.1
section
variable {P : Program} {n : Nat} {ops : Array Oper}
def LightOK (P : Program) (o : Oper) (env : Env) (H : List AObj) (r : Rec) : Prop:=∀ id k,r.lt = some (id,k)→r.rd = [id]∧r.wr = []∧r.H2 = H∧(∃ m cs,H[id]? = some (.row m cs)∧cs[k]? = some r.d) ∧
 ∀ (H' : List AObj) m' cs',H'[id]? = some (.row m' cs')→cs'[k]? = some r.d→OpS P o env [id] [] H' r.d H'
theorem zmU {o : Oper} {p : POp} (k1 : cop P o = some p) {env : Env} {H : List AObj} {K : D→List AObj→List Nat→List Nat→Prop} (h : step P false p env H K) {id k : Nat} (hl : zfY p env = some (id,k)) :
  ∃ c,K c H [id] []∧(∃ m cs,H[id]? = some (.row m cs)∧cs[k]? = some c)∧∀ (H' : List AObj) m' cs',H'[id]? = some (.row m' cs')→cs'[k]? = some c→OpS P o env [id] [] H' c H':=by
 unfold zfY at hl
 split at hl
 ·rename_i a
  split at hl
  ·rename_i id' k' e
   cases hl
   simp only [step,zbf] at h
   rw [e] at h
   obtain ⟨ob,h1,h2⟩:=(za2 _ _ _).1 h
   split at h2
   ·rename_i m cs
    obtain ⟨c,h3,h4⟩:=(zee _ _ _).1 h2
    refine ⟨c,h4,⟨m,cs,h1,h3⟩,fun H' m' cs' g1 g2=>?_⟩
    have hs : step P false (.load1 a) env H' fun d h rd wr=>d = c∧h = H'∧rd = [id]∧wr = []:=by
     simp only [step,zbf]
     rw [e]
     exact (za2 _ _ _).2 ⟨_,g1,(zee _ _ _).2 ⟨c,g2,by simp⟩⟩
    rcases zgR k1 hs with ⟨d,H2,rd,wr,q,rfl,rfl,rfl,rfl⟩ | ⟨q,_⟩
    ·exact q
    ·cases q
   ·exact h2.elim
  ·cases hl
 ·cases hl
def RecOK (P : Program) (n : Nat) (ops : Array Oper) (o : Oper) (env : Env) (H : List AObj) (r : Rec) : Prop :=
 (∀ t,o.dst = some t→t < n)∧(∀ cs b,o.op≠.select cs b)∧LightOK P o env H r ∧
 ((o.guard = none∧OpS P o env r.rd r.wr H r.d r.H2) ∨
  ∃ j b t c,o.guard = some (j,b)∧(ops[j]?).bind (·.dst) = some t∧lookD t env = .sc c ∧
   ((c = .bool b∧OpS P o env r.rd r.wr H r.d r.H2)∨(offV b c = true∧r = ⟨.sc undef,[],[],H,none⟩)))
def stepEnv (o : Oper) (r : Rec) (env : Env) : Env:=match o.dst with
 | some t=>(t,r.d) :: env
 | none=>env
inductive Run (P : Program) (n : Nat) (ops : Array Oper) : List Oper→Env→List AObj→List Rec→Env→List AObj→Prop
 | nil (env : Env) (H : List AObj) : Run P n ops [] env H [] env H
 | cons (o : Oper) (l : List Oper) (env : Env) (H : List AObj) (r : Rec) (rs : List Rec) (env' : Env) (H' : List AObj) (h : RecOK P n ops o env H r) (k : Run P n ops l (stepEnv o r env) r.H2 rs env' H') : Run P n ops (o :: l) env H (r :: rs) env' H'
theorem zc5 {o : Oper} {p : POp} (h : cop P o = some p) : ∀ cs b,o.op≠.select cs b:=fun cs b e=>by
 unfold cop at h
 rw [e] at h
 simp at h
theorem LightOK.none {o : Oper} {env : Env} {H : List AObj} {d : D} {rd wr : List Nat} {H2 : List AObj} : LightOK P o env H ⟨d,rd,wr,H2,.none⟩:=fun _ _ h=>by cases h
theorem zkx : ∀ (l : List Oper) (ms : List Nat) (pl : List POper),zdJ P n ops ms l = some pl→∀ (env : Env) (H : List AObj) (K : Env→List AObj→Trace→Prop),runD P pl env H K →
  ∃ rs env' H',Run P n ops l env H rs env' H'∧K env' H' (rs.map Rec.entry)∧rs.length = l.length
 | [],ms,pl,hc,env,H,K,h=>by
  simp [zdJ] at hc; subst hc
  exact ⟨[],env,H,.nil env H,h,rfl⟩
 | o :: l,ms,pl,hc,env,H,K,h=>by
  simp only [zdJ] at hc
  split at hc
  ·rename_i p pr h1 h2
   cases hc
   obtain ⟨k1,k2,k3,k4,_⟩:=zgO h1
   have fin : ∀ (r : Rec),RecOK P n ops o env H r→(match p.dst with
     | some t=>runD P pr ((t,r.d) :: env) r.H2 fun e h tr=>K e h (((r.rd,r.wr),(r.lt,r.d,r.H2)) :: tr)
     | none=>runD P pr env r.H2 fun e h tr=>K e h (((r.rd,r.wr),(r.lt,r.d,r.H2)) :: tr))→∃ rs env' H',Run P n ops (o :: l) env H rs env' H'∧K env' H' (rs.map Rec.entry)∧rs.length = (o :: l).length:=fun r hr hs=>by
    have hs' : runD P pr (stepEnv o r env) r.H2 fun e h tr=>K e h (((r.rd,r.wr),(r.lt,r.d,r.H2)) :: tr):=by
     unfold stepEnv
     rw [k2] at hs
     cases hd : o.dst with
     | none=>rw [hd] at hs; exact hs
     | some t=>rw [hd] at hs; exact hs
    obtain ⟨rs,env',H',q1,q2,q3⟩:=zkx l ms.tail pr h2 _ _ _ hs'
    exact ⟨r :: rs,env',H',.cons o l env H r rs env' H' hr q1,q2,by simp [q3]⟩
   have exec : ∀ {K' : D→List AObj→List Nat→List Nat→Prop},step P false p.op env H K'→∃ d H2 rd wr,OpS P o env rd wr H d H2∧K' d H2 rd wr:=fun hs=>by
    rcases zgR k1 hs with q | ⟨q,_⟩
    ·exact q
    ·cases q
   simp only [runD] at h
   rcases k4 with ⟨g1,g2⟩ | ⟨j,b,t,g1,g2,g3⟩
   ·rw [g2] at h
    cases hl : zfY p.op env with
    | none =>
     simp only [hl] at h
     obtain ⟨d,H2,rd,wr,q1,q2⟩:=exec h
     exact fin ⟨d,rd,wr,H2,none⟩ ⟨k3,zc5 k1,.none,.inl ⟨g1,q1⟩⟩ q2
    | some q =>
     obtain ⟨id,k⟩:=q
     simp only [hl] at h
     obtain ⟨c,q1,⟨m,cs,q2,q3⟩,q4⟩:=zmU k1 h hl
     refine fin ⟨c,[id],[],H,some (id,k)⟩ ⟨k3,zc5 k1,fun id' k' e=>?_,.inl ⟨g1,q4 H m cs q2 q3⟩⟩ q1
     cases e
     exact ⟨rfl,rfl,rfl,⟨m,cs,q2,q3⟩,q4⟩
   ·rw [g3] at h
    simp only [zeb] at h
    split at h
    ·rename_i c hcc
     cases b with
     | true =>
      obtain ⟨hA,hB⟩:=ifK_iff.1 h
      cases c with
      | true =>
       obtain ⟨d,H2,rd,wr,q1,q2⟩:=exec (hA rfl)
       exact fin ⟨d,rd,wr,H2,none⟩ ⟨k3,zc5 k1,.none,.inr ⟨j,true,t,.bool true,g1,g2,hcc,.inl ⟨rfl,q1⟩⟩⟩ q2
      | false=>exact fin ⟨.sc undef,[],[],H,none⟩ ⟨k3,zc5 k1,.none,.inr ⟨j,true,t,.bool false,g1,g2,hcc,.inr ⟨rfl,rfl⟩⟩⟩ (hB rfl)
     | false =>
      obtain ⟨hA,hB⟩:=ifK_iff.1 h
      cases c with
      | true=>exact fin ⟨.sc undef,[],[],H,none⟩ ⟨k3,zc5 k1,.none,.inr ⟨j,false,t,.bool true,g1,g2,hcc,.inr ⟨rfl,rfl⟩⟩⟩ (hA rfl)
      | false =>
       obtain ⟨d,H2,rd,wr,q1,q2⟩:=exec (hB rfl)
       exact fin ⟨d,rd,wr,H2,none⟩ ⟨k3,zc5 k1,.none,.inr ⟨j,false,t,.bool false,g1,g2,hcc,.inl ⟨rfl,q1⟩⟩⟩ q2
    ·rename_i xs hcc
     exact fin ⟨.sc undef,[],[],H,none⟩ ⟨k3,zc5 k1,.none,.inr ⟨j,b,t,.tuple xs,g1,g2,hcc,.inr ⟨rfl,rfl⟩⟩⟩ h
    ·exact h.elim
  ·cases hc
def zfV (l : List Oper) (k : Nat) : Option Tmp:=(l[k]?).bind (·.dst)
def recAt (rs : List Rec) (k : Nat) : Rec:=(rs[k]?).getD default
def Et (l : List Oper) (rs : List Rec) (env : Env) (S : Nat→Bool) : Nat→Nat→D
 | 0,t=>lookD t env
 | k + 1,t=>if S k = true∧zfV l k = some t then (recAt rs k).d else Et l rs env S k t
def Gt (rs : List Rec) (H : List AObj) (S : Nat→Bool) : Nat→Nat→Option AObj
 | 0,id=>H[id]?
 | k + 1,id=>if S k = true∧id∈(recAt rs k).wr then (recAt rs k).H2[id]? else Gt rs H S k id
theorem zgw {l : List Oper} {rs : List Rec} {env : Env} {S S' : Nat→Bool} {t : Nat} : ∀ (k : Nat),(∀ i,i < k→zfV l i = some t→S i = S' i)→Et l rs env S k t = Et l rs env S' k t
 | 0,_=>rfl
 | k + 1,h=>by
  simp only [Et]
  by_cases hd : zfV l k = some t
  ·rw [h k (by omega) hd,zgw k fun i hi hd=>h i (by omega) hd]
  ·rw [if_neg (fun q=>hd q.2),if_neg (fun q=>hd q.2),zgw k fun i hi hd=>h i (by omega) hd]
theorem zfs {rs : List Rec} {H : List AObj} {S S' : Nat→Bool} {id : Nat} : ∀ (k : Nat),(∀ i,i < k→id∈(recAt rs i).wr→S i = S' i)→Gt rs H S k id = Gt rs H S' k id
 | 0,_=>rfl
 | k + 1,h=>by
  simp only [Gt]
  by_cases hd : id∈(recAt rs k).wr
  ·rw [h k (by omega) hd,zfs k fun i hi hd=>h i (by omega) hd]
  ·rw [if_neg (fun q=>hd q.2),if_neg (fun q=>hd q.2),zfs k fun i hi hd=>h i (by omega) hd]
def upto (j : Nat) : Nat→Bool:=fun i=>decide (i < j)
theorem zoy {l : List Oper} {rs : List Rec} {env : Env} {j t : Nat} : ∀ (k : Nat),j≤k→Et l rs env (upto j) k t = Et l rs env (fun _=>true) j t
 | 0,h=>by have : j = 0:=by omega
           subst this; rfl
 | k + 1,h=>by
  by_cases e : j = k + 1
  ·subst e
   exact zgw (k + 1) fun i hi _=>by simp [upto,hi]
  ·simp only [Et]
   rw [if_neg (by simp [upto]; omega),zoy k (by omega)]
theorem zla {rs : List Rec} {H : List AObj} {j id : Nat} : ∀ (k : Nat),j≤k→Gt rs H (upto j) k id = Gt rs H (fun _=>true) j id
 | 0,h=>by have : j = 0:=by omega
           subst this; rfl
 | k + 1,h=>by
  by_cases e : j = k + 1
  ·subst e
   exact zfs (k + 1) fun i hi _=>by simp [upto,hi]
  ·simp only [Gt]
   rw [if_neg (by simp [upto]; omega),zla k (by omega)]
def envT (l : List Oper) (rs : List Rec) (env : Env) : Nat→Env
 | 0=>env
 | k + 1=>match l[k]?,rs[k]? with
  | some o,some r=>stepEnv o r (envT l rs env k)
  | _,_=>envT l rs env k
def heapT (rs : List Rec) (H : List AObj) : Nat→List AObj
 | 0=>H
 | k + 1=>match rs[k]? with
  | some r=>r.H2
  | none=>heapT rs H k
theorem zic {o : Oper} {l : List Oper} {r : Rec} {rs : List Rec} {env : Env} : ∀ k,envT (o :: l) (r :: rs) env (k + 1) = envT l rs (stepEnv o r env) k
 | 0=>rfl
 | k + 1=>by
  rw [envT]
  rw [zic k]
  rfl
theorem zgB {r : Rec} {rs : List Rec} {H : List AObj} : ∀ k,heapT (r :: rs) H (k + 1) = heapT rs r.H2 k
 | 0=>rfl
 | k + 1=>by
  rw [heapT]
  rw [zgB k]
  rfl
theorem Run.at {l : List Oper} {env env' : Env} {H H' : List AObj} {rs : List Rec} (h : Run P n ops l env H rs env' H') : rs.length = l.length∧envT l rs env l.length = env'∧heapT rs H l.length = H' ∧
  ∀ k o,l[k]? = some o→∃ r,rs[k]? = some r∧RecOK P n ops o (envT l rs env k) (heapT rs H k) r:=by
 induction h with
 | nil env H=>exact ⟨rfl,rfl,rfl,fun k o h=>by simp at h⟩
 | cons o l env H r rs env' H' h k ih =>
  obtain ⟨i1,i2,i3,i4⟩:=ih
  refine ⟨by simp [i1],by rw [List.length_cons,zic]; exact i2,by rw [List.length_cons,zgB]; exact i3,fun m x hx=>?_⟩
  cases m with
  | zero=>simp at hx; subst hx; exact ⟨r,rfl,h⟩
  | succ m =>
   obtain ⟨r',q1,q2⟩:=i4 m x (by simpa using hx)
   exact ⟨r',by simpa using q1,by rw [zic,zgB]; exact q2⟩
theorem zfm {rs : List Rec} {k : Nat} {r : Rec} (h : rs[k]? = some r) : recAt rs k = r:=by simp [recAt,h]
theorem zhu {l : List Oper} {k : Nat} {o : Oper} (h : l[k]? = some o) : zfV l k = o.dst:=by simp [zfV,h]
theorem RecOK.frame {o : Oper} {env : Env} {H : List AObj} {r : Rec} (h : RecOK P n ops o env H r) : (∀ id,id ∉ r.wr→r.H2[id]? = H[id]?)∧H.length≤r.H2.length∧∀ id∈r.wr,id < r.H2.length:=by
 rcases h.2.2.2 with ⟨_,q⟩ | ⟨j,b,t,c,_,_,_,⟨_,q⟩ | ⟨_,rfl⟩⟩
 ·exact ⟨q.frame,q.len,q.lt⟩
 ·exact ⟨q.frame,q.len,q.lt⟩
 ·exact ⟨fun _ _=>rfl,Nat.le_refl _,fun _ h=>by cases h⟩
section
variable {l : List Oper} {rs : List Rec} {env : Env} {H : List AObj}
variable (hA : ∀ k o,l[k]? = some o→∃ r,rs[k]? = some r∧RecOK P n ops o (envT l rs env k) (heapT rs H k) r)
include hA
theorem zl1 : ∀ k,k≤l.length→∀ t,Et l rs env (fun _=>true) k t = lookD t (envT l rs env k)
 | 0,_,t=>rfl
 | k + 1,hk,t=>by
  have hl : l[k]? = some l[k]:=List.getElem?_eq_getElem (by omega)
  obtain ⟨r,h1,_⟩:=hA k _ hl
  simp only [Et,envT,hl,h1,zfm h1,zhu hl,true_and,stepEnv]
  cases hd : l[k].dst with
  | none=>simp; exact zl1 k (by omega) t
  | some u =>
   simp only [Option.some.injEq]
   rw [zc2]
   by_cases e : t = u
   ·rw [if_pos e.symm,if_pos e]
   ·rw [if_neg (fun q=>e q.symm),if_neg e]; exact zl1 k (by omega) t
theorem zmA : ∀ k,k≤l.length→∀ id,Gt rs H (fun _=>true) k id = (heapT rs H k)[id]?
 | 0,_,id=>rfl
 | k + 1,hk,id=>by
  have hl : l[k]? = some l[k]:=List.getElem?_eq_getElem (by omega)
  obtain ⟨r,h1,h2⟩:=hA k _ hl
  simp only [Gt,heapT,h1,zfm h1,true_and]
  split
  ·rfl
  ·rename_i hn; rw [zmA k (by omega) id]; exact (h2.frame.1 id hn).symm
theorem zhw : ∀ k j,j≤k→k≤l.length→(heapT rs H j).length≤(heapT rs H k).length
 | 0,j,hj,_=>by have : j = 0:=by omega
                subst this; exact Nat.le_refl _
 | k + 1,j,hj,hk=>by
  have hl : l[k]? = some l[k]:=List.getElem?_eq_getElem (by omega)
  obtain ⟨r,h1,h2⟩:=hA k _ hl
  by_cases e : j = k + 1
  ·rw [e]; exact Nat.le_refl _
  ·refine Nat.le_trans (zhw k j (by omega) (by omega)) ?_
   simp only [heapT,h1]
   exact h2.frame.2.1
theorem wr_lt {i k : Nat} (hik : i < k) (hk : k≤l.length) {id : Nat} (h : id∈(recAt rs i).wr) : id < (heapT rs H k).length:=by
 have hl : l[i]? = some l[i]:=List.getElem?_eq_getElem (by omega)
 obtain ⟨r,h1,h2⟩:=hA i _ hl
 rw [zfm h1] at h
 have h3:=h2.frame.2.2 id h
 have h4:=zhw hA k (i + 1) (by omega) hk
 simp only [heapT,h1] at h4
 omega
end
theorem zhr (x : Nat) : ∀ l : List Nat,memb x l = true↔x∈l
 | []=>by simp [memb]
 | y :: r=>by
  simp only [memb]
  cases e : Nat.beq x y with
  | true=>simp [Nat.eq_of_beq_eq_true e]
  | false =>
   have : x≠y:=fun h=>by subst h; simp at e
   simp [zhr x r,this]
theorem zj4 : ∀ (a b : List Nat),zlG a b = true↔∃ x∈a,x∈b
 | [],b=>by simp [zlG]
 | x :: r,b=>by
  simp only [zlG]
  cases e : memb x b with
  | true=>simp [(zhr x b).1 e]
  | false =>
   have : x ∉ b:=fun h=>by rw [(zhr x b).2 h] at e; cases e
   simp [zj4 r b,this]
theorem zeX {m : Nat} {b : List Nat × List Nat} : ∀ (tr : List (List Nat × List Nat)) (i : Nat),zia m b i tr = true→∀ k a,tr[k]? = some a→clash a b = true→zji m (i + k) = true
 | [],i,_,k,a,h,_=>by simp at h
 | x :: r,i,h,k,a,hk,hc=>by
  simp only [zia] at h
  split at h
  ·rename_i h1
   cases k with
   | zero =>
    simp at hk; subst hk
    simpa [hc] using h1
   | succ k =>
    have:=zeX r (i + 1) h k a (by simpa using hk) hc
    rwa [show i + 1 + k = i + (k + 1) by omega] at this
  ·cases h
theorem zi7 : ∀ (pl : List POper) (pre : List (List Nat × List Nat)) (tr : Trace),zos pre pl tr = true→∀ k o b,pl[k]? = some o→tr[k]? = some b→∀ i a,i < pre.length + k→(pre ++ tr.map (·.1))[i]? = some a→clash a b.1 = true→zji o.mask i = true
 | [],pre,tr,_,k,o,b,h,_,_,_,_,_,_=>by simp at h
 | p :: pl,pre,[],_,k,o,b,_,h,_,_,_,_,_=>by simp at h
 | p :: pl,pre,(t,y) :: tr,h,k,o,b,hk,hb,i,a,hi,ha,hc=>by
  simp only [zos] at h
  split at h
  ·rename_i h1
   cases k with
   | zero =>
    simp at hk hb; subst hk; subst hb
    rw [List.getElem?_append_left (by omega)] at ha
    have:=zeX pre 0 h1 i a ha hc
    simpa using this
   | succ k =>
    refine zi7 pl (pre ++ [t]) tr h k o b (by simpa using hk) (by simpa using hb) i a (by simp; omega) ?_ hc
    simpa using ha
  ·cases h
theorem zfT : ∀ (pl : List POper) (pre : List (List Nat × List Nat)) (tr : Trace),ziN pre pl tr = true→∀ k o b,pl[k]? = some o→tr[k]? = some b→∀ i a,i < pre.length + k→(pre ++ tr.map liteE)[i]? = some a→clash a b.1 = true→zji o.mask i = true
 | [],pre,tr,_,k,o,b,h,_,_,_,_,_,_=>by simp at h
 | p :: pl,pre,[],_,k,o,b,_,h,_,_,_,_,_=>by simp at h
 | p :: pl,pre,(t,q,y) :: tr,h,k,o,b,hk,hb,i,a,hi,ha,hc=>by
  simp only [ziN] at h
  split at h
  ·rename_i h1
   cases k with
   | zero =>
    simp at hk hb; subst hk; subst hb
    rw [List.getElem?_append_left (by omega)] at ha
    have:=zeX pre 0 h1 i a ha hc
    simpa using this
   | succ k =>
    have e : pre ++ ((t,q,y) :: tr).map liteE = (pre ++ [liteE (t,q,y)]) ++ tr.map liteE:=by simp
    rw [e] at ha
    cases q with
    | none=>exact zfT pl (pre ++ [t]) tr h k o b (by simpa using hk) (by simpa using hb) i a (by simp; omega) ha hc
    | some q=>exact zfT pl (pre ++ [([],t.2)]) tr h k o b (by simpa using hk) (by simpa using hb) i a (by simp; omega) ha hc
  ·cases h
def zk9 (m : Nat) (wr : List Nat) (H : List AObj) (w : Nat × (Nat × Nat) × D) : Prop:=zji m w.1 = true∨w.2.1.1 ∉ wr∨∃ mm cs,H[w.2.1.1]? = some (.row mm cs)∧cs[w.2.1.2]? = some w.2.2
theorem zf4 {m : Nat} {wr : List Nat} {H : List AObj} {K : Prop} : ∀ ws,zkG m wr H K ws→K∧∀ w∈ws,zk9 m wr H w
 | [],h=>⟨h,fun w hw=>by cases hw⟩
 | (i,(id,k),d) :: r,h=>by
  simp only [zkG] at h
  split at h
  ·rename_i e
   obtain ⟨q1,q2⟩:=zf4 r h
   refine ⟨q1,fun w hw=>?_⟩
   rcases List.mem_cons.1 hw with rfl | hw
   ·rw [Bool.or_eq_true,Bool.not_eq_true'] at e
    rcases e with e | e
    ·exact .inl e
    ·refine .inr (.inl fun z=>?_)
     rw [(zhr _ _).2 z] at e; cases e
   ·exact q2 w hw
  ·unfold cellK at h
   obtain ⟨ob,h1,h2⟩:=(za2 _ _ _).1 h
   split at h2
   ·rename_i mm cs
    obtain ⟨c,h3,rfl,h4⟩:=(zee _ _ _).1 h2
    obtain ⟨q1,q2⟩:=zf4 r h4
    refine ⟨q1,fun w hw=>?_⟩
    rcases List.mem_cons.1 hw with rfl | hw
    ·exact .inr (.inr ⟨mm,cs,h1,h3⟩)
    ·exact q2 w hw
   ·exact h2.elim
theorem zfO {K : Prop} : ∀ (l : List POper) (tr : Trace) (i0 : Nat) (ws : List (Nat × (Nat × Nat) × D)),ziL K i0 ws l tr→l.length = tr.length→K∧∀ j o b q d H,l[j]? = some o→tr[j]? = some (b,(q,d,H)) →
   (∀ w∈ws,zk9 o.mask b.2 H w)∧∀ i b' lt d' H',i < j→tr[i]? = some (b',(some lt,d',H'))→zk9 o.mask b.2 H (i0 + i,lt,d')
 | [],[],i0,ws,h,_=>⟨h,fun j o b q d H hj=>by simp at hj⟩
 | [],_ :: _,_,_,_,hl=>by simp at hl
 | _ :: _,[],_,_,_,hl=>by simp at hl
 | p :: l,(b0,(q0,d0,H0)) :: tr,i0,ws,h,hl=>by
  simp only [ziL] at h
  obtain ⟨h1,h2⟩:=zf4 ws h
  cases q0 with
  | none =>
   obtain ⟨k1,k2⟩:=zfO l tr (i0 + 1) ws h1 (by simpa using hl)
   refine ⟨k1,fun j o b q d H hj hb=>?_⟩
   cases j with
   | zero=>simp at hj hb; obtain ⟨rfl,rfl,rfl,rfl⟩:=hb; subst hj; exact ⟨h2,fun i _ _ _ _ hi=>by omega⟩
   | succ j =>
    obtain ⟨m1,m2⟩:=k2 j o b q d H (by simpa using hj) (by simpa using hb)
    refine ⟨m1,fun i b' lt d' H' hi hb'=>?_⟩
    cases i with
    | zero=>simp at hb'
    | succ i =>
     have:=m2 i b' lt d' H' (by omega) (by simpa using hb')
     rwa [show i0 + 1 + i = i0 + (i + 1) by omega] at this
  | some q0 =>
   obtain ⟨k1,k2⟩:=zfO l tr (i0 + 1) (ws ++ [(i0,q0,d0)]) h1 (by simpa using hl)
   refine ⟨k1,fun j o b q d H hj hb=>?_⟩
   cases j with
   | zero=>simp at hj hb; obtain ⟨rfl,rfl,rfl,rfl⟩:=hb; subst hj; exact ⟨h2,fun i _ _ _ _ hi=>by omega⟩
   | succ j =>
    obtain ⟨m1,m2⟩:=k2 j o b q d H (by simpa using hj) (by simpa using hb)
    refine ⟨fun w hw=>m1 w (List.mem_append_left _ hw),fun i b' lt d' H' hi hb'=>?_⟩
    cases i with
    | zero =>
     simp at hb'
     obtain ⟨rfl,rfl,rfl,rfl⟩:=hb'
     exact m1 (i0,q0,d0) (by simp)
    | succ i =>
     have:=m2 i b' lt d' H' (by omega) (by simpa using hb')
     rwa [show i0 + 1 + i = i0 + (i + 1) by omega] at this
theorem zm1 {m i : Nat} (h : zji m i = true) : m.testBit i = true:=by
 unfold zji at h
 split at h
 ·rename_i e
  rw [Nat.testBit_eq_decide_div_mod_eq]
  simpa using Nat.eq_of_beq_eq_true e
 ·cases h
theorem zhC : ∀ (l : List Oper) (ms : List Nat) (pl : List POper),zdJ P n ops ms l = some pl→∀ k p,pl[k]? = some p→p.mask = ms.getD k 0
 | [],ms,pl,h,k,p,hk=>by simp [zdJ] at h; subst h; simp at hk
 | o :: l,ms,pl,h,k,p,hk=>by
  simp only [zdJ] at h
  split at h
  ·rename_i q pr h1 h2
   cases h
   cases k with
   | zero =>
    simp at hk; subst hk
    rw [(zgO h1).2.2.2.2]
    cases ms <;> rfl
   | succ k =>
    rw [zhC l ms.tail pr h2 k p (by simpa using hk)]
    cases ms <;> simp [List.getD]
  ·cases h
theorem ziT : ∀ (l : List Oper) (ms : List Nat) (pl : List POper),zdJ P n ops ms l = some pl→pl.length = l.length
 | [],ms,pl,h=>by simp [zdJ] at h; subst h; rfl
 | o :: l,ms,pl,h=>by
  simp only [zdJ] at h
  split at h
  ·rename_i q pr h1 h2
   cases h
   simp [ziT l ms.tail pr h2]
  ·cases h
end
end
section
open Go.RowKit
structure Plan (P : Program) (n : Nat) (ops : Array Oper) (env : Env) (H : List AObj) (rs : List Rec) : Prop where
 at_ : ∀ k o,ops.toList[k]? = some o→∃ r,rs[k]? = some r∧RecOK P n ops o (envT ops.toList rs env k) (heapT rs H k) r
 len : rs.length = ops.size
 reg : regOK ops (masksOf [] ops.toList) [] ops.toList = true
 mem : ∀ i j,i < j→j < ops.size→clash (liteE (recAt rs i).entry) ((recAt rs j).rd,(recAt rs j).wr) = true→Bef ops i j
 lite : ∀ i id k,(recAt rs i).lt = some (id,k)→∀ j,i < j→j < ops.size→id∈(recAt rs j).wr→Bef ops i j∨∃ m cs,(recAt rs j).H2[id]? = some (.row m cs)∧cs[k]? = some (recAt rs i).d
section
variable {P : Program} {n : Nat} {ops : Array Oper} {env : Env} {H : List AObj} {rs : List Rec}
structure Inv (P : Program) (n : Nat) (ops : Array Oper) (env : Env) (H : List AObj) (rs : List Rec) (J0 : Inj) (F0 : Nat→Prop) (w0 : World) (S : Nat→Bool) (J : Inj) (F : Nat→Prop) (a : Act) (w : World) : Prop where
 closed : Closed ops S
 defers : a.defers = []
 size : a.tmps.size = n
 tmps : ∀ t,rep J F w (Et ops.toList rs env S ops.size t) (a.tmps.getD t undef)
 ok : StOK J F w (Gt rs H S ops.size)
 ext : Ext J0 F0 w0 J F w
 dom : ∀ id,J id≠none→id < H.length∨∃ i,i < ops.size∧S i = true∧id∈(recAt rs i).wr
theorem Plan.before (hp : Plan P n ops env H rs) {S : Nat→Bool} (hC : Closed ops S) {j : Nat} {o : Oper} (ho : ops[j]? = some o) (hj : S j = false) (hr : ∀ a∈zcY o,S a = true) {i : Nat} (hi : i < ops.size) (hne : i≠j) (hcmp : Bef ops i j∨Bef ops j i) : S i = upto j i:=by
 have hio : ops[i]? = some ops[i]:=Array.getElem?_eq_getElem hi
 rcases hcmp with h | h
 ·obtain ⟨q1,q2⟩:=zjS hp.reg j o ho i h
  rw [q2 S hC hr]
  simp [upto,q1]
 ·obtain ⟨q1,q2⟩:=zjS hp.reg i _ hio j h
  have : S i = false:=by
   cases e : S i with
   | false=>rfl
   | true =>
    have:=q2 S hC (hC i _ hio e)
    rw [hj] at this; cases this
  rw [this]
  simp [upto]; omega
theorem Plan.cmp (hp : Plan P n ops env H rs) {i j : Nat} {x y : Oper} (hi : ops[i]? = some x) (hj : ops[j]? = some y) (hne : i≠j) : (Bef ops i j∨Bef ops j i)∨(x.apart ops y = true∧i < j)∨(y.apart ops x = true∧j < i):=by
 rcases Nat.lt_or_gt_of_ne hne with h | h
 ·have:=(zet ops.toList [] hp.reg j y (by simpa using hj)).2 i x (by simpa using h) (by simpa using hi)
  simp only [List.length_nil,Nat.zero_add] at this
  rcases this with q | q
  ·exact .inl (.inl q)
  ·exact .inr (.inl ⟨q,h⟩)
 ·have:=(zet ops.toList [] hp.reg i x (by simpa using hi)).2 j y (by simpa using h) (by simpa using hj)
  simp only [List.length_nil,Nat.zero_add] at this
  rcases this with q | q
  ·exact .inl (.inr q)
  ·exact .inr (.inr ⟨q,h⟩)
theorem Plan.tmp (hp : Plan P n ops env H rs) {S : Nat→Bool} (hC : Closed ops S) {j : Nat} {o : Oper} (ho : ops[j]? = some o) (hj : S j = false) (hr : ∀ a∈zcY o,S a = true) {t : Nat} (ht : t∈o.looksAt ops) : Et ops.toList rs env S ops.size t = lookD t (envT ops.toList rs env j):=by
 have hjs : j < ops.size:=by
  rcases Nat.lt_or_ge j ops.size with h | h
  ·exact h
  ·rw [Array.getElem?_eq_none h] at ho; cases ho
 rw [← zl1 hp.at_ j (by simp; omega),← zoy ops.size (by omega)]
 refine zgw _ fun i hi hd=>?_
 have hio : ops[i]? = some ops[i]:=Array.getElem?_eq_getElem hi
 have hil : ops.toList[i]? = some ops[i]:=by rw [Array.getElem?_toList]; exact hio
 rw [zhu hil] at hd
 by_cases e : i = j
 ·subst e; rw [hj]; simp [upto]
 ·rcases hp.cmp hio ho e with h | ⟨h,_⟩ | ⟨h,_⟩
  ·exact hp.before hC ho hj hr hi e h
  ·exact absurd ht ((Oper.apart_spec h).1 t hd)
  ·exact absurd ht ((Oper.apart_spec h).2.2 t hd)
theorem zgy (a b : List Nat × List Nat) : clash a b = true↔(∃ x∈a.2,x∈b.1)∨(∃ x∈a.2,x∈b.2)∨∃ x∈b.2,x∈a.1:=by
 simp only [clash,Bool.or_eq_true,zj4,or_assoc]
theorem zhy (r : Rec) : (liteE r.entry).2 = r.wr:=by unfold liteE Rec.entry; split <;> rfl
theorem liteE_rd {r : Rec} (h : r.lt = none) : (liteE r.entry).1 = r.rd:=by unfold liteE Rec.entry; dsimp only; rw [h]
theorem Plan.objB (hp : Plan P n ops env H rs) {S : Nat→Bool} (hC : Closed ops S) {j : Nat} {o : Oper} (ho : ops[j]? = some o) (hj : S j = false) (hr : ∀ a∈zcY o,S a = true) {id : Nat} (hid : id∈(recAt rs j).rd∨id∈(recAt rs j).wr) {i : Nat} (h : i < j) (hw : id∈(recAt rs i).wr) : S i = upto j i:=by
 have hjs : j < ops.size:=by
  rcases Nat.lt_or_ge j ops.size with h | h
  ·exact h
  ·rw [Array.getElem?_eq_none h] at ho; cases ho
 refine hp.before hC ho hj hr (by omega) (by omega) (.inl (hp.mem i j h hjs ((zgy _ _).2 ?_)))
 rcases hid with q | q
 ·exact .inl ⟨id,by rw [zhy]; exact hw,q⟩
 ·exact .inr (.inl ⟨id,by rw [zhy]; exact hw,q⟩)
theorem Plan.obj (hp : Plan P n ops env H rs) {S : Nat→Bool} (hC : Closed ops S) {j : Nat} {o : Oper} (ho : ops[j]? = some o) (hj : S j = false) (hr : ∀ a∈zcY o,S a = true) {id : Nat} (hid : (id∈(recAt rs j).rd∧(recAt rs j).lt = none)∨id∈(recAt rs j).wr) {i : Nat} (hi : i < ops.size) (hw : id∈(recAt rs i).wr) : S i = upto j i:=by
 by_cases e : i = j
 ·subst e; rw [hj]; simp [upto]
 rcases Nat.lt_or_gt_of_ne e with h | h
 ·exact hp.objB hC ho hj hr (hid.imp_left And.left) h hw
 ·refine hp.before hC ho hj hr hi e (.inr (hp.mem j i h hi ((zgy _ _).2 ?_)))
  rcases hid with ⟨q,ql⟩ | q
  ·exact .inr (.inr ⟨id,hw,by rw [liteE_rd ql]; exact q⟩)
  ·exact .inr (.inl ⟨id,by rw [zhy]; exact q,hw⟩)
theorem Plan.objs (hp : Plan P n ops env H rs) {S : Nat→Bool} (hC : Closed ops S) {j : Nat} {o : Oper} (ho : ops[j]? = some o) (hj : S j = false) (hr : ∀ a∈zcY o,S a = true) {id : Nat} (hid : (id∈(recAt rs j).rd∧(recAt rs j).lt = none)∨id∈(recAt rs j).wr) : Gt rs H S ops.size id = (heapT rs H j)[id]?:=by
 have hjs : j < ops.size:=by
  rcases Nat.lt_or_ge j ops.size with h | h
  ·exact h
  ·rw [Array.getElem?_eq_none h] at ho; cases ho
 rw [← zmA hp.at_ j (by simp; omega),← zla ops.size (by omega)]
 exact zfs _ fun i hi hw=>hp.obj hC ho hj hr hid hi hw
theorem Plan.cell (hp : Plan P n ops env H rs) {S : Nat→Bool} (hC : Closed ops S) {j : Nat} {o : Oper} (ho : ops[j]? = some o) (hj : S j = false) (hr : ∀ a∈zcY o,S a = true) {id k : Nat} (hl : (recAt rs j).lt = some (id,k)) (hrd : (recAt rs j).rd = [id])
  (h0 : ∃ m cs,(heapT rs H j)[id]? = some (.row m cs)∧cs[k]? = some (recAt rs j).d) : ∃ m cs,Gt rs H S ops.size id = some (.row m cs)∧cs[k]? = some (recAt rs j).d:=by
 have hjs : j < ops.size:=by
  rcases Nat.lt_or_ge j ops.size with h | h
  ·exact h
  ·rw [Array.getElem?_eq_none h] at ho; cases ho
 have key : ∀ x,j + x≤ops.size→∃ m cs,Gt rs H S (j + x) id = some (.row m cs)∧cs[k]? = some (recAt rs j).d:=fun x=>by
  induction x with
  | zero =>
   intro _
   have : Gt rs H S j id = (heapT rs H j)[id]?:=by
    rw [← zmA hp.at_ j (by simp; omega),← zla j (Nat.le_refl _)]
    exact zfs _ fun i hi hw=>hp.objB hC ho hj hr (.inl (by rw [hrd]; simp)) hi hw
   rw [Nat.add_zero,this]
   exact h0
  | succ x ih =>
   intro hx
   rw [← Nat.add_assoc]
   simp only [Gt]
   split
   ·rename_i q
    by_cases e : x = 0
    ·subst e; rw [Nat.add_zero] at q; rw [hj] at q; exact absurd q.1 (by simp)
    ·rcases hp.lite j id k hl (j + x) (by omega) (by omega) q.2 with r | r
     ·exfalso
      have hio : ops[j + x]? = some ops[j + x]:=Array.getElem?_eq_getElem (by omega)
      obtain ⟨_,q2⟩:=zjS hp.reg (j + x) _ hio j r
      have:=q2 S hC (hC (j + x) _ hio q.1)
      rw [hj] at this; cases this
     ·exact r
   ·exact ih (by omega)
 have:=key (ops.size - j) (by omega)
 rwa [show j + (ops.size - j) = ops.size by omega] at this
def plus (S : Nat→Bool) (j : Nat) : Nat→Bool:=fun i=>S i || decide (i = j)
theorem zny {l : List Oper} {S : Nat→Bool} {j t : Nat} (hj : S j = false) (hlater : ∀ i,j < i→S i = true→zfV l i = some t→zfV l j≠some t) : ∀ k,Et l rs env (plus S j) k t = if j < k∧zfV l j = some t then (recAt rs j).d else Et l rs env S k t
 | 0=>rfl
 | k + 1=>by
  simp only [Et]
  rw [zny hj hlater k]
  by_cases e : k = j
  ·subst e
   by_cases hd : zfV l k = some t
   ·rw [if_pos ⟨by simp [plus],hd⟩,if_pos ⟨by omega,hd⟩]
   ·rw [if_neg (fun q=>hd q.2),if_neg (fun q=>hd q.2),if_neg (fun q=>hd q.2),if_neg (fun q=>hd q.2)]
  ·have hS : plus S j k = S k:=by simp [plus,e]
   rw [hS]
   by_cases hk : S k = true∧zfV l k = some t
   ·rw [if_pos hk,if_pos hk]
    rw [if_neg]
    rintro ⟨q1,q2⟩
    exact hlater k (by omega) hk.1 hk.2 q2
   ·rw [if_neg hk,if_neg hk]
    by_cases hd : j < k∧zfV l j = some t
    ·rw [if_pos hd,if_pos ⟨by omega,hd.2⟩]
    ·rw [if_neg hd,if_neg (fun q=>hd ⟨by omega,q.2⟩)]
theorem zoP {S : Nat→Bool} {j id : Nat} (hj : S j = false) (hlater : ∀ i,j < i→S i = true→id∈(recAt rs i).wr→id ∉ (recAt rs j).wr) : ∀ k,Gt rs H (plus S j) k id = if j < k∧id∈(recAt rs j).wr then (recAt rs j).H2[id]? else Gt rs H S k id
 | 0=>rfl
 | k + 1=>by
  simp only [Gt]
  rw [zoP hj hlater k]
  by_cases e : k = j
  ·subst e
   by_cases hd : id∈(recAt rs k).wr
   ·rw [if_pos ⟨by simp [plus],hd⟩,if_pos ⟨by omega,hd⟩]
   ·rw [if_neg (fun q=>hd q.2),if_neg (fun q=>hd q.2),if_neg (fun q=>hd q.2),if_neg (fun q=>hd q.2)]
  ·have hS : plus S j k = S k:=by simp [plus,e]
   rw [hS]
   by_cases hk : S k = true∧id∈(recAt rs k).wr
   ·rw [if_pos hk,if_pos hk]
    rw [if_neg]
    rintro ⟨q1,q2⟩
    exact hlater k (by omega) hk.1 hk.2 q2
   ·rw [if_neg hk,if_neg hk]
    by_cases hd : j < k∧id∈(recAt rs j).wr
    ·rw [if_pos hd,if_pos ⟨by omega,hd.2⟩]
    ·rw [if_neg hd,if_neg (fun q=>hd ⟨by omega,q.2⟩)]
theorem Plan.step (hp : Plan P n ops env H rs) {J0 : Inj} {F0 : Nat→Prop} {w0 : World} {S : Nat→Bool} {J : Inj} {F : Nat→Prop} {a : Act} {w : World} (hv : Inv P n ops env H rs J0 F0 w0 S J F a w) {j : Nat} {o : Oper} (ho : ops[j]? = some o) (hj : S j = false) (hr : ∀ a∈zcY o,S a = true)
  {K : Act→World→Prop} {Q : Exit→Act→World→Prop} (hK : ∀ J' F' a' w',Inv P n ops env H rs J0 F0 w0 (plus S j) J' F' a' w'→K a' w') :
  if Region.wanted o (yielded ops a.tmps) then o.wp P a w K Q else K (a.put o.dst undef) w:=by
 have hjs : j < ops.size:=by
  rcases Nat.lt_or_ge j ops.size with h | h
  ·exact h
  ·rw [Array.getElem?_eq_none h] at ho; cases ho
 have hjl : ops.toList[j]? = some o:=by simpa using ho
 obtain ⟨r,hr1,hr2⟩:=hp.at_ j o hjl
 have hrec : recAt rs j = r:=zfm hr1
 have hdst : zfV ops.toList j = o.dst:=zhu hjl
 have hclosed : Closed ops (plus S j):=fun i x hx hi b hb=>by
  simp only [plus,Bool.or_eq_true,decide_eq_true_eq] at hi ⊢
  rcases hi with hi | rfl
  ·exact .inl (hv.closed i x hx hi b hb)
  ·rw [ho] at hx; cases hx
   exact .inl (hr b hb)
 have hlaterT : ∀ t i,j < i→S i = true→zfV ops.toList i = some t→zfV ops.toList j≠some t:=fun t i hi hS hd hd'=>by
  have his : i < ops.size:=by
   rcases Nat.lt_or_ge i ops.size with h | h
   ·exact h
   ·rw [zfV,List.getElem?_eq_none (by simpa using h)] at hd; cases hd
  have hio : ops[i]? = some ops[i]:=Array.getElem?_eq_getElem his
  have hil : ops.toList[i]? = some ops[i]:=by rw [Array.getElem?_toList]; exact hio
  rw [zhu hil] at hd
  rw [hdst] at hd'
  rcases hp.cmp hio ho (by omega) with h | ⟨h,h'⟩ | ⟨h,_⟩
  ·have:=hp.before hv.closed ho hj hr his (by omega) h
   rw [hS] at this
   simp [upto] at this
   omega
  ·omega
  ·exact (Oper.apart_spec h).2.1 t hd' hd
 have hlaterG : ∀ id i,j < i→S i = true→id∈(recAt rs i).wr→id ∉ (recAt rs j).wr:=fun id i hi hS hw hw'=>by
  by_cases his : i < ops.size
  ·have:=hp.obj hv.closed ho hj hr (.inr hw') his hw
   rw [hS] at this
   simp [upto] at this
   omega
  ·have e : rs[i]? = none:=List.getElem?_eq_none (by rw [hp.len]; omega)
   simp [recAt,e] at hw
   cases hw
 -- the new state
 have mk : ∀ (v : Value) (J' : Inj) (F' : Nat→Prop) (w' : World),rep J' F' w' r.d v→StOK J' F' w' (upd (Gt rs H S ops.size) r.wr r.H2)→Ext J F w J' F' w'→(∀ id,J id = none→id ∉ r.wr→J' id = none)→Inv P n ops env H rs J0 F0 w0 (plus S j) J' F' (a.put o.dst v) w':=fun v J' F' w' q1 q2 q3 q4=>by
  refine ⟨hclosed,?_,?_,fun t=>?_,?_,hv.ext.trans q3,fun id hid=>?_⟩
  ·cases o.dst <;> exact hv.defers
  ·cases o.dst <;> simp [Act.put,hv.size]
  ·rw [zny hj (hlaterT t)]
   rw [hdst,hrec]
   cases hd : o.dst with
   | none=>rw [if_neg (by simp)]; exact zjz q3 (hv.tmps t)
   | some u =>
    simp only [hjs,true_and,Option.some.injEq,Act.put]
    rw [zmg _ _ _ _ (by rw [hv.size]; exact hr2.1 u hd)]
    by_cases e : t = u
    ·rw [if_pos e.symm,if_pos e]; exact q1
    ·rw [if_neg (fun q=>e q.symm),if_neg e]; exact zjz q3 (hv.tmps t)
  ·have : Gt rs H (plus S j) ops.size = upd (Gt rs H S ops.size) r.wr r.H2:=by
    funext id
    rw [zoP hj (hlaterG id)]
    simp only [hjs,true_and,hrec,upd]
   rw [this]; exact q2
  ·by_cases h1 : J id = none
   ·by_cases h2 : id∈r.wr
    ·exact .inr ⟨j,hjs,by simp [plus],by rw [hrec]; exact h2⟩
    ·exact absurd (q4 id h1 h2) hid
   ·rcases hv.dom id h1 with q | ⟨i,i1,i2,i3⟩
    ·exact .inl q
    ·exact .inr ⟨i,i1,by simp [plus,i2],i3⟩
 have opnd : ∀ x∈o.op.operands,rep J F w (evalD (envT ops.toList rs env j) x) (a.eval x):=fun x hx=>by
  ·cases x with
   | tmp t =>
    have ht : t∈o.looksAt ops:=by
     unfold Oper.looksAt
     refine List.mem_append.2 (.inl (List.mem_filterMap.2 ⟨.tmp t,by simpa using hx,rfl⟩))
    have:=hv.tmps t
    rw [hp.tmp hv.closed ho hj hr ht] at this
    exact this
   | const v =>
    cases v <;> simp only [evalD,lift,Act.eval,rep]
    rename_i cs
    exact ⟨cs.toList,by simp,zip cs.toList⟩
   | global g=>exact zlN hv.ok.lt g
   | func f=>simp only [evalD,Act.eval,rep]; exact ⟨[],[],rfl,by simp only [repL],by simp only [repL]⟩
 have exec : OpS P o (envT ops.toList rs env j) r.rd r.wr (heapT rs H j) r.d r.H2→o.wp P a w K Q:=fun hs=>by
  cases hlt : r.lt with
  | some q =>
   obtain ⟨id,k⟩:=q
   obtain ⟨e1,e2,e3,e4,e5⟩:=hr2.2.2.1 id k hlt
   obtain ⟨m,cs,c1,c2⟩:=hp.cell hv.closed ho hj hr (by rw [hrec]; exact hlt) (by rw [hrec]; exact e1) (by rw [hrec]; exact e4)
   rw [hrec] at c2
   obtain ⟨m0,cs0,c3,_⟩:=e4
   have hidl : id < (heapT rs H j).length:=by
    rcases Nat.lt_or_ge id (heapT rs H j).length with h | h
    ·exact h
    ·rw [List.getElem?_eq_none h] at c3; cases c3
   have hset : ((heapT rs H j).set id (.row m cs))[id]? = some (.row m cs):=by rw [List.getElem?_set]; simp [hidl]
   refine (e5 _ m cs hset c2).run J F w a _ hv.ok opnd (fun i hi=>?_) (fun i hi hw=>by cases hw) K Q fun v w' J' F' q1 q2 q3 q4=>hK _ _ _ _ (mk v J' F' w' q1 (by rw [zf3] at q2; rw [e2,zf3]; exact q2) q3 fun i h1 _=>q4 i h1 (by simp))
   rcases hi with hi | hi
   ·rw [List.mem_singleton] at hi; subst hi; rw [c1,hset]
   ·cases hi
  | none =>
   refine hs.run J F w a _ hv.ok opnd (fun id hid=>by rw [← hrec] at hid; exact hp.objs hv.closed ho hj hr (hid.imp_left fun h=>⟨h,by rw [hrec]; exact hlt⟩)) (fun id hid hw=>?_) K Q fun v w' J' F' q1 q2 q3 q4=>hK _ _ _ _ (mk v J' F' w' q1 q2 q3 q4)
   ·cases e : J id with
    | none=>rfl
    | some s =>
     rcases hv.dom id (by rw [e]; simp) with q | ⟨i,i1,i2,i3⟩
     ·have:=zhw hp.at_ j 0 (by omega) (by simp; omega)
      simp only [heapT] at this
      omega
     ·have h1:=hp.obj hv.closed ho hj hr (.inr (by rw [hrec]; exact hw)) i1 i3
      rw [i2] at h1
      have hij : i < j:=by simpa [upto] using h1.symm
      have:=wr_lt hp.at_ hij (by simp; omega) i3
      omega
 rcases hr2.2.2.2 with ⟨g1,g2⟩ | ⟨g,b,t,c,g1,g2,g3,g4⟩
 ·rw [if_pos (by simp [Region.wanted,g1])]
  exact exec g2
 ·have ht : t∈o.looksAt ops:=by
   unfold Oper.looksAt
   refine List.mem_append.2 (.inr ?_)
   rw [g1]
   simp only [g2,Option.toList_some,List.mem_singleton]
  have h3:=hv.tmps t
  rw [hp.tmp hv.closed ho hj hr ht,g3] at h3
  simp only [rep] at h3
  rcases g4 with ⟨rfl,g4⟩ | ⟨hne,rfl⟩
  ·rw [if_pos (zn2 g1 g2 h3)]
   exact exec g4
  ·rw [if_neg (by rw [ziS g1 g2 (by rw [h3]; exact hne)]; simp)]
   exact hK _ _ _ _ (mk undef J F w (by simp only [rep]) (by rw [zf3]; exact hv.ok) (Ext.refl _ _ _) fun _ h _=>h)
theorem zi0 {listed : Array Bool} {j : Nat} (h : j∈Region.ready .any ops listed) : ∃ o,ops[j]? = some o∧listed.getD j true = false∧∀ a∈zcY o,listed.getD a false = true:=by
 obtain ⟨h1,o,h2,h3⟩:=mem_ready.1 h
 refine ⟨o,h2,h1,fun a ha=>?_⟩
 unfold zcY at ha
 obtain ⟨e,he,rfl⟩:=List.mem_map.1 ha
 obtain ⟨he1,he2⟩:=List.mem_filter.1 he
 exact h3 e (by simpa using he1) he2
def zdN (listed : Array Bool) : Nat→Bool:=fun i=>listed.getD i false
theorem zlv {listed : Array Bool} {j : Nat} (hj : j < listed.size) : zdN (listed.setIfInBounds j true) = plus (zdN listed) j:=by
 funext i
 simp only [zdN,plus,Array.getD_eq_getD_getElem?]
 by_cases e : i = j
 ·subst e; simp [Array.getElem?_setIfInBounds,hj]
 ·rw [Array.getElem?_setIfInBounds_ne (fun q=>e q.symm)]; simp [e]
def ze3 (listed : Array Bool) : Nat:=(List.range listed.size).countP fun i=>!listed.getD i false
theorem zmT {listed : Array Bool} (hreg : regOK ops (masksOf [] ops.toList) [] ops.toList = true) (hs : listed.size = ops.size) (h : Region.ready .any ops listed = []) : ∀ i,i < ops.size→listed.getD i false = true:=by
 intro i
 induction i using Nat.strongRecOn with
 | _ i ih =>
  intro hi
  cases e : listed.getD i false with
  | true=>rfl
  | false =>
   have hio : ops[i]? = some ops[i]:=Array.getElem?_eq_getElem hi
   have hil : ops.toList[i]? = some ops[i]:=by rw [Array.getElem?_toList]; exact hio
   have hlt:=(zet ops.toList [] hreg i _ hil).1
   simp only [List.length_nil,Nat.zero_add] at hlt
   have : i∈Region.ready .any ops listed:=by
    refine mem_ready.2 ⟨?_,_,hio,fun ed hed hb=>?_⟩
    ·have : i < listed.size:=by omega
     simp only [Array.getD_eq_getD_getElem?,Array.getElem?_eq_getElem this,Option.getD_some] at e ⊢
     exact e
    ·have ha : ed.on∈zcY ops[i]:=List.mem_map.2 ⟨ed,List.mem_filter.2 ⟨by simpa using hed,hb⟩,rfl⟩
     exact ih _ (hlt _ ha) (by have:=hlt _ ha; omega)
   rw [h] at this; cases this
theorem plan_run (hp : Plan P n ops env H rs) {J0 : Inj} {F0 : Nat→Prop} {w0 : World} {Q : Exit→Act→World→Prop}
  (hQ : ∀ J F a w,Inv P n ops env H rs J0 F0 w0 (fun _=>true) J F a w→Q .normal a w) : ∀ (fuel : Nat) (listed : Array Bool) (J : Inj) (F : Nat→Prop) (a : Act) (w : World),listed.size = ops.size→ze3 listed≤fuel→Inv P n ops env H rs J0 F0 w0 (zdN listed) J F a w→wpAny P .any ops Q fuel listed a w:=by
 have done : ∀ (listed : Array Bool) (J : Inj) (F : Nat→Prop) (a : Act) (w : World),listed.size = ops.size→(∀ i,i < ops.size→listed.getD i false = true)→Inv P n ops env H rs J0 F0 w0 (zdN listed) J F a w→Q .normal a w:=fun listed J F a w hs hall hv=>by
  refine hQ J F a w ⟨fun _ _ _ _ _ _=>rfl,hv.defers,hv.size,fun t=>?_,?_,hv.ext,fun id hid=>(hv.dom id hid).imp_right fun ⟨i,i1,_,i3⟩=>⟨i,i1,rfl,i3⟩⟩
  ·have:=hv.tmps t
   have e : Et ops.toList rs env (zdN listed) ops.size t = Et ops.toList rs env (fun _=>true) ops.size t:=zgw ops.size fun i hi _=>hall i hi
   rwa [e] at this
  ·have e : Gt rs H (zdN listed) ops.size = Gt rs H (fun _=>true) ops.size:=funext fun id=>zfs ops.size fun i hi _=>hall i hi
   have:=hv.ok
   rwa [e] at this
 have key : ∀ (listed : Array Bool) (j : Nat),listed.size = ops.size→j∈Region.ready .any ops listed→j < ops.size∧listed.getD j false = false:=fun listed j hs hj=>by
  obtain ⟨o,h1,h2,_⟩:=zi0 hj
  have hjs : j < ops.size:=by
   rcases Nat.lt_or_ge j ops.size with h | h
   ·exact h
   ·rw [Array.getElem?_eq_none h] at h1; cases h1
  refine ⟨hjs,?_⟩
  have : j < listed.size:=by omega
  simp only [Array.getD_eq_getD_getElem?,Array.getElem?_eq_getElem this,Option.getD_some] at h2 ⊢
  exact h2
 intro fuel
 induction fuel with
 | zero =>
  intro listed J F a w hs hm hv
  have hall : ∀ i,i < ops.size→listed.getD i false = true:=fun i hi=>by
   have h0 : ze3 listed = 0:=by omega
   unfold ze3 at h0
   rw [List.countP_eq_zero] at h0
   have:=h0 i (by simp; omega)
   simpa using this
  refine ⟨?_,done listed J F a w hs hall hv⟩
  cases e : Region.ready .any ops listed with
  | nil=>rfl
  | cons j r =>
   obtain ⟨q1,q2⟩:=key listed j hs (by rw [e]; simp)
   rw [hall j q1] at q2; cases q2
 | succ fuel ih =>
  intro listed J F a w hs hm hv
  refine ⟨fun h=>done listed J F a w hs (zmT hp.reg hs h) hv,fun j hj=>?_⟩
  obtain ⟨o,h1,h2,h3⟩:=zi0 hj
  obtain ⟨q1,q2⟩:=key listed j hs hj
  have hm' : ze3 (listed.setIfInBounds j true)≤fuel:=by
   have hlt : ze3 (listed.setIfInBounds j true) < ze3 listed:=by
    unfold ze3
    rw [Array.size_setIfInBounds]
    have hmem : j∈List.range listed.size:=by simp; omega
    obtain ⟨l1,l2,hl⟩:=List.append_of_mem hmem
    have hnd : (List.range listed.size).Nodup:=List.nodup_range
    rw [hl] at hnd ⊢
    have hne1 : ∀ x∈l1,x≠j:=fun x hx e=>by
     subst e
     rw [List.nodup_append] at hnd
     exact hnd.2.2 x hx x (by simp) rfl
    have hne2 : ∀ x∈l2,x≠j:=fun x hx e=>by
     subst e
     rw [List.nodup_append] at hnd
     have:=hnd.2.1
     simp at this
     exact this.1 hx
    have hset : ∀ x,x≠j→(listed.setIfInBounds j true).getD x false = listed.getD x false:=fun x hx=>by
     simp only [Array.getD_eq_getD_getElem?]
     rw [Array.getElem?_setIfInBounds_ne (fun q=>hx q.symm)]
    rw [List.countP_append,List.countP_append,List.countP_cons,List.countP_cons]
    have c1 : l1.countP (fun i=>!(listed.setIfInBounds j true).getD i false) = l1.countP (fun i=>!listed.getD i false):=List.countP_congr fun x hx=>by rw [hset x (hne1 x hx)]
    have c2 : l2.countP (fun i=>!(listed.setIfInBounds j true).getD i false) = l2.countP (fun i=>!listed.getD i false):=List.countP_congr fun x hx=>by rw [hset x (hne2 x hx)]
    rw [c1,c2,q2]
    have : (listed.setIfInBounds j true).getD j false = true:=by
     simp only [Array.getD_eq_getD_getElem?]
     simp [Array.getElem?_setIfInBounds,show j < listed.size by omega]
    rw [this]
    simp
   omega
  have st:=hp.step hv h1 (by simpa [zdN] using q2) (by simpa [zdN] using h3) (K:=wpAny P .any ops Q fuel (listed.setIfInBounds j true)) (Q:=Q) fun J' F' a' w' hv'=>ih _ J' F' a' w' (by simp [hs]) hm' (by rw [zlv (by omega)]; exact hv')
  unfold wpOp
  simp only [h1]
  split
  ·rename_i hw; rw [if_pos hw] at st; exact .inl st
  ·rename_i hw; rw [if_neg hw] at st; exact st
theorem zlg {l : List POper} {Q : Exit→Act→World→Prop} {K' : Env→List AObj→Prop} (h : zjH P l env H K') {id : Nat} (hc : zik P n ops true = some l) {J : Inj} {F : Nat→Prop} {a : Act} {w : World} (hr : StRep n J F env H a w)
  (hQ : ∀ env' H' J' F' a' w',K' env' H'→StRep n J' F' env' H' a' w'→Ext J F w J' F' w'→Q .normal a' w') : (Code.region id ops true).wp P Q a w:=by
 simp only [zik] at hc
 split at hc
 ·rename_i hb
  rw [Bool.and_eq_true] at hb
  unfold zjH at h
  obtain ⟨rs,env',H',h1,h2,h3⟩:=zkx ops.toList _ l hc env H _ h
  obtain ⟨r1,r2,r3,r4⟩:=h1.at
  have hlen : rs.length = ops.size:=by simpa using r1
  have hllen : l.length = ops.size:=by rw [ziT _ _ _ hc]; simp
  have ent : ∀ i,i < ops.size→(rs.map Rec.entry)[i]? = some (recAt rs i).entry:=fun i hi=>by
   have e1:=List.getElem?_eq_getElem (show i < rs.length by omega)
   rw [List.getElem?_map,e1,zfm e1]; rfl
  have bit : ∀ j (hj : j < l.length) i,zji l[j].mask i = true→Bef ops i j:=fun j hj i h=>by
   have hm:=zhC _ _ _ hc j _ (List.getElem?_eq_getElem hj)
   rw [hm] at h
   exact zm1 h
  have hsub : ∀ r : Rec,∀ b,clash (liteE r.entry) b = true→clash (r.rd,r.wr) b = true:=fun r b h=>by
   rw [zgy] at h ⊢
   rw [zhy] at h
   refine h.imp_right fun h=>h.imp_right fun ⟨x,q1,q2⟩=>⟨x,q1,?_⟩
   unfold liteE at q2
   split at q2
   ·cases q2
   ·exact q2
  have hK : K' env' H'∧Plan P n ops env H rs:=by
   split at h2
   ·rename_i hmem
    have strict : ∀ i j,i < j→j < ops.size→clash ((recAt rs i).rd,(recAt rs i).wr) ((recAt rs j).rd,(recAt rs j).wr) = true→Bef ops i j:=fun i j hij hj hcl=>by
     have hpl : j < l.length:=by omega
     refine bit j hpl i (zi7 l [] _ hmem j l[j] (recAt rs j).entry (List.getElem?_eq_getElem hpl) (ent j hj) i ((recAt rs i).rd,(recAt rs i).wr) (by simpa using hij) ?_ hcl)
     rw [List.nil_append,List.getElem?_map,ent i (by omega)]; rfl
    exact ⟨h2,r4,hlen,hb.2,fun i j hij hj hcl=>strict i j hij hj (hsub _ _ hcl),fun i id k hl j hij hj hw=>.inl (strict i j hij hj ((zgy _ _).2 (.inr (.inr ⟨id,hw,by
     obtain ⟨r,q1,q2⟩:=r4 i _ (List.getElem?_eq_getElem (show i < ops.toList.length by simp; omega))
     rw [zfm q1] at hl ⊢
     rw [(q2.2.2.1 id k hl).1]; simp⟩))))⟩
   ·split at h2
    ·rename_i hmem
     obtain ⟨hk,hw⟩:=zfO l _ 0 [] h2 (by simp; omega)
     refine ⟨hk,r4,hlen,hb.2,fun i j hij hj hcl=>?_,fun i id k hl j hij hj hwr=>?_⟩
     ·have hpl : j < l.length:=by omega
      refine bit j hpl i (zfT l [] _ hmem j l[j] (recAt rs j).entry (List.getElem?_eq_getElem hpl) (ent j hj) i (liteE (recAt rs i).entry) (by simpa using hij) ?_ hcl)
      rw [List.nil_append,List.getElem?_map,ent i (by omega)]; rfl
     ·have hpl : j < l.length:=by omega
      have:=(hw j l[j] _ _ _ _ (List.getElem?_eq_getElem hpl) (ent j hj)).2 i ((recAt rs i).rd,(recAt rs i).wr) (id,k) (recAt rs i).d (recAt rs i).H2 hij (by rw [ent i (by omega),← hl]; rfl)
      rw [Nat.zero_add] at this
      rcases this with q | q | q
      ·exact .inl (bit j hpl i q)
      ·exact absurd hwr q
      ·exact .inr q
    ·exact h2.elim
  obtain ⟨h2,hp⟩:=hK
  ·skip
   refine wp_region_any hb.1 (plan_run hp (J0:=J) (F0:=F) (w0:=w) (fun J' F' a' w' hv=>?_) _ _ J F a _ (by simp) ?_ ?_)
   ·refine hQ env' H' J' F' a' w' h2 ⟨hv.defers,hv.size,fun t=>?_,?_,fun i hi=>?_⟩ hv.ext
    ·have:=hv.tmps t
     rw [zl1 hp.at_ _ (by simp)] at this
     rw [← r2]
     simpa using this
    ·have:=hv.ok
     have e : Gt rs H (fun _=>true) ops.size = fun i=>H'[i]?:=funext fun i=>by
      rw [zmA hp.at_ _ (by simp),← r3]; simp
     rwa [e] at this
    ·rcases hv.dom i hi with q | ⟨k,k1,_,k3⟩
     ·have:=zhw hp.at_ ops.size 0 (by omega) (by simp)
      simp only [heapT] at this
      rw [← r3]; simp; omega
     ·have:=wr_lt hp.at_ k1 (by simp) k3
      rw [← r3]; simpa using this
   ·unfold ze3
    refine Nat.le_trans List.countP_le_length ?_
    simp
   ·have hf : zdN (Array.replicate ops.size false) = fun _=>false:=by
     funext i
     simp only [zdN,Array.getD_eq_getD_getElem?,Array.getElem?_replicate]
     split <;> rfl
    rw [hf]
    have e1 : ∀ k t,Et ops.toList rs env (fun _=>false) k t = lookD t env:=fun k t=>by
     induction k with
     | zero=>rfl
     | succ k ih=>simp only [Et]; rw [if_neg (by simp)]; exact ih
    have e2 : ∀ k i,Gt rs H (fun _=>false) k i = H[i]?:=fun k i=>by
     induction k with
     | zero=>rfl
     | succ k ih=>simp only [Gt]; rw [if_neg (by simp)]; exact ih
    have hd : Ext J F w J F { w with drawn:=w.drawn + 1 }:=Ext.drew
    refine ⟨(fun _ _ _ h=>by cases h),hr.defers,hr.size,fun t=>?_,?_,hd,fun i hi=>.inl (hr.dom i hi)⟩
    ·rw [e1]; exact zjz hd (hr.tmps t)
    ·have : Gt rs H (fun _=>false) ops.size = fun i=>H[i]?:=funext (e2 _)
     rw [this]
     exact hr.ok.drew
 ·cases hc
end
end
section
open Go.RowKit
def conc (n : Nat) (J : Inj) (F : Nat→Prop) (w : World) (Q : Post) : Exit→Act→World→Prop:=fun e a' w'=>∃ env' H' J' F',Q e env' H'∧StRep n J' F' env' H' a' w'∧Ext J F w J' F' w'
section
variable {P : Program} {n : Nat}
theorem zc6 {p : PC} {Q : Post} {env : Env} {H : List AObj} (h : PWp P n p Q env H) {c : Code} (hc : comp P n c = some p.bare) {J : Inj} {F : Nat→Prop} {a : Act} {w : World} (hr : StRep n J F env H a w) : c.wp P (conc n J F w Q) a w:=by
 unfold PWp at h
 exact h c hc J F a w hr
theorem zeM {p : PC} {Q : Post} {env : Env} {H : List AObj} (h : ∀ (c : Code),comp P n c = some p.bare→∀ (J : Inj) (F : Nat→Prop) (a : Act) (w : World),StRep n J F env H a w→c.wp P (conc n J F w Q) a w) : PWp P n p Q env H:=by
 unfold PWp
 exact h
theorem ziB {J J' : Inj} {F F' : Nat→Prop} {w w' : World} {Q : Post} {e : Exit} {a : Act} {w'' : World} (hx : Ext J F w J' F' w') (h : conc n J' F' w' Q e a w'') : conc n J F w Q e a w'' :=
 let ⟨env',H',J'',F'',q1,q2,q3⟩:=h
 ⟨env',H',J'',F'',q1,q2,hx.trans q3⟩
theorem zgM {env : Env} : ∀ (env' : Env),sameE env env'→∀ t,lookD t env' = lookD t env∨lookD t env' = .junk
 | [],_,t=>.inr rfl
 | (k,d) :: r,h,t=>by
  simp only [sameE] at h
  rw [zc2]
  split
  ·rename_i e; rw [e]; exact .inl h.1.symm
  ·exact zgM r h.2 t
theorem zml {env env' : Env} {H : List AObj} (h : sameE env env') : St.le n env H env' H:=fun J F a w hr =>
 ⟨J,F,⟨hr.defers,hr.size,fun t=>by
  rcases zgM env' h t with e | e
  ·rw [e]; exact hr.tmps t
  ·rw [e]; simp only [rep],hr.ok,hr.dom⟩,Ext.refl _ _ _⟩
theorem le_trans {env env' env'' : Env} {H H' H'' : List AObj} (h : St.le n env H env' H') (k : St.le n env' H' env'' H'') : St.le n env H env'' H'':=fun J F a w hr=>by
 obtain ⟨J',F',h1,h2⟩:=h J F a w hr
 obtain ⟨J'',F'',k1,k2⟩:=k J' F' a w h1
 exact ⟨J'',F'',k1,h2.trans k2⟩
theorem zoZ {c : Code} (h : comp P n c = some .skip) : c = .skip:=by
 cases c <;> simp [comp] at h
 ·rfl
 all_goals first | (obtain ⟨_,_,h⟩:=h; cases h) | (split at h <;> simp at h) | skip
theorem comp_seq {c : Code} {x y : PC} (h : comp P n c = some (.seq x y)) : ∃ a b,c = .seq a b∧comp P n a = some x∧comp P n b = some y:=by
 cases c <;> simp [comp] at h
 case seq a b =>
  split at h
  ·rename_i e1 e2; simp at h; obtain ⟨rfl,rfl⟩:=h; exact ⟨a,b,rfl,e1,e2⟩
  ·cases h
 all_goals first | (obtain ⟨_,_,h⟩:=h; cases h) | (split at h <;> simp at h)
theorem znz {c : Code} {z : Operand} {x y : PC} (h : comp P n c = some (.cond z x y)) : ∃ a b,c = .cond z a b∧comp P n a = some x∧comp P n b = some y:=by
 cases c <;> simp [comp] at h
 case cond z' a b =>
  split at h
  ·rename_i e1 e2; simp at h; obtain ⟨rfl,rfl,rfl⟩:=h; exact ⟨a,b,rfl,e1,e2⟩
  ·cases h
 all_goals first | (obtain ⟨_,_,h⟩:=h; cases h) | (split at h <;> simp at h)
theorem zm7 {c : Code} {id : Nat} {x : PC} (h : comp P n c = some (.block id x)) : ∃ a,c = .block id a∧comp P n a = some x:=by
 cases c <;> simp [comp] at h
 case block id' a=>obtain ⟨h1,rfl⟩:=h; exact ⟨a,rfl,h1⟩
 all_goals first | (split at h <;> simp at h)
theorem zkv {c : Code} {x : PC} (h : comp P n c = some (.loop x)) : ∃ a,c = .loop a∧comp P n a = some x:=by
 cases c <;> simp [comp] at h
 case loop a=>exact ⟨a,rfl,h⟩
 all_goals first | (split at h <;> simp at h)
theorem znW {c : Code} {id : Nat} (h : comp P n c = some (.exit id)) : c = .exit id:=by
 cases c <;> simp [comp] at h
 case exit id'=>rw [h]
 all_goals first | (split at h <;> simp at h)
theorem comp_ret {c : Code} (h : comp P n c = some .ret) : c = .ret:=by
 cases c <;> simp [comp] at h
 ·first | rfl | (split at h <;> simp at h)
 all_goals first | rfl | (split at h <;> simp at h)
theorem comp_ops {c : Code} {l : List POper} {d : Bool} (h : comp P n c = some (.ops l d)) : ∃ id ops,c = .region id ops d∧zik P n ops d = some l:=by
 cases c <;> simp [comp] at h
 case region id ops d'=>obtain ⟨l',h1,rfl,rfl⟩:=h; exact ⟨id,ops,rfl,h1⟩
 all_goals first | (split at h <;> simp at h)
theorem zng {l : List POper} {Q : Post} {env : Env} {H : List AObj} (h : zjH P l env H fun env H=>Q .normal env H) {id : Nat} {ops : Array Oper} (hc : zik P n ops true = some l) {J : Inj} {F : Nat→Prop} {a : Act} {w : World} (hr : StRep n J F env H a w) :
  (Code.region id ops true).wp P (conc n J F w Q) a w:=zlg h hc hr fun env' H' J' F' a' w' q1 q2 q3=>⟨env',H',J',F',q1,q2,q3⟩
theorem zfj : ∀ (p : PC) (Q : Post) (env : Env) (H : List AObj),pw P n p Q env H→PWp P n p Q env H
 | .skip,Q,env,H,h=>zeM fun c hc J F a w hr=>by
  rw [zoZ hc]
  exact wp_skip ⟨env,H,J,F,h,hr,Ext.refl _ _ _⟩
 | .ops l d,Q,env,H,h=>zeM fun c hc J F a w hr=>by
  obtain ⟨id,ops,rfl,h1⟩:=comp_ops hc
  cases d with
  | false =>
   refine wp_region ?_
   rw [List.range_eq_range']
   have:=zhc (P:=P) (ops:=ops) (Q:=conc n J F w Q) ops.toList 0 [] l (fun j=>by simp) h1 env H J F a w h hr fun env' H' J' F' a' w' q1 q2 q3=>⟨env',H',J',F',q1,q2,q3⟩
   simpa using this
  | true=>exact zng h h1 hr
 | .seq x y,Q,env,H,h=>zeM fun c hc J F a w hr=>by
  obtain ⟨a',b',rfl,h1,h2⟩:=comp_seq hc
  refine wp_seq (wp_mono (zc6 (zfj x _ env H h) h1 hr) fun e a1 w1 ⟨env',H',J',F',q1,q2,q3⟩=>?_)
  cases e with
  | normal=>exact wp_mono (zc6 (zfj y Q env' H' q1) h2 q2) fun e a2 w2 q=>ziB q3 q
  | _=>exact ⟨env',H',J',F',q1,q2,q3⟩
 | .cond z x y,Q,env,H,h=>zeM fun c hc J F a w hr=>by
  obtain ⟨a',b',rfl,h1,h2⟩:=znz hc
  simp only [pw,zbf] at h
  split at h
  ·rename_i t e
   have hz:=hr.eval z
   rw [e] at hz
   simp only [rep] at hz
   obtain ⟨k1,k2⟩:=ifK_iff.1 h
   refine wp_cond hz ?_
   cases t with
   | true=>exact zc6 (zfj x Q env H (k1 rfl)) h1 hr
   | false=>exact zc6 (zfj y Q env H (k2 rfl)) h2 hr
  ·exact h.elim
 | .block id x,Q,env,H,h=>zeM fun c hc J F a w hr=>by
  obtain ⟨a',rfl,h1⟩:=zm7 hc
  refine wp_block (wp_mono (zc6 (zfj x _ env H h) h1 hr) fun e a1 w1 ⟨env',H',J',F',q1,q2,q3⟩=>?_)
  cases e with
  | exit id' =>
   simp only [Exit.inBlock]
   by_cases e : id' = id
   ·subst e
    rw [if_pos rfl]
    have hb : Nat.beq id' id' = true:=by simp
    simp only [hb] at q1
    exact ⟨env',H',J',F',q1,q2,q3⟩
   ·rw [if_neg e]
    have hb : Nat.beq id' id = false:=by
     cases h : Nat.beq id' id
     ·rfl
     ·exact absurd (Nat.eq_of_beq_eq_true h) e
    simp only [hb] at q1
    exact ⟨env',H',J',F',q1,q2,q3⟩
  | _=>exact ⟨env',H',J',F',q1,q2,q3⟩
 | .loop x,Q,env,H,h=>h
 | .exit id,Q,env,H,h=>zeM fun c hc J F a w hr=>by
  rw [znW hc]
  exact wp_exit ⟨env,H,J,F,h,hr,Ext.refl _ _ _⟩
 | .ret,Q,env,H,h=>zeM fun c hc J F a w hr=>by
  rw [comp_ret hc]
  exact wp_ret ⟨env,H,J,F,h,hr,Ext.refl _ _ _⟩
 | .stop x,Q,env,H,h=>zeM fun c hc J F a w hr=>zc6 h hc hr
theorem zl9 {p : PC} {Q : Post} {env : Env} {H : List AObj} {ι : Type} (E : ι→Env) (O : ι→List AObj) (G : ι→Prop) (m : ι→Nat) (i : ι) (h0 : G i) (h1 : St.le n env H (E i) (O i))
  (round : ∀ j,G j→PWp P n p (loopQ n Q E O G m (m j)) (E j) (O j)) : PWp P n (.loop p) Q env H:=zeM fun c hc J F a w hr=>by
 obtain ⟨c',rfl,hc'⟩:=zkv hc
 obtain ⟨J0,F0,k1,k2⟩:=h1 J F a w hr
 refine wp_loop_ghost (fun k a' w'=>∃ j J' F',G j∧m j = k∧StRep n J' F' (E j) (O j) a' w'∧Ext J F w J' F' w') (m i) ⟨i,J0,F0,h0,rfl,k1,k2⟩ fun k a1 w1 ⟨j,J1,F1,g1,g2,g3,g4⟩=>?_
 refine wp_mono (zc6 (round j g1) hc' g3) fun e a2 w2 ⟨env',H',J',F',q1,q2,q3⟩=>?_
 cases e with
 | normal =>
  obtain ⟨j',r1,r2,r3⟩:=q1
  obtain ⟨J2,F2,t1,t2⟩:=r3 J' F' a2 w2 q2
  exact ⟨m j',by omega,j',J2,F2,r1,rfl,t1,(g4.trans q3).trans t2⟩
 | _=>exact ⟨env',H',J',F',q1,q2,g4.trans q3⟩
theorem zhG : ∀ (args : List D) (k t : Nat),lookD t (params k args) = if k≤t then (args[t - k]?).getD .junk else .junk
 | [],k,t=>by simp [params,lookD]
 | d :: r,k,t=>by
  simp only [params]
  rw [zc2,zhG r (k + 1) t]
  by_cases h1 : t = k
  ·subst h1; simp
  ·rw [if_neg h1]
   by_cases h2 : k + 1≤t
   ·rw [if_pos h2,if_pos (by omega),show t - k = t - (k + 1) + 1 by omega,List.getElem?_cons_succ]
   ·rw [if_neg h2,if_neg (by omega)]
section
variable {J J' : Inj} {F : Nat→Prop} {w : World}
mutual
theorem zhv : ∀ (d : D) (v : Value),Pure d→rep J F w d v→rep J' F w d v
 | .junk,v,_,_=>by simp only [rep]
 | .sc u,v,_,h=>by simpa only [rep] using h
 | .loc ..,v,hp,_=>by simp only [Pure] at hp
 | .elt ..,v,hp,_=>by simp only [Pure] at hp
 | .own ..,v,hp,_=>by simp only [Pure] at hp
 | .ipt cs,v,hp,h=>by
  simp only [Pure] at hp
  simp only [rep] at h ⊢
  obtain ⟨b,o,h1,h2,h3⟩:=h
  exact ⟨b,o,h1,h2,zgI b cs o hp h3⟩
 | .lst esz xs,v,hp,h=>by
  simp only [Pure] at hp
  simp only [rep] at h ⊢
  obtain ⟨A,n,c,h1,h2,hc,h3⟩:=h
  exact ⟨A,n,c,h1,h2,hc,h3.imp_right fun ⟨b,o,h4,h5,h6⟩=>⟨b,o,h4,h5,zkV b esz xs o hp h6⟩⟩
 | .fn f a b,v,hp,h=>by
  simp only [Pure] at hp
  simp only [rep] at h ⊢
  obtain ⟨vs,us,h1,h2,h3⟩:=h
  exact ⟨vs,us,h1,zen a vs hp.1 h2,zen b us hp.2 h3⟩
 | .ifc t d,v,hp,h=>by
  simp only [Pure] at hp
  simp only [rep] at h ⊢
  obtain ⟨u,h1,h2⟩:=h
  exact ⟨u,h1,zhv d u hp h2⟩
 | .agg cs,v,hp,h=>by
  simp only [Pure] at hp
  simp only [rep] at h ⊢
  obtain ⟨vs,h1,h2⟩:=h
  exact ⟨vs,h1,zen cs vs hp h2⟩
 | .tup cs,v,hp,h=>by
  simp only [Pure] at hp
  simp only [rep] at h ⊢
  obtain ⟨vs,h1,h2⟩:=h
  exact ⟨vs,h1,zen cs vs hp h2⟩
theorem zen : ∀ (d : List D) (v : List Value),zao d→repL J F w d v→repL J' F w d v
 | [],v,_,h=>by simpa only [repL] using h
 | d :: r,v,hp,h=>by
  simp only [zao] at hp
  simp only [repL] at h ⊢
  obtain ⟨u,us,h1,h2,h3⟩:=h
  exact ⟨u,us,h1,zhv d u hp.1 h2,zen r us hp.2 h3⟩
theorem zgI (b : Nat) : ∀ (d : List D) (o : Nat),zao d→repCells J F w b d o→repCells J' F w b d o
 | [],o,_,h=>by simp only [repCells]
 | d :: r,o,hp,h=>by
  simp only [zao] at hp
  simp only [repCells] at h ⊢
  obtain ⟨⟨u,h1,h2,h3⟩,h4⟩:=h
  exact ⟨⟨u,h1,h2,zhv d u hp.1 h3⟩,zgI b r (o + 1) hp.2 h4⟩
theorem zkV (b esz : Nat) : ∀ (d : List (List D)) (o : Nat),zbd d→zaJ J F w b esz d o→zaJ J' F w b esz d o
 | [],o,_,h=>by simp only [zaJ]
 | d :: r,o,hp,h=>by
  simp only [zbd] at hp
  simp only [zaJ] at h ⊢
  exact ⟨h.1,zgI b d o hp.1 h.2.1,zkV b esz r (o + esz) hp.2 h.2.2⟩
end
end
def zd4 (tmps : Array Value) : ResultVar→Sem Value
 | .tmp t=>pure (tmps.getD t undef)
 | .cell a t=>do loadVar t (← asAddr (tmps.getD a undef))
theorem zh7 {t : TypeId} {a : Addr} {w : World} {v : Value} (h : (Instr.loadAt t (.pointer (some a))).run P w = .ok v w) : (loadVar t a).run P w = .ok v w:=by
 simpa [Instr.loadAt,Instr.sureAddr] using h
theorem zih {J : Inj} {F : Nat→Prop} {env : Env} {H : List AObj} {a : Act} {w : World} (hr : StRep n J F env H a w) : ∀ (l : List ResultVar) (rs : List RV) (K' : List D→Prop),crvs P l = some rs→zda env H rs K' →
  ∃ ds vs,K' ds∧(l.mapM (zd4 a.tmps)).run P w = .ok vs w∧repL J F w ds vs
 | [],rs,K',hc,h=>by
  simp [crvs] at hc; subst hc
  exact ⟨[],[],h,by simp [pure,Sem.run],by simp only [repL]⟩
 | r :: l,rs,K',hc,h=>by
  simp only [crvs] at hc
  split at hc
  ·rename_i x y e1 e2
   cases hc
   have step : ∀ (d : D) (v : Value),(zd4 a.tmps r).run P w = .ok v w→rep J F w d v→zda env H y (fun ds=>K' (d :: ds))→∃ ds vs,K' ds∧((r :: l).mapM (zd4 a.tmps)).run P w = .ok vs w∧repL J F w ds vs:=fun d v q1 q2 q3=>by
    obtain ⟨ds,vs,k1,k2,k3⟩:=zih hr l y _ e2 q3
    refine ⟨d :: ds,v :: vs,k1,?_,by simp only [repL]; exact ⟨v,vs,rfl,q2,k3⟩⟩
    rw [List.mapM_cons]
    simp only [Sem.run_bind,q1,Result.andThen_ok,k2,pure,Sem.run]
   cases r with
   | tmp t =>
    simp [crv] at e1; subst e1
    simp only [zda,zeb] at h
    exact step _ _ (by simp [zd4,pure,Sem.run]) (hr.tmps t) h
   | cell t ty =>
    simp only [crv] at e1
    have ptr : ∀ id off m cs,lookD t env = .loc id off→H[id]? = some (.row m cs)→∃ b o,a.tmps.getD t undef = .pointer (some ⟨b,o,none⟩)∧repCells J F w b (cs.drop off) o:=fun id off m cs q1 q2=>by
     have q3:=hr.tmps t
     rw [q1] at q3
     exact zgV (P:=P) (env:=env) q2 J F w _ _ hr.ok (fun _ _=>rfl) q3
    split at e1
    ·rename_i hag
     cases e1
     simp only [zda,zeb] at h
     split at h
     ·rename_i id off e3
      obtain ⟨ob,h1,h2⟩:=(za2 _ _ _).1 h
      split at h2
      ·rename_i m cs
       obtain ⟨h3,h4⟩:=(zdG _ _ _).1 h2
       obtain ⟨h5,h6⟩:=(zdE _ _ _).1 h4
       obtain ⟨b,o,p1,p2⟩:=ptr id off m cs e3 h1
       have p3:=zeJ p2 0 (P.cellsOf ty)
       simp only [List.drop_zero,Nat.add_zero] at p3
       obtain ⟨vs,p4,p5,_⟩:=zds _ _ p3
       have hl : vs.length = P.cellsOf ty:=by rw [zbw _ _ p4,List.length_take]; omega
       refine step _ (.agg vs.toArray) ?_ (by simp only [rep]; exact ⟨vs,rfl,p4⟩) h6
       simp only [zd4,p1,asAddr,pure,Sem.run_bind,Sem.run,Result.andThen_ok]
       exact zh7 (zg6 hag hl p5)
      ·exact h2.elim
     ·exact h.elim
    ·rename_i hag
     cases e1
     simp only [zda,zeb] at h
     split at h
     ·rename_i id off e3
      obtain ⟨ob,h1,h2⟩:=(za2 _ _ _).1 h
      split at h2
      ·rename_i m cs
       obtain ⟨c,h3,h4⟩:=(zee _ _ _).1 h2
       obtain ⟨b,o,p1,p2⟩:=ptr id off m cs e3 h1
       obtain ⟨u,p3,_,p4⟩:=zbs _ o 0 c (by rw [List.getElem?_drop]; exact h3) p2
       refine step _ u ?_ p4 h4
       simp only [zd4,p1,asAddr,pure,Sem.run_bind,Sem.run,Result.andThen_ok]
       exact zh7 (zg5 hag (by simpa using p3))
      ·exact h2.elim
     ·exact h.elim
    ·cases e1
  ·cases hc
theorem zfL {fn : Func} {rs : List RV} (hrs : crvs P fn.results.toList = some rs) {J : Inj} {F : Nat→Prop} {env : Env} {H : List AObj} {a : Act} {w : World} (hr : StRep n J F env H a w) {R : D→List AObj→Prop} {e : Exit} (he : e = .normal∨e = .ret) (h : retK rs R e env H) :
  ∃ d v,R d H∧(results fn a.tmps).run P w = .ok v w∧rep J F w d v:=by
 have h' : zda env H rs (fun ds=>match ds with
  | [d]=>R d H
  | ds=>R (.tup ds) H):=by rcases he with rfl | rfl <;> exact h
 obtain ⟨ds,vs,k1,k2,k3⟩:=zih hr fn.results.toList rs _ hrs h'
 have run : (results fn a.tmps).run P w = .ok (if h : vs.length = 1 then vs[0] else .tuple vs.toArray) w:=by
  have e1 : (fn.results.mapM (zd4 a.tmps)).run P w = .ok vs.toArray w:=by
   rw [Array.mapM_eq_mapM_toList]
   simp [k2]
  have e3 : results fn a.tmps = fn.results.mapM (zd4 a.tmps) >>= fun vs=>pure (if h : vs.size = 1 then vs[0] else .tuple vs):=by
   unfold results
   congr 1
  rw [e3,Sem.run_bind,e1]
  simp [pure,Sem.run]
 have hl:=zbw _ _ k3
 match ds,k1,k3,hl with
 | [d],k1,k3,hl =>
  simp only [repL] at k3
  obtain ⟨v,us,rfl,q1,rfl⟩:=k3
  exact ⟨d,v,k1,by rw [run]; simp,q1⟩
 | [],k1,k3,hl =>
  refine ⟨.tup [],_,k1,run,?_⟩
  have : vs = []:=List.length_eq_zero_iff.1 hl
  subst this
  simp only [rep]
  exact ⟨[],by simp,k3⟩
 | d :: d' :: r,k1,k3,hl =>
  refine ⟨.tup (d :: d' :: r),_,k1,run,?_⟩
  simp only [List.length_cons] at hl
  rw [dif_neg (by omega)]
  simp only [rep]
  exact ⟨vs,rfl,k3⟩
theorem zil {J : Inj} {F : Nat→Prop} {w : World} {args : List D} {vs : List Value} {H : List AObj} (hn : args.length≤n) (h : repL J F w args vs) (hok : StOK J F w (fun i=>H[i]?)) (hd : ∀ id,J id≠none→id < H.length) :
  StRep n J F (params 0 args) H ⟨vs.toArray ++ Array.replicate (n - vs.toArray.size) undef,[]⟩ w where
 defers:=rfl
 size:=by simp [zbw _ _ h]; omega
 tmps t:=by
  rw [zhG]
  simp only [Nat.zero_le,if_true,Nat.sub_zero]
  have hl:=zbw _ _ h
  cases e : args[t]? with
  | none=>simp only [Option.getD_none,rep]
  | some d =>
   obtain ⟨v,h1,h2⟩:=zco _ _ _ _ e h
   have ht : t < vs.length:=by
    rcases Nat.lt_or_ge t vs.length with h | h
    ·exact h
    ·rw [List.getElem?_eq_none h] at h1; cases h1
   simp only [Option.getD_some,Array.getD_eq_getD_getElem?]
   rw [Array.getElem?_append_left (by simpa using ht)]
   simp [h1,h2]
 ok:=hok
 dom:=hd
theorem zjM {f : FuncId} {rs : List RV} {p : PC} (hf : FunOK P f n rs p) : okFun P f:=by
 obtain ⟨fn,h1,_,h3,_,h5⟩:=hf.out
 refine ⟨fn,h1,h3,?_⟩
 cases e : fn.body with
 | none=>rw [e] at h5; cases h5
 | some c=>rfl
theorem zn5 {F : Nat→Prop} {w : World} (h : FOK F w) (G : Nat→Option AObj) : StOK noInj F w G:=⟨(fun _ _ h=>by cases h),(fun _ _ _ _ _ h=>by cases h),(fun _ _ _ _ h=>by cases h),h⟩
theorem zag {f : FuncId} {rs : List RV} {p : PC} {args : List D} {d : D} (hf : FunOK P f n rs p) (hn : args.length≤n) (hp : zao args)
  (h : PWp P n p (retK rs fun r H=>Deep H r d) (params 0 args) []) (hd : Pure d) : PCall P f args d:=by
 refine ⟨zjM hf,fun J F w vs hF hargs=>?_⟩
 obtain ⟨fn,h1,h2,h3,h4,h5⟩:=hf.out
 have hargs' : repL noInj F w args vs:=zen args vs hp hargs
 cases e : fn.body with
 | none=>rw [e] at h5; cases h5
 | some c =>
  rw [e] at h5
  simp only [Option.bind_some] at h5
  refine calls_of_wp h1 e ?_
  rw [h2]
  refine wp_mono (zc6 h h5 (zil hn hargs' (zn5 hF _) (fun id hid=>absurd rfl hid))) fun e' a' w' ⟨env',H',J',F',q1,q2,q3⟩=>?_
  have fin : e' = .normal∨e' = .ret→a'.defers = []∧∃ v,(results fn a'.tmps).run P w' = .ok v w'∧∃ v' F'',Ending.returned v = Ending.returned v'∧(∀ b,F'' b→b < w'.heap.size)∧rep noInj F'' w' d v'∧Ext noInj F w noInj F'' w':=fun he=>by
   obtain ⟨r,v,k1,k2,k3⟩:=zfL h4 q2 he q1
   refine ⟨q2.defers,v,k2,v,fun b=>F' b∨Owns J' b,rfl,fun b hb=>hb.elim (q2.ok.lt b) fun ⟨i,s,hi,hs⟩=>q2.ok.blk_lt hi hs,zhv d v hd (zfd q2.ok (fun _ _ h=>h) _ _ _ k1 k3),?_⟩
   exact ⟨q3.os,q3.tape,q3.output,q3.size,q3.block,q3.frozen,Inj.le_refl _,fun b hb=>.inl (q3.grow b hb),fun b hb=>absurd hb (zd2 b),fun b hb=>by
    rcases hb with hb | hb
    ·exact q3.growBack b hb
    ·exact .inr ((q3.ownsBack b hb).imp_left fun q=>absurd q (zd2 b))⟩
  cases e' with
  | normal=>exact fin (.inl rfl)
  | ret=>exact fin (.inr rfl)
  | exit id=>exact q1.elim
  | goto l=>exact q1.elim
  | panic ch=>exact q1.elim
  | outgrown=>exact q1.elim
end
end
section
open Go.RowKit
section
variable {P : Program} {n : Nat}
theorem zb4 {f : FuncId} {rs : List RV} {p : PC} {args : List D} {H : List AObj} {d : D} {H2 : List AObj} (hf : FunOK P f n rs p) (hn : args.length≤n) (hlen : H.length≤H2.length)
  (h : PWp P n p (retK rs fun r Hf=>r = d∧Hf.take H2.length = H2∧H2.length≤Hf.length) (params 0 args) H) (hd : zai H2.length d) (hH : ∀ o∈H2,o.under H2.length) : ACall P f args H d H2:=by
 refine ⟨zjM hf,hlen,fun J F w vs hok hdom hargs=>?_⟩
 obtain ⟨fn,h1,h2,h3,h4,h5⟩:=hf.out
 cases e : fn.body with
 | none=>rw [e] at h5; cases h5
 | some c =>
  rw [e] at h5
  simp only [Option.bind_some] at h5
  refine calls_of_wp h1 e ?_
  rw [h2]
  refine wp_mono (zc6 h h5 (zil hn hargs hok hdom)) fun e' a' w' ⟨env',H',J',F',q1,q2,q3⟩=>?_
  have fin : e' = .normal∨e' = .ret→a'.defers = []∧∃ v,(results fn a'.tmps).run P w' = .ok v w'∧∃ v' J'' F'',Ending.returned v = Ending.returned v'∧StOK J'' F'' w' (fun i=>H2[i]?)∧(∀ id,J'' id≠none→id < H2.length)∧rep J'' F'' w' d v'∧Ext J F w J'' F'' w':=fun he=>by
   obtain ⟨r,v,⟨rfl,k1,k1'⟩,k2,k3⟩:=zfL h4 q2 he q1
   have hget : ∀ i,i < H2.length→H2[i]? = H'[i]?:=fun i hi=>by
    conv=>lhs; rw [← k1]
    rw [List.getElem?_take,if_pos hi]
   have kle : (zaQ H2.length J').le J':=fun i s hs=>by
    unfold zaQ at hs
    split at hs
    ·exact ⟨s,hs,Nat.le_refl _,fun _=>rfl⟩
    ·cases hs
   refine ⟨q2.defers,v,k2,v,zaQ H2.length J',F',rfl,⟨fun i s hs=>?_,fun i i' s s' b g1 g2 g3 g4=>?_,fun i s b o g1 g2 g3 g4=>?_,q2.ok.lt⟩,fun i hi=>?_,zfu _ _ hd k3,?_⟩
   ·unfold zaQ at hs
    split at hs
    ·rename_i hi
     obtain ⟨o,g1,g2⟩:=q2.ok.obj i s hs
     have g1' : H2[i]? = some o:=by rw [hget i hi]; exact g1
     exact ⟨o,g1',zgS (hH o (List.mem_of_getElem? g1')) g2⟩
    ·cases hs
   ·unfold zaQ at g1 g2
    split at g1 <;> split at g2
    ·exact q2.ok.one i i' s s' b g1 g2 g3 g4
    all_goals first | cases g1 | cases g2
   ·unfold zaQ at g1
    split at g1
    ·rename_i hi
     exact q2.ok.apart i s b o g1 g2 (by rw [← hget i hi]; exact g3) g4
    ·cases g1
   ·unfold zaQ at hi
    split at hi
    ·assumption
    ·exact absurd rfl hi
   ·refine ⟨q3.os,q3.tape,q3.output,q3.size,q3.block,q3.frozen,fun i s hs=>?_,q3.grow,fun b ⟨i,s,hs,hb⟩=>?_,q3.growBack⟩
    ·obtain ⟨s',g1,g2,g3⟩:=q3.le i s hs
     have hi : i < H2.length:=by have:=hdom i (by rw [hs]; simp); omega
     exact ⟨s',by simp [zaQ,hi,g1],g2,g3⟩
    ·obtain ⟨s',g1,_⟩:=kle i s hs
     unfold zaQ at hs
     split at hs
     ·exact q3.ownsBack b ⟨i,s,hs,hb⟩
     ·cases hs
  cases e' with
  | normal=>exact fin (.inl rfl)
  | ret=>exact fin (.inr rfl)
  | exit id=>exact q1.elim
  | goto l=>exact q1.elim
  | panic ch=>exact q1.elim
  | outgrown=>exact q1.elim
end
end
section
open Go.RowKit
mutual
inductive DeepM (S : Nat→Bool) (H : List AObj) : D→D→Prop
 | refl (d : D) : DeepM S H d d
 | junk (d : D) : DeepM S H d .junk
 | none (esz : Nat) : DeepM S H (.sc (.slice none 0 0)) (.lst esz [])
 | loc (id off : Nat) (q : Bool) (cs ds : List D) (hm : S id = true) (h : H[id]? = some (.row q cs)) (k : DeepML S H (cs.drop off) ds) : DeepM S H (.loc id off) (.ipt ds)
 | own (id ver lo hi esz : Nat) (q : Bool) (xs ys : List (List D)) (hm : S id = true) (h : H[id]? = some (.vec q ver esz xs)) (k : DeepMLL S H ((xs.take hi).drop lo) ys) : DeepM S H (.own id ver lo hi) (.lst esz ys)
 | fn (f : Fn) (a b c e : List D) (h : DeepML S H a b) (k : DeepML S H c e) : DeepM S H (.fn f a c) (.fn f b e)
 | ifc (t : TypeId) (d e : D) (h : DeepM S H d e) : DeepM S H (.ifc t d) (.ifc t e)
 | agg (a b : List D) (h : DeepML S H a b) : DeepM S H (.agg a) (.agg b)
 | tup (a b : List D) (h : DeepML S H a b) : DeepM S H (.tup a) (.tup b)
inductive DeepML (S : Nat→Bool) (H : List AObj) : List D→List D→Prop
 | refl (l : List D) : DeepML S H l l
 | cons (d e : D) (a b : List D) (h : DeepM S H d e) (k : DeepML S H a b) : DeepML S H (d :: a) (e :: b)
inductive DeepMLL (S : Nat→Bool) (H : List AObj) : List (List D)→List (List D)→Prop
 | refl (l : List (List D)) : DeepMLL S H l l
 | cons (x y : List D) (a b : List (List D)) (h : DeepML S H x y) (k : DeepMLL S H a b) : DeepMLL S H (x :: a) (y :: b)
 | append (x y a b : List (List D)) (h : DeepMLL S H x y) (k : DeepMLL S H a b) : DeepMLL S H (x ++ a) (y ++ b)
end
def zd0 (S : Nat→Bool) (J : Inj) (b : Nat) : Prop:=∃ id s,S id = true∧J id = some s∧s.blk = some b
section
variable {J : Inj} {F : Nat→Prop} {w : World} {H : List AObj} {S : Nat→Bool}
mutual
theorem zfw : ∀ (d e : List D),DeepML S H d e→d.length = e.length
 | _,_,.refl _=>rfl
 | _,_,.cons d e a b _ k=>by simp [zfw a b k]
theorem zcB : ∀ (d e : List (List D)),DeepMLL S H d e→d.length = e.length
 | _,_,.refl _=>rfl
 | _,_,.cons d e a b _ k=>by simp [zcB a b k]
 | _,_,.append x y a b h k=>by simp [zcB x y h,zcB a b k]
end
theorem zh6 {b esz : Nat} : ∀ (xs ys : List (List D)) (o : Nat),zaJ J F w b esz (xs ++ ys) o↔zaJ J F w b esz xs o∧zaJ J F w b esz ys (o + xs.length * esz)
 | [],ys,o=>by simp [zaJ]
 | x :: r,ys,o=>by
  simp only [List.cons_append,zaJ,zh6 r ys,List.length_cons,and_assoc]
  rw [show o + esz + r.length * esz = o + (r.length + 1) * esz by rw [Nat.add_mul]; omega]
mutual
theorem zc3 (hok : StOK J F w (fun i=>H[i]?)) : ∀ (d e : D) (v : Value),DeepM S H d e→rep J F w d v→rep J (fun b=>F b∨zd0 S J b) w e v
 | d,_,v,.refl _,h=>za4 (Inj.le_refl J) (fun _ h=>.inl h) (fun _ _=>rfl) d v h
 | _,_,v,.junk _,_=>by simp only [rep]
 | _,_,v,.none esz,h=>by
  simp only [rep] at h ⊢
  exact ⟨none,0,0,h,rfl,Nat.le_refl _,.inl rfl⟩
 | _,_,v,.loc id off q cs ds hm h k,hv=>by
  simp only [rep] at hv ⊢
  obtain ⟨s,b,h1,h2,h3,rfl⟩:=hv
  have hc:=zcN (rowOK hok h1 h3 h) off
  refine ⟨b,off,rfl,.inr ⟨id,s,hm,h1,by simp [Site.blk,h2,h3]⟩,?_⟩
  rw [Nat.zero_add] at hc
  exact zca hok _ _ b off k hc
 | _,_,v,.own id ver lo hi esz q xs ys hm h k,hv=>by
  simp only [rep] at hv ⊢
  obtain ⟨s,A,n,c,h1,rfl,h2,h3⟩:=hv
  obtain ⟨p1,p2,p3,p4,p5,p6⟩:=zit hok h1 h
  obtain ⟨t1,t2,t3,rfl,rfl,t6⟩:=h3 p2.symm
  have hl : ys.length = hi - lo:=by
   rw [← zcB _ _ k]; simp; omega
  refine ⟨A,_,_,rfl,hl.symm,by omega,?_⟩
  rcases t6 with t6 | ⟨b,o,t6,rfl⟩
  ·exact .inl (by omega)
  ·rcases p6 with p6 | ⟨b',o',vals,te,e,q1,q2,q3,q4⟩
   ·exact .inl (by omega)
   ·rw [t6] at e; cases e
    by_cases hz : s.cap = 0
    ·exact .inl (by omega)
    ·refine .inr ⟨b,_,rfl,.inr ⟨id,s,hm,h1,by simp [Site.blk,hz,t6]⟩,?_⟩
     rw [p3]
     exact zbZ hok _ _ b esz _ k (zci q3 lo hi)
 | _,_,v,.fn f a b c e h k,hv=>by
  simp only [rep] at hv ⊢
  obtain ⟨vs,us,rfl,h2,h3⟩:=hv
  exact ⟨vs,us,rfl,zdc hok _ _ vs h h2,zdc hok _ _ us k h3⟩
 | _,_,v,.ifc t d e h,hv=>by
  simp only [rep] at hv ⊢
  obtain ⟨u,rfl,h2⟩:=hv
  exact ⟨u,rfl,zc3 hok _ _ u h h2⟩
 | _,_,v,.agg a b h,hv=>by
  simp only [rep] at hv ⊢
  obtain ⟨vs,rfl,h2⟩:=hv
  exact ⟨vs,rfl,zdc hok _ _ vs h h2⟩
 | _,_,v,.tup a b h,hv=>by
  simp only [rep] at hv ⊢
  obtain ⟨vs,rfl,h2⟩:=hv
  exact ⟨vs,rfl,zdc hok _ _ vs h h2⟩
theorem zdc (hok : StOK J F w (fun i=>H[i]?)) : ∀ (d e : List D) (v : List Value),DeepML S H d e→repL J F w d v→repL J (fun b=>F b∨zd0 S J b) w e v
 | d,_,v,.refl _,h=>zdO (Inj.le_refl J) (fun _ h=>.inl h) (fun _ _=>rfl) d v h
 | _,_,v,.cons d e a b h k,hv=>by
  simp only [repL] at hv ⊢
  obtain ⟨u,us,rfl,h2,h3⟩:=hv
  exact ⟨u,us,rfl,zc3 hok _ _ u h h2,zdc hok _ _ us k h3⟩
theorem zca (hok : StOK J F w (fun i=>H[i]?)) : ∀ (d e : List D) (b o : Nat),DeepML S H d e→repCells J F w b d o→repCells J (fun b=>F b∨zd0 S J b) w b e o
 | d,_,b,o,.refl _,h=>zcK (Inj.le_refl J) (fun _ h=>.inl h) (fun _ _=>rfl) b (fun _=>rfl) d o h
 | _,_,b,o,.cons d e x y h k,hv=>by
  simp only [repCells] at hv ⊢
  obtain ⟨⟨u,h1,h2,h3⟩,h4⟩:=hv
  exact ⟨⟨u,h1,h2,zc3 hok _ _ u h h3⟩,zca hok _ _ b (o + 1) k h4⟩
theorem zbZ (hok : StOK J F w (fun i=>H[i]?)) : ∀ (d e : List (List D)) (b esz o : Nat),DeepMLL S H d e→zaJ J F w b esz d o→zaJ J (fun b=>F b∨zd0 S J b) w b esz e o
 | d,_,b,esz,o,.refl _,h=>zdZ (Inj.le_refl J) (fun _ h=>.inl h) (fun _ _=>rfl) b esz (fun _=>rfl) d o h
 | _,_,b,esz,o,.cons d e x y h k,hv=>by
  simp only [zaJ] at hv ⊢
  obtain ⟨h1,h2,h3⟩:=hv
  exact ⟨by rw [← zfw _ _ h]; exact h1,zca hok _ _ b o h h2,zbZ hok _ _ b esz (o + esz) k h3⟩
 | _,_,b,esz,o,.append x y a c h k,hv=>by
  rw [zh6] at hv ⊢
  refine ⟨zbZ hok _ _ b esz o h hv.1,?_⟩
  rw [← zcB _ _ h]
  exact zbZ hok _ _ b esz _ k hv.2
end
end
def zfH (m : Nat) : Nat→Bool:=fun i=>Nat.ble m i
theorem fromN_iff {m i : Nat} : zfH m i = true↔m≤i:=by simp [zfH]
def St.leB (L n : Nat) (env : Env) (H : List AObj) (env' : Env) (H' : List AObj) : Prop:=∀ J F a w,StRep n J F env H a w→∃ J' F',StRep n J' F' env' H' a w∧(∀ i s,i < L→J i = some s→J' i = some s)∧(∀ b,F b→F' b)∧(∀ b,Owns J' b→Owns J b)∧∀ b,F' b→F b∨Owns J b
theorem zf0 {L n : Nat} {env env' : Env} {H : List AObj} (h : sameE env env') : St.leB L n env H env' H:=fun J F a w hr =>
 ⟨J,F,⟨hr.defers,hr.size,fun t=>by
  rcases zgM env' h t with e | e
  ·rw [e]; exact hr.tmps t
  ·rw [e]; simp only [rep],hr.ok,hr.dom⟩,fun _ _ _ h=>h,fun _ h=>h,fun _ h=>h,fun _ h=>.inl h⟩
theorem zb1 {L n : Nat} {env env' env'' : Env} {H H' H'' : List AObj} (h : St.leB L n env H env' H') (k : St.leB L n env' H' env'' H'') : St.leB L n env H env'' H'':=fun J F a w hr=>by
 obtain ⟨J',F',h1,h2,h3,h4,h5⟩:=h J F a w hr
 obtain ⟨J'',F'',k1,k2,k3,k4,k5⟩:=k J' F' a w h1
 exact ⟨J'',F'',k1,fun i s q1 q2=>k2 i s q1 (h2 i s q1 q2),fun b hb=>k3 b (h3 b hb),fun b hb=>h4 b (k4 b hb),fun b hb=>(k5 b hb).elim (h5 b) fun q=>.inr (h4 b q)⟩
def zlQ (m : Nat) (H : List AObj) (env : Env) : Env→Prop
 | []=>True
 | (t,d) :: r=>DeepM (zfH m) H (lookD t env) d∧zai m d∧zlQ m H env r
def zoI (m : Nat) (H : List AObj) : AObj→AObj→Prop
 | .row q cs,.row q' cs'=>q = q'∧DeepML (zfH m) H cs cs'∧zae m cs'
 | .vec q v e xs,.vec q' v' e' xs'=>q = q'∧v = v'∧e = e'∧DeepMLL (zfH m) H xs xs'∧zak m xs'
 | .mapo q I,.mapo q' I'=>q = q'∧I = I'
 | _,_=>False
def zg0 (m : Nat) (H : List AObj) : List AObj→List AObj→Prop
 | _,[]=>True
 | o :: r,o' :: r'=>zoI m H o o'∧zg0 m H r r'
 | [],_ :: _=>False
theorem zhZ {m : Nat} {H : List AObj} {env : Env} : ∀ (env' : Env),zlQ m H env env'→∀ t,(DeepM (zfH m) H (lookD t env) (lookD t env')∧zai m (lookD t env'))∨lookD t env' = .junk
 | [],_,t=>.inr rfl
 | (k,d) :: r,h,t=>by
  simp only [zlQ] at h
  rw [zc2]
  split
  ·rename_i e; subst e; exact .inl ⟨h.1,h.2.1⟩
  ·exact zhZ r h.2.2 t
theorem zel {m : Nat} {H : List AObj} : ∀ (l l' : List AObj),zg0 m H l l'→∀ i (o : AObj),i < l'.length→l[i]? = some o→∃ o',l'[i]? = some o'∧zoI m H o o'
 | _,[],_,i,o,hi,_=>by simp at hi
 | [],_ :: _,h,i,o,hi,_=>by simp only [zg0] at h
 | o :: r,o' :: r',h,0,x,_,hx=>by
  simp at hx; subst hx
  exact ⟨o',rfl,h.1⟩
 | o :: r,o' :: r',h,i + 1,x,hi,hx=>by
  simpa using zel r r' h.2 i x (by simpa using hi) (by simpa using hx)
theorem zgp {J : Inj} {F : Nat→Prop} {w : World} {H : List AObj} {m : Nat} (hok : StOK J F w (fun i=>H[i]?)) {s : Site} {o o' : AObj} (h : zoI m H o o') (k : ObjOK J F w s o) : ObjOK (zaQ m J) (fun b=>F b∨zd0 (zfH m) J b) w s o'∧o'.mut = o.mut:=by
 cases o with
 | row q cs =>
  cases o' with
  | vec=>exact h.elim
  | mapo=>exact h.elim
  | row q' cs' =>
   obtain ⟨rfl,h1,h2⟩:=h
   obtain ⟨k1,k2,k3,k4,k5,b,vals,te,t1,t2,t3,t4,t5⟩:=k
   have hl:=zfw _ _ h1
   exact ⟨⟨k1,k2,k3,by rw [← hl]; exact k4,by rw [← hl]; exact k5,b,vals,te,t1,t2,by rw [← hl]; exact t3,zcS b cs' 0 h2 (zca hok _ _ b 0 h1 t4),fun e=>.inl (t5 e)⟩,rfl⟩
 | vec q v e xs =>
  cases o' with
  | row=>exact h.elim
  | mapo=>exact h.elim
  | vec q' v' e' xs' =>
   obtain ⟨rfl,rfl,rfl,h1,h2⟩:=h
   obtain ⟨k1,k2,k3,k4,k5,k6⟩:=k
   have hl:=zcB _ _ h1
   exact ⟨⟨k1,k2,k3,by rw [← hl]; exact k4,k5,k6.imp_right fun ⟨b,o,vals,te,t1,t2,t3,t4,t5⟩=>⟨b,o,vals,te,t1,t2,t3,zd3 b e xs' o h2 (zbZ hok _ _ b e o h1 t4),fun e=>.inl (t5 e)⟩⟩,rfl⟩
 | mapo q I =>
  cases o' with
  | row=>exact h.elim
  | vec=>exact h.elim
  | mapo q' I' =>
   obtain ⟨rfl,rfl⟩:=h
   exact ⟨k,rfl⟩
theorem zal {L n : Nat} (m : Nat) {env env' : Env} {H H' : List AObj} (hL : L≤m) (hm : H'.length = m) (hE : zlQ m H env env') (hH : zg0 m H H H') : St.leB L n env H env' H':=fun J F a w hr=>by
 refine ⟨zaQ m J,fun b=>F b∨zd0 (zfH m) J b,⟨hr.defers,hr.size,fun t=>?_,⟨fun i s hs=>?_,fun i i' s s' b g1 g2 g3 g4=>?_,fun i s b o g1 g2 g3 g4=>?_,hr.ok.lt.mono (fun _ h=>.inl h) (fun _ _=>rfl) fun b hb=>?_⟩,fun i hi=>?_⟩,fun i s hi hs=>?_,fun b hb=>.inl hb,fun b ⟨i,s,hs,hb⟩=>?_,fun b hb=>hb.imp_right fun ⟨i,s,_,h1,h2⟩=>⟨i,s,h1,h2⟩⟩
 ·rcases zhZ env' hE t with ⟨h1,h2⟩ | e
  ·exact zfu _ _ h2 (zc3 hr.ok _ _ _ h1 (hr.tmps t))
  ·rw [e]; simp only [rep]
 ·unfold zaQ at hs
  split at hs
  ·rename_i hi
   obtain ⟨o,h1,h2⟩:=hr.ok.obj i s hs
   obtain ⟨o',h3,h4⟩:=zel H H' hH i o (by omega) h1
   exact ⟨o',h3,(zgp hr.ok h4 h2).1⟩
  ·cases hs
 ·unfold zaQ at g1 g2
  split at g1 <;> split at g2
  ·exact hr.ok.one i i' s s' b g1 g2 g3 g4
  all_goals first | cases g1 | cases g2
 ·unfold zaQ at g1
  split at g1
  ·rename_i hi
   obtain ⟨o1,h1,h2⟩:=hr.ok.obj i s g1
   obtain ⟨o',h3,h4⟩:=zel H H' hH i o1 (by omega) h1
   have h3' : H'[i]? = some o:=g3
   rw [h3'] at h3
   cases h3
   have hmut:=(zgp hr.ok h4 h2).2
   rintro (hx | ⟨i',s',p1,p2,p3⟩)
   ·exact hr.ok.apart i s b o1 g1 g2 h1 (by rw [← hmut]; exact g4) hx
   ·have p1:=fromN_iff.1 p1
    have:=hr.ok.one i i' s s' b g1 p2 g2 p3
    omega
  ·cases g1
 ·exact hb.elim (hr.ok.lt b) fun ⟨i,s,_,h1,h2⟩=>hr.ok.blk_lt h1 h2
 ·unfold zaQ at hi
  split at hi
  ·omega
  ·exact absurd rfl hi
 ·unfold zaQ; rw [if_pos (by omega)]; exact hs
 ·unfold zaQ at hs
  split at hs
  ·exact ⟨i,s,hs,hb⟩
  ·cases hs
theorem zmD {L n : Nat} (t esz ver : Nat) {env : Env} {H : List AObj} (hL : L≤H.length) (h : lookD t env = .sc (.slice none 0 0)) : St.leB L n env H ((t,.own H.length ver 0 0) :: env) (H ++ [.vec true ver esz []]):=fun J F a w hr=>by
 have hfree : J H.length = none:=by
  cases e : J H.length with
  | none=>rfl
  | some s=>have:=hr.dom H.length (by rw [e]; simp); omega
 let J' : Inj:=fun i=>if i = H.length then some ⟨false,ver,none,esz,0,0⟩ else J i
 have hle : J.le J':=fun i s hs=>⟨s,by
  have : i≠H.length:=fun e=>by subst e; rw [hfree] at hs; cases hs
  simp [J',this,hs],Nat.le_refl _,fun _=>rfl⟩
 have hget : ∀ i,i≠H.length→(H ++ [AObj.vec true ver esz []])[i]? = H[i]?:=fun i hi=>by
  rcases Nat.lt_or_ge i H.length with q | q
  ·rw [List.getElem?_append_left q]
  ·rw [List.getElem?_eq_none q,List.getElem?_eq_none (by simp; omega)]
 refine ⟨J',F,⟨hr.defers,hr.size,fun u=>?_,⟨fun i s hs=>?_,fun i i' s s' b g1 g2 g3 g4=>?_,fun i s b o g1 g2 g3 g4=>?_,hr.ok.lt⟩,fun i hi=>?_⟩,fun i s hi hs=>?_,fun b hb=>hb,fun b ⟨i,s,hs,hb⟩=>?_,fun b hb=>.inl hb⟩
 ·rw [zc2]
  split
  ·rename_i e; subst e
   have:=hr.tmps u
   rw [h] at this
   simp only [rep] at this ⊢
   exact ⟨_,none,0,0,by simp [J']; rfl,this,Nat.le_refl _,fun _=>⟨rfl,Nat.le_refl _,Nat.zero_le _,rfl,rfl,.inl rfl⟩⟩
  ·exact za4 hle (fun _ h=>h) (fun _ _=>rfl) _ _ (hr.tmps u)
 ·simp only [J'] at hs
  split at hs
  ·rename_i e; subst e
   cases hs
   exact ⟨.vec true ver esz [],by simp,rfl,rfl,rfl,rfl,Nat.le_refl _,.inl rfl⟩
  ·rename_i e
   obtain ⟨o,h1,h2⟩:=hr.ok.obj i s hs
   exact ⟨o,by rw [hget i e]; exact h1,zbJ hle (fun _ h=>h) (fun _ _=>rfl) (fun _ _=>rfl) h2⟩
 ·simp only [J'] at g1 g2
  split at g1
  ·cases g1; simp [Site.blk] at g3
  ·split at g2
   ·cases g2; simp [Site.blk] at g4
   ·exact hr.ok.one i i' s s' b g1 g2 g3 g4
 ·simp only [J'] at g1
  split at g1
  ·cases g1; simp [Site.blk] at g2
  ·rename_i e
   exact hr.ok.apart i s b o g1 g2 (by rw [← hget i e]; exact g3) g4
 ·simp only [J'] at hi
  rw [List.length_append,List.length_singleton]
  split at hi
  ·omega
  ·have:=hr.dom i hi; omega
 ·have : i≠H.length:=by omega
  simp [J',this,hs]
 ·simp only [J'] at hs
  split at hs
  ·cases hs; simp [Site.blk] at hb
  ·exact ⟨i,s,hs,hb⟩
theorem zcu {L n : Nat} (t esz : Nat) {env : Env} {H : List AObj} (hL : L≤H.length) (h : lookD t env = .sc (.slice none 0 0)) : St.leB L n env H ((t,.own H.length 0 0 0) :: env) (H ++ [.vec true 0 esz []]):=zmD t esz 0 hL h
section
variable {P : Program} {n : Nat}
def loopQB {ι : Type} (L n : Nat) (Q : Post) (E : ι→Env) (O : ι→List AObj) (G : ι→Prop) (m : ι→Nat) (k : Nat) : Post
 | .normal,env,H=>∃ j,G j∧m j < k∧St.leB L n env H (E j) (O j)
 | e,env,H=>Q e env H
theorem zjt {L : Nat} {J J1 J2 : Inj} {F F1 F2 : Nat→Prop} {w w1 : World} (hd : ∀ id,J id≠none→id < L) (h : Ext J F w J1 F1 w1) (k1 : ∀ i s,i < L→J1 i = some s→J2 i = some s) (k2 : ∀ b,F1 b→F2 b) (k3 : ∀ b,Owns J2 b→Owns J1 b) (k4 : ∀ b,F2 b→F1 b∨Owns J1 b) : Ext J F w J2 F2 w1 :=
 ⟨h.os,h.tape,h.output,h.size,h.block,h.frozen,fun i s hs=>by
  obtain ⟨s',g1,g2⟩:=h.le i s hs
  exact ⟨s',k1 i s' (hd i (by rw [hs]; simp)) g1,g2⟩,fun b hb=>k2 b (h.grow b hb),fun b hb=>h.ownsBack b (k3 b hb),fun b hb=>by
  rcases k4 b hb with q | q
  ·exact h.growBack b q
  ·rcases h.ownsBack b q with q | q
   ·exact .inr (.inl q)
   ·exact .inr (.inr q)⟩
theorem zeo {p : PC} {Q : Post} {env : Env} {H : List AObj} {ι : Type} (E : ι→Env) (O : ι→List AObj) (G : ι→Prop) (m : ι→Nat) (i : ι) (h0 : G i) (h1 : St.leB H.length n env H (E i) (O i))
  (round : ∀ j,G j→PWp P n p (loopQB H.length n Q E O G m (m j)) (E j) (O j)) : PWp P n (.loop p) Q env H:=zeM fun c hc J F a w hr=>by
 obtain ⟨c',rfl,hc'⟩:=zkv hc
 obtain ⟨J0,F0,k1,k2,k3,k4,k5⟩:=h1 J F a w hr
 have k6 : Ext J F w J0 F0 w:=zjt hr.dom (Ext.refl J F w) k2 k3 k4 k5
 refine wp_loop_ghost (fun k a' w'=>∃ j J' F',G j∧m j = k∧StRep n J' F' (E j) (O j) a' w'∧Ext J F w J' F' w') (m i) ⟨i,J0,F0,h0,rfl,k1,k6⟩ fun k a1 w1 ⟨j,J1,F1,g1,g2,g3,g4⟩=>?_
 refine wp_mono (zc6 (round j g1) hc' g3) fun e a2 w2 ⟨env',H',J',F',q1,q2,q3⟩=>?_
 cases e with
 | normal =>
  obtain ⟨j',r1,r2,r3⟩:=q1
  obtain ⟨J2,F2,t1,t2,t3,t4,t5⟩:=r3 J' F' a2 w2 q2
  exact ⟨m j',by omega,j',J2,F2,r1,rfl,t1,zjt hr.dom (g4.trans q3) t2 t3 t4 t5⟩
 | _=>exact ⟨env',H',J',F',q1,q2,g4.trans q3⟩
theorem zaA {p : PC} {Q : Post} {env env' : Env} {H H' : List AObj} (h : St.leB H.length n env H env' H') (k : PWp P n p Q env' H') : PWp P n p Q env H :=
 zeM fun c hc J F a w hr=>by
  obtain ⟨J',F',h1,h2,h3,h4,h5⟩:=h J F a w hr
  exact wp_mono (zc6 k hc h1) fun e a' w' q=>ziB (zjt hr.dom (Ext.refl J F w) h2 h3 h4 h5) q
end
section
variable {P : Program}
end
end
section
open Go.RowKit
section
variable {P : Program} {f : FuncId}
theorem zhM {args : List D} {H0 H0' H H' : List AObj} {d : D} (ρ : Nat→Nat) (hA : ACall P f args H0 d H0') (inj : ∀ i j,i < H0'.length→j < H0'.length→ρ i = ρ j→i = j) (hold : ∀ i o,H0[i]? = some o→H[ρ i]? = some (o.ren ρ))
  (hnew : ∀ i,H0.length≤i→i < H0'.length→H.length≤ρ i) (hlen : H.length≤H'.length) (h1 : ∀ i o,H0'[i]? = some o→H'[ρ i]? = some (o.ren ρ)) (h2 : ∀ j,j < H.length→(∀ i,i < H0.length→ρ i≠j)→H'[j]? = H[j]?)
  (hargs : zae H0.length args) (hobj : ∀ o∈H0,o.under H0.length) : ACall P f (renL ρ args) H (D.ren ρ d) H':=by
 obtain ⟨hok,hl0,hrun⟩:=hA
 refine ⟨hok,hlen,fun J F w vs hst hdom hrep=>?_⟩
 have h0get : ∀ i,i < H0.length→H0[i]? = some (H0[i]!):=fun i hi=>by rw [List.getElem!_eq_getElem?_getD,List.getElem?_eq_getElem hi]; rfl
 have hst0 : StOK (zaQ H0.length fun i=>J (ρ i)) F w (fun i=>H0[i]?):=by
  refine ⟨fun i s hs=>?_,fun i i' s s' b g1 g2 g3 g4=>?_,fun i s b o g1 g2 g3 g4=>?_,hst.lt⟩
  ·unfold zaQ at hs
   split at hs
   ·rename_i hi
    have ho:=h0get i hi
    refine ⟨_,ho,zgS (hobj _ (List.mem_of_getElem? ho)) (objOK_ren.2 ?_)⟩
    obtain ⟨o',q1,q2⟩:=hst.obj (ρ i) s hs
    have q1' : H[ρ i]? = some o':=q1
    rw [hold i _ ho] at q1'
    cases q1'
    exact q2
   ·cases hs
  ·unfold zaQ at g1 g2
   split at g1 <;> split at g2
   ·exact inj i i' (by omega) (by omega) (hst.one (ρ i) (ρ i') s s' b g1 g2 g3 g4)
   all_goals first | cases g1 | cases g2
  ·unfold zaQ at g1
   split at g1
   ·exact hst.apart (ρ i) s b (o.ren ρ) g1 g2 (hold i o g3) (by rw [zjB]; exact g4)
   ·cases g1
 have hd0 : ∀ id,zaQ H0.length (fun i=>J (ρ i)) id≠none→id < H0.length:=fun id hid=>by
  unfold zaQ at hid
  split at hid
  ·assumption
  ·exact absurd rfl hid
 have hr0 : repL (zaQ H0.length fun i=>J (ρ i)) F w args vs:=zdH _ _ hargs ((zcA args vs).2 hrep)
 have own0 : ∀ b,Owns (zaQ H0.length fun i=>J (ρ i)) b→∃ i s,i < H0.length∧J (ρ i) = some s∧s.blk = some b:=fun b ⟨i,s,hs,hb⟩=>by
  unfold zaQ at hs
  split at hs
  ·exact ⟨i,s,by assumption,hs,hb⟩
  ·cases hs
 have main:=hrun _ F w vs hst0 hd0 hr0
 refine Calls.mono main fun e w' ⟨v,J0',F',he,st',dom',rp',ex⟩=>?_
 let J' : Inj:=fun id=>match back ρ H0'.length id with | some i=>J0' i | none=>J id
 have jat : ∀ i,i < H0'.length→J' (ρ i) = J0' i:=fun i hi=>by simp only [J',zpg inj hi]
 have jno : ∀ id,back ρ H0'.length id = none→J' id = J id:=fun id h=>by simp only [J',h]
 have hle : J.le J':=fun id s hs=>by
  cases e : back ρ H0'.length id with
  | none=>exact ⟨s,by rw [jno id e]; exact hs,Nat.le_refl _,fun _=>rfl⟩
  | some i =>
   obtain ⟨k1,rfl⟩:=zbt e
   have hi : i < H0.length:=by
    rcases Nat.lt_or_ge i H0.length with q | q
    ·exact q
    ·have:=hnew i q k1
     have:=hdom (ρ i) (by rw [hs]; simp)
     omega
   obtain ⟨s',g1,g2⟩:=ex.le i s (by simp only [zaQ,if_pos hi]; exact hs)
   exact ⟨s',by rw [jat i k1]; exact g1,g2⟩
 have hleρ : J0'.le (fun i=>J' (ρ i)):=fun i s hs=>⟨s,by
  dsimp only
  rw [jat i (dom' i (by rw [hs]; simp))]; exact hs,Nat.le_refl _,fun _=>rfl⟩
 have nown : ∀ id s b,back ρ H0'.length id = none→J id = some s→s.blk = some b→¬ Owns (zaQ H0.length fun i=>J (ρ i)) b:=fun id s b hb hs hblk ho=>by
  obtain ⟨i,s',k1,k2,k3⟩:=own0 b ho
  exact zdI hb i (by omega) (hst.one (ρ i) id s' s b k2 hs k3 hblk)
 refine ⟨v,J',F',he,⟨fun id s hs=>?_,fun id id' s s' b g1 g2 g3 g4=>?_,fun id s b o g1 g2 g3 g4=>?_,st'.lt⟩,fun id hid=>?_,(ze8 d v).1 (za4 hleρ (fun _ h=>h) (fun _ _=>rfl) _ _ rp'),?_⟩
 ·cases e : back ρ H0'.length id with
  | some i =>
   obtain ⟨k1,rfl⟩:=zbt e
   rw [jat i k1] at hs
   obtain ⟨o,q1,q2⟩:=st'.obj i s hs
   exact ⟨o.ren ρ,h1 i o q1,objOK_ren.1 (zbJ hleρ (fun _ h=>h) (fun _ _=>rfl) (fun _ _=>rfl) q2)⟩
  | none =>
   rw [jno id e] at hs
   obtain ⟨o,q1,q2⟩:=hst.obj id s hs
   refine ⟨o,?_,zbJ hle ex.grow ex.frozen (fun b hb=>ex.block b (hst.blk_lt hs hb) (nown id s b e hs hb)) q2⟩
   show H'[id]? = some o
   rw [h2 id (hdom id (by rw [hs]; simp)) fun i hi=>zdI e i (by omega)]
   exact q1
 ·cases e : back ρ H0'.length id with
  | some i =>
   obtain ⟨k1,rfl⟩:=zbt e
   rw [jat i k1] at g1
   cases e' : back ρ H0'.length id' with
   | some i' =>
    obtain ⟨k1',rfl⟩:=zbt e'
    rw [jat i' k1'] at g2
    rw [st'.one i i' s s' b g1 g2 g3 g4]
   | none =>
    rw [jno id' e'] at g2
    rcases ex.ownsBack b ⟨i,s,g1,g3⟩ with q | q
    ·exact absurd q (nown id' s' b e' g2 g4)
    ·have:=hst.blk_lt g2 g4; omega
  | none =>
   rw [jno id e] at g1
   cases e' : back ρ H0'.length id' with
   | some i' =>
    obtain ⟨k1',rfl⟩:=zbt e'
    rw [jat i' k1'] at g2
    rcases ex.ownsBack b ⟨i',s',g2,g4⟩ with q | q
    ·exact absurd q (nown id s b e g1 g3)
    ·have:=hst.blk_lt g1 g3; omega
   | none =>
    rw [jno id' e'] at g2
    exact hst.one id id' s s' b g1 g2 g3 g4
 ·have g3' : H'[id]? = some o:=g3
  cases e : back ρ H0'.length id with
  | some i =>
   obtain ⟨k1,rfl⟩:=zbt e
   rw [jat i k1] at g1
   obtain ⟨o0,q1,_⟩:=st'.obj i s g1
   rw [h1 i o0 q1] at g3'
   cases g3'
   exact st'.apart i s b o0 g1 g2 q1 (by rw [zjB] at g4; exact g4)
  | none =>
   rw [jno id e] at g1
   rw [h2 id (hdom id (by rw [g1]; simp)) fun i hi=>zdI e i (by omega)] at g3'
   intro hx
   rcases ex.growBack b hx with q | q | q
   ·exact hst.apart id s b o g1 g2 g3' g4 q
   ·exact nown id s b e g1 g2 q
   ·have:=hst.blk_lt g1 g2; omega
 ·cases e : back ρ H0'.length id with
  | some i =>
   obtain ⟨k1,rfl⟩:=zbt e
   have:=h1 i _ (List.getElem?_eq_getElem k1)
   exact zcJ this
  | none =>
   rw [jno id e] at hid
   have:=hdom id hid
   omega
 ·refine ⟨ex.os,ex.tape,ex.output,ex.size,fun b hb hn=>ex.block b hb fun ho=>?_,ex.frozen,hle,ex.grow,fun b ⟨id,s,hs,hb⟩=>?_,fun b hb=>?_⟩
  ·obtain ⟨i,s,_,k2,k3⟩:=own0 b ho
   exact hn ⟨ρ i,s,k2,k3⟩
  ·cases e : back ρ H0'.length id with
   | some i =>
    obtain ⟨k1,rfl⟩:=zbt e
    rw [jat i k1] at hs
    refine (ex.ownsBack b ⟨i,s,hs,hb⟩).imp_left fun q=>?_
    obtain ⟨k,s',_,k2,k3⟩:=own0 b q
    exact ⟨ρ k,s',k2,k3⟩
   | none =>
    rw [jno id e] at hs
    exact .inl ⟨id,s,hs,hb⟩
  ·rcases ex.growBack b hb with q | q | q
   ·exact .inl q
   ·obtain ⟨k,s',_,k2,k3⟩:=own0 b q
    exact .inr (.inl ⟨ρ k,s',k2,k3⟩)
   ·exact .inr (.inr q)
theorem zka {pre post : List D} {cs cs' : List D} {d : D} (h : ACall P f (pre ++ .loc 0 0 :: post) [.row true cs] d [.row true cs']) (hpre : zao pre) (hpost : zao post) (hcs : zao cs) (hcs' : zao cs') (hd : Pure d)
  {H : List AObj} {id : Nat} (hid : H[id]? = some (.row true cs)) : ACall P f (pre ++ .loc id 0 :: post) H d (H.set id (.row true cs')):=by
 have hap : ∀ (a b : List D) (ρ : Nat→Nat),renL ρ (a ++ b) = renL ρ a ++ renL ρ b:=fun a b ρ=>by
  induction a with
  | nil=>simp only [renL,List.nil_append]
  | cons x r ih=>simp only [List.cons_append,renL,ih]
 have hua : ∀ (a b : List D),zae 1 a→zae 1 b→zae 1 (a ++ b):=fun a b ha hb=>by
  induction a with
  | nil=>exact hb
  | cons x r ih=>simp only [zae,List.cons_append] at ha ⊢; exact ⟨ha.1,ih ha.2⟩
 have one : ∀ (i : Nat) (x y : AObj),[x][i]? = some y→i = 0∧y = x:=fun i x y h=>by
  cases i with
  | zero=>simp at h; exact ⟨rfl,h.symm⟩
  | succ i=>simp at h
 have:=zhM (H:=H) (H':=H.set id (.row true cs')) (fun _=>id) h (fun i j hi hj _=>by simp at hi hj; omega) (fun i o ho=>by
   obtain ⟨_,rfl⟩:=one i _ o ho
   simp only [AObj.ren,zbA cs hcs]; exact hid) (fun i h1 h2=>by simp at h1 h2; omega) (by simp) (fun i o ho=>by
   obtain ⟨_,rfl⟩:=one i _ o ho
   simp only [AObj.ren,zbA cs' hcs']
   rw [List.getElem?_set_self (zcJ hid)]) (fun j hj hne=>by
   rw [List.getElem?_set_ne (hne 0 (by simp))]) (by
   refine hua _ _ (zad _ hpre) ?_
   simp only [zae,zai]
   exact ⟨by simp,zad _ hpost⟩) (fun o ho=>by
   simp at ho; subst ho
   exact zad _ hcs)
 rw [hap,zbA _ hpre,zbE _ hd] at this
 simpa only [renL,D.ren,zbA _ hpost] using this
def putL : List AObj→List Nat→List AObj→List AObj
 | H,i :: L,o :: r=>putL (H.set i o) L r
 | H,_,_=>H
theorem zd7 : ∀ (L : List Nat) (os H : List AObj),(putL H L os).length = H.length
 | [],os,H=>by cases os <;> rfl
 | i :: L,[],H=>rfl
 | i :: L,o :: r,H=>by simp only [putL]; rw [zd7 L r]; simp
theorem zhA : ∀ (L : List Nat) (os H : List AObj) (j : Nat),j ∉ L→(putL H L os)[j]? = H[j]?
 | [],os,H,j,_=>by cases os <;> rfl
 | i :: L,[],H,j,_=>rfl
 | i :: L,o :: r,H,j,h=>by
  simp only [putL]
  rw [zhA L r _ j (fun q=>h (by simp [q])),List.getElem?_set_ne (fun e=>h (by simp [e]))]
theorem zjU : ∀ (L : List Nat) (os H : List AObj) (k : Nat) (o : AObj),L.Nodup→(∀ i∈L,i < H.length)→k < L.length→os[k]? = some o→(putL H L os)[L.getD k 0]? = some o
 | [],os,H,k,o,_,_,h,_=>by simp at h
 | i :: L,[],H,k,o,_,_,_,h=>by simp at h
 | i :: L,x :: r,H,0,o,hn,hl,_,h=>by
  simp only [putL,List.getD_cons_zero]
  rw [zhA L r _ i (List.nodup_cons.1 hn).1,List.getElem?_set_self (hl i (by simp))]
  simpa using h
 | i :: L,x :: r,H,k + 1,o,hn,hl,hk,h=>by
  simp only [putL,List.getD_cons_succ]
  exact zjU L r _ k o (List.nodup_cons.1 hn).2 (fun j hj=>by simpa using hl j (by simp [hj])) (by simpa using hk) (by simpa using h)
theorem zfg {args0 : List D} {H0 H0' : List AObj} {d0 : D} (hA : ACall P f args0 H0 d0 H0') (hl : H0'.length = H0.length) (L : List Nat) (hL : L.length = H0.length) (hnd : L.Nodup)
  (hargs : zae H0.length args0) (hobj : zbg H0.length H0) {args : List D} {d : D} {H : List AObj} (e1 : renL (fun i=>L.getD i 0) args0 = args) (e2 : D.ren (fun i=>L.getD i 0) d0 = d)
  (h1 : ∀ i o,H0[i]? = some o→H[L.getD i 0]? = some (o.ren fun i=>L.getD i 0)) : ACallAt P f args H d (putL H L (H0'.map (AObj.ren fun i=>L.getD i 0))) L:=by
 subst e1 e2
 have mem : ∀ {j},j∈L↔∃ i,i < H0.length∧L.getD i 0 = j:=fun {j}=>by
  rw [List.mem_iff_getElem]
  constructor
  ·rintro ⟨i,hi,rfl⟩
   exact ⟨i,by omega,by rw [List.getD_eq_getElem?_getD,List.getElem?_eq_getElem hi]; rfl⟩
  ·rintro ⟨i,hi,rfl⟩
   exact ⟨i,by omega,by rw [List.getD_eq_getElem?_getD,List.getElem?_eq_getElem (by omega)]; rfl⟩
 have inL : ∀ id∈L,id < H.length:=fun id hid=>by
  obtain ⟨i,hi,rfl⟩:=mem.1 hid
  exact zcJ (h1 i _ (List.getElem?_eq_getElem hi))
 have inj : ∀ i j,i < H0'.length→j < H0'.length→L.getD i 0 = L.getD j 0→i = j:=fun i j hi hj e=>by
  rw [List.getD_eq_getElem?_getD,List.getD_eq_getElem?_getD,List.getElem?_eq_getElem (by omega),List.getElem?_eq_getElem (by omega)] at e
  exact (List.getElem_inj hnd).1 e
 refine ⟨hA.ok,by rw [zd7]; exact Nat.le_refl _,fun id hid=>zhA _ _ _ _ hid,fun id hid=>by rw [zd7]; exact inL id hid,fun J F w vs G hst hG _ hrep=>?_⟩
 have core:=zgL (G:=G) (G':=fun id=>if id∈L then (putL H L (H0'.map (AObj.ren fun i=>L.getD i 0)))[id]? else G id) (fun i=>L.getD i 0) hA inj hst (fun i o ho=>by
   rw [hG _ (mem.2 ⟨i,zcJ ho,rfl⟩)]; exact h1 i o ho) (fun i h1 h2=>by omega) hrep (fun i o ho=>by
   have hi:=zcJ ho
   rw [if_pos (mem.2 ⟨i,by omega,rfl⟩)]
   exact zjU L _ H i _ hnd inL (by omega) (by rw [List.getElem?_map,ho]; rfl)) (fun j hj=>by
   rw [if_neg fun h=>by obtain ⟨i,hi,e⟩:=mem.1 h; exact hj i (by omega) e]) hargs (zeu hobj)
 refine core.mono fun e w' ⟨v,J',F',q1,q2,q3,q4,q5⟩=>⟨v,J',F',q1,q2,fun id hid=>(q3 id hid).imp_right fun ⟨i,hi,e⟩=>mem.2 ⟨i,by omega,e⟩,q4,q5⟩
theorem zl4 {args0 : List D} {H0 : List AObj} {d0 : D} (hA : ACall P f args0 H0 d0 H0) (L : List Nat) (hL : L.length = H0.length) (hnd : L.Nodup)
  (hargs : zae H0.length args0) (hobj : zbg H0.length H0) {args : List D} {d : D} {H : List AObj} (e1 : renL (fun i=>L.getD i 0) args0 = args) (e2 : D.ren (fun i=>L.getD i 0) d0 = d)
  (h1 : ∀ i o,H0[i]? = some o→H[L.getD i 0]? = some (o.ren fun i=>L.getD i 0)) (m : Nat) {q : Bool} {cs : List D} (hm : D.loc m 0∈args) (hrow : H[m]? = some (.row q cs)) (hmL : m∈L) (hin : ∀ id∈L,id = m∨∃ v lo hi,D.own id v lo hi∈cs) : ARead P f args H d L:=by
 have hAt:=zfg hA rfl L hL hnd hargs hobj e1 e2 h1
 have inL : ∀ id∈L,id < H.length∧(putL H L (H0.map (AObj.ren fun i=>L.getD i 0)))[id]? = H[id]?:=fun id hid=>by
  obtain ⟨i,hi,rfl⟩:=List.mem_iff_getElem.1 hid
  have e : L.getD i 0 = L[i]:=by rw [List.getD_eq_getElem?_getD,List.getElem?_eq_getElem hi]; rfl
  have hk:=h1 i _ (List.getElem?_eq_getElem (by omega))
  rw [← e]
  refine ⟨zcJ hk,?_⟩
  rw [hk]
  refine zjU L _ H i _ hnd (fun j hj=>?_) hi (by rw [List.getElem?_map,List.getElem?_eq_getElem (by omega)]; rfl)
  obtain ⟨i',hi',rfl⟩:=List.mem_iff_getElem.1 hj
  have:=zcJ (h1 i' _ (List.getElem?_eq_getElem (by omega)))
  rwa [List.getD_eq_getElem?_getD,List.getElem?_eq_getElem hi'] at this
 refine ⟨hA.ok,fun J F w vs G hok hG hrep=>?_⟩
 have hJm : ∃ s,J m = some s:=by
  have : ∀ (ds : List D) (us : List Value),D.loc m 0∈ds→repL J F w ds us→∃ s,J m = some s:=fun ds=>by
   induction ds with
   | nil=>intro us h; simp at h
   | cons x r ih =>
    intro us h k
    simp only [repL] at k
    obtain ⟨v,us,rfl,k1,k2⟩:=k
    rcases List.mem_cons.1 h with rfl | h
    ·simp only [rep] at k1
     obtain ⟨s,b,k1,_⟩:=k1
     exact ⟨s,k1⟩
    ·exact ih us h k2
  exact this _ _ hm hrep
 have hJ : ∀ id∈L,J id≠none:=fun id hid=>by
  obtain ⟨s,hs⟩:=hJm
  rcases hin id hid with rfl | ⟨v,lo,hi,hc⟩
  ·rw [hs]; simp
  ·obtain ⟨o,k1,k2⟩:=hok.obj m s hs
   rw [hG m hmL,hrow] at k1
   cases k1
   obtain ⟨_,_,_,_,_,b,vals,te,_,_,_,k3,_⟩:=k2
   have : ∀ (ds : List D) (n : Nat),D.own id v lo hi∈ds→repCells J F w b ds n→J id≠none:=fun ds=>by
    induction ds with
    | nil=>intro n h; simp at h
    | cons x r ih =>
     intro n h k
     simp only [repCells] at k
     obtain ⟨⟨u,_,_,k1⟩,k2⟩:=k
     rcases List.mem_cons.1 h with rfl | h
     ·simp only [rep] at k1
      obtain ⟨s',_,_,_,k1,_⟩:=k1
      rw [k1]; simp
     ·exact ih _ h k2
   exact this _ _ hc k3
 refine (hAt.run J F w vs G hok hG (fun id hid hge=>by have:=(inL id hid).1; omega) hrep).mono fun e w' hR=>?_
 obtain ⟨v,J',F',rfl,k1,k2,k3,k4⟩:=hR
 refine ⟨v,J',F',rfl,?_,fun id h=>(k2 id h).elim (fun h=>h) (hJ id),k3,k4⟩
 have e : (fun id=>if id∈L then (putL H L (H0.map (AObj.ren fun i=>L.getD i 0)))[id]? else G id) = G:=by
  funext id
  split
  ·rename_i hid
   rw [(inL id hid).2,hG id hid]
  ·rfl
 rw [e] at k1
 exact k1
def zfJ (L : List Nat) (h n : Nat) : List Nat:=L ++ List.range' h n
theorem zll {args0 : List D} {H0 H0' : List AObj} {d0 : D} (hA : ACall P f args0 H0 d0 H0') (L : List Nat) (hL : L.length = H0.length) (hnd : L.Nodup)
  (hargs : zae H0.length args0) (hobj : zbg H0.length H0) {args : List D} {d : D} {H : List AObj} (W : List Nat) (hW : W = zfJ L H.length (H0'.length - H0.length)) (e1 : renL (fun i=>W.getD i 0) args0 = args) (e2 : D.ren (fun i=>W.getD i 0) d0 = d)
  (h1 : ∀ i o,H0[i]? = some o→H[L.getD i 0]? = some (o.ren fun i=>W.getD i 0)) {H2 : List AObj} (e3 : putL H L ((H0'.take H0.length).map (AObj.ren fun i=>W.getD i 0)) ++ (H0'.drop H0.length).map (AObj.ren fun i=>W.getD i 0) = H2) : ACallAt P f args H d H2 W:=by
 subst e1 e2 e3
 have hl0:=hA.len
 have inL : ∀ id∈L,id < H.length:=fun id hid=>by
  obtain ⟨i,hi,rfl⟩:=List.mem_iff_getElem.1 hid
  have:=zcJ (h1 i _ (List.getElem?_eq_getElem (by omega)))
  rwa [List.getD_eq_getElem?_getD,List.getElem?_eq_getElem hi] at this
 have hWl : W.length = H0'.length:=by rw [hW,zfJ,List.length_append,List.length_range']; omega
 have hWn : W.Nodup:=by
  rw [hW,zfJ,List.nodup_append]
  refine ⟨hnd,List.nodup_range',fun a ha b hb e=>?_⟩
  have:=inL a ha
  have:=(List.mem_range'_1.1 hb).1
  omega
 have mem : ∀ {j},j∈W↔∃ i,i < H0'.length∧W.getD i 0 = j:=fun {j}=>by
  rw [List.mem_iff_getElem]
  constructor
  ·rintro ⟨i,hi,rfl⟩
   exact ⟨i,by omega,by rw [List.getD_eq_getElem?_getD,List.getElem?_eq_getElem hi]; rfl⟩
  ·rintro ⟨i,hi,rfl⟩
   exact ⟨i,by omega,by rw [List.getD_eq_getElem?_getD,List.getElem?_eq_getElem (by omega)]; rfl⟩
 have inj : ∀ i j,i < H0'.length→j < H0'.length→W.getD i 0 = W.getD j 0→i = j:=fun i j hi hj e=>by
  rw [List.getD_eq_getElem?_getD,List.getD_eq_getElem?_getD,List.getElem?_eq_getElem (by omega),List.getElem?_eq_getElem (by omega)] at e
  exact (List.getElem_inj hWn).1 e
 have wold : ∀ i,i < L.length→W.getD i 0 = L.getD i 0:=fun i hi=>by
  rw [hW,zfJ,List.getD_eq_getElem?_getD,List.getElem?_append_left hi,List.getD_eq_getElem?_getD]
 have wnew : ∀ i,L.length≤i→i < H0'.length→W.getD i 0 = H.length + (i - L.length):=fun i h1 h2=>by
  rw [hW,zfJ,List.getD_eq_getElem?_getD,List.getElem?_append_right h1,List.getElem?_range' (by omega)]
  simp
 have hN : (putL H L ((H0'.take H0.length).map (AObj.ren fun i=>W.getD i 0)) ++ (H0'.drop H0.length).map (AObj.ren fun i=>W.getD i 0)).length = H.length + (H0'.length - H0.length):=by
  rw [List.length_append,zd7,List.length_map,List.length_drop]
 have at2 : ∀ i o,H0'[i]? = some o→(putL H L ((H0'.take H0.length).map (AObj.ren fun i=>W.getD i 0)) ++ (H0'.drop H0.length).map (AObj.ren fun i=>W.getD i 0))[W.getD i 0]? = some (o.ren fun i=>W.getD i 0):=fun i o ho=>by
  have hi:=zcJ ho
  rcases Nat.lt_or_ge i L.length with q | q
  ·rw [wold i q,List.getElem?_append_left (by rw [zd7]; exact inL _ (by rw [List.getD_eq_getElem?_getD,List.getElem?_eq_getElem q]; exact List.getElem_mem q))]
   refine zjU L _ H i _ hnd inL q ?_
   rw [List.getElem?_map,List.getElem?_take_of_lt (by omega),ho]
   rfl
  ·rw [wnew i q hi,List.getElem?_append_right (by rw [zd7]; omega),zd7,List.getElem?_map,List.getElem?_drop,show H0.length + (H.length + (i - L.length) - H.length) = i by omega,ho]
   rfl
 refine ⟨hA.ok,by rw [hN]; omega,fun id hid=>?_,fun id hid=>?_,fun J F w vs G hst hG hnone hrep=>?_⟩
 ·have h2 : id ∉ L:=fun h=>hid (by rw [hW,zfJ]; exact List.mem_append_left _ h)
  rcases Nat.lt_or_ge id H.length with q | q
  ·rw [List.getElem?_append_left (by rw [zd7]; exact q),zhA _ _ _ _ h2]
  ·rcases Nat.lt_or_ge id (H.length + (H0'.length - H0.length)) with q2 | q2
   ·exact absurd (by rw [hW,zfJ]; exact List.mem_append_right _ (List.mem_range'_1.2 ⟨q,q2⟩)) hid
   ·rw [List.getElem?_eq_none q,List.getElem?_eq_none (by rw [hN]; exact q2)]
 ·obtain ⟨i,hi,rfl⟩:=mem.1 hid
  exact zcJ (at2 i _ (List.getElem?_eq_getElem hi))
 ·have core:=zgL (G:=G) (G':=fun id=>if id∈W then (putL H L ((H0'.take H0.length).map (AObj.ren fun i=>W.getD i 0)) ++ (H0'.drop H0.length).map (AObj.ren fun i=>W.getD i 0))[id]? else G id) (fun i=>W.getD i 0) hA inj hst (fun i o ho=>by
    have hi:=zcJ ho
    rw [hG _ (mem.2 ⟨i,by omega,rfl⟩),wold i (by omega)]; exact h1 i o ho) (fun i q1 q2=>by
    refine hnone _ (mem.2 ⟨i,q2,rfl⟩) ?_
    rw [wnew i (by omega) q2]; omega) hrep (fun i o ho=>by
    rw [if_pos (mem.2 ⟨i,zcJ ho,rfl⟩)]
    exact at2 i o ho) (fun j hj=>by
    rw [if_neg fun h=>by obtain ⟨i,hi,e⟩:=mem.1 h; exact hj i hi e]) hargs (zeu hobj)
  exact core.mono fun e w' ⟨v,J',F',q1,q2,q3,q4,q5⟩=>⟨v,J',F',q1,q2,fun id hid=>(q3 id hid).imp_right fun ⟨i,hi,e⟩=>mem.2 ⟨i,hi,e⟩,q4,q5⟩
theorem zio {args : List D} {H0' : List AObj} {d0 : D} (hA : ACall P f args [] d0 H0') (hp : zao args) {d : D} {H H2 : List AObj} (W : List Nat) (hW : W = List.range' H.length H0'.length) (e2 : D.ren (fun i=>W.getD i 0) d0 = d)
  (e3 : H ++ H0'.map (AObj.ren fun i=>W.getD i 0) = H2) : ACallAt P f args H d H2 W :=
 zll hA [] rfl .nil (zad _ hp) trivial W (by rw [hW]; rfl) (zbA _ hp) e2 (fun i o h=>by simp at h) (by rw [← e3]; rfl)
end
end
section
open Go.RowKit
section
variable {P : Program} {n : Nat}
def endD (d : D) (H2 : List AObj) (r : D) (Hf : List AObj) : Prop:=DeepM (zfH H2.length) Hf r d∧zg0 H2.length Hf Hf H2
theorem zcm {f : FuncId} {rs : List RV} {p : PC} {args : List D} {H : List AObj} {d : D} {H2 : List AObj} (hf : FunOK P f n rs p) (hn : args.length≤n) (hlen : H.length≤H2.length)
  (h : PWp P n p (retK rs fun r Hf=>endD d H2 r Hf) (params 0 args) H) (hd : zai H2.length d) : ACall P f args H d H2:=by
 refine ⟨zjM hf,hlen,fun J F w vs hok hdom hargs=>?_⟩
 obtain ⟨fn,h1,h2,h3,h4,h5⟩:=hf.out
 cases e : fn.body with
 | none=>rw [e] at h5; cases h5
 | some c =>
  rw [e] at h5
  simp only [Option.bind_some] at h5
  refine calls_of_wp h1 e ?_
  rw [h2]
  refine wp_mono (zc6 h h5 (zil hn hargs hok hdom)) fun e' a' w' ⟨env',H',J',F',q1,q2,q3⟩=>?_
  have fin : e' = .normal∨e' = .ret→a'.defers = []∧∃ v,(results fn a'.tmps).run P w' = .ok v w'∧∃ v' J'' F'',Ending.returned v = Ending.returned v'∧StOK J'' F'' w' (fun i=>H2[i]?)∧(∀ id,J'' id≠none→id < H2.length)∧rep J'' F'' w' d v'∧Ext J F w J'' F'' w':=fun he=>by
   obtain ⟨r,v,⟨hdm,hcl⟩,k2,k3⟩:=zfL h4 q2 he q1
   have hok':=q2.ok
   have kle : (zaQ H2.length J').le J':=fun i s hs=>by
    unfold zaQ at hs
    split at hs
    ·exact ⟨s,hs,Nat.le_refl _,fun _=>rfl⟩
    ·cases hs
   refine ⟨q2.defers,v,k2,v,zaQ H2.length J',fun b=>F' b∨zd0 (zfH H2.length) J' b,rfl,⟨fun i s hs=>?_,fun i i' s s' b g1 g2 g3 g4=>?_,fun i s b o g1 g2 g3 g4=>?_,hok'.lt.mono (fun _ h=>.inl h) (fun _ _=>rfl) fun b hb=>?_⟩,fun i hi=>?_,zfu _ _ hd (zc3 hok' _ _ _ hdm k3),?_⟩
   ·unfold zaQ at hs
    split at hs
    ·rename_i hi
     obtain ⟨o,g1,g2⟩:=hok'.obj i s hs
     obtain ⟨o',g3,g4⟩:=zel H' H2 hcl i o hi g1
     exact ⟨o',g3,(zgp hok' g4 g2).1⟩
    ·cases hs
   ·unfold zaQ at g1 g2
    split at g1 <;> split at g2
    ·exact hok'.one i i' s s' b g1 g2 g3 g4
    all_goals first | cases g1 | cases g2
   ·unfold zaQ at g1
    split at g1
    ·rename_i hi
     obtain ⟨o1,t1,t2⟩:=hok'.obj i s g1
     obtain ⟨o',t3,t4⟩:=zel H' H2 hcl i o1 hi t1
     have g3' : H2[i]? = some o:=g3
     rw [g3'] at t3
     cases t3
     have hmut:=(zgp hok' t4 t2).2
     rintro (hx | ⟨i',s',p1,p2,p3⟩)
     ·exact hok'.apart i s b o1 g1 g2 t1 (by rw [← hmut]; exact g4) hx
     ·have p1:=fromN_iff.1 p1
      have:=hok'.one i i' s s' b g1 p2 g2 p3
      omega
    ·cases g1
   ·exact hb.elim (hok'.lt b) fun ⟨i,s,_,t1,t2⟩=>hok'.blk_lt t1 t2
   ·unfold zaQ at hi
    split at hi
    ·assumption
    ·exact absurd rfl hi
   ·refine ⟨q3.os,q3.tape,q3.output,q3.size,q3.block,q3.frozen,fun i s hs=>?_,fun b hb=>.inl (q3.grow b hb),fun b ⟨i,s,hs,hb⟩=>?_,fun b hb=>?_⟩
    ·obtain ⟨s',g1,g2,g3⟩:=q3.le i s hs
     have hi : i < H2.length:=by have:=hdom i (by rw [hs]; simp); omega
     exact ⟨s',by simp [zaQ,hi,g1],g2,g3⟩
    ·obtain ⟨s',g1,_⟩:=kle i s hs
     unfold zaQ at hs
     split at hs
     ·exact q3.ownsBack b ⟨i,s,hs,hb⟩
     ·cases hs
    ·rcases hb with hb | ⟨i,s,_,t1,t2⟩
     ·exact q3.growBack b hb
     ·rcases q3.ownsBack b ⟨i,s,t1,t2⟩ with q | q
      ·exact .inr (.inl q)
      ·exact .inr (.inr q)
  cases e' with
  | normal=>exact fin (.inl rfl)
  | ret=>exact fin (.inr rfl)
  | exit id=>exact q1.elim
  | goto l=>exact q1.elim
  | panic ch=>exact q1.elim
  | outgrown=>exact q1.elim
end
end
section
open Go.RowKit
abbrev WP:=Post→Env→List AObj→Prop
def skipW : WP:=fun Q env H=>Q .normal env H
def seqQ (g : WP) (Q : Post) : Post:=fun e env H=>match e with
 | .normal=>g Q env H
 | e=>Q e env H
def seqW (f g : WP) : WP:=fun Q env H=>f (seqQ g Q) env H
def condW (c : Operand) (f g : WP) : WP:=fun Q env H=>evK env c fun d=>match d with
 | .sc (.bool t)=>ifK t (f Q env H) (g Q env H)
 | _=>False
def blockQ (id : Nat) (Q : Post) : Post:=fun e env H=>match e with
 | .exit id'=>match Nat.beq id' id with
  | true=>Q .normal env H
  | false=>Q (.exit id') env H
 | e=>Q e env H
def blockW (id : Nat) (f : WP) : WP:=fun Q env H=>f (blockQ id Q) env H
def loopW (P : Program) (n : Nat) (c : PC) : WP:=fun Q env H=>PWp P n (.loop c) Q env H
def stopW (P : Program) (n : Nat) (c : PC) : WP:=fun Q env H=>PWp P n c Q env H
def exitW (id : Nat) : WP:=fun Q env H=>Q (.exit id) env H
def retW : WP:=fun Q env H=>Q .ret env H
abbrev WO:=Env→List AObj→(Env→List AObj→Prop)→Prop
def nilO : WO:=fun env H K=>K env H
def opO (P : Program) (o : POper) (g : WO) : WO:=fun env H K =>
 match o.guard with
 | none=>step P true o.op env H fun d H' _ _=>match o.dst with
  | some t=>g ((t,d) :: env) H' K
  | none=>g env H' K
 | some (t,b)=>zhf t (fun q=>match q with
  | .sc (.bool c)=>match b with
   | true=>ifK c
    (step P true o.op env H fun d H' _ _=>match o.dst with
     | some u=>g ((u,d) :: env) H' K
     | none=>g env H' K)
    (match o.dst with
     | some u=>g ((u,.sc undef) :: env) H K
     | none=>g env H K)
   | false=>ifK c
    (match o.dst with
     | some u=>g ((u,.sc undef) :: env) H K
     | none=>g env H K)
    (step P true o.op env H fun d H' _ _=>match o.dst with
     | some u=>g ((u,d) :: env) H' K
     | none=>g env H' K)
  | .sc (.tuple _)=>match o.dst with
   | some u=>g ((u,.sc undef) :: env) H K
   | none=>g env H K
  | _=>False) env
def opsW (f : WO) : WP:=fun Q env H=>f env H fun env H=>Q .normal env H
abbrev WD:=Env→List AObj→(Env→List AObj→Trace→Prop)→Prop
def nilD : WD:=fun env H K=>K env H []
def opD (P : Program) (o : POper) (g : WD) : WD:=fun env H K =>
 match o.guard with
 | none=>step P false o.op env H fun d H' rd wr=>match o.dst with
  | some t=>g ((t,d) :: env) H' fun e h tr=>K e h (((rd,wr),(zfY o.op env,d,H')) :: tr)
  | none=>g env H' fun e h tr=>K e h (((rd,wr),(zfY o.op env,d,H')) :: tr)
 | some (t,b)=>zhf t (fun q=>match q with
  | .sc (.bool c)=>match b with
   | true=>ifK c
    (step P false o.op env H fun d H' rd wr=>match o.dst with
     | some u=>g ((u,d) :: env) H' fun e h tr=>K e h (((rd,wr),(none,d,H')) :: tr)
     | none=>g env H' fun e h tr=>K e h (((rd,wr),(none,d,H')) :: tr))
    (match o.dst with
     | some u=>g ((u,.sc undef) :: env) H fun e h tr=>K e h ((([],[]),(none,.sc undef,H)) :: tr)
     | none=>g env H fun e h tr=>K e h ((([],[]),(none,.sc undef,H)) :: tr))
   | false=>ifK c
    (match o.dst with
     | some u=>g ((u,.sc undef) :: env) H fun e h tr=>K e h ((([],[]),(none,.sc undef,H)) :: tr)
     | none=>g env H fun e h tr=>K e h ((([],[]),(none,.sc undef,H)) :: tr))
    (step P false o.op env H fun d H' rd wr=>match o.dst with
     | some u=>g ((u,d) :: env) H' fun e h tr=>K e h (((rd,wr),(none,d,H')) :: tr)
     | none=>g env H' fun e h tr=>K e h (((rd,wr),(none,d,H')) :: tr))
  | .sc (.tuple _)=>match o.dst with
   | some u=>g ((u,.sc undef) :: env) H fun e h tr=>K e h ((([],[]),(none,.sc undef,H)) :: tr)
   | none=>g env H fun e h tr=>K e h ((([],[]),(none,.sc undef,H)) :: tr)
  | _=>False) env
def drawW (l : List POper) (f : WD) : WP:=fun Q env H=>f env H fun e h tr=>match zos [] l tr with
 | true=>Q .normal e h
 | false=>match ziN [] l tr with
  | true=>ziL (Q .normal e h) 0 [] l tr
  | false=>False
section
variable {P : Program} {n : Nat}
def RedO (P : Program) (l : List POper) (f : WO) : Prop:=f = zcx P l
def RedD (P : Program) (l : List POper) (f : WD) : Prop:=f = runD P l
def Red (P : Program) (n : Nat) (p : PC) (f : WP) : Prop:=f = pw P n p
theorem RedO.nil : RedO P [] nilO:=rfl
theorem RedO.cons (o : POper) {l : List POper} {g : WO} (h : RedO P l g) : RedO P (o :: l) (opO P o g):=by
 unfold RedO at h ⊢
 subst h
 funext env H K
 rfl
theorem RedD.nil : RedD P [] nilD:=rfl
theorem RedD.cons (o : POper) {l : List POper} {g : WD} (h : RedD P l g) : RedD P (o :: l) (opD P o g):=by
 unfold RedD at h ⊢
 subst h
 funext env H K
 rfl
theorem Red.skip : Red P n .skip skipW:=rfl
theorem Red.ops {l : List POper} {f : WO} (h : RedO P l f) : Red P n (.ops l false) (opsW f):=by
 unfold RedO at h; subst h; rfl
theorem Red.draw {l : List POper} {f : WD} (h : RedD P l f) : Red P n (.ops l true) (drawW l f):=by
 unfold RedD at h; subst h; rfl
theorem Red.seq {a b : PC} {f g : WP} (h : Red P n a f) (k : Red P n b g) : Red P n (.seq a b) (seqW f g):=by
 unfold Red at h k; subst h; subst k; rfl
theorem Red.cond (c : Operand) {a b : PC} {f g : WP} (h : Red P n a f) (k : Red P n b g) : Red P n (.cond c a b) (condW c f g):=by
 unfold Red at h k; subst h; subst k; rfl
theorem Red.block (id : Nat) {a : PC} {f : WP} (h : Red P n a f) : Red P n (.block id a) (blockW id f):=by
 unfold Red at h; subst h; rfl
theorem Red.loop (c : PC) : Red P n (.loop c) (loopW P n c):=rfl
theorem Red.stop (c : PC) : Red P n (.stop c) (stopW P n c):=rfl
theorem Red.exit (id : Nat) : Red P n (.exit id) (exitW id):=rfl
theorem Red.ret : Red P n .ret retW:=rfl
theorem zpa {p : PC} {f : WP} {Q : Post} {env : Env} {H : List AObj} (h : Red P n p f) (k : f Q env H) : PWp P n p Q env H :=
 zfj _ _ _ _ (by unfold Red at h; subst h; exact k)
inductive RdO (P : Program) : List POper→WO→Prop
 | nil : RdO P [] nilO
 | cons {o : POper} {l : List POper} {g : WO} (h : RdO P l g) : RdO P (o :: l) (opO P o g)
inductive RdD (P : Program) : List POper→WD→Prop
 | nil : RdD P [] nilD
 | cons {o : POper} {l : List POper} {g : WD} (h : RdD P l g) : RdD P (o :: l) (opD P o g)
inductive Rd (P : Program) (n : Nat) : PC→WP→Prop
 | skip : Rd P n .skip skipW
 | ret : Rd P n .ret retW
 | exit {id : Nat} : Rd P n (.exit id) (exitW id)
 | loop {c : PC} : Rd P n (.loop c) (loopW P n c)
 | stop {c : PC} : Rd P n (.stop c) (stopW P n c)
 | ops {l : List POper} {f : WO} (h : RdO P l f) : Rd P n (.ops l false) (opsW f)
 | draw {l : List POper} {f : WD} (h : RdD P l f) : Rd P n (.ops l true) (drawW l f)
 | seq {a b : PC} {f g : WP} (h : Rd P n a f) (k : Rd P n b g) : Rd P n (.seq a b) (seqW f g)
 | cond {c : Operand} {a b : PC} {f g : WP} (h : Rd P n a f) (k : Rd P n b g) : Rd P n (.cond c a b) (condW c f g)
 | block {id : Nat} {a : PC} {f : WP} (h : Rd P n a f) : Rd P n (.block id a) (blockW id f)
theorem RdO.red {l : List POper} {f : WO} (h : RdO P l f) : RedO P l f:=by
 induction h with
 | nil=>exact .nil
 | cons _ ih=>exact .cons _ ih
theorem RdD.red {l : List POper} {f : WD} (h : RdD P l f) : RedD P l f:=by
 induction h with
 | nil=>exact .nil
 | cons _ ih=>exact .cons _ ih
theorem Rd.red {p : PC} {f : WP} (h : Rd P n p f) : Red P n p f:=by
 induction h with
 | skip=>exact .skip
 | ret=>exact .ret
 | exit=>exact .exit _
 | loop=>exact .loop _
 | stop=>exact .stop _
 | ops h=>exact .ops h.red
 | draw h=>exact .draw h.red
 | seq _ _ ih ik=>exact .seq ih ik
 | cond _ _ ih ik=>exact .cond _ ih ik
 | block _ ih=>exact .block _ ih
theorem zac {p : PC} {f : WP} {Q : Post} {env : Env} {H : List AObj} (h : Rd P n p f) (k : f Q env H) : PWp P n p Q env H:=zpa h.red k
end
end
section
open Go.RowKit
theorem zbp {L n : Nat} (id j esz : Nat) {env : Env} {H : List AObj} {cs : List D} (hL : L≤H.length) (hid : H[id]? = some (.row true cs)) (hj : cs[j]? = some (.sc (.slice none 0 0))) :
  St.leB L n env H env (H.set id (.row true (cs.set j (.own H.length 0 0 0))) ++ [.vec true 0 esz []]):=fun J F a w hr=>by
 have hfree : J H.length = none:=by
  cases e : J H.length with
  | none=>rfl
  | some s=>have:=hr.dom H.length (by rw [e]; simp); omega
 have hidl:=zcJ hid
 let J' : Inj:=fun i=>if i = H.length then some ⟨false,0,none,esz,0,0⟩ else J i
 have hle : J.le J':=fun i s hs=>⟨s,by
  have : i≠H.length:=fun e=>by subst e; rw [hfree] at hs; cases hs
  simp [J',this,hs],Nat.le_refl _,fun _=>rfl⟩
 have hget : ∀ i,i≠H.length→i≠id→(H.set id (.row true (cs.set j (.own H.length 0 0 0))) ++ [AObj.vec true 0 esz []])[i]? = H[i]?:=fun i hi hne=>by
  rcases Nat.lt_or_ge i H.length with q | q
  ·rw [List.getElem?_append_left (by simpa using q),List.getElem?_set_ne (fun e=>hne e.symm)]
  ·rw [List.getElem?_eq_none q,List.getElem?_eq_none (by simp; omega)]
 have hgid : (H.set id (.row true (cs.set j (.own H.length 0 0 0))) ++ [AObj.vec true 0 esz []])[id]? = some (.row true (cs.set j (.own H.length 0 0 0))):=by
  rw [List.getElem?_append_left (by simpa using hidl),List.getElem?_set_self hidl]
 have hnew : ∀ v,v = Value.slice none 0 0→rep J' F w (.own H.length 0 0 0) v:=fun v hv=>by
  simp only [rep]
  exact ⟨_,none,0,0,by simp [J']; rfl,hv,Nat.le_refl _,fun _=>⟨rfl,Nat.le_refl _,Nat.zero_le _,rfl,rfl,.inl rfl⟩⟩
 refine ⟨J',F,⟨hr.defers,hr.size,fun u=>za4 hle (fun _ h=>h) (fun _ _=>rfl) _ _ (hr.tmps u),⟨fun i s hs=>?_,fun i i' s s' b g1 g2 g3 g4=>?_,fun i s b o g1 g2 g3 g4=>?_,hr.ok.lt⟩,fun i hi=>?_⟩,fun i s hi hs=>?_,fun b hb=>hb,fun b ⟨i,s,hs,hb⟩=>?_,fun b hb=>.inl hb⟩
 ·simp only [J'] at hs
  split at hs
  ·rename_i e; subst e
   cases hs
   exact ⟨.vec true 0 esz [],by simp,rfl,rfl,rfl,rfl,Nat.le_refl _,.inl rfl⟩
  ·rename_i e
   obtain ⟨o,h1,h2⟩:=hr.ok.obj i s hs
   by_cases e2 : i = id
   ·subst e2
    have h1' : H[i]? = some o:=h1
    rw [hid] at h1'
    cases h1'
    obtain ⟨k1,k2,k3,k4,k5,b,vals,te,t1,t2,t3,t4,t5⟩:=h2
    refine ⟨_,hgid,k1,k2,k3,by rw [List.length_set]; exact k4,by rw [List.length_set]; exact k5,b,vals,te,t1,t2,by rw [List.length_set]; exact t3,zbl _ _ fun q c hq=>?_,t5⟩
    by_cases e3 : q = j
    ·subst e3
     rw [List.getElem?_set_self (zcJ hj)] at hq
     cases hq
     obtain ⟨u,p1,p2,p3⟩:=zbs _ _ _ _ hj t4
     simp only [rep] at p3
     exact ⟨u,p1,p2,hnew u p3⟩
    ·rw [List.getElem?_set_ne (fun e=>e3 e.symm)] at hq
     obtain ⟨u,p1,p2,p3⟩:=zbs _ _ _ _ hq t4
     exact ⟨u,p1,p2,za4 hle (fun _ h=>h) (fun _ _=>rfl) _ _ p3⟩
   ·exact ⟨o,by rw [hget i e e2]; exact h1,zbJ hle (fun _ h=>h) (fun _ _=>rfl) (fun _ _=>rfl) h2⟩
 ·simp only [J'] at g1 g2
  split at g1
  ·cases g1; simp [Site.blk] at g3
  ·split at g2
   ·cases g2; simp [Site.blk] at g4
   ·exact hr.ok.one i i' s s' b g1 g2 g3 g4
 ·simp only [J'] at g1
  split at g1
  ·cases g1; simp [Site.blk] at g2
  ·rename_i e
   by_cases e2 : i = id
   ·subst e2
    exact hr.ok.apart i s b _ g1 g2 hid rfl
   ·exact hr.ok.apart i s b o g1 g2 (by rw [← hget i e e2]; exact g3) g4
 ·simp only [J'] at hi
  rw [List.length_append,List.length_singleton,List.length_set]
  split at hi
  ·omega
  ·have:=hr.dom i hi; omega
 ·have : i≠H.length:=by omega
  simp [J',this,hs]
 ·simp only [J'] at hs
  split at hs
  ·cases hs; simp [Site.blk] at hb
  ·exact ⟨i,s,hs,hb⟩
end
section
open Go.RowKit
def zjq (S : Nat→Bool) (H : List AObj) (env : Env) : Env→Prop
 | []=>True
 | (t,d) :: r=>DeepM S H (lookD t env) d∧zjq S H env r
def zoD (S : Nat→Bool) (H : List AObj) (i : Nat) : AObj→AObj→Prop
 | .row q cs,.row q' cs'=>(q' = q∨(S i = true∧q' = false))∧(S i = true→q' = false)∧DeepML S H cs cs'
 | .vec q v e xs,.vec q' v' e' xs'=>(q' = q∨(S i = true∧q' = false))∧(S i = true→q' = false)∧v = v'∧e = e'∧DeepMLL S H xs xs'
 | .mapo q I,.mapo q' I'=>(q' = q∨(S i = true∧q' = false))∧(S i = true→q' = false)∧I = I'
 | _,_=>False
def zgN (S : Nat→Bool) (H : List AObj) : Nat→List AObj→List AObj→Prop
 | _,[],[]=>True
 | i,o :: r,o' :: r'=>zoD S H i o o'∧zgN S H (i + 1) r r'
 | _,_,_=>False
theorem zg1 {S : Nat→Bool} {H : List AObj} {env : Env} : ∀ (env' : Env),zjq S H env env'→∀ t,DeepM S H (lookD t env) (lookD t env')∨lookD t env' = .junk
 | [],_,t=>.inr rfl
 | (k,d) :: r,h,t=>by
  simp only [zjq] at h
  rw [zc2]
  split
  ·rename_i e; subst e; exact .inl h.1
  ·exact zg1 r h.2 t
theorem zie {S : Nat→Bool} {H : List AObj} : ∀ (l l' : List AObj) (k : Nat),zgN S H k l l'→l.length = l'.length∧∀ i (o : AObj),l[i]? = some o→∃ o',l'[i]? = some o'∧zoD S H (k + i) o o'
 | [],[],k,_=>⟨rfl,fun i o h=>by simp at h⟩
 | [],_ :: _,k,h=>by simp only [zgN] at h
 | _ :: _,[],k,h=>by simp only [zgN] at h
 | o :: r,o' :: r',k,h=>by
  simp only [zgN] at h
  obtain ⟨h1,h2⟩:=zie r r' (k + 1) h.2
  refine ⟨by simp [h1],fun i x hx=>?_⟩
  cases i with
  | zero=>simp at hx; subst hx; exact ⟨o',rfl,h.1⟩
  | succ i =>
   obtain ⟨y,q1,q2⟩:=h2 i x (by simpa using hx)
   exact ⟨y,by simpa using q1,by rw [show k + (i + 1) = k + 1 + i by omega]; exact q2⟩
theorem zej {L n : Nat} (S : Nat→Bool) {env env' : Env} {H H' : List AObj} (hE : zjq S H env env') (hH : zgN S H 0 H H') : St.leB L n env H env' H':=fun J F a w hr=>by
 obtain ⟨hlen,hget⟩:=zie H H' 0 hH
 have hok:=hr.ok
 refine ⟨J,fun b=>F b∨zd0 S J b,⟨hr.defers,hr.size,fun t=>?_,⟨fun i s hs=>?_,hok.one,fun i s b o g1 g2 g3 g4=>?_,hok.lt.mono (fun _ h=>.inl h) (fun _ _=>rfl) fun b hb=>hb.elim (hok.lt b) fun ⟨i,s,_,h1,h2⟩=>hok.blk_lt h1 h2⟩,fun i hi=>by rw [← hlen]; exact hr.dom i hi⟩,fun i s hi hs=>hs,fun b hb=>.inl hb,fun b hb=>hb,fun b hb=>hb.imp_right fun ⟨i,s,_,h1,h2⟩=>⟨i,s,h1,h2⟩⟩
 ·rcases zg1 env' hE t with h1 | e
  ·exact zc3 hok _ _ _ h1 (hr.tmps t)
  ·rw [e]; simp only [rep]
 ·obtain ⟨o,h1,h2⟩:=hok.obj i s hs
  obtain ⟨o',h3,h4⟩:=hget i o h1
  rw [Nat.zero_add] at h4
  refine ⟨o',h3,?_⟩
  cases o with
  | row q cs =>
   cases o' with
   | vec=>exact h4.elim
   | mapo=>exact h4.elim
   | row q' cs' =>
    obtain ⟨p1,_,p2⟩:=h4
    obtain ⟨k1,k2,k3,k4,k5,b,vals,te,t1,t2,t3,t4,t5⟩:=h2
    have hl:=zfw _ _ p2
    refine ⟨k1,k2,k3,by rw [← hl]; exact k4,by rw [← hl]; exact k5,b,vals,te,t1,t2,by rw [← hl]; exact t3,zca hok _ _ b 0 p2 t4,fun e=>?_⟩
    rcases p1 with rfl | ⟨p1,_⟩
    ·exact .inl (t5 e)
    ·exact .inr ⟨i,s,p1,hs,by simp [Site.blk,k1,t1]⟩
  | vec q v e xs =>
   cases o' with
   | row=>exact h4.elim
   | mapo=>exact h4.elim
   | vec q' v' e' xs' =>
    obtain ⟨p1,_,rfl,rfl,p2⟩:=h4
    obtain ⟨k1,k2,k3,k4,k5,k6⟩:=h2
    have hl:=zcB _ _ p2
    refine ⟨k1,k2,k3,by rw [← hl]; exact k4,k5,?_⟩
    by_cases hz : s.cap = 0
    ·exact .inl hz
    rcases k6 with k6 | ⟨b,o,vals,te,t1,t2,t3,t4,t5⟩
    ·exact .inl k6
    ·refine .inr ⟨b,o,vals,te,t1,t2,t3,zbZ hok _ _ b e o p2 t4,fun e=>?_⟩
     rcases p1 with rfl | ⟨p1,_⟩
     ·exact .inl (t5 e)
     ·exact .inr ⟨i,s,p1,hs,by simp [Site.blk,k1,hz,t1]⟩
  | mapo q I =>
   cases o' with
   | row=>exact h4.elim
   | vec=>exact h4.elim
   | mapo q' I' =>
    obtain ⟨_,_,rfl⟩:=h4
    exact h2
 ·obtain ⟨o0,h1,h2⟩:=hok.obj i s g1
  obtain ⟨o',h3,h4⟩:=hget i o0 h1
  rw [Nat.zero_add] at h4
  have g3' : H'[i]? = some o:=g3
  rw [h3] at g3'
  cases g3'
  have hm : ¬ S i = true∧o0.mut = true:=by
   cases o0 with
   | row q cs =>
    cases o with
    | vec=>exact h4.elim
    | mapo=>exact h4.elim
    | row q' cs' =>
     obtain ⟨p1,p2,_⟩:=h4
     simp only [AObj.mut] at g4 ⊢
     refine ⟨fun h=>?_,?_⟩
     ·rw [p2 h] at g4; cases g4
     ·rcases p1 with rfl | ⟨_,rfl⟩
      ·exact g4
      ·cases g4
   | vec q v e xs =>
    cases o with
    | row=>exact h4.elim
    | mapo=>exact h4.elim
    | vec q' v' e' xs' =>
     obtain ⟨p1,p2,_⟩:=h4
     simp only [AObj.mut] at g4 ⊢
     refine ⟨fun h=>?_,?_⟩
     ·rw [p2 h] at g4; cases g4
     ·rcases p1 with rfl | ⟨_,rfl⟩
      ·exact g4
      ·cases g4
   | mapo q I =>
    cases o with
    | row=>exact h4.elim
    | vec=>exact h4.elim
    | mapo q' I' =>
     obtain ⟨p1,p2,_⟩:=h4
     simp only [AObj.mut] at g4 ⊢
     refine ⟨fun h=>?_,?_⟩
     ·rw [p2 h] at g4; cases g4
     ·rcases p1 with rfl | ⟨_,rfl⟩
      ·exact g4
      ·cases g4
  rintro (hx | ⟨i',s',p1,p2,p3⟩)
  ·exact hok.apart i s b o0 g1 g2 h1 hm.2 hx
  ·have:=hok.one i i' s s' b g1 p2 g2 p3
   subst this
   exact hm.1 p1
end
end
section
section
open Go.RowKit
mutual
def lens {H : Type} (L : Nat) : DataW H→Prop
 | .lit (.string b)=>b.length≤L
 | .lit _=>True
 | .slice elems _=>elems.length≤L∧zdQ L elems
 | .agg parts=>zdQ L parts
 | _=>True
def zdQ {H : Type} (L : Nat) : List (DataW H)→Prop
 | []=>True
 | d :: r=>lens L d∧zdQ L r
end
theorem zf2 {H : Type} {L : Nat} : ∀ {l : List (DataW H)},zdQ L l→∀ d∈l,lens L d
 | [],_,_,h=>by cases h
 | x :: r,h,d,hd=>by
  simp only [zdQ] at h
  rcases List.mem_cons.1 hd with rfl | hd
  ·exact h.1
  ·exact zf2 h.2 d hd
mutual
inductive OfTz (P : Program) (L : Nat) : TypeId→List D→Prop
 | bool (t : TypeId) (b : Bool) (ht : P.underlying t = some .bool) : OfTz P L t [.sc (.bool b)]
 | int (t : TypeId) (k : IntKind) (n : Int) (ht : P.underlying t = some (.int k)) (h : k.min≤n∧n≤k.max) : OfTz P L t [.sc (.int k n)]
 | str (t : TypeId) (s : ByteArray) (ht : P.underlying t = some .string) (h : s.size≤140737488351232) (hL : L = 0∨s.size≤L) : OfTz P L t [.sc (.string s)]
 | slice (t e : TypeId) (xs : List (List D)) (ht : P.underlying t = some (.slice e)) (hn : xs.length≤9223372036854775807∧xs.length * P.bytesOf e≤140737488351232) (hL : L = 0∨xs.length≤L) (h : OfTLz P L e xs) : OfTz P L t [.lst (P.cellsOf e) xs]
 | struct (t : TypeId) (fs : Array Field) (cs : List D) (ht : P.underlying t = some (.struct fs)) (h : OfTsz P L (fs.toList.map (·.type)) cs) : OfTz P L t cs
inductive OfTsz (P : Program) (L : Nat) : List TypeId→List D→Prop
 | nil : OfTsz P L [] []
 | cons (t : TypeId) (ts : List TypeId) (a b : List D) (h : OfTz P L t a) (k : OfTsz P L ts b) : OfTsz P L (t :: ts) (a ++ b)
inductive OfTLz (P : Program) (L : Nat) : TypeId→List (List D)→Prop
 | nil (e : TypeId) : OfTLz P L e []
 | cons (e : TypeId) (x : List D) (r : List (List D)) (h : OfTz P L e x) (k : OfTLz P L e r) : OfTLz P L e (x :: r)
end
section
variable {P : Program} {L : Nat} {t : TypeId} {cs : List D}
theorem zoq {k : IntKind} (ht : P.underlying t = some (.int k)) (h : OfTz P L t cs) : ∃ n,cs = [.sc (.int k n)]∧k.min≤n∧n≤k.max:=by
 cases h <;> simp_all
theorem zoQ {e : TypeId} (ht : P.underlying t = some (.slice e)) (h : OfTz P L t cs) : ∃ xs,cs = [.lst (P.cellsOf e) xs]∧(xs.length≤9223372036854775807∧xs.length * P.bytesOf e≤140737488351232)∧OfTLz P L e xs:=by
 cases h <;> simp_all
theorem of_slice {e : TypeId} (ht : P.underlying t = some (.slice e)) (h : OfTz P L t cs) : ∃ xs,cs = [.lst (P.cellsOf e) xs]∧xs.length≤9223372036854775807∧OfTLz P L e xs:=by
 obtain ⟨xs,e,h,k⟩:=zoQ ht h
 exact ⟨xs,e,h.1,k⟩
theorem zj5 {e : TypeId} (ht : P.underlying t = some (.slice e)) (h : OfTz P (L + 1) t cs) : ∃ xs,cs = [.lst (P.cellsOf e) xs]∧xs.length≤L + 1∧OfTLz P (L + 1) e xs:=by
 cases h <;> simp_all
theorem zkm {fs : Array Field} (ht : P.underlying t = some (.struct fs)) (h : OfTz P L t cs) : OfTsz P L (fs.toList.map (·.type)) cs:=by
 cases h <;> simp_all
theorem zlV (h : OfTsz P L [] cs) : cs = []:=by cases h; rfl
theorem zeU {ts : List TypeId} (h : OfTsz P L (t :: ts) cs) : ∃ a b,cs = a ++ b∧OfTz P L t a∧OfTsz P L ts b:=by
 cases h with
 | cons t ts a b h k=>exact ⟨a,b,rfl,h,k⟩
theorem of_cells {α : Type} {e : TypeId} {f : α→Value} {ok : α→Prop} (he : ∀ cs,OfTz P L e cs→∃ a,cs = [.sc (f a)]∧ok a) {xs : List (List D)} (h : OfTLz P L e xs) : ∃ l : List α,xs = l.map (fun a=>[.sc (f a)])∧∀ a∈l,ok a:=by
 induction xs with
 | nil=>exact ⟨[],rfl,by simp⟩
 | cons x r ih =>
  cases h with
  | cons _ _ _ h k =>
   obtain ⟨a,rfl,ha⟩:=he x h
   obtain ⟨l,rfl,hl⟩:=ih k
   exact ⟨a :: l,rfl,fun b hb=>by
    rcases List.mem_cons.1 hb with rfl | hb
    ·exact ha
    ·exact hl b hb⟩
end
def zkQ (P : Program) : List Field→Nat→Nat→Bool
 | [],o,n=>o == n
 | f :: r,o,n=>f.offset == o && zkQ P r (o + P.cellsOf f.type) n
def zjx (P : Program) (S : List TypeId) : Bool:=S.all fun t=>match P.underlying t with
 | some .bool | some .string=>true
 | some (.int _)=>true
 | some (.slice e)=>S.contains e && decide (0 < P.cellsOf e)
 | some (.struct fs)=>zkQ P fs.toList 0 (P.cellsOf t) && fs.toList.all fun f=>S.contains f.type
 | _=>false
section
variable {P : Program}
theorem zmd {L : Nat} {e : TypeId} : ∀ {xs : List (List D)},(∀ x∈xs,OfTz P L e x)→OfTLz P L e xs
 | [],_=>.nil e
 | x :: r,h=>.cons e x r (h x (by simp)) (zmd fun y hy=>h y (by simp [hy]))
theorem zlO {L : Nat} {e : TypeId} : ∀ {xs : List (List D)},OfTLz P L e xs→∀ x∈xs,OfTz P L e x
 | _,.nil _,x,h=>by cases h
 | _,.cons _ y r h k,x,hx=>by
  rcases List.mem_cons.1 hx with rfl | hx
  ·exact h
  ·exact zlO k x hx
variable {H : Type} {enc : TypeId × Value→H} {W : World} {spare : Nat→Bool} {held : Bool}
def zhh (W : World) : Nat→Prop:=fun b=>b < W.heap.size
theorem ziO {L : Nat} {cs : List Value} {N : Nat} (hl : cs.length = N) : ∀ (l : List Field) (o : Nat),zkQ P l o N = true →
  (∀ f∈l,∃ ds,OfTz P L f.type ds∧repL noInj (zhh W) W ds ((cs.drop f.offset).take (P.cellsOf f.type))∧(∀ v∈(cs.drop f.offset).take (P.cellsOf f.type),zaU v = true)) →
  ∃ ds,OfTsz P L (l.map (·.type)) ds∧repL noInj (zhh W) W ds (cs.drop o)∧∀ v∈cs.drop o,zaU v = true
 | [],o,ho,_=>by
  simp only [zkQ,beq_iff_eq] at ho
  refine ⟨[],.nil,?_,?_⟩
  ·simp only [repL]; exact List.drop_eq_nil_of_le (by omega)
  ·rw [List.drop_eq_nil_of_le (by omega)]; intro v hv; cases hv
 | f :: r,o,ho,h=>by
  simp only [zkQ,Bool.and_eq_true,beq_iff_eq] at ho
  obtain ⟨ho1,ho2⟩:=ho
  obtain ⟨a,h1,h2,h3⟩:=h f (by simp)
  obtain ⟨b,k1,k2,k3⟩:=ziO hl r (o + P.cellsOf f.type) ho2 fun g hg=>h g (by simp [hg])
  rw [ho1] at h2 h3
  have e : cs.drop o = (cs.drop o).take (P.cellsOf f.type) ++ cs.drop (o + P.cellsOf f.type):=by
   rw [← List.drop_drop,List.take_append_drop]
  refine ⟨a ++ b,.cons _ _ _ _ h1 k1,?_,?_⟩
  ·rw [e]; exact zdD h2 k2
  ·intro v hv
   rw [e] at hv
   rcases List.mem_append.1 hv with hv | hv
   ·exact h3 v hv
   ·exact k3 v hv
theorem zfC {e : TypeId} : ∀ {ds : List (DataW H)} {d : DataW H},d∈ds→∀ n∈d.weights P e,n∈DataW.weightsAll P e ds
 | d0 :: ds,d,hd,n,hn=>by
  simp only [DataW.weightsAll,List.mem_append]
  rcases List.mem_cons.1 hd with rfl | hd
  ·exact .inl hn
  ·exact .inr (zfC hd n hn)
 | [],_,hd,_,_=>by cases hd
theorem znB {L : Nat} {S : List TypeId} (hS : zjx P S = true) : ∀ (fuel : Nat) (t : TypeId) (cs : List Value) (x : DataW H × List MemPlace),t∈S→DataW.trod enc P W 0 spare held fuel t cs = some x→(∀ n∈x.1.weights P t,n≤reachBytes)→(L = 0∨lens L x.1) →
  ∃ ds,OfTz P L t ds∧repL noInj (zhh W) W ds cs∧∀ v∈cs,zaU v = true:=by
 intro fuel
 induction fuel using Nat.strongRecOn with
 | ind fuel ih =>
  intro t cs x ht h hz hL
  have hT:=List.all_eq_true.1 hS t ht
  split at hT
  ·rename_i hu
   obtain ⟨b,rfl,_⟩:=DataW.trod_bool hu h
   exact ⟨_,.bool t b hu,by simp [repL,rep],by simp [zaU]⟩
  ·rename_i hu
   obtain ⟨s,rfl,hx,hs⟩:=DataW.trod_string hu h
   subst hx
   have hw:=hz s.size (by simp [DataW.weights])
   exact ⟨_,.str t s hu (by unfold reachBytes at hw; omega) (hL.imp_right fun q=>by
    simp only [lens] at q
    have e : s.data.toList.length = s.size:=by rw [Array.length_toList]; rfl
    omega),by simp [repL,rep],by simp [zaU]⟩
  ·rename_i k hu
   obtain ⟨n,rfl,_,hw⟩:=DataW.trod_int hu h
   simp only [Lit.wf,Bool.and_eq_true,decide_eq_true_eq] at hw
   exact ⟨_,.int t k n hu hw,by simp [repL,rep],by simp [zaU]⟩
  ·rename_i e hu
   simp only [Bool.and_eq_true,List.contains_iff_mem,decide_eq_true_eq] at hT
   obtain ⟨he,hpos⟩:=hT
   rcases DataW.trod_slice hu h with ⟨rfl,_⟩ | ⟨a,len,cap,elems,rest,n',hn',rfl,hx,_,hl,hm,hel,hat,_,_⟩
   ·refine ⟨_,.slice t e [] hu (by simp) (.inr (Nat.zero_le _)) (.nil e),?_,by simp [zaU]⟩
    simp only [repL,rep]
    exact ⟨_,_,rfl,⟨none,0,0,rfl,rfl,Nat.le_refl _,.inl rfl⟩,rfl⟩
   ·have hx1 : x.1 = .slice (elems.map (·.1)) (rest.map (·.1)):=by rw [hx]
    rw [hx1] at hz hL
    have hLe : L = 0∨(elems.length≤L∧∀ d∈elems.map (·.1),lens L d):=hL.imp_right fun q=>by
     simp only [lens,List.length_map] at q
     exact ⟨q.1,zf2 q.2⟩
    have hw:=hz ((elems.length + rest.length) * P.bytesOf e) (by simp [DataW.weights,hu])
    have hwe : ∀ d∈elems.map (·.1),∀ n∈d.weights P e,n≤reachBytes:=fun d hd n hn=>hz n (by
     have:=zfC hd n hn
     simp [DataW.weights,hu,this])
    have each : ∀ i,i < len→∃ ds,OfTz P L e ds∧ds.length = P.cellsOf e∧(∀ j c,ds[j]? = some c→∃ u,W.cell? ((a.add (i * P.cellsOf e)).add j) = some u∧zaU u = true∧rep noInj (zhh W) W c u):=fun i hi=>by
     have hi':=hat i hi
     rw [List.getElem?_eq_getElem (by omega)] at hi'
     obtain ⟨cs',hc1,hc2⟩:=Option.bind_eq_some_iff.1 hi'
     obtain ⟨ds,q1,q2,q3⟩:=ih n' (by omega) e cs' _ he hc2 (hwe _ (List.mem_map_of_mem (List.getElem_mem _))) (hLe.imp_right fun q=>q.2 _ (List.mem_map_of_mem (List.getElem_mem _)))
     obtain ⟨_,hcl,hc⟩:=World.cells?_some hc1
     have hlen:=zbw _ _ q2
     refine ⟨ds,q1,by omega,fun j c hj=>?_⟩
     have hjl : j < ds.length:=by
      rcases Nat.lt_or_ge j ds.length with q | q
      ·exact q
      ·rw [List.getElem?_eq_none q] at hj; cases hj
     obtain ⟨v,k1,k2⟩:=zco _ _ j c hj q2
     exact ⟨v,by rw [hc j (by omega)]; exact k1,q3 v (List.mem_of_getElem? k1),k2⟩
    obtain ⟨R,hR⟩ : ∃ R : Nat→List D,∀ i,i < len→OfTz P L e (R i)∧(R i).length = P.cellsOf e∧(∀ j c,(R i)[j]? = some c→∃ u,W.cell? ((a.add (i * P.cellsOf e)).add j) = some u∧zaU u = true∧rep noInj (zhh W) W c u):=by
     refine ⟨fun i=>if h : i < len then Classical.choose (each i h) else [],fun i hi=>?_⟩
     simp only [dif_pos hi]
     exact Classical.choose_spec (each i hi)
    refine ⟨_,.slice t e ((List.range len).map R) hu (by
     rw [List.length_map,List.length_range]
     refine ⟨by unfold maxLen at hm; omega,Nat.le_trans (Nat.mul_le_mul_right _ ?_) hw⟩
     omega) (hLe.imp_right fun q=>by
      rw [List.length_map,List.length_range]
      omega) (zmd fun x hx=>?_),?_,by simp [zaU]⟩
    ·obtain ⟨i,hi,rfl⟩:=List.mem_map.1 hx
     exact (hR i (List.mem_range.1 hi)).1
    ·simp only [repL,rep]
     refine ⟨_,_,rfl,⟨some a,len,cap,rfl,by simp,hl,?_⟩,rfl⟩
     rcases Nat.eq_zero_or_pos len with h0 | h0
     ·exact .inl h0
     ·refine .inr ?_
      obtain ⟨_,g2,g3⟩:=hR 0 h0
      obtain ⟨u,hu,_⟩:=g3 0 _ (List.getElem?_eq_getElem (by omega))
      obtain ⟨b,o,sp⟩:=a
      have hsp : sp = none:=by
       simp only [Addr.add,World.cell?] at hu
       split at hu
       ·cases sp with
        | none=>rfl
        | some q=>simp at hu
       ·cases hu
      subst hsp
      rw [zcZ,zcZ] at hu
      have hb : b < W.heap.size:=World.block_lt_of_cell? _ _ hu
      refine ⟨b,o,rfl,hb,zcc _ o fun i x hx=>?_⟩
      have hi : i < len:=by
       rcases Nat.lt_or_ge i len with q | q
       ·exact q
       ·rw [List.getElem?_eq_none (by simpa using q)] at hx; cases hx
      rw [List.getElem?_map,List.getElem?_range hi] at hx
      simp at hx
      subst hx
      obtain ⟨_,w2,w3⟩:=hR i hi
      exact ⟨w2,zbl _ _ fun j c hc=>by
       have:=w3 j c hc
       rwa [zcZ,zcZ] at this⟩
  ·rename_i fs hu
   simp only [Bool.and_eq_true] at hT
   obtain ⟨ho,hf⟩:=hT
   obtain ⟨ys,n,hn,hx,hlen,hyl,hget⟩:=DataW.trod_struct hu h
   have hx1 : x.1 = .agg (ys.map (·.1)):=by rw [hx]
   rw [hx1] at hz hL
   obtain ⟨ds,k1,k2,k3⟩:=ziO (P:=P) (W:=W) (L:=L) hlen fs.toList 0 ho fun f hmem=>by
    obtain ⟨i,hi,rfl⟩:=List.mem_iff_getElem.1 hmem
    have hi' : i < fs.size:=by simpa using hi
    have hg:=hget i _ (Array.getElem?_eq_getElem hi')
    rw [List.getElem?_eq_getElem (by omega)] at hg
    have hin : (fs[i]).type∈S:=by
     have:=List.all_eq_true.1 hf _ hmem
     simpa using this
    have e : fs.toList[i] = fs[i]:=by simp
    rw [e]
    refine ih n (by omega) _ _ _ hin hg (fun m hm=>hz m ?_) (hL.imp_right fun q=>by
     simp only [lens] at q
     exact zf2 q _ (List.mem_map_of_mem (List.getElem_mem _)))
    have hwm:=DataW.weights_mem_each (P:=P) (ts:=fs.toList.map (·.type)) (ds:=ys.map (·.1)) (j:=i) (t:=(fs[i]).type) (d:=(ys[i]'(by omega)).1) (by rw [List.getElem?_map,Array.getElem?_toList,Array.getElem?_eq_getElem hi']; rfl) (by rw [List.getElem?_map,List.getElem?_eq_getElem (by omega)]; rfl) m hm
    simpa [DataW.weights,hu] using hwm
   rw [List.drop_zero] at k2 k3
   exact ⟨ds,.struct t fs ds hu k1,k2,k3⟩
  ·cases hT
theorem rep_arg {L : Nat} {S : List TypeId} (hS : zjx P S = true) {t : TypeId} (ht : t∈S) {v : Value} {d : DataW H} {ps : List MemPlace} (h : DataW.Trod enc P W 0 spare held t v d ps) (hz : ∀ n∈d.weights P t,n≤reachBytes) (hL : L = 0∨lens L d) : ∃ ds,OfTz P L t ds∧repL noInj (zhh W) W ds v.cells.toList∧∀ u∈v.cells.toList,zaU u = true:=by
 obtain ⟨fuel,hf⟩:=h
 exact znB hS fuel t _ _ ht hf hz hL
theorem rep_agg {cs : List D} {xs : Array Value} (h : repL noInj (zhh W) W cs (Value.agg xs).cells.toList) : rep noInj (zhh W) W (.agg cs) (.agg xs):=by
 simp only [rep]
 exact ⟨xs.toList,by simp,h⟩
end
end
section
open Go.ChangeShapes Go.WideShapes Go.ChangeAt Go.RowKit Go.Deep
def OfAz (P : Program) (L : Nat) (t : TypeId) (d : D) : Prop:=match P.underlying t with
 | some (.struct _)=>∃ cs,d = .agg cs∧OfTz P L t cs
 | _=>OfTz P L t [d]
def OfAsz (P : Program) (L : Nat) : List TypeId→List D→Prop
 | [],[]=>True
 | t :: ts,d :: ds=>OfAz P L t d∧OfAsz P L ts ds
 | _,_=>False
section
variable {H : Type} {enc : TypeId × Value→H} {P : Program} {W : World}
theorem ofT_one {L : Nat} {t : TypeId} {ds : List D} (hu : ∀ fs,P.underlying t≠some (.struct fs)) (h : OfTz P L t ds) : ∃ d,ds = [d]:=by
 cases h with
 | struct=>rename_i ht _; exact absurd ht (hu _)
 | _=>exact ⟨_,rfl⟩
theorem zkM {L : Nat} {S : List TypeId} (hS : zjx P S = true) {base : Nat} : ∀ (ts : List TypeId) (vs : List Value) (ds : List (DataW H)) (ps : List MemPlace),(∀ t∈ts,t∈S)→(∀ (j : Nat) (t : TypeId) (v : Value),ts[j]? = some t→vs[j]? = some v→Value.okWide P W .any base t v) →
  DataW.TrodAll enc P W 0 (fun _=>true) true ts vs ds ps→(∀ n∈DataW.weightsEach P ts ds,n≤reachBytes)→(L = 0∨zdQ L ds)→∃ Ds,OfAsz P L ts Ds∧repL noInj (zhh W) W Ds vs
 | [],[],[],_,_,_,_,_,_=>⟨[],trivial,by simp only [repL]⟩
 | t :: ts,v :: vs,d :: ds,ps,hts,hval,h,hz,hL=>by
  obtain ⟨p,q,h1,h2,_⟩:=h
  obtain ⟨cs,k1,k2,k3⟩:=rep_arg hS (hts t (by simp)) h1 (fun n hn=>hz n (by simp [DataW.weightsEach,hn])) (hL.imp_right fun q=>by simp only [zdQ] at q; exact q.1)
  obtain ⟨Ds,g1,g2⟩:=zkM hS ts vs ds q (fun u hu=>hts u (by simp [hu])) (fun j u x hj hx=>hval (j + 1) u x (by simpa using hj) (by simpa using hx)) h2 (fun n hn=>hz n (by simp [DataW.weightsEach,hn])) (hL.imp_right fun q=>by simp only [zdQ] at q; exact q.2)
  have hv:=hval 0 t v rfl rfl
  have one : ∃ c,OfAz P L t c∧rep noInj (zhh W) W c v:=by
   unfold OfAz
   split
   ·rename_i fs hu
    obtain ⟨xs,rfl,_⟩:=okWide_struct hu hv
    exact ⟨_,⟨cs,rfl,k1⟩,rep_agg k2⟩
   ·rename_i hu
    obtain ⟨c,rfl⟩:=ofT_one hu k1
    have h1v : v.cells.toList = [v]:=by
     have hlen:=zbw _ _ k2
     cases v with
     | agg xs =>
      exfalso
      have hT:=List.all_eq_true.1 hS t (hts t (by simp))
      unfold Value.okWide at hv
      split at hT
      ·rename_i e; rw [e] at hv; simp [Cell.okWide,Cell.ok,e] at hv
      ·rename_i e; rw [e] at hv; simp [Cell.okWide,Cell.ok,e] at hv
      ·rename_i e; rw [e] at hv; simp [Cell.okWide,Cell.ok,e] at hv
      ·rename_i e; rw [e] at hv; simp [Cell.okWide,Cell.ok,e] at hv
      ·rename_i fs e; exact hu fs e
      ·cases hT
     | _=>rfl
    refine ⟨c,k1,?_⟩
    rw [h1v] at k2
    simp only [repL] at k2
    obtain ⟨u,us,e,k,_⟩:=k2
    simp at e
    rw [e.1]; exact k
  obtain ⟨c,c1,c2⟩:=one
  exact ⟨c :: Ds,⟨c1,g1⟩,by simp only [repL]; exact ⟨v,vs,rfl,c2,g2⟩⟩
 | [],_ :: _,_,_,_,_,h,_,_=>by simp [DataW.TrodAll] at h
 | [],[],_ :: _,_,_,_,h,_,_=>by simp [DataW.TrodAll] at h
 | _ :: _,[],_,_,_,_,h,_,_=>by simp [DataW.TrodAll] at h
 | _ :: _,_ :: _,[],_,_,_,h,_,_=>by simp [DataW.TrodAll] at h
theorem ze9 : ∀ (ts ts' : List TypeId) (ds ds' : List (DataW H)),ts.length = ds.length→∀ n∈DataW.weightsEach P ts ds,n∈DataW.weightsEach P (ts ++ ts') (ds ++ ds')
 | [],_,[],_,_,n,hn=>by simp [DataW.weightsEach] at hn
 | t :: ts,ts',d :: ds,ds',hl,n,hn=>by
  simp only [List.cons_append,DataW.weightsEach,List.mem_append] at hn ⊢
  exact hn.imp_right (ze9 ts ts' ds ds' (by simpa using hl) n)
theorem zmF (hl : laidOutB P = true) {W' : World} {sp : Nat→Bool} (hb : Below W.heap.size W W') : ∀ (ts : List TypeId) (vs : List Value) (ds : List (DataW H)) (ps : List MemPlace),(∀ t∈ts,P.readableRec t = true∧t < P.types.size) →
  (∀ x∈ps,x.block < W.heap.size)→(∀ x∈ps,sp x.block = true)→DataW.TrodAll enc P W 0 (fun _=>true) true ts vs ds ps→DataW.TrodAll enc P W' 0 sp true ts vs ds ps
 | [],[],[],_,_,_,_,h=>h
 | t :: ts,v :: vs,d :: ds,ps,hts,hlt,hsp,h=>by
  obtain ⟨p,q,h1,h2,rfl⟩:=h
  refine ⟨p,q,WideElems.Trod_stays hl (hts t (by simp)).1 (hts t (by simp)).2 h1 (fun x hx=>hb.same (hlt x (by simp [hx]))) fun x hx=>hsp x (by simp [hx]),zmF hl hb ts vs ds q (fun u hu=>hts u (by simp [hu])) (fun x hx=>hlt x (by simp [hx])) (fun x hx=>hsp x (by simp [hx])) h2,rfl⟩
 | [],_ :: _,_,_,_,_,_,h=>by simp [DataW.TrodAll] at h
 | [],[],_ :: _,_,_,_,_,h=>by simp [DataW.TrodAll] at h
 | _ :: _,[],_,_,_,_,_,h=>by simp [DataW.TrodAll] at h
 | _ :: _,_ :: _,[],_,_,_,_,h=>by simp [DataW.TrodAll] at h
theorem zfX {sp : Nat→Bool} {hd : Bool} {b : Nat} : ∀ (ts : List TypeId) (vs : List Value) (ds : List (DataW H)) (ps : List MemPlace),DataW.TrodAll enc P W b sp hd ts vs ds ps→ds.length = ts.length
 | [],[],[],_,_=>rfl
 | t :: ts,v :: vs,d :: ds,ps,h=>by
  obtain ⟨p,q,_,h2,_⟩:=h
  simp [zfX ts vs ds q h2]
 | [],_ :: _,_,_,h=>by simp [DataW.TrodAll] at h
 | [],[],_ :: _,_,h=>by simp [DataW.TrodAll] at h
 | _ :: _,[],_,_,h=>by simp [DataW.TrodAll] at h
 | _ :: _,_ :: _,[],_,h=>by simp [DataW.TrodAll] at h
theorem zk7 {F' : Nat→Prop} {W' : World} (h : Ext noInj (zhh W) W noInj F' W') : Below W.heap.size W W':=⟨h.os,h.tape,h.output,h.size,fun k hk=>h.block k hk (zd2 k)⟩
theorem row_post {f : Func} {s : ChangeSpec} {apart fresh handsOn again : Bool} {W' : World} {args : Array Value} {ds gs : List (DataW H)} {before : List MemPlace} {tb : TypeId}
  (hW : DataW.Whole enc P f.params.toList s.vars apart W args.toList ds gs before) (hvars : s.vars = []) (hrt : f.resultTypes = #[tb]) (htb : P.underlying tb = some .bool)
  (hl : laidOutB P = true) (hr : ∀ t∈f.params.toList,P.readableRec t = true∧t < P.types.size)
  (hs : ∀ ds : List (DataW H),ds.length = f.params.toList.length→s.fn H ds = { results:=[.lit (.bool true)],args:=ds })
  (hb : Below W.heap.size W W') (hok : ∀ (j : Nat) (t : TypeId) (r : Value),f.resultTypes[j]? = some t→((Value.bool true).resultList f.resultTypes.size)[j]? = some r→Value.okWide P W' .any 0 t r) :
  s.post enc P f apart fresh handsOn again W args (.bool true) W':=by
 have hlt : ∀ p∈before,p.block < W.heap.size:=fun p hp=>hW.lt p hp
 have hold : ∀ p∈before,(fun b=>decide (b < W.heap.size)) p.block = true:=fun p hp=>by simpa using hlt p hp
 obtain ⟨pa,pv,hA,hV,hps,hz,hn⟩:=id hW
 rw [hvars] at hV
 have hV' : gs = []∧pv = []:=by
  cases gs with
  | nil=>exact ⟨rfl,hV⟩
  | cons _ _=>simp [DataW.TrodVars] at hV
 obtain ⟨rfl,rfl⟩:=hV'
 simp only [List.append_nil] at hps
 subst hps
 have hfn:=hs ds (zfX _ _ _ _ hA)
 have hresL : ((Value.bool true).resultList f.resultTypes.size) = [.bool true]:=by rw [hrt]; rfl
 have hres : ∀ (b : Nat) (sp : Nat→Bool) (hd : Bool),DataW.TrodAll enc P W' b sp hd f.resultTypes.toList ((Value.bool true).resultList f.resultTypes.size) (s.fn H (ds ++ [])).results []:=fun b sp hd=>by
  rw [List.append_nil,hfn,hrt]
  exact trodAll_cons_mk (shut_bool htb _) trodAll_mk0
 have hargs : ∀ sp : Nat→Bool,(∀ p∈before,sp p.block = true)→DataW.TrodAll enc P W' 0 sp true f.params.toList args.toList (s.fn H (ds ++ [])).args before:=fun sp hsp=>by
  rw [List.append_nil,hfn]
  exact zmF hl hb _ _ _ _ hr hlt hsp hA
 have hvars' : ∀ sp : Nat→Bool,DataW.TrodVars enc P W' sp s.vars (s.fn H (ds ++ [])).vars []:=fun sp=>by
  rw [List.append_nil,hfn,hvars]
  rfl
 refine ⟨ds,[],before,[],before,[],hW,hres _ _ _,hargs _ hold,hvars' _,World.keptBut_mono (fun p hp=>⟨hp,Or.inr (Or.inl hp)⟩) (hb.frame (·∈before)),fun _=>?_⟩
 ·refine ⟨hok,_,_,([] ++ before) ++ [],⟨[] ++ before,[],trodAll_append (hargs _ (fun _ _=>rfl)) (hres _ _ _),hvars' _,rfl,?_,?_⟩,?_⟩
  ·intro b off hp
   have hin : MemPlace.cell b off∈before:=by simpa using hp
   rw [hb.frozen (hlt _ hin)]
   exact hz b off hin
  ·intro ha
   have:=hn ha
   simpa using this
  ·intro p hp _
   simpa using hp
end
end
end
section
abbrev Pr:=Int × Int
def addP (L : List Pr) (p : Pr) : List Pr:=if p∈L then L else L ++ [p]
def idxP (L : List Pr) (p : Pr) : Nat:=L.idxOf p
theorem addP_len (L : List Pr) (p : Pr) : L.length≤(addP L p).length∧(addP L p).length≤L.length + 1:=by unfold addP; split <;> simp
theorem zi6 {L : List Pr} (h : L.Nodup) (p : Pr) : (addP L p).Nodup:=by
 unfold addP
 split
 ·exact h
 ·rename_i q
  rw [List.nodup_append]
  exact ⟨h,by simp,fun a ha b hb=>by rw [List.mem_singleton] at hb; subst hb; exact fun e=>q (e ▸ ha)⟩
theorem mem_addP {L : List Pr} {p q : Pr} : q∈addP L p↔q∈L∨q = p:=by
 unfold addP
 split
 ·rename_i h
  exact ⟨fun k=>.inl k,fun k=>k.elim id fun e=>e ▸ h⟩
 ·simp
theorem idx_addP (L : List Pr) (p : Pr) : idxP (addP L p) p = if p∈L then idxP L p else L.length:=by
 unfold addP idxP
 split
 ·rfl
 ·rename_i h
  rw [List.idxOf_append,if_neg h]; simp
theorem ziF {L : List Pr} {p : Pr} (h : p∈L) : idxP L p < L.length:=List.idxOf_lt_length_of_mem h
end
section
def zdV (f : Nat→Nat) : Nat→Nat
 | 0=>0
 | n + 1=>zdV f n + f n
theorem zib {f f' : Nat→Nat} : ∀ n,(∀ j,j < n→f j = f' j)→zdV f n = zdV f' n
 | 0,_=>rfl
 | n + 1,h=>by simp only [zdV]; rw [zib n fun j hj=>h j (by omega),h n (by omega)]
theorem zgz {f f' : Nat→Nat} {i : Nat} : ∀ n,i < n→(∀ j,j < n→j≠i→f' j = f j)→zdV f' n + f i = zdV f n + f' i
 | 0,h,_=>by omega
 | n + 1,h,k=>by
  simp only [zdV]
  by_cases e : i = n
  ·subst e
   rw [zib i fun j hj=>k j (by omega) (by omega)]
   omega
  ·have:=zgz n (by omega) fun j hj hne=>k j (by omega) hne
   rw [k n (by omega) (fun q=>e q.symm)]
   omega
theorem zjm {f f' : Nat→Nat} : ∀ n,(∀ j,j < n→f j≤f' j)→zdV f n≤zdV f' n
 | 0,_=>Nat.le_refl _
 | n + 1,h=>by simp only [zdV]; have:=zjm n fun j hj=>h j (by omega); have:=h n (by omega); omega
theorem zmG {f f' : Nat→Nat} {i : Nat} : ∀ n,i < n→(∀ j,j < n→f j≤f' j)→f i < f' i→zdV f n < zdV f' n
 | 0,h,_,_=>by omega
 | n + 1,h,k,q=>by
  simp only [zdV]
  have:=k n (by omega)
  by_cases e : i = n
  ·subst e; have:=zjm i fun j hj=>k j (by omega); omega
  ·have:=zmG n (by omega) (fun j hj=>k j (by omega)) q; omega
def unseen (s : Nat→Bool) (n : Nat) : Nat:=zdV (fun i=>if s i then 0 else 1) n
theorem zf7 (s : Nat→Bool) : ∀ n,unseen s n≤n
 | 0=>Nat.le_refl _
 | n + 1=>by unfold unseen; simp only [zdV]; have:=zf7 s n; unfold unseen at this; split <;> omega
theorem zfN {s s' : Nat→Bool} {n : Nat} (h : ∀ j,j < n→s j = true→s' j = true) : unseen s' n≤unseen s n:=zjm n fun j hj=>by
 cases e : s j with
 | true=>simp [h j hj e]
 | false=>split <;> simp
theorem zeq {s s' : Nat→Bool} {n i : Nat} (hi : i < n) (h : ∀ j,j < n→s j = true→s' j = true) (h1 : s i = false) (h2 : s' i = true) : unseen s' n < unseen s n:=zmG n hi (fun j hj=>by
 cases e : s j with
 | true=>simp [h j hj e]
 | false=>split <;> simp) (by simp [h1,h2])
def mark (s : Nat→Bool) (v : Nat) : Nat→Bool:=fun i=>if i = v then true else s i
@[simp] theorem zeY (s : Nat→Bool) (v : Nat) : mark s v v = true:=by simp [mark]
theorem mark_ne {s : Nat→Bool} {v i : Nat} (h : i≠v) : mark s v i = s i:=by simp [mark,h]
theorem zfc {s : Nat→Bool} {v i : Nat} (h : s i = true) : mark s v i = true:=by unfold mark; split <;> simp [h]
theorem mark_iff {s : Nat→Bool} {v i : Nat} : mark s v i = true↔i = v∨s i = true:=by
 unfold mark
 split
 ·rename_i h; simp [h]
 ·rename_i h; simp [h]
inductive Rch (g : List (List Int)) (from_ : List Int) : Nat→Prop
 | base {x : Int} (h : x∈from_) : Rch g from_ x.toNat
 | step {u : Nat} {x : Int} (h : Rch g from_ u) (k : x∈g.getD u []) : Rch g from_ x.toNat
theorem zmZ {g : List (List Int)} {from_ : List Int} {s : Nat→Bool} (h0 : ∀ x∈from_,s x.toNat = true) (h1 : ∀ v,s v = true→∀ x∈g.getD v [],s x.toNat = true) : ∀ v,Rch g from_ v→s v = true:=by
 intro v h
 induction h with
 | base h=>exact h0 _ h
 | step _ k ih=>exact h1 _ ih _ k
open Classical in
noncomputable def rchB (g : List (List Int)) (from_ : List Int) (v : Nat) : Bool:=decide (Rch g from_ v)
theorem rchB_iff {g : List (List Int)} {from_ : List Int} {v : Nat} : rchB g from_ v = true↔Rch g from_ v:=by unfold rchB; simp
theorem rchB_eq {g : List (List Int)} {from_ : List Int} {s : Nat→Bool} {v : Nat} (h : s v = true↔Rch g from_ v) : s v = rchB g from_ v:=by
 rw [Bool.eq_iff_iff,h,rchB_iff]
theorem zaM {l : List Int} {k : Nat} (h : k < l.length) : l.getD k 0∈l:=by
 rw [List.getD_eq_getElem?_getD,List.getElem?_eq_getElem h]; exact List.getElem_mem h
theorem zd6 {l : List Int} {x : Int} (h : x∈l) : ∃ k,k < l.length∧l.getD k 0 = x:=by
 obtain ⟨k,hk,rfl⟩:=List.mem_iff_getElem.1 h
 exact ⟨k,hk,by rw [List.getD_eq_getElem?_getD,List.getElem?_eq_getElem hk]; rfl⟩
def potG (g : List (List Int)) (s : Nat→Bool) : Nat:=zdV (fun v=>if s v then 0 else (g.getD v []).length) g.length
theorem znS {g : List (List Int)} {s : Nat→Bool} {v : Nat} (hv : v < g.length) (h : s v = false) : potG g (mark s v) + (g.getD v []).length = potG g s:=by
 have:=zgz (f:=fun v=>if s v then 0 else (g.getD v []).length) (f':=fun w=>if mark s v w then 0 else (g.getD w []).length) g.length hv fun j _ hne=>by rw [mark_ne hne]
 unfold potG
 simp only [zeY,h,if_true,Bool.false_eq_true,if_false] at this
 omega
end
section
abbrev To (g : List (List Int)) (u v : Nat) : Prop:=Rch g [(u : Int)] v
theorem zbN (g : List (List Int)) (v : Nat) : To g v v:=by
 have:=Rch.base (g:=g) (from_:=[(v : Int)]) (x:=(v : Int)) (by simp)
 simpa using this
theorem zbq {g : List (List Int)} {a b c : Nat} (h : To g a b) (k : To g b c) : To g a c:=by
 unfold To at k
 generalize hb : [(b : Int)] = fr at k
 induction k with
 | base m=>subst hb; simp only [List.mem_singleton] at m; subst m; simpa using h
 | step _ m ih=>exact .step ih m
theorem zcL {g : List (List Int)} {a : Nat} {x : Int} (h : x∈g.getD a []) : To g a x.toNat:=.step (zbN g a) h
theorem ze5 {g : List (List Int)} {s : Nat→Prop} (h : ∀ v,s v→∀ x∈g.getD v [],s x.toNat) {u v : Nat} (k : To g u v) (hu : s u) : s v:=by
 unfold To at k
 generalize hb : [(u : Int)] = fr at k
 induction k with
 | base m=>subst hb; simp only [List.mem_singleton] at m; subst m; simpa using hu
 | step _ m ih=>exact h _ ih _ m
structure TJ where
 num : Nat→Nat
 low : Nat→Nat
 part : Nat→Int
 stack : List Nat
 path : List (Nat × Nat)
 count : Nat
 got : Nat
def up {α : Type} (f : Nat→α) (k : Nat) (v : α) : Nat→α:=fun i=>if i = k then v else f i
@[simp] theorem zb7 {α : Type} (f : Nat→α) (k : Nat) (v : α) : up f k v k = v:=by simp [up]
theorem zde {α : Type} {f : Nat→α} {k i : Nat} {v : α} (h : i≠k) : up f k v i = f i:=by simp [up,h]
def Segs (g : List (List Int)) (S : TJ) : Nat→Bool→List (Nat × Nat)→Prop
 | U,_,[]=>∀ v,v∈S.stack→U≤S.num v
 | U,top,(p,i) :: r =>
  p∈S.stack∧S.num p < U ∧
  (∀ v,v∈S.stack→S.num p≤S.num v→S.num v < U→To g p v∧(v≠p→(∃ w,w∈S.stack∧S.num w < S.num v∧To g v w)∧∀ x∈g.getD v [],S.num x.toNat≠0∧(S.part x.toNat < 0→S.low p≤S.num x.toNat))) ∧
  (∀ k,k < (g.getD p []).length→(if top = true then k < i else k + 1 < i)→S.num ((g.getD p []).getD k 0).toNat≠0∧(S.part ((g.getD p []).getD k 0).toNat < 0→S.low p≤S.num ((g.getD p []).getD k 0).toNat)) ∧
  S.low p≤S.num p∧(∃ w,w∈S.stack∧S.num w = S.low p∧To g p w) ∧
  (top = false→1≤i∧i≤(g.getD p []).length) ∧
  (match r with
   | []=>True
   | (q,j) :: _=>1≤j∧j≤(g.getD q []).length∧((g.getD q []).getD (j - 1) 0).toNat = p) ∧
  Segs g S (S.num p) false r
theorem Segs.keep {g : List (List Int)} {S S' : TJ} (h3 : ∀ x,S.num x≠0→S'.num x≠0∧(S'.part x < 0→S.part x < 0∧S'.num x = S.num x)) :
  ∀ (r : List (Nat × Nat)) {U : Nat} {top : Bool},(∀ v,v∈S'.stack→S'.num v < U→v∈S.stack∧S.num v = S'.num v)→(∀ v,v∈S.stack→S.num v < U→v∈S'.stack∧S'.num v = S.num v∧S'.low v = S.low v)→Segs g S U top r→Segs g S' U top r
 | [],U,top,h1,h2,h=>fun v hv=>by
  rcases Nat.lt_or_ge (S'.num v) U with q | q
  ·obtain ⟨a,b⟩:=h1 v hv q
   have:=h v a
   omega
  ·exact q
 | (p,i) :: r,U,top,h1,h2,h=>by
  obtain ⟨g1,g2,g3,g4,g5,⟨w,w1,w2,w3⟩,g7,g8,g9⟩:=h
  obtain ⟨p1,p2,p3⟩:=h2 p g1 g2
  refine ⟨p1,by omega,fun v hv a b=>?_,fun k hk ht=>?_,by omega,?_,g7,g8,?_⟩
  ·obtain ⟨c1,c2⟩:=h1 v hv b
   obtain ⟨d1,d2⟩:=g3 v c1 (by omega) (by omega)
   refine ⟨d1,fun hne=>?_⟩
   obtain ⟨⟨w,e1,e2,e3⟩,e4⟩:=d2 hne
   obtain ⟨f1,f2,f3⟩:=h2 w e1 (by omega)
   refine ⟨⟨w,f1,by omega,e3⟩,fun x hx=>?_⟩
   obtain ⟨n1,n2⟩:=e4 x hx
   obtain ⟨m1,m2⟩:=h3 _ n1
   refine ⟨m1,fun q=>?_⟩
   obtain ⟨o1,o2⟩:=m2 q
   have:=n2 o1
   omega
  ·obtain ⟨n1,n2⟩:=g4 k hk ht
   obtain ⟨m1,m2⟩:=h3 _ n1
   refine ⟨m1,fun q=>?_⟩
   obtain ⟨o1,o2⟩:=m2 q
   have:=n2 o1
   omega
  ·obtain ⟨f1,f2,f3⟩:=h2 w w1 (by omega)
   exact ⟨w,f1,by omega,w3⟩
  ·rw [p2]
   exact Segs.keep h3 r (fun v hv q=>h1 v hv (by omega)) (fun v hv q=>h2 v hv (by omega)) g9
structure TjI (g : List (List Int)) (S : TJ) : Prop where
 stk : ∀ v,v∈S.stack↔S.num v≠0∧S.part v < 0
 srt : S.stack.Pairwise fun a b=>S.num b < S.num a
 cnt : ∀ v,S.num v≤S.count
 node : ∀ v,S.num v≠0→v < g.length
 par : ∀ v,0≤S.part v→S.part v < (S.got : Int)∧S.num v≠0
 cls : ∀ v,0≤S.part v→∀ x∈g.getD v [],0≤S.part x.toNat
 same : ∀ u v,0≤S.part u→0≤S.part v→(S.part u = S.part v↔To g u v∧To g v u)
 seg : Segs g S (S.count + 1) true S.path
 size : S.got + S.stack.length≤S.count
 seen : unseen (fun v=>decide (S.num v≠0)) g.length + S.count = g.length
 deep : S.path.length + unseen (fun v=>decide (S.num v≠0)) g.length≤g.length
 numI : ∀ u v,S.num u = S.num v→S.num u≠0→u = v
def TJ.open (S : TJ) (v : Nat) (path : List (Nat × Nat)) : TJ:=⟨up S.num v (S.count + 1),up S.low v (S.count + 1),S.part,v :: S.stack,(v,0) :: path,S.count + 1,S.got⟩
theorem zlp {S : TJ} {n v : Nat} (hv : v < n) (h : S.num v = 0) : unseen (fun w=>decide (up S.num v (S.count + 1) w≠0)) n + 1 = unseen (fun w=>decide (S.num w≠0)) n:=by
 have:=zgz (f:=fun w=>if decide (S.num w≠0) = true then 0 else 1) (f':=fun w=>if decide (up S.num v (S.count + 1) w≠0) = true then 0 else 1) n hv fun j _ hne=>by rw [zde hne]
 unfold unseen
 rw [zb7] at this
 simp only [h] at this
 simp at this
 simp
 omega
theorem TjI.opened {g : List (List Int)} {S : TJ} (h : TjI g S) {v : Nat} (hv : v < g.length) (h0 : S.num v = 0) {path : List (Nat × Nat)} (hp : path.length≤S.path.length)
  (hs : Segs g S (S.count + 1) false path) (hl : match path with | []=>True | (q,j) :: _=>1≤j∧j≤(g.getD q []).length∧((g.getD q []).getD (j - 1) 0).toNat = v) : TjI g (S.open v path):=by
 have hvs : v ∉ S.stack:=fun q=>((h.stk v).1 q).1 h0
 have hpv : S.part v < 0:=by
  rcases Int.lt_or_le (S.part v) 0 with q | q
  ·exact q
  ·exact absurd h0 (h.par v q).2
 have hne : ∀ w,w∈S.stack→w≠v:=fun w hw e=>hvs (e ▸ hw)
 have hn0 : ∀ w,S.num w≠0→w≠v:=fun w hw e=>hw (e ▸ h0)
 have hun:=zlp hv h0
 refine ⟨fun w=>?_,?_,fun w=>?_,fun w hw=>?_,fun w hw=>?_,h.cls,h.same,?_,?_,?_,?_,?_⟩
 ·show w∈v :: S.stack↔up S.num v (S.count + 1) w≠0∧S.part w < 0
  by_cases e : w = v
  ·subst e; simp [hpv]
  ·rw [zde e,← h.stk w]; simp [e]
 ·show (v :: S.stack).Pairwise fun a b=>up S.num v (S.count + 1) b < up S.num v (S.count + 1) a
  refine List.pairwise_cons.2 ⟨fun w hw=>?_,h.srt.imp_of_mem fun {a b} ha hb q=>?_⟩
  ·rw [zb7,zde (hne w hw)]; have:=h.cnt w; omega
  ·rw [zde (hne a ha),zde (hne b hb)]; exact q
 ·show up S.num v (S.count + 1) w≤S.count + 1
  by_cases e : w = v
  ·subst e; rw [zb7]; omega
  ·rw [zde e]; have:=h.cnt w; omega
 ·by_cases e : w = v
  ·subst e; exact hv
  ·exact h.node w (by
    have : up S.num v (S.count + 1) w≠0:=hw
    rw [zde e] at this; exact this)
 ·obtain ⟨a,b⟩:=h.par w hw
  refine ⟨a,?_⟩
  show up S.num v (S.count + 1) w≠0
  rw [zde (hn0 w b)]; exact b
 ·show Segs g (S.open v path) (S.count + 1 + 1) true ((v,0) :: path)
  refine ⟨List.mem_cons_self ..,?_,fun w hw a b=>?_,fun k _ hk=>?_,?_,⟨v,List.mem_cons_self ..,?_,zbN g v⟩,fun q=>(by cases q),hl,?_⟩
  ·show up S.num v (S.count + 1) v < _; rw [zb7]; omega
  ·have e : w = v:=by
    rcases List.mem_cons.1 hw with e | e
    ·exact e
    ·have a : up S.num v (S.count + 1) v≤up S.num v (S.count + 1) w:=a
     rw [zb7,zde (hne w e)] at a
     have:=h.cnt w
     omega
   subst e
   exact ⟨zbN g w,fun q=>absurd rfl q⟩
  ·rw [if_pos rfl] at hk; omega
  ·show up S.low v (S.count + 1) v≤up S.num v (S.count + 1) v; rw [zb7,zb7]; exact Nat.le_refl _
  ·show up S.num v (S.count + 1) v = up S.low v (S.count + 1) v; rw [zb7,zb7]
  ·have e : (S.open v path).num v = S.count + 1:=zb7 ..
   rw [e]
   refine Segs.keep (S:=S) (S':=S.open v path) (fun x hx=>⟨?_,fun q=>⟨q,?_⟩⟩) path (fun w hw q=>?_) (fun w hw q=>?_) hs
   ·show up S.num v (S.count + 1) x≠0; rw [zde (hn0 x hx)]; exact hx
   ·show up S.num v (S.count + 1) x = _; rw [zde (hn0 x hx)]
   ·have q : up S.num v (S.count + 1) w < S.count + 1:=q
    by_cases e : w = v
    ·subst e; rw [zb7] at q; omega
    ·refine ⟨(List.mem_cons.1 hw).resolve_left e,?_⟩
     show _ = up S.num v (S.count + 1) w; rw [zde e]
   ·have e:=hne w hw
    refine ⟨List.mem_cons_of_mem _ hw,?_,?_⟩
    ·show up S.num v (S.count + 1) w = _; rw [zde e]
    ·show up S.low v (S.count + 1) w = _; rw [zde e]
 ·have:=h.size
  show S.got + (v :: S.stack).length≤S.count + 1
  rw [List.length_cons]; omega
 ·have:=h.seen
  show unseen (fun w=>decide (up S.num v (S.count + 1) w≠0)) g.length + (S.count + 1) = g.length
  omega
 ·have:=h.deep
  show ((v,0) :: path).length + unseen (fun w=>decide (up S.num v (S.count + 1) w≠0)) g.length≤g.length
  rw [List.length_cons]; omega
 ·intro a b e ha
  have e : up S.num v (S.count + 1) a = up S.num v (S.count + 1) b:=e
  have ha : up S.num v (S.count + 1) a≠0:=ha
  have ca:=h.cnt a
  have cb:=h.cnt b
  by_cases e1 : a = v <;> by_cases e2 : b = v
  ·omega
  ·subst e1; rw [zb7,zde e2] at e; omega
  ·subst e2; rw [zb7,zde e1] at e; omega
  ·rw [zde e1,zde e2] at e; rw [zde e1] at ha; exact h.numI a b e ha
theorem Segs.next {g : List (List Int)} {S : TJ} {U p i : Nat} {r : List (Nat × Nat)} (h : Segs g S U true ((p,i) :: r)) (hi : i < (g.getD p []).length) : Segs g S U false ((p,i + 1) :: r):=by
 obtain ⟨g1,g2,g3,g4,g5,g6,g7,g8,g9⟩:=h
 exact ⟨g1,g2,g3,fun k hk ht=>g4 k hk (by
  rw [if_neg (by decide)] at ht
  rw [if_pos rfl]; omega),g5,g6,fun _=>⟨by omega,by omega⟩,g8,g9⟩
theorem TjI.push {g : List (List Int)} {S : TJ} (h : TjI g S) {p i : Nat} {r : List (Nat × Nat)} (hp : S.path = (p,i) :: r) (hi : i < (g.getD p []).length) (hv : ((g.getD p []).getD i 0).toNat < g.length) (h0 : S.num ((g.getD p []).getD i 0).toNat = 0) :
  TjI g (S.open ((g.getD p []).getD i 0).toNat ((p,i + 1) :: r)):=by
 refine h.opened hv h0 (by rw [hp]; simp) (Segs.next (by rw [← hp]; exact h.seg) hi) ⟨by omega,by omega,?_⟩
 rw [Nat.add_sub_cancel]
def TJ.skip (S : TJ) (p i : Nat) (r : List (Nat × Nat)) (x : Nat) : TJ:=⟨S.num,if S.part x < 0 then up S.low p (min (S.low p) (S.num x)) else S.low,S.part,S.stack,(p,i + 1) :: r,S.count,S.got⟩
theorem TjI.skip {g : List (List Int)} {S : TJ} (h : TjI g S) {p i : Nat} {r : List (Nat × Nat)} (hp : S.path = (p,i) :: r) (hi : i < (g.getD p []).length) (h0 : S.num ((g.getD p []).getD i 0).toNat≠0) :
  TjI g (S.skip p i r ((g.getD p []).getD i 0).toNat):=by
 have hx : (g.getD p []).getD i 0∈g.getD p []:=zaM hi
 generalize hxe : (g.getD p []).getD i 0 = x at *
 have hseg:=h.seg
 rw [hp] at hseg
 obtain ⟨g1,g2,g3,g4,g5,⟨w,w1,w2,w3⟩,g7,g8,g9⟩:=hseg
 have hlow : ∀ v,S.num v < S.num p→(S.skip p i r x.toNat).low v = S.low v:=fun v hv=>by
  show (if S.part x.toNat < 0 then up S.low p (min (S.low p) (S.num x.toNat)) else S.low) v = _
  split
  ·rw [zde (fun e=>by subst e; omega)]
  ·rfl
 have hlp : (S.skip p i r x.toNat).low p = if S.part x.toNat < 0 then min (S.low p) (S.num x.toNat) else S.low p:=by
  show (if S.part x.toNat < 0 then up S.low p (min (S.low p) (S.num x.toNat)) else S.low) p = _
  split
  ·rw [zb7]
  ·rfl
 have hle : (S.skip p i r x.toNat).low p≤S.low p:=by rw [hlp]; split <;> omega
 refine ⟨h.stk,h.srt,h.cnt,h.node,h.par,h.cls,h.same,?_,h.size,h.seen,?_,h.numI⟩
 ·show Segs g (S.skip p i r x.toNat) (S.count + 1) true ((p,i + 1) :: r)
  refine ⟨g1,g2,fun v hv a b=>?_,fun k hk ht=>?_,?_,?_,fun q=>(by cases q),g8,?_⟩
  ·obtain ⟨d1,d2⟩:=g3 v hv a b
   refine ⟨d1,fun hne=>⟨(d2 hne).1,fun y hy=>?_⟩⟩
   obtain ⟨n1,n2⟩:=(d2 hne).2 y hy
   exact ⟨n1,fun q=>Nat.le_trans hle (n2 q)⟩
  ·rw [if_pos rfl] at ht
   rcases Nat.lt_or_ge k i with q | q
   ·obtain ⟨n1,n2⟩:=g4 k hk (by rw [if_pos rfl]; exact q)
    exact ⟨n1,fun z=>Nat.le_trans hle (n2 z)⟩
   ·have : k = i:=by omega
    subst this
    rw [hxe]
    refine ⟨h0,fun z=>?_⟩
    have z : S.part x.toNat < 0:=z
    rw [hlp,if_pos z]
    exact Nat.min_le_right _ _
  ·exact Nat.le_trans hle g5
  ·rw [hlp]
   by_cases z : S.part x.toNat < 0
   ·rw [if_pos z]
    rcases Nat.le_total (S.low p) (S.num x.toNat) with q | q
    ·rw [Nat.min_eq_left q]; exact ⟨w,w1,w2,w3⟩
    ·rw [Nat.min_eq_right q]; exact ⟨x.toNat,(h.stk _).2 ⟨h0,z⟩,rfl,zcL hx⟩
   ·rw [if_neg z]; exact ⟨w,w1,w2,w3⟩
  ·exact Segs.keep (S:=S) (S':=S.skip p i r x.toNat) (fun y hy=>⟨hy,fun q=>⟨q,rfl⟩⟩) r (fun v hv q=>⟨hv,rfl⟩) (fun v hv q=>⟨hv,rfl,hlow v q⟩) g9
 ·have:=h.deep
  rw [hp] at this
  exact this
def TJ.back (S : TJ) (n p j : Nat) (r : List (Nat × Nat)) : TJ:=⟨S.num,up S.low p (min (S.low p) (S.low n)),S.part,S.stack,(p,j) :: r,S.count,S.got⟩
theorem TjI.back {g : List (List Int)} {S : TJ} (h : TjI g S) {n i p j : Nat} {r : List (Nat × Nat)} (hp : S.path = (n,i) :: (p,j) :: r) (hi : (g.getD n []).length≤i) (hl : S.low n≠S.num n) : TjI g (S.back n p j r):=by
 have hseg:=h.seg
 rw [hp] at hseg
 obtain ⟨g1,g2,g3,g4,g5,⟨w,w1,w2,w3⟩,g7,⟨k1,k2,k3⟩,f1,f2,f3,f4,f5,⟨u,u1,u2,u3⟩,f7,f8,f9⟩:=hseg
 have hlow : ∀ v,S.num v < S.num p→(S.back n p j r).low v = S.low v:=fun v hv=>by
  show up S.low p (min (S.low p) (S.low n)) v = _
  rw [zde (fun e=>by subst e; omega)]
 have hlp : (S.back n p j r).low p = min (S.low p) (S.low n):=zb7 ..
 have hpn : To g p n:=by
  have:=zcL (g:=g) (a:=p) (zaM (l:=g.getD p []) (k:=j - 1) (by omega))
  rw [k3] at this
  exact this
 have hln : S.low n < S.num n:=by omega
 refine ⟨h.stk,h.srt,h.cnt,h.node,h.par,h.cls,h.same,?_,h.size,h.seen,?_,h.numI⟩
 ·show Segs g (S.back n p j r) (S.count + 1) true ((p,j) :: r)
  refine ⟨f1,by have : S.num p < S.num n:=f2
                have : S.num n < S.count + 1:=g2
                show S.num p < S.count + 1
                omega,fun v hv a b=>?_,fun k hk ht=>?_,?_,?_,fun q=>(by cases q),f8,?_⟩
  ·have a : S.num p≤S.num v:=a
   have b : S.num v < S.count + 1:=b
   rcases Nat.lt_or_ge (S.num v) (S.num n) with q | q
   ·obtain ⟨d1,d2⟩:=f3 v hv a q
    refine ⟨d1,fun hne=>⟨(d2 hne).1,fun y hy=>?_⟩⟩
    obtain ⟨n1,n2⟩:=(d2 hne).2 y hy
    refine ⟨n1,fun z=>?_⟩
    rw [hlp]
    exact Nat.le_trans (Nat.min_le_left _ _) (n2 z)
   ·obtain ⟨d1,d2⟩:=g3 v hv q b
    refine ⟨zbq hpn d1,fun hne=>?_⟩
    by_cases e : v = n
    ·subst e
     refine ⟨⟨w,w1,by show S.num w < S.num v; omega,w3⟩,fun y hy=>?_⟩
     obtain ⟨k,hk,rfl⟩:=zd6 hy
     obtain ⟨n1,n2⟩:=g4 k hk (by rw [if_pos rfl]; omega)
     refine ⟨n1,fun z=>?_⟩
     rw [hlp]
     exact Nat.le_trans (Nat.min_le_right _ _) (n2 z)
    ·refine ⟨(d2 e).1,fun y hy=>?_⟩
     obtain ⟨n1,n2⟩:=(d2 e).2 y hy
     refine ⟨n1,fun z=>?_⟩
     rw [hlp]
     exact Nat.le_trans (Nat.min_le_right _ _) (n2 z)
  ·rw [if_pos rfl] at ht
   rw [hlp]
   rcases Nat.lt_or_ge (k + 1) j with q | q
   ·obtain ⟨n1,n2⟩:=f4 k hk (by rw [if_neg (by decide)]; exact q)
    exact ⟨n1,fun z=>Nat.le_trans (Nat.min_le_left _ _) (n2 z)⟩
   ·have : k = j - 1:=by omega
    subst this
    rw [k3]
    refine ⟨((h.stk n).1 g1).1,fun z=>?_⟩
    show min _ _≤S.num n
    omega
  ·rw [hlp]
   show _≤S.num p
   omega
  ·rw [hlp]
   rcases Nat.le_total (S.low p) (S.low n) with q | q
   ·rw [Nat.min_eq_left q]; exact ⟨u,u1,u2,u3⟩
   ·rw [Nat.min_eq_right q]; exact ⟨w,w1,w2,zbq hpn w3⟩
  ·exact Segs.keep (S:=S) (S':=S.back n p j r) (fun y hy=>⟨hy,fun q=>⟨q,rfl⟩⟩) r (fun v hv q=>⟨hv,rfl⟩) (fun v hv q=>⟨hv,rfl,hlow v q⟩) f9
 ·have:=h.deep
  rw [hp] at this
  simp only [List.length_cons] at this
  show ((p,j) :: r).length + unseen (fun v=>decide (S.num v≠0)) g.length≤g.length
  rw [List.length_cons]
  omega
end
section
def TJ.shut (S : TJ) (n : Nat) (path : List (Nat × Nat)) (low : Nat→Nat) : TJ:=⟨S.num,low,fun v=>if v∈S.stack∧S.num n≤S.num v then (S.got : Int) else S.part v,S.stack.filter fun v=>decide (S.num v < S.num n),path,S.count,S.got + 1⟩
theorem zgn {α : Type} {p : α→Bool} {a : α} : ∀ {l : List α},a∈l→p a = false→(l.filter p).length < l.length
 | [],h,_=>by cases h
 | b :: l,h,hp=>by
  rw [List.filter_cons]
  by_cases e : p b = true
  ·rw [if_pos e]
   rcases List.mem_cons.1 h with q | q
   ·subst q; rw [hp] at e; cases e
   ·have:=zgn q hp
    simp only [List.length_cons]; omega
  ·rw [if_neg e]
   have:=List.length_filter_le p l
   simp only [List.length_cons]; omega
theorem TjI.shut {g : List (List Int)} {S : TJ} (h : TjI g S) {n i : Nat} {r : List (Nat × Nat)} (hp : S.path = (n,i) :: r) (hi : (g.getD n []).length≤i) (hl : S.low n = S.num n) {low : Nat→Nat} (hlow : ∀ v,S.num v < S.num n→low v = S.low v) : TjI g (S.shut n r low):=by
 have hseg:=h.seg
 rw [hp] at hseg
 obtain ⟨g1,g2,g3,g4,g5,g6,g7,g8,g9⟩:=hseg
 have hn0:=(h.stk n).1 g1
 have hpart : ∀ v,(S.shut n r low).part v = if v∈S.stack∧S.num n≤S.num v then (S.got : Int) else S.part v:=fun v=>rfl
 -- the piece of n
 have hE : ∀ v,v∈S.stack→S.num n≤S.num v→∀ x∈g.getD v [],S.num x.toNat≠0∧(S.part x.toNat < 0→S.num n≤S.num x.toNat):=fun v hv a x hx=>by
  have b : S.num v < S.count + 1:=by have:=h.cnt v; omega
  by_cases e : v = n
  ·subst e
   obtain ⟨k,hk,rfl⟩:=zd6 hx
   obtain ⟨n1,n2⟩:=g4 k hk (by rw [if_pos rfl]; omega)
   exact ⟨n1,fun z=>by have:=n2 z; omega⟩
  ·obtain ⟨n1,n2⟩:=((g3 v hv a b).2 e).2 x hx
   exact ⟨n1,fun z=>by have:=n2 z; omega⟩
 have hge : ∀ v,0≤(S.shut n r low).part v↔0≤S.part v∨(v∈S.stack∧S.num n≤S.num v):=fun v=>by
  rw [hpart]
  by_cases q : v∈S.stack∧S.num n≤S.num v
  ·rw [if_pos q]; simp [q]
  ·rw [if_neg q]; simp [q]
 have hcls : ∀ v,0≤(S.shut n r low).part v→∀ x∈g.getD v [],0≤(S.shut n r low).part x.toNat:=fun v hv x hx=>by
  rw [hge] at hv ⊢
  rcases hv with hv | ⟨hv,a⟩
  ·exact .inl (h.cls v hv x hx)
  ·obtain ⟨n1,n2⟩:=hE v hv a x hx
   rcases Int.lt_or_le (S.part x.toNat) 0 with q | q
   ·exact .inr ⟨(h.stk _).2 ⟨n1,q⟩,n2 q⟩
   ·exact .inl q
 have hdown : ∀ m v,S.num v≤m→v∈S.stack→S.num n≤S.num v→To g v n:=by
  intro m
  induction m with
  | zero=>intro v a hv b; have:=((h.stk v).1 hv).1; omega
  | succ m ih =>
   intro v a hv b
   by_cases e : v = n
   ·subst e; exact zbN g v
   ·obtain ⟨⟨w,w1,w2,w3⟩,_⟩:=(g3 v hv b (by have:=h.cnt v; omega)).2 e
    have hw : 0≤(S.shut n r low).part w:=ze5 (s:=fun v=>0≤(S.shut n r low).part v) hcls w3 ((hge v).2 (.inr ⟨hv,b⟩))
    rw [hge] at hw
    have hw : w∈S.stack∧S.num n≤S.num w:=by
     rcases hw with q | q
     ·have:=((h.stk w).1 w1).2; omega
     ·exact q
    exact zbq w3 (ih w (by omega) w1 hw.2)
 have hmut : ∀ v,v∈S.stack→S.num n≤S.num v→To g n v∧To g v n:=fun v hv a=>⟨(g3 v hv a (by have:=h.cnt v; omega)).1,hdown _ v (Nat.le_refl _) hv a⟩
 have hold : ∀ u v,0≤S.part u→v∈S.stack→¬ To g u v:=fun u v hu hv q=>by
  have:=ze5 (s:=fun v=>0≤S.part v) h.cls q hu
  have:=((h.stk v).1 hv).2
  omega
 refine ⟨fun v=>?_,?_,h.cnt,h.node,fun v hv=>?_,hcls,fun u v hu hv=>?_,?_,?_,h.seen,?_,h.numI⟩
 ·show v∈S.stack.filter _↔S.num v≠0∧(S.shut n r low).part v < 0
  rw [List.mem_filter,decide_eq_true_eq,hpart]
  constructor
  ·rintro ⟨a,b⟩
   rw [if_neg (fun q=>by omega)]
   exact (h.stk v).1 a
  ·rintro ⟨a,b⟩
   by_cases q : v∈S.stack∧S.num n≤S.num v
   ·rw [if_pos q] at b; omega
   ·rw [if_neg q] at b
    have:=(h.stk v).2 ⟨a,b⟩
    exact ⟨this,by
     rcases Nat.lt_or_ge (S.num v) (S.num n) with z | z
     ·exact z
     ·exact absurd ⟨this,z⟩ q⟩
 ·exact h.srt.filter _
 ·show (S.shut n r low).part v < ((S.got + 1 : Nat) : Int)∧S.num v≠0
  rw [hpart]
  by_cases q : v∈S.stack∧S.num n≤S.num v
  ·rw [if_pos q]; exact ⟨by omega,((h.stk v).1 q.1).1⟩
  ·rw [if_neg q]
   rw [hge] at hv
   obtain ⟨a,b⟩:=h.par v (hv.resolve_right q)
   exact ⟨by omega,b⟩
 ·rw [hge] at hu hv
  rw [hpart,hpart]
  by_cases qu : u∈S.stack∧S.num n≤S.num u <;> by_cases qv : v∈S.stack∧S.num n≤S.num v
  ·rw [if_pos qu,if_pos qv]
   obtain ⟨a1,a2⟩:=hmut u qu.1 qu.2
   obtain ⟨b1,b2⟩:=hmut v qv.1 qv.2
   exact ⟨fun _=>⟨zbq a2 b1,zbq b2 a1⟩,fun _=>rfl⟩
  ·rw [if_pos qu,if_neg qv]
   have hv':=hv.resolve_right qv
   have:=(h.par v hv').1
   exact ⟨fun e=>by omega,fun e=>absurd e.2 (hold v u hv' qu.1)⟩
  ·rw [if_neg qu,if_pos qv]
   have hu':=hu.resolve_right qu
   have:=(h.par u hu').1
   exact ⟨fun e=>by omega,fun e=>absurd e.1 (hold u v hu' qv.1)⟩
  ·rw [if_neg qu,if_neg qv]
   exact h.same u v (hu.resolve_right qu) (hv.resolve_right qv)
 ·show Segs g (S.shut n r low) (S.count + 1) true r
  have mem' : ∀ v,v∈(S.shut n r low).stack↔v∈S.stack∧S.num v < S.num n:=fun v=>by
   show v∈S.stack.filter _↔_
   rw [List.mem_filter,decide_eq_true_eq]
  have h9 : Segs g (S.shut n r low) (S.num n) false r:=Segs.keep (S:=S) (S':=S.shut n r low) (fun x hx=>⟨hx,fun q=>by
   have q' : ¬ (0≤(S.shut n r low).part x):=by omega
   rw [hge] at q'
   exact ⟨by
    rcases Int.lt_or_le (S.part x) 0 with z | z
    ·exact z
    ·exact absurd (.inl z) q',rfl⟩⟩) r (fun v hv q=>⟨((mem' v).1 hv).1,rfl⟩) (fun v hv q=>⟨(mem' v).2 ⟨hv,q⟩,rfl,hlow v q⟩) g9
  match r,g8,h9 with
  | [],_,h9 =>
   intro v hv
   have:=h9 v hv
   have:=((mem' v).1 hv).2
   have : S.num n≤S.num v:=h9 v hv
   omega
  | (p,j) :: r,g8,h9 =>
   obtain ⟨f1,f2,f3,f4,f5,f6,f7,f8,f9⟩:=h9
   refine ⟨f1,?_,fun v hv a b=>?_,fun k hk ht=>?_,f5,f6,fun q=>(by cases q),f8,f9⟩
   ·have : S.num p < S.num n:=f2
    show S.num p < S.count + 1
    have:=h.cnt n
    omega
   ·exact f3 v hv a ((mem' v).1 hv).2
   ·rw [if_pos rfl] at ht
    rcases Nat.lt_or_ge (k + 1) j with q | q
    ·exact f4 k hk (by rw [if_neg (by decide)]; exact q)
    ·have : k = j - 1:=by omega
     subst this
     rw [g8.2.2]
     refine ⟨hn0.1,fun z=>?_⟩
     have:=(hge n).2 (.inr ⟨g1,Nat.le_refl _⟩)
     omega
 ·have:=h.size
  have h1:=zgn (p:=fun v=>decide (S.num v < S.num n)) g1 (by simp)
  show S.got + 1 + (S.stack.filter fun v=>decide (S.num v < S.num n)).length≤S.count
  omega
 ·have:=h.deep
  rw [hp] at this
  simp only [List.length_cons] at this
  show r.length + unseen (fun v=>decide (S.num v≠0)) g.length≤g.length
  omega
theorem TjI.zero (g : List (List Int)) : TjI g ⟨fun _=>0,fun _=>0,fun _=>-1,[],[],0,0⟩ where
 stk v:=by simp
 srt:=by simp
 cnt _:=Nat.le_refl _
 node v h:=absurd rfl h
 par v h:=by have h : (0 : Int)≤-1:=h; omega
 cls v h:=by have h : (0 : Int)≤-1:=h; omega
 same u v h:=by have h : (0 : Int)≤-1:=h; omega
 seg:=fun v hv=>by cases hv
 size:=by simp
 seen:=by
  show unseen (fun v=>decide ((0 : Nat)≠0)) g.length + 0 = g.length
  have : ∀ n,unseen (fun _=>decide ((0 : Nat)≠0)) n = n:=fun n=>by
   induction n with
   | zero=>rfl
   | succ n ih=>unfold unseen at ih ⊢; simp only [zdV,ih]; simp
  rw [this]; rfl
 deep:=by
  show 0 + unseen (fun v=>decide ((0 : Nat)≠0)) g.length≤g.length
  have:=zf7 (fun v=>decide ((0 : Nat)≠0)) g.length
  omega
 numI u v _ h:=absurd rfl h
theorem TjI.empty {g : List (List Int)} {S : TJ} (h : TjI g S) (hp : S.path = []) : S.stack = []:=by
 have hs:=h.seg
 rw [hp] at hs
 cases e : S.stack with
 | nil=>rfl
 | cons v r =>
  have:=hs v (by rw [e]; simp)
  have:=h.cnt v
  omega
theorem TjI.done {g : List (List Int)} {S : TJ} (h : TjI g S) (hp : S.path = []) {v : Nat} (hv : S.num v≠0) : 0≤S.part v:=by
 rcases Int.lt_or_le (S.part v) 0 with q | q
 ·have:=(h.stk v).2 ⟨hv,q⟩
  rw [h.empty hp] at this
  cases this
 ·exact q
def zgs (g : List (List Int)) : List (Nat × Nat)→Nat
 | []=>0
 | (p,i) :: r=>(g.getD p []).length - i + 1 + zgs g r
def TJ.fuel (g : List (List Int)) (S : TJ) : Nat:=zdV (fun v=>if S.num v = 0 then (g.getD v []).length + 2 else 0) g.length + zgs g S.path
theorem zoT {g : List (List Int)} {S : TJ} {v : Nat} (hv : v < g.length) (h0 : S.num v = 0) (path : List (Nat × Nat)) : TJ.fuel g (S.open v path) + 1 + zgs g S.path = TJ.fuel g S + zgs g path:=by
 have:=zgz (f:=fun w=>if S.num w = 0 then (g.getD w []).length + 2 else 0) (f':=fun w=>if up S.num v (S.count + 1) w = 0 then (g.getD w []).length + 2 else 0) g.length hv fun j _ hne=>by rw [zde hne]
 unfold TJ.fuel
 show zdV (fun w=>if up S.num v (S.count + 1) w = 0 then (g.getD w []).length + 2 else 0) g.length + ((g.getD v []).length - 0 + 1 + zgs g path) + 1 + zgs g S.path = _
 rw [zb7,if_pos h0,if_neg (by omega)] at this
 omega
end
section
def Per (f : Nat→Int) (a p : Nat) : Prop:=∀ i,a≤i→f (i + p) = f i
theorem Per.mul {f : Nat→Int} {a p : Nat} (h : Per f a p) (k : Nat) : Per f a (k * p):=by
 induction k with
 | zero=>intro i _; simp
 | succ k ih =>
  intro i hi
  rw [Nat.succ_mul,← Nat.add_assoc,h _ (by omega),ih i hi]
theorem Per.mono {f : Nat→Int} {a b p : Nat} (h : Per f a p) (hb : a≤b) : Per f b p:=fun i hi=>h i (by omega)
theorem Per.back {f : Nat→Int} {a b m p : Nat} (h : Per f a p) (hm : 1≤m) (hb : Per f b m) : Per f b p:=by
 intro i hi
 have hk : a≤i + a * m:=Nat.le_trans (Nat.le_mul_of_pos_right a hm) (Nat.le_add_left _ _)
 have h1:=hb.mul a i hi
 have h2:=hb.mul a (i + p) (by omega)
 have h3:=h _ hk
 rw [← h2,show i + p + a * m = i + a * m + p by omega,h3,h1]
theorem Per.red {f : Nat→Int} {a p : Nat} (h : Per f a p) {i : Nat} (hi : a≤i) : f i = f (a + (i - a) % p):=by
 have h1:=h.mul ((i - a) / p) (a + (i - a) % p) (by omega)
 rw [← h1]
 have:=Nat.mod_add_div (i - a) p
 rw [Nat.mul_comm] at this
 congr 1
 omega
structure Norm (f : Nat→Int) (s m a p : Nat) : Prop where
 m1 : 1≤m
 per : Per f s m
 p1 : 1≤p
 pm : p≤m
 ase : a≤s
 ok : Per f a p
 noP : ∀ q,1≤q→q < p→¬ Per f s q
 noA : ∀ b,b < a→¬ Per f b p
def seg (f : Nat→Int) (a n : Nat) : List Int:=(List.range n).map fun j=>f (a + j)
@[simp] theorem seg_len (f : Nat→Int) (a n : Nat) : (seg f a n).length = n:=by simp [seg]
end
section
def fstF (p : Nat→Bool) : Nat→Nat→Nat
 | i,0=>i
 | i,d + 1=>if p i = true then i else fstF p (i + 1) d
theorem zkS (p : Nat→Bool) : ∀ (d i : Nat),i≤fstF p i d∧fstF p i d≤i + d∧(∀ j,i≤j→j < fstF p i d→p j = false)∧(fstF p i d < i + d→p (fstF p i d) = true)
 | 0,i=>⟨Nat.le_refl _,Nat.le_refl _,fun j h1 h2=>by simp only [fstF] at h2; omega,fun h=>by simp [fstF] at h⟩
 | d + 1,i=>by
  simp only [fstF]
  split
  ·rename_i h
   exact ⟨Nat.le_refl _,by omega,fun j h1 h2=>by omega,fun _=>h⟩
  ·rename_i h
   obtain ⟨h1,h2,h3,h4⟩:=zkS p d (i + 1)
   refine ⟨by omega,by omega,fun j g1 g2=>?_,fun g=>h4 (by omega)⟩
   by_cases e : j = i
   ·subst e; simpa using h
   ·exact h3 j (by omega) g2
def fst (p : Nat→Bool) (e i : Nat) : Nat:=fstF p i (e - i)
theorem zhx {p : Nat→Bool} {e i : Nat} (h : i≤e) : i≤fst p e i∧fst p e i≤e∧(∀ j,i≤j→j < fst p e i→p j = false)∧(fst p e i < e→p (fst p e i) = true):=by
 obtain ⟨h1,h2,h3,h4⟩:=zkS p (e - i) i
 exact ⟨h1,by unfold fst; omega,h3,fun g=>h4 (by unfold fst at g; omega)⟩
theorem znO {p : Nat→Bool} {e i t : Nat} (h1 : i≤t) (h2 : t≤e) (h3 : ∀ j,i≤j→j < t→p j = false) (h4 : t < e→p t = true) : fst p e i = t:=by
 obtain ⟨g1,g2,g3,g4⟩:=zhx (p:=p) (e:=e) (i:=i) (by omega)
 rcases Nat.lt_trichotomy (fst p e i) t with q | q | q
 ·have:=h3 _ g1 q
  rw [g4 (by omega)] at this
  cases this
 ·exact q
 ·have:=g3 t h1 q
  rw [h4 (by omega)] at this
  cases this
def cntF (p : Nat→Bool) (i : Nat) : Nat→Nat
 | 0=>0
 | d + 1=>cntF p i d + (if p (i + d) = true then 1 else 0)
def cnt (p : Nat→Bool) (a e : Nat) : Nat:=cntF p a (e - a)
end
section
theorem zog {g : List (List Int)} {S : TJ} {p i v : Nat} {r : List (Nat × Nat)} (hp : S.path = (p,i) :: r) (hi : i < (g.getD p []).length) (hv : v < g.length) (h0 : S.num v = 0) : TJ.fuel g (S.open v ((p,i + 1) :: r)) + 2 = TJ.fuel g S:=by
 have:=zoT hv h0 ((p,i + 1) :: r)
 rw [hp] at this
 simp only [zgs] at this
 omega
theorem znL {g : List (List Int)} {S : TJ} {p i x : Nat} {r : List (Nat × Nat)} (hp : S.path = (p,i) :: r) (hi : i < (g.getD p []).length) : TJ.fuel g (S.skip p i r x) + 1 = TJ.fuel g S:=by
 unfold TJ.fuel
 rw [hp]
 show _ + ((g.getD p []).length - (i + 1) + 1 + zgs g r) + 1 = _ + ((g.getD p []).length - i + 1 + zgs g r)
 show zdV (fun v=>if S.num v = 0 then _ else 0) _ + _ + 1 = _
 omega
theorem zoa {g : List (List Int)} {S : TJ} {n i p j : Nat} {r : List (Nat × Nat)} (hp : S.path = (n,i) :: (p,j) :: r) : TJ.fuel g (S.back n p j r) < TJ.fuel g S:=by
 unfold TJ.fuel
 rw [hp]
 show zdV (fun v=>if S.num v = 0 then _ else 0) _ + ((g.getD p []).length - j + 1 + zgs g r) < _ + ((g.getD n []).length - i + 1 + ((g.getD p []).length - j + 1 + zgs g r))
 omega
theorem zk1 {g : List (List Int)} {S : TJ} {n i : Nat} {r : List (Nat × Nat)} {low : Nat→Nat} (hp : S.path = (n,i) :: r) : TJ.fuel g (S.shut n r low) < TJ.fuel g S:=by
 unfold TJ.fuel
 rw [hp]
 show zdV (fun v=>if S.num v = 0 then _ else 0) _ + zgs g r < _ + ((g.getD n []).length - i + 1 + zgs g r)
 omega
def hasB (same : Nat→Nat→Bool) (k : Nat) : Bool:=(List.range k).any fun b=>same b k
def pcnt (same : Nat→Nat→Bool) : Nat→Nat
 | 0=>0
 | k + 1=>pcnt same k + if hasB same k = true then 0 else 1
def pnum (same : Nat→Nat→Bool) (k : Nat) : Nat:=pcnt same (fst (fun b=>same b k) k 0)
structure Eqv (same : Nat→Nat→Bool) (n : Nat) : Prop where
 refl : ∀ a,a < n→same a a = true
 symm : ∀ a b,a < n→b < n→same a b = true→same b a = true
 trans : ∀ a b c,a < n→b < n→c < n→same a b = true→same b c = true→same a c = true
theorem zlw (same : Nat→Nat→Bool) : ∀ k,pcnt same k≤k
 | 0=>Nat.le_refl _
 | k + 1=>by simp only [pcnt]; have:=zlw same k; split <;> omega
theorem zi9 {same : Nat→Nat→Bool} {n : Nat} (h : Eqv same n) {b k : Nat} (hk : k < n) (hb : b < k) (hs : same b k = true) (hf : ∀ c,c < b→same c k = false) : pnum same k = pcnt same b∧pnum same b = pcnt same b:=by
 constructor
 ·unfold pnum
  rw [znO (i:=0) (t:=b) (Nat.zero_le _) (by omega) (fun j _ hj=>hf j hj) (fun _=>hs)]
 ·unfold pnum
  rw [znO (i:=0) (t:=b) (Nat.zero_le _) (Nat.le_refl _) (fun j _ hj=>?_) (fun z=>by omega)]
  rw [Bool.eq_false_iff]
  intro q
  have:=h.trans j b k (by omega) (by omega) hk q hs
  rw [hf j hj] at this
  cases this
theorem zjI {same : Nat→Nat→Bool} {k : Nat} (hf : ∀ c,c < k→same c k = false) : pnum same k = pcnt same k∧hasB same k = false:=by
 constructor
 ·unfold pnum
  rw [znO (i:=0) (t:=k) (Nat.zero_le _) (Nat.le_refl _) (fun j _ hj=>hf j hj) (fun z=>by omega)]
 ·unfold hasB
  rw [List.any_eq_false]
  intro b hb
  rw [hf b (List.mem_range.1 hb)]
  decide
theorem zjG {same : Nat→Nat→Bool} {n : Nat} (h : Eqv same n) {b k : Nat} (hk : k < n) (hb : b < k) (hs : same b k = true) : pnum same k = pnum same b∧hasB same k = true:=by
 refine ⟨?_,List.any_eq_true.2 ⟨b,List.mem_range.2 hb,hs⟩⟩
 obtain ⟨g1,g2,g3,g4⟩:=zhx (p:=fun b=>same b k) (e:=k) (i:=0) (Nat.zero_le _)
 have hlt : fst (fun b=>same b k) k 0 < k:=by
  rcases Nat.lt_or_ge (fst (fun b=>same b k) k 0) k with q | q
  ·exact q
  ·have:=g3 b (Nat.zero_le _) (by omega); simp only [hs] at this; cases this
 have hc:=g4 hlt
 generalize fst (fun b=>same b k) k 0 = c at *
 have hcb : c≤b:=by
  rcases Nat.lt_or_ge b c with q | q
  ·have:=g3 b (Nat.zero_le _) q; simp only [hs] at this; cases this
  ·exact q
 have e1:=(zi9 h hk hlt hc fun d hd=>g3 d (Nat.zero_le _) hd)
 rw [e1.1]
 by_cases e : c = b
 ·subst e; rw [e1.2]
 ·refine (zi9 h (k:=b) (by omega) (show c < b by omega) (h.trans c k b (by omega) hk (by omega) hc (h.symm b k (by omega) hk hs)) fun d hd=>?_).1.symm
  rw [Bool.eq_false_iff]
  intro q
  have:=h.trans d b k (by omega) (by omega) hk q hs
  have z:=g3 d (Nat.zero_le _) hd
  simp only [this] at z
  cases z
theorem zoS {same : Nat→Nat→Bool} {n : Nat} (h : Eqv same n) {k : Nat} (hk : k < n) : pnum same k < n:=by
 unfold pnum
 have:=(zhx (p:=fun b=>same b k) (e:=k) (i:=0) (Nat.zero_le _)).2.1
 have:=zlw same (fst (fun b=>same b k) k 0)
 omega
theorem pnum_eq {same : Nat→Nat→Bool} {n : Nat} (h : Eqv same n) {a b : Nat} (ha : a < n) (hb : b < n) : pnum same a = pnum same b↔same a b = true:=by
 have mono : ∀ i j,i≤j→pcnt same i≤pcnt same j:=fun i j hij=>by
  obtain ⟨d,rfl⟩:=Nat.exists_eq_add_of_le hij
  clear hij
  induction d with
  | zero=>exact Nat.le_refl _
  | succ d ih=>exact Nat.le_trans ih (by rw [← Nat.add_assoc]; simp only [pcnt]; omega)
 have first : ∀ k,k < n→∃ c,c≤k∧same c k = true∧(∀ d,d < c→same d c = false)∧pnum same k = pcnt same c:=fun k hk=>by
  obtain ⟨g1,g2,g3,g4⟩:=zhx (p:=fun b=>same b k) (e:=k) (i:=0) (Nat.zero_le _)
  refine ⟨fst (fun b=>same b k) k 0,g2,?_,fun d hd=>?_,rfl⟩
  ·rcases Nat.lt_or_ge (fst (fun b=>same b k) k 0) k with q | q
   ·exact g4 q
   ·rw [show fst (fun b=>same b k) k 0 = k by omega]; exact h.refl k hk
  ·rw [Bool.eq_false_iff]
   intro q
   rcases Nat.lt_or_ge (fst (fun b=>same b k) k 0) k with z | z
   ·have:=h.trans d _ k (by omega) (by omega) hk q (g4 z)
    have y:=g3 d (Nat.zero_le _) hd
    simp only [this] at y; cases y
   ·have e : fst (fun b=>same b k) k 0 = k:=by omega
    have y:=g3 d (Nat.zero_le _) hd
    rw [e] at q
    simp only [q] at y; cases y
 constructor
 ·intro e
  obtain ⟨c,c1,c2,c3,c4⟩:=first a ha
  obtain ⟨d,d1,d2,d3,d4⟩:=first b hb
  have ecd : c = d:=by
   rcases Nat.lt_trichotomy c d with q | q | q
   ·have h1:=mono (c + 1) d q
    simp only [pcnt,(zjI c3).2] at h1
    simp at h1; omega
   ·exact q
   ·have h1:=mono (d + 1) c q
    simp only [pcnt,(zjI d3).2] at h1
    simp at h1; omega
  subst ecd
  exact h.trans a c b ha (by omega) hb (h.symm c a (by omega) ha c2) d2
 ·intro e
  rcases Nat.lt_trichotomy a b with q | q | q
  ·exact (zjG h hb q e).1.symm
  ·rw [q]
  ·exact (zjG h ha q (h.symm a b ha hb e)).1
noncomputable def mutB (g : List (List Int)) (a b : Nat) : Bool:=rchB g [(a : Int)] b && rchB g [(b : Int)] a
theorem mutB_iff {g : List (List Int)} {a b : Nat} : mutB g a b = true↔To g a b∧To g b a:=by
 unfold mutB
 rw [Bool.and_eq_true,rchB_iff,rchB_iff]
theorem zlz (g : List (List Int)) (n : Nat) : Eqv (mutB g) n where
 refl a _:=mutB_iff.2 ⟨zbN g a,zbN g a⟩
 symm a b _ _ h:=mutB_iff.2 (mutB_iff.1 h).symm
 trans a b c _ _ _ h k:=mutB_iff.2 ⟨zbq (mutB_iff.1 h).1 (mutB_iff.1 k).1,zbq (mutB_iff.1 k).2 (mutB_iff.1 h).2⟩
end
section
def Nontriv (g : List (List Int)) (c : Nat) : Prop:=∃ x,x∈g.getD c []∧To g x.toNat c
def Fw (g : List (List Int)) (sets : List (Nat→Bool)) (v : Nat) : Prop:=∃ c,To g v c∧Nontriv g c∧∀ S,S∈sets→∃ d,S d = true∧To g c d∧To g d c
open Classical in
noncomputable def fwB (g : List (List Int)) (sets : List (Nat→Bool)) (v : Nat) : Bool:=decide (Fw g sets v)
theorem fwB_iff {g : List (List Int)} {sets : List (Nat→Bool)} {v : Nat} : fwB g sets v = true↔Fw g sets v:=by unfold fwB; simp
theorem fwB_eq {g : List (List Int)} {sets : List (Nat→Bool)} {v : Nat} {b : Bool} (h : b = true↔Fw g sets v) : b = fwB g sets v:=by
 rw [Bool.eq_iff_iff,h,fwB_iff]
theorem Fw.back {g : List (List Int)} {sets : List (Nat→Bool)} {u v : Nat} (h : Fw g sets v) (k : To g u v) : Fw g sets u:=by
 obtain ⟨c,h1,h2,h3⟩:=h
 exact ⟨c,zbq k h1,h2,h3⟩
theorem zfI {g : List (List Int)} {c d : Nat} (h : Nontriv g c) (h1 : To g c d) (h2 : To g d c) : Nontriv g d:=by
 obtain ⟨x,hx,k⟩:=h
 -- the first going of a way from d to c,or d is c
 have key : ∀ {a b : Nat},To g a b→a = b∨∃ y,y∈g.getD a []∧To g y.toNat b:=by
  intro a b q
  unfold To at q
  induction q with
  | base m=>simp only [List.mem_singleton] at m; subst m; left; simp
  | step q m ih =>
   rcases ih with e | ⟨y,y1,y2⟩
   ·subst e; exact .inr ⟨_,m,zbN g _⟩
   ·exact .inr ⟨y,y1,.step y2 m⟩
 rcases key h2 with e | ⟨y,y1,y2⟩
 ·subst e; exact ⟨x,hx,k⟩
 ·exact ⟨y,y1,zbq y2 h1⟩
inductive Hit (g : List (List Int)) (z S : Nat→Bool) : Nat→Prop
 | one {i : Nat} {x : Int} (h : z i = true) (k : x∈g.getD i []) (hz : z x.toNat = true) (hs : S x.toNat = true) : Hit g z S i
 | more {i : Nat} {x : Int} (h : z i = true) (k : x∈g.getD i []) (hz : z x.toNat = true) (hs : Hit g z S x.toNat) : Hit g z S i
theorem Hit.here {g : List (List Int)} {z S : Nat→Bool} {i : Nat} (h : Hit g z S i) : z i = true:=by cases h <;> assumption
open Classical in
theorem zmo {g : List (List Int)} {z S : Nat→Bool} {u v : Nat} (h : To g u v) (hz : ∀ w,To g w v→z w = true) (k : Hit g z S v) : Hit g z S u:=by
 unfold To at h
 generalize hw : v = w at h
 induction h generalizing v with
 | base m=>simp only [List.mem_singleton] at m; subst m; subst hw; simpa using k
 | step q m ih=>subst hw; exact ih (fun w hw=>hz w (.step hw m)) (.more (hz _ (zcL m)) m k.here k) rfl
theorem zo7 {g : List (List Int)} {z S : Nat→Bool} {c d : Nat} (h : Nontriv g c) (hs : S d = true) (h1 : To g c d) (h2 : To g d c) (hz : ∀ w,To g w c→z w = true) : Hit g z S c:=by
 have hz' : ∀ w,To g w d→z w = true:=fun w hw=>hz w (zbq hw h2)
 -- the last going into d on a way round
 have key : ∀ {a b : Nat},To g a b→a = b∨∃ w y,To g a w∧y∈g.getD w []∧y.toNat = b:=by
  intro a b q
  unfold To at q
  cases q with
  | base m=>simp only [List.mem_singleton] at m; subst m; left; simp
  | step q m=>exact .inr ⟨_,_,q,m,rfl⟩
 obtain ⟨y,y1,y2⟩:=zfI h h1 h2
 have fin : ∀ w x,To g c w→x∈g.getD w []→x.toNat = d→Hit g z S c:=fun w x q m e =>
  zmo q (fun u hu=>hz' u (e ▸ Rch.step hu m)) (.one (hz' w (e ▸ zcL m)) m (by rw [e]; exact hz' d (zbN g d)) (by rw [e]; exact hs))
 rcases key (zbq (zcL y1) y2) with e | ⟨w,x,w1,w2,w3⟩
 ·rcases key y2 with e2 | ⟨w,x,w1,w2,w3⟩
  ·exact fin d y h1 y1 e2
  ·exact fin w x (zbq h1 (zbq (zcL y1) w1)) w2 w3
 ·exact fin w x (zbq h1 w1) w2 w3
theorem znr {g : List (List Int)} {sets : List (Nat→Bool)} {z : Nat→Bool} (hz : ∀ v,Fw g sets v→z v = true) {S : Nat→Bool} (hS : S∈sets) {v : Nat} (h : Fw g sets v) : Hit g z S v:=by
 obtain ⟨c,h1,h2,h3⟩:=h
 obtain ⟨d,d1,d2,d3⟩:=h3 S hS
 have hc : Fw g sets c:=⟨c,zbN g c,h2,h3⟩
 exact zmo h1 (fun w hw=>hz w (hc.back hw)) (zo7 h2 d1 d2 d3 fun w hw=>hz w (hc.back hw))
def resG (g : List (List Int)) (z : Nat→Bool) : List (List Int):=(List.range g.length).map fun v=>if z v = true then (g.getD v []).filter fun x=>z x.toNat else []
@[simp] theorem zmn (g : List (List Int)) (z : Nat→Bool) : (resG g z).length = g.length:=by simp [resG]
theorem mem_resG {g : List (List Int)} {z : Nat→Bool} {v : Nat} {x : Int} : x∈(resG g z).getD v []↔x∈g.getD v []∧z v = true∧z x.toNat = true:=by
 by_cases h : v < g.length
 ·rw [List.getD_eq_getElem?_getD,List.getElem?_eq_getElem (by simpa using h)]
  simp only [resG,List.getElem_map,List.getElem_range,Option.getD_some]
  split
  ·rename_i q; simp [List.mem_filter,q]
  ·rename_i q; simp [q]
 ·have e1 : (resG g z).getD v [] = []:=by rw [List.getD_eq_getElem?_getD,List.getElem?_eq_none (by simpa using h)]; rfl
  have e2 : g.getD v [] = []:=by rw [List.getD_eq_getElem?_getD,List.getElem?_eq_none (by omega)]; rfl
  rw [e1,e2]; simp
theorem zma {g : List (List Int)} {z : Nat→Bool} {u v : Nat} (h : To (resG g z) u v) : To g u v:=by
 unfold To at h
 induction h with
 | base m=>simp only [List.mem_singleton] at m; subst m; simpa using zbN g u
 | step q m ih=>exact .step ih (mem_resG.1 m).1
theorem to_lt {g : List (List Int)} (hin : ∀ v x,x∈g.getD v []→x.toNat < g.length) {u v : Nat} (hu : u < g.length) (h : To g u v) : v < g.length:=ze5 (s:=fun v=>v < g.length) (fun v _ x hx=>hin v x hx) h hu
theorem sink {g : List (List Int)} (hin : ∀ v x,x∈g.getD v []→x.toNat < g.length) : ∀ (m v : Nat),v < g.length→g.length - unseen (rchB g [(v : Int)]) g.length≤m→∃ c,To g v c∧∀ d,To g c d→To g d c
 | 0,v,hv,h=>by
  have h1:=zeq (s:=fun _=>false) (s':=rchB g [(v : Int)]) (n:=g.length) hv (fun _ _ q=>by cases q) rfl (rchB_iff.2 (zbN g v))
  have h2:=zf7 (fun _=>false) g.length
  omega
 | m + 1,v,hv,h=>by
  by_cases q : ∀ d,To g v d→To g d v
  ·exact ⟨v,zbN g v,q⟩
  ·obtain ⟨d,hd⟩:=Classical.not_forall.1 q
   obtain ⟨d1,d2⟩:=Classical.not_imp.1 hd
   have hlt:=zeq (s:=rchB g [(d : Int)]) (s':=rchB g [(v : Int)]) (n:=g.length) hv (fun j _ q=>rchB_iff.2 (zbq d1 (rchB_iff.1 q))) (by
    rw [Bool.eq_false_iff]; exact fun q=>d2 (rchB_iff.1 q)) (rchB_iff.2 (zbN g v))
   have:=zf7 (rchB g [(d : Int)]) g.length
   obtain ⟨c,c1,c2⟩:=sink hin m d (to_lt hin hv d1) (by omega)
   exact ⟨c,zbq d1 c1,c2⟩
theorem zns {g : List (List Int)} (hin : ∀ v x,x∈g.getD v []→x.toNat < g.length) {sets : List (Nat→Bool)} {z : Nat→Bool} (hz : ∀ v,z v = true→v < g.length) (h : ∀ v,z v = true→∀ S,S∈sets→Hit g z S v) (hne : sets≠[]) {v : Nat} (hv : z v = true) : Fw g sets v:=by
 have hin' : ∀ v x,x∈(resG g z).getD v []→x.toNat < (resG g z).length:=fun v x hx=>by rw [zmn]; exact hin v x (mem_resG.1 hx).1
 obtain ⟨c,c1,c2⟩:=sink hin' _ v (by rw [zmn]; exact hz v hv) (Nat.le_refl _)
 have zc : z c = true:=ze5 (s:=fun v=>z v = true) (fun v _ x hx=>(mem_resG.1 hx).2.2) c1 hv
 have key : ∀ S i,Hit g z S i→∃ x d,x∈(resG g z).getD i []∧To (resG g z) x.toNat d∧S d = true:=fun S i q=>by
  induction q with
  | one h k hz hs=>exact ⟨_,_,mem_resG.2 ⟨k,h,hz⟩,zbN _ _,hs⟩
  | more h k hz _ ih =>
   obtain ⟨x,d,i1,i2,i3⟩:=ih
   exact ⟨_,d,mem_resG.2 ⟨k,h,hz⟩,zbq (zcL i1) i2,i3⟩
 refine ⟨c,zma c1,?_,fun S hS=>?_⟩
 ·obtain ⟨S,hS⟩:=List.exists_mem_of_ne_nil _ hne
  obtain ⟨x,d,i1,i2,i3⟩:=key S c (h c zc S hS)
  exact ⟨x,(mem_resG.1 i1).1,zma (c2 _ (zcL i1))⟩
 ·obtain ⟨x,d,i1,i2,i3⟩:=key S c (h c zc S hS)
  have hd:=zbq (zcL i1) i2
  exact ⟨d,i3,zma hd,zma (c2 d hd)⟩
end
section
theorem zmt {g g' : List (List Int)} {h : Nat→Nat} (he : ∀ v x,x∈g.getD v []→∃ y,y∈g'.getD (h v) []∧y.toNat = h x.toNat) {u v : Nat} (k : To g u v) : To g' (h u) (h v):=by
 unfold To at k
 induction k with
 | base m=>simp only [List.mem_singleton] at m; subst m; simpa using zbN g' (h u)
 | step q m ih =>
  obtain ⟨y,y1,y2⟩:=he _ _ m
  rw [← y2]
  exact .step ih y1
theorem fw_map {g g' : List (List Int)} {h : Nat→Nat} {sets : List (Nat→Bool)} (he : ∀ v x,x∈g.getD v []→∃ y,y∈g'.getD (h v) []∧y.toNat = h x.toNat) {v : Nat} (k : Fw g (sets.map fun S v=>S (h v)) v) : Fw g' sets (h v):=by
 obtain ⟨c,h1,⟨x,x1,x2⟩,h3⟩:=k
 obtain ⟨y,y1,y2⟩:=he _ _ x1
 refine ⟨h c,zmt he h1,⟨y,y1,by rw [y2]; exact zmt he x2⟩,fun S hS=>?_⟩
 obtain ⟨d,d1,d2,d3⟩:=h3 _ (List.mem_map.2 ⟨S,hS,rfl⟩)
 exact ⟨h d,d1,zmt he d2,zmt he d3⟩
theorem hit_lift {g g' : List (List Int)} {h : Nat→Nat} {z z' S : Nat→Bool} (hl : ∀ v,v < g.length→∀ y,y∈g'.getD (h v) []→∃ x,x∈g.getD v []∧h x.toNat = y.toNat) (hin : ∀ v x,x∈g.getD v []→x.toNat < g.length)
  (hz : ∀ v,v < g.length→z' (h v) = true→z v = true) {w : Nat} (k : Hit g' z' S w) : ∀ u,u < g.length→h u = w→Hit g z (fun v=>S (h v)) u:=by
 induction k with
 | one a k hz' hs =>
  intro u hu e
  subst e
  obtain ⟨x,x1,x2⟩:=hl u hu _ k
  exact .one (hz u hu a) x1 (hz _ (hin _ _ x1) (by rw [x2]; exact hz')) (by rw [x2]; exact hs)
 | more a k hz' hs ih =>
  intro u hu e
  subst e
  obtain ⟨x,x1,x2⟩:=hl u hu _ k
  exact .more (hz u hu a) x1 (hz _ (hin _ _ x1) (by rw [x2]; exact hz')) (ih _ (hin _ _ x1) x2)
theorem fw_all {g : List (List Int)} {v : Nat} : Fw g [] v↔Fw g [fun _=>true] v:=by
 constructor
 ·rintro ⟨c,h1,h2,_⟩
  exact ⟨c,h1,h2,fun S hS=>by rw [List.mem_singleton] at hS; subst hS; exact ⟨c,rfl,zbN _ _,zbN _ _⟩⟩
 ·rintro ⟨c,h1,h2,_⟩
  exact ⟨c,h1,h2,fun S hS=>by cases hS⟩
theorem zow {g g' : List (List Int)} {h : Nat→Nat} {sets : List (Nat→Bool)} (hl : ∀ v,v < g.length→∀ y,y∈g'.getD (h v) []→∃ x,x∈g.getD v []∧h x.toNat = y.toNat) (hin : ∀ v x,x∈g.getD v []→x.toNat < g.length) {v : Nat} (hv : v < g.length) (k : Fw g' sets (h v)) :
  Fw g (sets.map fun S v=>S (h v)) v:=by
 have main : ∀ sets : List (Nat→Bool),sets≠[]→Fw g' sets (h v)→Fw g (sets.map fun S v=>S (h v)) v:=fun sets hne k=>by
  refine zns (z:=fun u=>decide (u < g.length) && fwB g' sets (h u)) hin (fun u hu=>by simp at hu; exact hu.1) (fun u hu S hS=>?_) (by simpa using hne) (by simp [hv,fwB_iff,k])
  simp only [Bool.and_eq_true,decide_eq_true_eq] at hu
  obtain ⟨S',hS',rfl⟩:=List.mem_map.1 hS
  have hh:=znr (z:=fwB g' sets) (fun v q=>fwB_iff.2 q) hS' (fwB_iff.1 hu.2)
  exact hit_lift hl hin (fun u hu q=>by simp [hu,q]) hh u hu.1 rfl
 by_cases hne : sets = []
 ·subst hne
  rw [List.map_nil,fw_all]
  exact main [fun _=>true] (by simp) (fw_all.1 k)
 ·exact main sets hne k
end
section
open Go.RowKit
theorem zch (a : Addr) (n : Nat) : (a.add n).block = a.block:=by unfold Addr.add; split <;> rfl
def Reads (w : World) (B size : Nat) (A : Option Addr) (n : Nat) (xs : List Value) : Prop :=
 xs.length = n * size∧(0 < n→∃ ad,A = some ad∧ad.block < B∧∀ j u,xs[j]? = some u→w.cell? (ad.add j) = some u)
section
variable {w w' : World} {B B' size n : Nat} {A : Option Addr} {xs : List Value}
theorem Reads.len (h : Reads w B 1 A n xs) : xs.length = n:=by have:=h.1; omega
theorem Reads.at_ {k : Nat} (h : Reads w B 1 A n xs) (hk : k < n) : ∃ ad u,A = some ad∧ad.block < B∧xs[k]? = some u∧w.cell? (ad.add k) = some u:=by
 obtain ⟨ad,e,hb,hc⟩:=h.2 (by omega)
 have hl : k < xs.length:=by have:=h.1; omega
 exact ⟨ad,xs[k],e,hb,List.getElem?_eq_getElem hl,hc k _ (List.getElem?_eq_getElem hl)⟩
theorem Reads.keep (h : Reads w B size A n xs) (hk : ∀ p : Addr,p.block < B→w'.cell? p = w.cell? p) : Reads w' B size A n xs :=
 ⟨h.1,fun hn=>by
  obtain ⟨ad,e,hb,hc⟩:=h.2 hn
  exact ⟨ad,e,hb,fun j u hu=>(hk _ (by rw [zch]; exact hb)).trans (hc j u hu)⟩⟩
theorem Reads.more (h : Reads w B size A n xs) (hB : B≤B') : Reads w B' size A n xs :=
 ⟨h.1,fun hn=>by
  obtain ⟨ad,e,hb,hc⟩:=h.2 hn
  exact ⟨ad,e,by omega,hc⟩⟩
theorem Reads.drew (h : Reads w B size A n xs) : Reads w.drew B size A n xs:=h
theorem Reads.alloc (h : Reads w B size A n xs) (hB : B≤w.heap.size) (o : Obj) : Reads (w.alloc o) B size A n xs:=h.keep fun p hp=>World.cell?_alloc_lt w o p (by omega)
theorem Reads.setCell (h : Reads w B size A n xs) {p : Addr} (hB : B≤p.block) (u : Value) : Reads (w.setCell p u) B size A n xs :=
 h.keep fun q hq=>World.cell?_setCell_other w p q u (fun e=>by subst e; omega)
end
def intAt (l : List Int) (k : Nat) : Int:=l.getD k 0
abbrev ints (xs : List Int) : List Value:=xs.map (Value.int .i64)
abbrev Ints (w : World) (A : Option Addr) (n : Nat) (xs : List Int) : Prop:=Reads w w.heap.size 1 A n (ints xs)
theorem Ints.len {w : World} {A : Option Addr} {n : Nat} {xs : List Int} (h : Ints w A n xs) : xs.length = n:=by have:=Reads.len h; simpa using this
theorem Ints.at_ {w : World} {A : Option Addr} {n : Nat} {xs : List Int} (h : Ints w A n xs) {k : Nat} (hk : k < n) : ∃ ad,A = some ad∧ad.block < w.heap.size∧w.cell? (ad.add k) = some (.int .i64 (intAt xs k)):=by
 obtain ⟨ad,u,hA,hb,hx,hc⟩:=Reads.at_ h hk
 refine ⟨ad,hA,hb,?_⟩
 rw [hc]
 simp only [ints,List.getElem?_map] at hx
 cases hq : xs[k]? with
 | none=>rw [hq] at hx; cases hx
 | some q=>rw [hq] at hx; simp at hx; rw [← hx]; simp [intAt,List.getD,hq]
end
section
open Go.RowKit
def Blk (w : World) (g : Nat) (t : TypeId) (cs : Array Value) : Prop:=w.heap[g]? = some (.cells cs t (0,0))
section
variable {w w' : World} {g : Nat} {t : TypeId} {cs : Array Value}
theorem Blk.lt (h : Blk w g t cs) : g < w.heap.size:=by
 rcases Nat.lt_or_ge g w.heap.size with hlt | hge
 ·exact hlt
 ·unfold Blk at h; rw [Array.getElem?_eq_none hge] at h; cases h
theorem Blk.cell (h : Blk w g t cs) (i : Nat) : w.cell? ⟨g,i,none⟩ = cs[i]?:=cell_of_row w g i cs t (0,0) h
theorem Blk.frozen (h : Blk w g t cs) (i : Nat) : w.frozen? ⟨g,i,none⟩ = false:=by
 unfold Blk at h
 simp [World.frozen?,h]
theorem Blk.new (w : World) (t : TypeId) (cs : Array Value) : Blk (w.alloc (.cells cs t)) w.heap.size t cs:=heap_alloc_new w _
theorem Blk.drew (h : Blk w g t cs) : Blk w.drew g t cs:=h
theorem Blk.alloc (h : Blk w g t cs) (o : Obj) : Blk (w.alloc o) g t cs:=(Below.heap_alloc w o g h.lt).trans h
end
inductive Tree where
 | node (kind n : Int) (kids : List Tree)
namespace Tree
instance : Inhabited Tree:=⟨.node 0 0 []⟩
def kind : Tree→Int | .node k _ _=>k
def num : Tree→Int | .node _ n _=>n
def kids : Tree→List Tree | .node _ _ ks=>ks
def kid (t : Tree) (j : Nat) : Tree:=t.kids.getD j default
def width (t : Tree) : Nat:=t.kids.length
theorem kid_get {t : Tree} {j : Nat} (h : j < t.kids.length) : t.kid j = t.kids[j]:=by simp [kid,List.getD,List.getElem?_eq_getElem h]
theorem eta (t : Tree) : Tree.node t.kind t.num t.kids = t:=by cases t; rfl
theorem ind {p : Tree→Prop} (h : ∀ t : Tree,(∀ j,j < t.width→p (t.kid j))→p t) : ∀ t,p t:=by
 intro t
 refine Tree.rec (motive_1:=p) (motive_2:=fun ks=>∀ t∈ks,p t) ?_ ?_ ?_ t
 ·intro k n ks ih
  refine h _ fun j hj=>?_
  rw [kid_get (t:=.node k n ks) hj]
  exact ih _ (List.getElem_mem hj)
 ·intro t ht; cases ht
 ·intro t ts h1 h2 u hu
  rcases List.mem_cons.1 hu with rfl | hu
  ·exact h1
  ·exact h2 u hu
end Tree
inductive TreeS (w : World) (S : Nat→Prop) : Tree→Option Addr→Prop where
 | mk (t : Tree) (A : Option Addr) (As : Nat→Option Addr) (Cs : Nat→Nat) (hlen : t.width≤9223372036854775807)
   (hA : 0 < t.width→∃ ad,A = some ad∧S ad.block∧∀ j,j < t.width→w.cell? (ad.add (j * 3)) = some (.int .i64 (t.kid j).kind)∧w.cell? ((ad.add (j * 3)).add 1) = some (.int .i64 (t.kid j).num) ∧
    w.cell? ((ad.add (j * 3)).add 2) = some (.slice (As j) (t.kid j).width (Cs j)))
   (hk : ∀ j,j < t.width→TreeS w S (t.kid j) (As j)) : TreeS w S t A
def TreeIn (w : World) (B : Nat) (t : Tree) (A : Option Addr) : Prop:=TreeS w (fun b=>b < B) t A
theorem TreeS.small {w : World} {S : Nat→Prop} {t : Tree} {A : Option Addr} (h : TreeS w S t A) : t.width≤9223372036854775807:=by cases h; assumption
theorem TreeS.at_ {w : World} {S : Nat→Prop} {t : Tree} {A : Option Addr} (h : TreeS w S t A) {j : Nat} (hj : j < t.width) :
  ∃ ad A' c',A = some ad∧S ad.block∧w.cell? (ad.add (j * 3)) = some (.int .i64 (t.kid j).kind)∧w.cell? ⟨(ad.add (j * 3)).block,(ad.add (j * 3)).off + 1,none⟩ = some (.int .i64 (t.kid j).num) ∧
   w.cell? ⟨(ad.add (j * 3)).block,(ad.add (j * 3)).off + 2,none⟩ = some (.slice A' (t.kid j).width c')∧TreeS w S (t.kid j) A':=by
 cases h with
 | mk _ _ As Cs hlen hA hk =>
  obtain ⟨ad,rfl,hb,hc⟩:=hA (by omega)
  exact ⟨ad,_,_,rfl,hb,(hc j hj).1,by simpa [Addr.add] using (hc j hj).2.1,by simpa [Addr.add] using (hc j hj).2.2,hk j hj⟩
theorem TreeS.keep {w w' : World} {S : Nat→Prop} {t : Tree} {A : Option Addr} (h : TreeS w S t A) (hk : ∀ p : Addr,S p.block→w'.cell? p = w.cell? p) : TreeS w' S t A:=by
 induction h with
 | mk t A As Cs hlen hA hkids ih =>
  refine .mk t A As Cs hlen (fun h=>?_) ih
  obtain ⟨ad,e,hb,hc⟩:=hA h
  refine ⟨ad,e,hb,fun j hj=>?_⟩
  obtain ⟨c1,c2,c3⟩:=hc j hj
  exact ⟨(hk _ (by rw [zch]; exact hb)).trans c1,(hk _ (by rw [zch,zch]; exact hb)).trans c2,(hk _ (by rw [zch,zch]; exact hb)).trans c3⟩
theorem TreeS.mono {w : World} {S S' : Nat→Prop} {t : Tree} {A : Option Addr} (h : TreeS w S t A) (hS : ∀ b,b < w.heap.size→S b→S' b) : TreeS w S' t A:=by
 induction h with
 | mk t A As Cs hlen hA hkids ih =>
  refine .mk t A As Cs hlen (fun h=>?_) ih
  obtain ⟨ad,e,hb,hc⟩:=hA h
  refine ⟨ad,e,hS _ ?_ hb,hc⟩
  have:=World.block_lt_of_cell? _ _ (hc 0 h).1
  rwa [zch] at this
theorem TreeIn.small {w : World} {B : Nat} {t : Tree} {A : Option Addr} (h : TreeIn w B t A) : t.width≤9223372036854775807:=TreeS.small h
theorem TreeIn.at_ {w : World} {B : Nat} {t : Tree} {A : Option Addr} (h : TreeIn w B t A) {j : Nat} (hj : j < t.width) :
  ∃ ad A' c',A = some ad∧ad.block < B∧w.cell? (ad.add (j * 3)) = some (.int .i64 (t.kid j).kind)∧w.cell? ⟨(ad.add (j * 3)).block,(ad.add (j * 3)).off + 1,none⟩ = some (.int .i64 (t.kid j).num) ∧
   w.cell? ⟨(ad.add (j * 3)).block,(ad.add (j * 3)).off + 2,none⟩ = some (.slice A' (t.kid j).width c')∧TreeIn w B (t.kid j) A':=TreeS.at_ h hj
theorem TreeIn.keep {w w' : World} {B : Nat} {t : Tree} {A : Option Addr} (h : TreeIn w B t A) (hk : ∀ p : Addr,p.block < B→w'.cell? p = w.cell? p) : TreeIn w' B t A:=TreeS.keep h hk
theorem TreeIn.under {w w' : World} {B : Nat} {t : Tree} {A : Option Addr} (h : TreeIn w B t A) (hb : Below B w w') : TreeIn w' B t A:=h.keep fun _ hp=>hb.cell hp
theorem TreeIn.more {w : World} {B B' : Nat} {t : Tree} {A : Option Addr} (h : TreeIn w B t A) (hB : B≤B') : TreeIn w B' t A:=TreeS.mono h fun _ _ hb=>Nat.lt_of_lt_of_le hb hB
theorem TreeIn.all {w : World} {B : Nat} {t : Tree} {A : Option Addr} (h : TreeIn w B t A) : TreeS w (fun _=>True) t A:=TreeS.mono h fun _ _ _=>trivial
def zaE (k : Int) : Int:=if k = 1∨k = 2∨k = 3 then 0 else if k = 4∨k = 7∨k = 10∨k = 11 then 1 else if k = 5∨k = 6∨k = 8∨k = 9 then 2 else -1
def zbb (kd : Int→Int) (t : Tree) : Prop:=kd t.kind≠(t.width : Int)∨t.num < 0∨63 < t.num∨(t.kind≠3∧t.num≠0)
instance (kd : Int→Int) (t : Tree) : Decidable (zbb kd t):=by unfold zbb; infer_instance
mutual
def chkT (kd : Int→Int) : Tree→Int→Int→Int × Int
 | .node k x ks,d,n =>
  if 60 < n + 1 then (2,n + 1) else if 20 < d then (5,n + 1) else if zbb kd (.node k x ks) then (1,n + 1) else chkF kd ks (d + 1) (n + 1)
def chkF (kd : Int→Int) : List Tree→Int→Int→Int × Int
 | [],_,n=>(0,n)
 | t :: ts,d,n=>if (chkT kd t d n).1 = 0 then chkF kd ts d (chkT kd t d n).2 else chkT kd t d n
end
theorem zot (kd : Int→Int) (t : Tree) (d n : Int) :
  chkT kd t d n = if 60 < n + 1 then (2,n + 1) else if 20 < d then (5,n + 1) else if zbb kd t then (1,n + 1) else chkF kd t.kids (d + 1) (n + 1):=by
 cases t; rw [chkT]; rfl
theorem zj2 (kd : Int→Int) {t : Tree} {j : Nat} (hj : j < t.width) (d n : Int) :
  chkF kd (t.kids.drop j) d n = if (chkT kd (t.kid j) d n).1 = 0 then chkF kd (t.kids.drop (j + 1)) d (chkT kd (t.kid j) d n).2 else chkT kd (t.kid j) d n:=by
 rw [List.drop_eq_getElem_cons hj,chkF,Tree.kid_get hj]
theorem zk4 (kd : Int→Int) (t : Tree) (d n : Int) : chkF kd (t.kids.drop t.width) d n = (0,n):=by
 rw [Tree.width,List.drop_length,chkF]
def chk (kd : Int→Int) (t : Tree) : Int:=(chkT kd t 1 0).1
mutual
theorem zhN (kd : Int→Int) : ∀ (t : Tree) (d n : Int),n + 1≤(chkT kd t d n).2∧(n≤60→(chkT kd t d n).2≤61)
 | .node k x ks,d,n=>by
  have:=zkk kd ks (d + 1) (n + 1)
  rw [chkT]
  split
  ·simp; omega
  ·split
   ·simp; omega
   ·split
    ·simp; omega
    ·omega
theorem zkk (kd : Int→Int) : ∀ (ts : List Tree) (d n : Int),n≤(chkF kd ts d n).2∧(n≤60→(chkF kd ts d n).2≤61)
 | [],_,n=>by rw [chkF]; simp; omega
 | t :: ts,d,n=>by
  have h1:=zhN kd t d n
  have h2:=zkk kd ts d (chkT kd t d n).2
  have h3:=zjF kd t d n
  rw [chkF]
  split
  ·rename_i h
   have:=h3 h
   omega
  ·omega
theorem zjF (kd : Int→Int) : ∀ (t : Tree) (d n : Int),(chkT kd t d n).1 = 0→(chkT kd t d n).2≤60
 | .node k x ks,d,n=>by
  have:=znP kd ks (d + 1) (n + 1)
  rw [chkT]
  split
  ·simp
  ·split
   ·simp
   ·split
    ·simp
    ·intro h; exact this (by omega) h
theorem znP (kd : Int→Int) : ∀ (ts : List Tree) (d n : Int),n≤60→(chkF kd ts d n).1 = 0→(chkF kd ts d n).2≤60
 | [],_,n=>by rw [chkF]; simp
 | t :: ts,d,n=>by
  have h1:=zjF kd t d n
  have h2:=znP kd ts d (chkT kd t d n).2
  intro hn
  rw [chkF]
  split
  ·rename_i h
   exact h2 (h1 h)
  ·intro h; contradiction
end
end
section
theorem Tree.ext_kids {a b : Tree} (h1 : a.kind = b.kind) (h2 : a.num = b.num) (h3 : a.width = b.width) (h4 : ∀ j,j < a.width→a.kid j = b.kid j) : a = b:=by
 rw [← Tree.eta a,← Tree.eta b,h1,h2]
 congr 1
 refine List.ext_getElem h3 fun i hi hi'=>?_
 have:=h4 i hi
 rwa [Tree.kid_get hi,Tree.kid_get hi'] at this
open Classical in
noncomputable def eqT (a b : Tree) : Bool:=decide (a = b)
theorem zmJ {a b : Tree} (h : a = b) : true = eqT a b:=by simp [eqT,h]
theorem zge {a b : Tree} (h : a≠b) : false = eqT a b:=by simp [eqT,h]
theorem eqT_iff {a b : Tree} : eqT a b = true↔a = b:=by simp [eqT]
mutual
def Tree.size : Tree→Nat
 | .node _ _ ks=>1 + Tree.sizes ks
def Tree.sizes : List Tree→Nat
 | []=>0
 | t :: ts=>t.size + Tree.sizes ts
end
mutual
def Tree.depth : Tree→Nat
 | .node _ _ ks=>1 + Tree.depths ks
def Tree.depths : List Tree→Nat
 | []=>0
 | t :: ts=>max t.depth (Tree.depths ts)
end
mutual
def Tree.wf (kd : Int→Int) : Tree→Prop
 | .node k n ks=>¬ zbb kd (.node k n ks)∧Tree.wfs kd ks
def Tree.wfs (kd : Int→Int) : List Tree→Prop
 | []=>True
 | t :: ts=>t.wf kd∧Tree.wfs kd ts
end
theorem Tree.depth_pos : ∀ t : Tree,1≤t.depth:=fun t=>by cases t; rw [Tree.depth]; omega
mutual
theorem zjZ (kd : Int→Int) : ∀ (t : Tree) (d n : Int),(chkT kd t d n).1 = 0↔(n + t.size≤60∧d + t.depth≤21∧t.wf kd)
 | .node k x ks,d,n=>by
  have h1:=zkA kd ks (d + 1) (n + 1)
  rw [chkT,Tree.size,Tree.depth,Tree.wf]
  by_cases c1 : 60 < n + 1
  ·rw [if_pos c1]; simp; omega
  ·rw [if_neg c1]
   by_cases c2 : 20 < d
   ·rw [if_pos c2]; simp; omega
   ·rw [if_neg c2]
    by_cases c3 : zbb kd (.node k x ks)
    ·rw [if_pos c3]; simp [c3]
    ·rw [if_neg c3,h1]
     constructor
     ·rintro ⟨a,b,c⟩
      cases ks with
      | nil=>rw [Tree.sizes,Tree.depths] at *; exact ⟨by omega,by omega,c3,c⟩
      | cons t ts=>have:=a (by simp); have:=b (by simp); exact ⟨by omega,by omega,c3,c⟩
     ·rintro ⟨a,b,_,c⟩
      exact ⟨by omega,fun _=>by omega,c⟩
theorem zkA (kd : Int→Int) : ∀ (ts : List Tree) (d n : Int),(chkF kd ts d n).1 = 0↔((ts≠[]→n + Tree.sizes ts≤60)∧(ts≠[]→d + Tree.depths ts≤21)∧Tree.wfs kd ts)
 | [],_,n=>by rw [chkF,Tree.wfs]; simp
 | t :: ts,d,n=>by
  have h1:=zjZ kd t d n
  have h3:=zmv kd t d n
  have h2:=zkA kd ts d (chkT kd t d n).2
  rw [chkF,Tree.sizes,Tree.depths,Tree.wfs]
  have hd:=Tree.depth_pos t
  by_cases c : (chkT kd t d n).1 = 0
  ·rw [if_pos c,h2,h3 c]
   rw [h1] at c
   obtain ⟨c1,c2,c3⟩:=c
   cases ts with
   | nil=>rw [Tree.sizes,Tree.depths,Tree.wfs]; simp [c3]; omega
   | cons u us =>
    simp only [ne_eq,reduceCtorEq,not_false_eq_true,true_implies,c3,true_and]
    constructor
    ·rintro ⟨a,b,e⟩; exact ⟨by omega,by omega,e⟩
    ·rintro ⟨a,b,e⟩; exact ⟨by omega,by omega,e⟩
  ·rw [if_neg c]
   constructor
   ·intro h; exact absurd h c
   ·rintro ⟨a,b,e⟩
    refine absurd (h1.2 ⟨?_,?_,e.1⟩) c
    ·have:=a (by simp); omega
    ·have:=b (by simp); omega
theorem zmv (kd : Int→Int) : ∀ (t : Tree) (d n : Int),(chkT kd t d n).1 = 0→(chkT kd t d n).2 = n + t.size
 | .node k x ks,d,n=>by
  have h1:=zmp kd ks (d + 1) (n + 1)
  rw [chkT,Tree.size]
  split
  ·simp
  ·split
   ·simp
   ·split
    ·simp
    ·intro h; rw [h1 h]; omega
theorem zmp (kd : Int→Int) : ∀ (ts : List Tree) (d n : Int),(chkF kd ts d n).1 = 0→(chkF kd ts d n).2 = n + Tree.sizes ts
 | [],_,n=>by rw [chkF,Tree.sizes]; simp
 | t :: ts,d,n=>by
  have h1:=zmv kd t d n
  have h2:=zmp kd ts d (chkT kd t d n).2
  rw [chkF,Tree.sizes]
  split
  ·rename_i h; intro h'; rw [h2 h',h1 h]; omega
  ·intro h; contradiction
end
theorem zey (kd : Int→Int) (t : Tree) : chk kd t = 0↔(t.size≤60∧t.depth≤20∧t.wf kd):=by
 unfold chk; rw [zjZ]
 constructor
 ·rintro ⟨a,b,c⟩; exact ⟨by omega,by omega,c⟩
 ·rintro ⟨a,b,c⟩; exact ⟨by omega,by omega,c⟩
theorem zoN (kd : Int→Int) : ∀ ts : List Tree,Tree.wfs kd ts↔∀ t∈ts,t.wf kd
 | []=>by simp [Tree.wfs]
 | t :: ts=>by rw [Tree.wfs,zoN kd ts]; simp
theorem zcO (kd : Int→Int) (t : Tree) : t.wf kd↔¬ zbb kd t∧∀ u∈t.kids,u.wf kd:=by
 cases t; rw [Tree.wf,zoN]; rfl
theorem zbB {kd : Int→Int} {t : Tree} (h : t.wf kd) {j : Nat} (hj : j < t.width) : (t.kid j).wf kd:=by
 rw [Tree.kid_get hj]; exact ((zcO kd t).1 h).2 _ (List.getElem_mem hj)
def mk0 (k n : Int) : Tree:=.node k n []
def mk1 (k : Int) (a : Tree) : Tree:=.node k 0 [a]
def mk2 (k : Int) (a b : Tree) : Tree:=.node k 0 [a,b]
theorem zcp {t : Tree} (h : ¬ zbb zaE t) : (t.kind = 1∨t.kind = 2∨t.kind = 3)∧t.width = 0∨(t.kind = 4∨t.kind = 7∨t.kind = 10∨t.kind = 11)∧t.width = 1∨(t.kind = 5∨t.kind = 6∨t.kind = 8∨t.kind = 9)∧t.width = 2:=by
 unfold zbb zaE at h
 (repeat' split at h) <;> omega
def Fits (s d : Nat) (t : Tree) : Prop:=t.wf zaE∧t.size≤s∧t.depth≤d
theorem Fits.more {s d s' d' : Nat} {t : Tree} (h : Fits s d t) (hs : s≤s') (hd : d≤d') : Fits s' d' t:=⟨h.1,Nat.le_trans h.2.1 hs,Nat.le_trans h.2.2 hd⟩
end
section
open Go.RowKit
def dbool (b : Bool) : D:=.sc (.bool b)
def zaD (l : List Int) : D:=.lst 1 (l.map fun n=>[.sc (.int .i64 n)])
def zbe (g : List (List Int)) : D:=.lst 1 (g.map fun l=>[zaD l])
theorem zas {α : Type} (f : α→List D) (h : ∀ a,zao (f a)) : ∀ l : List α,zbd (l.map f)
 | []=>by simp only [List.map_nil,zbd]
 | a :: l=>by simp only [List.map_cons,zbd]; exact ⟨h a,zas f h l⟩
theorem zam (l : List Int) : Pure (zaD l):=by
 simp only [zaD,Pure]; exact zas _ (fun n=>by simp [zao,Pure]) l
theorem zbm (g : List (List Int)) : Pure (zbe g):=by
 simp only [zbe,Pure]; exact zas _ (fun l=>by simp [zao,zam]) g
mutual
def zbo : Tree→List D
 | .node k n ks=>[.sc (.int .i64 k),.sc (.int .i64 n),.lst 3 (zkZ ks)]
def zkZ : List Tree→List (List D)
 | []=>[]
 | t :: r=>zbo t :: zkZ r
end
def drow (t : Tree) : List D:=[.sc (.int .i64 t.kind),.sc (.int .i64 t.num),.lst 3 (t.kids.map zbo)]
def za7 (t : Tree) : D:=.agg (drow t)
theorem zk3 : ∀ l,zkZ l = l.map zbo
 | []=>by simp only [zkZ,List.map_nil]
 | t :: r=>by simp only [zkZ,List.map_cons,zk3 r]
theorem zcV (t : Tree) : zbo t = drow t:=by
 cases t; simp only [zbo,zk3]; rfl
mutual
theorem zcC : ∀ t : Tree,zao (zbo t)
 | .node k n ks=>by simp only [zbo,zao,Pure,true_and,and_true]; exact zi8 ks
theorem zi8 : ∀ l : List Tree,zbd (zkZ l)
 | []=>by simp only [zkZ,zbd]
 | t :: r=>by simp only [zkZ,zbd]; exact ⟨zcC t,zi8 r⟩
end
theorem zap (t : Tree) : Pure (za7 t):=by simp only [za7,Pure]; rw [← zcV]; exact zcC t
theorem zc4 {H : List AObj} : ∀ l : List D,DeepL H l l
 | []=>.nil
 | d :: r=>.cons _ _ _ _ (.refl d) (zc4 r)
theorem zaq {H : List AObj} : ∀ l : List (List D),DeepLL H l l
 | []=>.nil
 | d :: r=>.cons _ _ _ _ (zc4 d) (zaq r)
theorem zaF {H : List AObj} (t : Tree) : DeepL H (drow t) (zbo t):=by rw [zcV]; exact zc4 _
inductive Small : Tree→Prop where
 | mk (t : Tree) (h : t.width≤9223372036854775807) (k : ∀ j,j < t.width→Small (t.kid j)) : Small t
theorem Small.width {t : Tree} (h : Small t) : t.kids.length≤9223372036854775807:=by cases h; assumption
theorem Small.kid {t : Tree} (h : Small t) {j : Nat} (hj : j < t.width) : Small (t.kid j):=by cases h with | mk _ _ k=>exact k j hj
theorem zd9 : ∀ t : Tree,t.wf zaE→Small t:=by
 intro t
 induction t using Tree.ind with
 | h t ih =>
  intro hw
  refine .mk t ?_ fun j hj=>ih j hj (zbB hw hj)
  have:=zcp ((zcO _ _).1 hw).1
  omega
theorem zah {m : Nat→Bool} {H : List AObj} {xs ys : List (List D)} (h : xs = ys) : DeepMLL m H xs ys:=h ▸ .refl xs
theorem zar (t : Tree) : zao (drow t):=by rw [← zcV]; exact zcC t
theorem za3 (t : Tree) : zbd (t.kids.map zbo):=zas _ zcC _
theorem zkJ {α : Type} {β : Type} (f : α→β) {l : List α} {k : Nat} {a : α} (h : l[k]? = some a) : List.drop 0 (List.take k ((l.take k).map f)) ++ [f a] = (l.take (k + 1)).map f:=by
 rw [List.drop_zero,List.take_of_length_le (by simp; omega),List.take_add_one,h]
 simp
theorem kid_get? {t : Tree} {j : Nat} (h : j < t.width) : t.kids[j]? = some (t.kid j):=by rw [Tree.kid_get h,List.getElem?_eq_getElem h]
theorem zoi {α : Type} (f : Tree→α) {t : Tree} {j : Nat} (h : j < t.width) : ((t.kids.take t.width).map f)[j]? = some (f (t.kid j)):=by
 rw [Tree.width,List.take_length,List.getElem?_map,kid_get? h]; rfl
theorem zaZ {t : Tree} {j : Nat} (h : j < t.width) : (t.kids.map zbo)[j]? = some (drow (t.kid j)):=by
 rw [List.getElem?_map,Tree.kid_get h,List.getElem?_eq_getElem h,← zcV]; rfl
theorem zbW {H : List AObj} {d e : D} (h : d = e) : Deep H d e:=h ▸ .refl d
theorem zhV {H : List AObj} {d : D} {t u : Tree} (h : t = u) (k : Deep H d (za7 u)) : Deep H d (za7 t):=h ▸ k
end
section
open Go.RowKit
section
variable {P : Program} {f : FuncId}
theorem zcj {args : List D} {H0 H0' : List AObj} {d : D} (hA : ACall P f args H0 d H0') (L R : List AObj) (hlen : H0'.length = H0.length) (hargs : zae H0.length args) (hobj : zbg H0.length H0)
  {args2 : List D} {d2 : D} {H H2 : List AObj} (e1 : renL (fun i=>L.length + i) args = args2) (e2 : D.ren (fun i=>L.length + i) d = d2) (e3 : L ++ (H0.map (AObj.ren fun i=>L.length + i) ++ R) = H) (e4 : L ++ (H0'.map (AObj.ren fun i=>L.length + i) ++ R) = H2) :
  ACall P f args2 H d2 H2:=by
 subst e1 e2 e3 e4
 refine zhM (fun i=>L.length + i) hA (fun i j _ _ h=>by omega) (fun i o h=>?_) (fun i h1 h2=>by omega) (by simp [hlen]) (fun i o h=>?_) (fun j hj hne=>?_) hargs (zeu hobj)
 ·rw [List.getElem?_append_right (by omega),Nat.add_sub_cancel_left,List.getElem?_append_left (by simpa using zcJ h),List.getElem?_map,h]; rfl
 ·rw [List.getElem?_append_right (by omega),Nat.add_sub_cancel_left,List.getElem?_append_left (by simpa using zcJ h),List.getElem?_map,h]; rfl
 ·rcases Nat.lt_or_ge j L.length with h | h
  ·rw [List.getElem?_append_left h,List.getElem?_append_left h]
  ·have : H0.length≤j - L.length:=by
    rcases Nat.lt_or_ge (j - L.length) H0.length with q | q
    ·exact absurd (by omega) (hne (j - L.length) q)
    ·exact q
   rw [List.getElem?_append_right h,List.getElem?_append_right h,List.getElem?_append_right (by simp; omega),List.getElem?_append_right (by simp; omega)]
   simp [hlen]
theorem zbh {args : List D} {H0 H0' : List AObj} {d : D} (hA : ACall P f args H0 d H0') (R : List AObj) (hlen : H0'.length = H0.length) (hargs : zae H0.length args) (hobj : zbg H0.length H0) : ACall P f args (H0 ++ R) d (H0' ++ R):=by
 have h : (fun i=>([] : List AObj).length + i) = fun i=>i:=by funext i; simp
 refine zcj hA [] R hlen hargs hobj ?_ ?_ ?_ ?_ <;> rw [h]
 ·exact zei _
 ·exact zmm _
 ·rw [show (AObj.ren fun i=>i) = id from funext zjW]; simp
 ·rw [show (AObj.ren fun i=>i) = id from funext zjW]; simp
end
def cutQ {ι : Type} (L n : Nat) (Q : Post) (E : ι→Env) (O : ι→List AObj) (G : ι→Prop) : Post
 | .normal,env,H=>∃ i,G i∧St.leB L n env H (E i) (O i)
 | e,env,H=>Q e env H
theorem zfU {P : Program} {n : Nat} {p : PC} {Q : Post} {env : Env} {H : List AObj} {ι : Type} (E : ι→Env) (O : ι→List AObj) (G : ι→Prop) (h1 : PWp P n p (cutQ H.length n Q E O G) env H)
  (h2 : ∀ i,G i→Q .normal (E i) (O i)) : PWp P n p Q env H:=zeM fun c hc J F a w hr=>by
 refine wp_mono (zc6 h1 hc hr) fun e a2 w2 ⟨env',H',J',F',q1,q2,q3⟩=>?_
 cases e with
 | normal =>
  obtain ⟨i,r1,r2⟩:=q1
  obtain ⟨J2,F2,t1,t2,t3,t4,t5⟩:=r2 J' F' a2 w2 q2
  exact ⟨E i,O i,J2,F2,h2 i r1,t1,zjt hr.dom q3 t2 t3 t4 t5⟩
 | _=>exact ⟨env',H',J',F',q1,q2,q3⟩
@[simp] theorem under_dtree {m : Nat} (t : Tree) : zai m (za7 t)↔True:=⟨fun _=>trivial,fun _=>zaf _ (zap t)⟩
@[simp] theorem underL_drow {m : Nat} (t : Tree) : zae m (drow t)↔True:=⟨fun _=>trivial,fun _=>zad _ (zar t)⟩
@[simp] theorem underLL_dcells {m : Nat} (l : List Tree) : zak m (l.map zbo)↔True:=⟨fun _=>trivial,fun _=>zaa _ (zas _ zcC _)⟩
@[simp] theorem underL_dcells {m : Nat} (t : Tree) : zae m (zbo t)↔True:=⟨fun _=>trivial,fun _=>zad _ (zcC t)⟩
@[simp] theorem ren_dtree {ρ : Nat→Nat} (t : Tree) : D.ren ρ (za7 t) = za7 t:=zbE _ (zap t)
@[simp] theorem renL_drow {ρ : Nat→Nat} (t : Tree) : renL ρ (drow t) = drow t:=zbA _ (zar t)
@[simp] theorem renLL_dcells {ρ : Nat→Nat} (l : List Tree) : zdo ρ (l.map zbo) = l.map zbo:=zbn _ (zas _ zcC _)
end
section
open Go.RowKit
def znY (env : Env) : List Nat→(Env→Prop)→Prop
 | [],K=>K []
 | t :: ts,K=>zhf t (fun d=>znY env ts fun e=>K ((t,d) :: e)) env
def appK : Env→Env→(Env→Prop)→Prop
 | [],e,K=>K e
 | p :: r,e,K=>appK r e fun E=>K (p :: E)
def puts : List (Nat × AObj)→List AObj→List AObj
 | [],H=>H
 | (i,o) :: r,H=>puts r (H.set i o)
def putsK : List (Nat × AObj)→List AObj→(List AObj→Prop)→Prop
 | [],H,K=>K H
 | (i,o) :: r,H,K=>zf6 H i o fun H'=>putsK r H' K
theorem zjT (env : Env) : ∀ (ts : List Nat) (K : Env→Prop),znY env ts K = K (ts.map fun t=>(t,lookD t env))
 | [],K=>rfl
 | t :: ts,K=>by simp only [znY,zeb,zjT env ts,List.map_cons]
theorem zlH : ∀ (a e : Env) (K : Env→Prop),appK a e K = K (a ++ e)
 | [],e,K=>rfl
 | p :: r,e,K=>by simp only [appK,zlH r e,List.cons_append]
theorem zkl : ∀ (l : List (Nat × AObj)) (H : List AObj) (K : List AObj→Prop),putsK l H K→K (puts l H)
 | [],H,K,h=>h
 | (i,o) :: r,H,K,h=>by
  simp only [putsK,zcM] at h
  simp only [puts]
  exact zkl r _ K h.2
theorem zh2 {env : Env} : ∀ (a e : Env),sameE env a→sameE env e→sameE env (a ++ e)
 | [],e,_,k=>k
 | (t,d) :: r,e,h,k=>⟨h.1,zh2 r e h.2 k⟩
theorem zgX {env : Env} : ∀ ts : List Nat,sameE env (ts.map fun t=>(t,lookD t env))
 | []=>trivial
 | t :: ts=>⟨rfl,zgX ts⟩
theorem zan {L n : Nat} {env env' : Env} {H H' : List AObj} (h : sameE env env') (e : H = H') : St.leB L n env H env' H':=e ▸ zf0 h
structure ForK (P : Program) (n : Nat) (p : PC) (Q : Post) (env : Env) (H : List AObj) {ι : Type} (upd : ι→Env) (hup : ι→List (Nat × AObj)) (G : ι→Prop) (m : ι→Nat) (i : ι) (e : Env) : Prop where
 good : G i
 start : sameE env (upd i)
 heap : H = puts (hup i) H
 round : ∀ j,G j→appK (upd j) e fun E=>putsK (hup j) H fun O=>PWp P n p (loopQB H.length n Q (fun j=>upd j ++ e) (fun j=>puts (hup j) H) G m (m j)) E O
theorem zaT {P : Program} {n : Nat} {p : PC} {Q : Post} {env : Env} {H : List AObj} {ι : Type} (kept : List Nat) (upd : ι→Env) (hup : ι→List (Nat × AObj)) (G : ι→Prop) (m : ι→Nat) (i : ι)
  (h : znY env kept fun e=>ForK P n p Q env H upd hup G m i e) : PWp P n (.loop p) Q env H:=by
 rw [zjT] at h
 refine zeo (fun j=>upd j ++ kept.map fun t=>(t,lookD t env)) (fun j=>puts (hup j) H) G m i h.good (zan (zh2 _ _ h.start (zgX _)) h.heap) fun j hj=>?_
 have:=h.round j hj
 rw [zlH] at this
 exact zkl _ _ _ this
end
section
open Go.RowKit
def idxF {α : Type} (p : α→Bool) (l : List α) : Int:=match l.findIdx? p with | some i=>(i : Int) | none=>-1
theorem zeG {α : Type} {p : α→Bool} {l : List α} {k : Nat} (hk : k < l.length) (h : p l[k] = true) (no : ∀ j (hj : j < k),p (l[j]'(by omega)) = false) : idxF p l = k:=by
 have : l.findIdx? p = some k:=by
  rw [List.findIdx?_eq_some_iff_getElem]
  exact ⟨hk,h,fun j hj=>by simp [no j hj]⟩
 unfold idxF
 rw [this]
theorem ze1 {α : Type} {p : α→Bool} {l : List α} (no : ∀ j (hj : j < l.length),p l[j] = false) : idxF p l = -1:=by
 have : l.findIdx? p = none:=by
  rw [List.findIdx?_eq_none_iff]
  intro x hx
  obtain ⟨j,hj,rfl⟩:=List.mem_iff_getElem.1 hx
  exact no j hj
 unfold idxF
 rw [this]
theorem zdb {α : Type} (p : α→Bool) (l : List α) : decide (idxF p l≥0) = l.any p:=by
 unfold idxF
 cases e : l.findIdx? p with
 | none =>
  rw [List.findIdx?_eq_none_iff] at e
  have : l.any p = false:=by rw [List.any_eq_false]; intro x hx; simp [e x hx]
  rw [this]; rfl
 | some i =>
  rw [List.findIdx?_eq_some_iff_getElem] at e
  obtain ⟨h1,h2,_⟩:=e
  have : l.any p = true:=by rw [List.any_eq_true]; exact ⟨_,List.getElem_mem h1,h2⟩
  rw [this]
  exact decide_eq_true (by show (0 : Int)≤(i : Int); omega)
theorem zhP {α : Type} {p : α→Bool} {l : List α} (h : 0≤idxF p l) : ∃ k : Nat,idxF p l = (k : Int)∧∃ hk : k < l.length,p l[k] = true∧∀ j (hj : j < k),p (l[j]'(by omega)) = false:=by
 unfold idxF at h ⊢
 cases e : l.findIdx? p with
 | none=>rw [e] at h; exact absurd h (by decide)
 | some i =>
  rw [List.findIdx?_eq_some_iff_getElem] at e
  obtain ⟨h1,h2,h3⟩:=e
  exact ⟨i,rfl,h1,h2,fun j hj=>by simpa using h3 j hj⟩
theorem ziD {α : Type} {c : α→D} {l : List α} {z k : Nat} (hz : z = k) (h : k < l.length) : (l.map fun a=>[c a])[z]? = some [c l[k]]:=by
 subst hz
 rw [List.getElem?_map,List.getElem?_eq_getElem h]
 rfl
@[simp] theorem zhH {α : Type} {m : Nat} (f : α→List D) (l : List α) : zak m (l.map f)↔∀ a∈l,zae m (f a):=by
 induction l with
 | nil=>simp [zak]
 | cons a r ih=>simp [zak,ih]
@[simp] theorem pureLL_mapI {α : Type} (f : α→List D) (l : List α) : zbd (l.map f)↔∀ a∈l,zao (f a):=by
 induction l with
 | nil=>simp [zbd]
 | cons a r ih=>simp [zbd,ih]
@[simp] theorem renLL_map {α : Type} {ρ : Nat→Nat} (f : α→List D) (l : List α) : zdo ρ (l.map f) = l.map fun a=>renL ρ (f a):=by
 induction l with
 | nil=>simp [zdo]
 | cons a r ih=>simp [zdo,ih]
@[simp] theorem zlj {m : Nat} (l : List Int) : zai m (zaD l)↔True:=⟨fun _=>trivial,fun _=>zaf _ (zam l)⟩
@[simp] theorem zli {m : Nat} (l : List (List Int)) : zai m (zbe l)↔True:=⟨fun _=>trivial,fun _=>zaf _ (zbm l)⟩
@[simp] theorem zb9 {ρ : Nat→Nat} (l : List Int) : D.ren ρ (zaD l) = zaD l:=zbE _ (zam l)
@[simp] theorem zkz {ρ : Nat→Nat} (l : List (List Int)) : D.ren ρ (zbe l) = zbe l:=zbE _ (zbm l)
theorem zav {α : Type} {n : Nat} {l : List α} (h : l.length≤n) : List.drop 0 (List.take n l) = l:=by rw [List.drop_zero,List.take_of_length_le h]
def c35o : PC:=.seq (.ops [q 2 (.move (.const (.slice none 0 0)))] false) (.seq (.seq (.ops [qm 3 0,q 4 (.isnil 3 false (.tmp 3))] false) (.cond (.tmp 4) (.seq (.stop (.ops [q 2 (.move (.const (.slice none 0 0)))] false)) (.ret)) (.skip))) (.seq (.ops [q 5 (.bslice 1 0 []),qm 6 0,q 7 (.append 1 8 (.tmp 5) (.tmp 6)),qm 2 7] false) (.ret)))
theorem c35o_ok : FunOK Tryz.prog 35 8 [.tmp 2] c35o:=⟨⟨Tryz.f35,Tryz.func35,rfl,by kernel_rfl,rfl,by kernel_rfl⟩⟩
theorem znb (l : List Int) (hl : l.length≤17592186044416) : ACall Tryz.prog 35 [.lst 1 (l.map fun n=>[.sc (.int .i64 n)])] [] (.own 0 1 0 l.length) [.vec true 1 1 (l.map fun n=>[.sc (.int .i64 n)])]:=by
 refine zb4 c35o_ok (by simp) (by simp) ?_ (by simp [zai]) (by simp [AObj.under,zae,zai])
 (apply zac; focus (repeat' constructor))
 ((conv=>whnf);repeat(refine⟨rfl,?_⟩;conv=>whnf))
 intro b hb
 cases b
 ·((conv=>whnf);repeat(refine⟨rfl,?_⟩;conv=>whnf))
  refine ⟨(by unfold zaj; simp only [ll]; omega),?_⟩
  ((conv=>whnf);repeat(refine⟨rfl,?_⟩;conv=>whnf))
  simp
 ·((conv=>whnf);repeat(refine⟨rfl,?_⟩;conv=>whnf))
  have hb:=hb rfl
  obtain rfl : l = []:=by simpa using hb
  refine zfU (fun _ : Unit=>[(2,.own 0 1 0 0)]) (fun _=>[.vec true 1 1 []]) (fun _=>True) ?_ ?_
  ·(apply zac; focus (repeat' constructor))
   ((conv=>whnf);repeat(refine⟨rfl,?_⟩;conv=>whnf))
   exact ⟨(),trivial,zb1 (zmD 2 1 1 (by simp) rfl) (zf0 (by (repeat' (first | exact trivial | refine And.intro rfl ?_))))⟩
  ·rintro _ _
   ((conv=>whnf);repeat(refine⟨rfl,?_⟩;conv=>whnf))
   simp
def c86_1 : PC:=.seq (.ops [q 9 (.bin .lss (.tmp 8) (.tmp 7))] false) (.seq (.cond (.tmp 9) (.skip) (.exit 0)) (.seq (.block 1 (.seq (.ops [qm 10 8,qm 5 10] false) (.seq (.ops [qm 11 1,qm 12 0,qm 13 5,q 14 (.iaddr 1 (.tmp 12) (.tmp 13)),q 15 (.load1 (.tmp 14)),q 16 (.callv (.tmp 11) [(.tmp 15)])] false) (.cond (.tmp 16) (.seq (.ops [qm 17 5,qm 4 17] false) (.ret)) (.skip))))) (.ops [q 18 (.bin .add (.tmp 8) (.const (.int .i64 1))),qm 8 18] false)))
def c86 : PC:=.seq (.ops [q 4 (.move (.const (.int .i64 0)))] false) (.seq (.seq (.ops [qm 6 0,q 7 (.len (.tmp 6)),q 8 (.move (.const (.int .i64 0)))] false) (.block 0 (.loop c86_1))) (.seq (.ops [q 4 (.move (.const (.int .i64 (-1))))] false) (.ret)))
theorem c86_ok : FunOK Tryz.prog 86 19 [.tmp 4] c86:=⟨⟨Tryz.f86,Tryz.func86,rfl,by kernel_rfl,rfl,by kernel_rfl⟩⟩
theorem zmN {α : Type} (c : α→D) (hcp : ∀ a,Pure (c a)) (l : List α) (hl : l.length≤9223372036854775807) (p : α→Bool) (cl : FuncId) (cap : List D) (hp : zao cap) (hc : ∀ a∈l,PCall Tryz.prog cl (c a :: cap) (.sc (.bool (p a)))) :
  PCall Tryz.prog 86 [.lst 1 (l.map fun a=>[c a]),.fn (.func cl) [] cap] (.sc (.int .i64 (idxF p l))):=by
 have hpl : zbd (l.map fun a=>[c a]):=zas _ (fun a=>by simp [zao,hcp]) l
 refine zag c86_ok (by simp) (by simp [zao,Pure,hp,hpl]) ?_ (by simp [Pure])
 (apply zac; focus (repeat' constructor))
 ((conv=>whnf);repeat(refine⟨rfl,?_⟩;conv=>whnf))
 rw [List.length_map]
 have fin : ∀ {z : Int},z = idxF p l→Deep [] (.sc (.int .i64 z)) (.sc (.int .i64 (idxF p l))):=fun h=>h ▸ .refl _
 refine zaT [0,1,7] (fun k : Nat=>[(8,.sc (.int .i64 k))]) (fun _=>[]) (fun k=>k≤l.length∧∀ j (hj : j < k) (hl : j < l.length),p l[j] = false) (fun k=>l.length - k) 0 ?_
 ((conv=>whnf);repeat(refine⟨rfl,?_⟩;conv=>whnf))
 refine ⟨⟨by omega,fun j hj=>by omega⟩,by (repeat' (first | exact trivial | refine And.intro rfl ?_)),rfl,?_⟩
 rintro k ⟨hk,hno⟩
 ((conv=>whnf);repeat(refine⟨rfl,?_⟩;conv=>whnf))
 (apply zac; focus (repeat' constructor))
 ((conv=>whnf);repeat(refine⟨rfl,?_⟩;conv=>whnf))
 (refine zab (fun h=>?_) (fun h=>?_) <;> (rw [h]; ((conv=>whnf);repeat(refine⟨rfl,?_⟩;conv=>whnf))))
 ·have hk' : k < l.length:=by ((try simp only[oo,reduceCtorEq]at*)<;>omega)
  refine ⟨by omega,_,ziD (k:=k) (by omega) hk',?_⟩
  ((conv=>whnf);repeat(refine⟨rfl,?_⟩;conv=>whnf))
  (refine .inl ⟨_,(hc _ (List.getElem_mem hk')),?_⟩; ((conv=>whnf);repeat(refine⟨rfl,?_⟩;conv=>whnf)))
  (refine zab (fun h2=>?_) (fun h2=>?_) <;> (rw [h2]; ((conv=>whnf);repeat(refine⟨rfl,?_⟩;conv=>whnf))))
  ·exact fin (zeG hk' h2 fun j hj=>hno j hj (by omega)).symm
  ·(refine .inl ⟨by (unfold InR; rw [IntKind.wrap_i64]; omega),?_⟩; ((conv=>whnf);repeat(refine⟨rfl,?_⟩;conv=>whnf)))
   refine ⟨k + 1,⟨by omega,fun j hj hl=>?_⟩,by dsimp only; omega,zan (by (repeat' (first | exact trivial | refine And.intro rfl ?_))) rfl⟩
   by_cases e : j = k
   ·subst e; exact h2
   ·exact hno j (by omega) hl
 ·have hk' : ¬ k < l.length:=by ((try simp only[oo,reduceCtorEq]at*)<;>omega)
  exact fin (ze1 fun j hj=>hno j (by omega) hj).symm
def c57 : PC:=.seq (.ops [q 4 (.move (.const (.bool false)))] false) (.seq (.ops [qm 5 0,qm 6 1,q 7 (.call 86 [(.tmp 5),(.tmp 6)]),q 8 (.bin .geq (.tmp 7) (.const (.int .i64 0))),qm 4 8] false) (.ret))
theorem c57_ok : FunOK Tryz.prog 57 9 [.tmp 4] c57:=⟨⟨Tryz.f57,Tryz.func57,rfl,by kernel_rfl,rfl,by kernel_rfl⟩⟩
theorem zdt {α : Type} (c : α→D) (hcp : ∀ a,Pure (c a)) (l : List α) (hl : l.length≤9223372036854775807) (p : α→Bool) (cl : FuncId) (cap : List D) (hp : zao cap) (hc : ∀ a∈l,PCall Tryz.prog cl (c a :: cap) (.sc (.bool (p a)))) :
  PCall Tryz.prog 57 [.lst 1 (l.map fun a=>[c a]),.fn (.func cl) [] cap] (.sc (.bool (l.any p))):=by
 have hpl : zbd (l.map fun a=>[c a]):=zas _ (fun a=>by simp [zao,hcp]) l
 refine zag c57_ok (by simp) (by simp [zao,Pure,hp,hpl]) ?_ (by simp [Pure])
 (apply zac; focus (repeat' constructor))
 ((conv=>whnf);repeat(refine⟨rfl,?_⟩;conv=>whnf))
 (refine .inl ⟨_,(zmN c hcp l hl p cl cap hp hc),?_⟩; ((conv=>whnf);repeat(refine⟨rfl,?_⟩;conv=>whnf)))
 rw [zdb]
 exact .refl _
def c59_1 : PC:=.seq (.ops [q 9 (.bin .lss (.tmp 8) (.tmp 7))] false) (.seq (.cond (.tmp 9) (.skip) (.exit 0)) (.seq (.block 1 (.seq (.ops [qm 10 8,qm 5 10] false) (.seq (.ops [qm 11 1,qm 12 0,qm 13 5,q 14 (.iaddr 1 (.tmp 12) (.tmp 13)),q 15 (.load1 (.tmp 14)),q 16 (.callv (.tmp 11) [(.tmp 15)])] false) (.cond (.tmp 16) (.seq (.ops [qm 17 5,qm 4 17] false) (.ret)) (.skip))))) (.ops [q 18 (.bin .add (.tmp 8) (.const (.int .i64 1))),qm 8 18] false)))
def c59 : PC:=.seq (.ops [q 4 (.move (.const (.int .i64 0)))] false) (.seq (.seq (.ops [qm 6 0,q 7 (.len (.tmp 6)),q 8 (.move (.const (.int .i64 0)))] false) (.block 0 (.loop c59_1))) (.seq (.ops [q 4 (.move (.const (.int .i64 (-1))))] false) (.ret)))
theorem c59_ok : FunOK Tryz.prog 59 19 [.tmp 4] c59:=⟨⟨Tryz.f59,Tryz.func59,rfl,by kernel_rfl,rfl,by kernel_rfl⟩⟩
theorem zls {α : Type} (c : α→D) (hcp : ∀ a,Pure (c a)) (l : List α) (hl : l.length≤9223372036854775807) (p : α→Bool) (cl : FuncId) (cap : List D) (hp : zao cap) (hc : ∀ a∈l,PCall Tryz.prog cl (c a :: cap) (.sc (.bool (p a)))) :
  PCall Tryz.prog 59 [.lst 1 (l.map fun a=>[c a]),.fn (.func cl) [] cap] (.sc (.int .i64 (idxF p l))):=by
 have hpl : zbd (l.map fun a=>[c a]):=zas _ (fun a=>by simp [zao,hcp]) l
 refine zag c59_ok (by simp) (by simp [zao,Pure,hp,hpl]) ?_ (by simp [Pure])
 (apply zac; focus (repeat' constructor))
 ((conv=>whnf);repeat(refine⟨rfl,?_⟩;conv=>whnf))
 rw [List.length_map]
 have fin : ∀ {z : Int},z = idxF p l→Deep [] (.sc (.int .i64 z)) (.sc (.int .i64 (idxF p l))):=fun h=>h ▸ .refl _
 refine zaT [0,1,7] (fun k : Nat=>[(8,.sc (.int .i64 k))]) (fun _=>[]) (fun k=>k≤l.length∧∀ j (hj : j < k) (hl : j < l.length),p l[j] = false) (fun k=>l.length - k) 0 ?_
 ((conv=>whnf);repeat(refine⟨rfl,?_⟩;conv=>whnf))
 refine ⟨⟨by omega,fun j hj=>by omega⟩,by (repeat' (first | exact trivial | refine And.intro rfl ?_)),rfl,?_⟩
 rintro k ⟨hk,hno⟩
 ((conv=>whnf);repeat(refine⟨rfl,?_⟩;conv=>whnf))
 (apply zac; focus (repeat' constructor))
 ((conv=>whnf);repeat(refine⟨rfl,?_⟩;conv=>whnf))
 (refine zab (fun h=>?_) (fun h=>?_) <;> (rw [h]; ((conv=>whnf);repeat(refine⟨rfl,?_⟩;conv=>whnf))))
 ·have hk' : k < l.length:=by ((try simp only[oo,reduceCtorEq]at*)<;>omega)
  refine ⟨by omega,_,ziD (k:=k) (by omega) hk',?_⟩
  ((conv=>whnf);repeat(refine⟨rfl,?_⟩;conv=>whnf))
  (refine .inl ⟨_,(hc _ (List.getElem_mem hk')),?_⟩; ((conv=>whnf);repeat(refine⟨rfl,?_⟩;conv=>whnf)))
  (refine zab (fun h2=>?_) (fun h2=>?_) <;> (rw [h2]; ((conv=>whnf);repeat(refine⟨rfl,?_⟩;conv=>whnf))))
  ·exact fin (zeG hk' h2 fun j hj=>hno j hj (by omega)).symm
  ·(refine .inl ⟨by (unfold InR; rw [IntKind.wrap_i64]; omega),?_⟩; ((conv=>whnf);repeat(refine⟨rfl,?_⟩;conv=>whnf)))
   refine ⟨k + 1,⟨by omega,fun j hj hl=>?_⟩,by dsimp only; omega,zan (by (repeat' (first | exact trivial | refine And.intro rfl ?_))) rfl⟩
   by_cases e : j = k
   ·subst e; exact h2
   ·exact hno j (by omega) hl
 ·have hk' : ¬ k < l.length:=by ((try simp only[oo,reduceCtorEq]at*)<;>omega)
  exact fin (ze1 fun j hj=>hno j (by omega) hj).symm
def c27 : PC:=.seq (.ops [q 4 (.move (.const (.bool false)))] false) (.seq (.ops [qm 5 0,qm 6 1,q 7 (.call 59 [(.tmp 5),(.tmp 6)]),q 8 (.bin .geq (.tmp 7) (.const (.int .i64 0))),qm 4 8] false) (.ret))
theorem c27_ok : FunOK Tryz.prog 27 9 [.tmp 4] c27:=⟨⟨Tryz.f27,Tryz.func27,rfl,by kernel_rfl,rfl,by kernel_rfl⟩⟩
theorem zeg {α : Type} (c : α→D) (hcp : ∀ a,Pure (c a)) (l : List α) (hl : l.length≤9223372036854775807) (p : α→Bool) (cl : FuncId) (cap : List D) (hp : zao cap) (hc : ∀ a∈l,PCall Tryz.prog cl (c a :: cap) (.sc (.bool (p a)))) :
  PCall Tryz.prog 27 [.lst 1 (l.map fun a=>[c a]),.fn (.func cl) [] cap] (.sc (.bool (l.any p))):=by
 have hpl : zbd (l.map fun a=>[c a]):=zas _ (fun a=>by simp [zao,hcp]) l
 refine zag c27_ok (by simp) (by simp [zao,Pure,hp,hpl]) ?_ (by simp [Pure])
 (apply zac; focus (repeat' constructor))
 ((conv=>whnf);repeat(refine⟨rfl,?_⟩;conv=>whnf))
 (refine .inl ⟨_,(zls c hcp l hl p cl cap hp hc),?_⟩; ((conv=>whnf);repeat(refine⟨rfl,?_⟩;conv=>whnf)))
 rw [zdb]
 exact .refl _
def c89_1 : PC:=.seq (.ops [q 9 (.bin .lss (.tmp 8) (.tmp 7))] false) (.seq (.cond (.tmp 9) (.skip) (.exit 0)) (.seq (.block 1 (.seq (.ops [qm 10 8,qm 5 10] false) (.seq (.ops [qm 11 1,qm 12 0,qm 13 5,q 14 (.iaddr 1 (.tmp 12) (.tmp 13)),q 15 (.load1 (.tmp 14)),q 16 (.bin .eql (.tmp 11) (.tmp 15))] false) (.cond (.tmp 16) (.seq (.ops [qm 17 5,qm 4 17] false) (.ret)) (.skip))))) (.ops [q 18 (.bin .add (.tmp 8) (.const (.int .i64 1))),qm 8 18] false)))
def c89 : PC:=.seq (.ops [q 4 (.move (.const (.int .i64 0)))] false) (.seq (.seq (.ops [qm 6 0,q 7 (.len (.tmp 6)),q 8 (.move (.const (.int .i64 0)))] false) (.block 0 (.loop c89_1))) (.seq (.ops [q 4 (.move (.const (.int .i64 (-1))))] false) (.ret)))
theorem c89_ok : FunOK Tryz.prog 89 19 [.tmp 4] c89:=⟨⟨Tryz.f89,Tryz.func89,rfl,by kernel_rfl,rfl,by kernel_rfl⟩⟩
theorem zkO (l : List Int) (hl : l.length≤9223372036854775807) (b : Int) :
  PCall Tryz.prog 89 [.lst 1 (l.map fun a=>[.sc (.int .i64 a)]),.sc (.int .i64 b)] (.sc (.int .i64 (idxF (fun a=>b == a) l))):=by
 have hpl : zbd (l.map fun a=>[D.sc (.int .i64 a)]):=zas _ (fun a=>by simp [zao,Pure]) l
 refine zag c89_ok (by simp) (by simp [zao,Pure,hpl]) ?_ (by simp [Pure])
 (apply zac; focus (repeat' constructor))
 ((conv=>whnf);repeat(refine⟨rfl,?_⟩;conv=>whnf))
 rw [List.length_map]
 have fin : ∀ {z : Int},z = idxF (fun a=>b == a) l→Deep [] (.sc (.int .i64 z)) (.sc (.int .i64 (idxF (fun a=>b == a) l))):=fun h=>h ▸ .refl _
 refine zaT [0,1,7] (fun k : Nat=>[(8,.sc (.int .i64 k))]) (fun _=>[]) (fun k=>k≤l.length∧∀ j (hj : j < k) (hl : j < l.length),(b == l[j]) = false) (fun k=>l.length - k) 0 ?_
 ((conv=>whnf);repeat(refine⟨rfl,?_⟩;conv=>whnf))
 refine ⟨⟨by omega,fun j hj=>by omega⟩,by (repeat' (first | exact trivial | refine And.intro rfl ?_)),rfl,?_⟩
 rintro k ⟨hk,hno⟩
 ((conv=>whnf);repeat(refine⟨rfl,?_⟩;conv=>whnf))
 (apply zac; focus (repeat' constructor))
 ((conv=>whnf);repeat(refine⟨rfl,?_⟩;conv=>whnf))
 (refine zab (fun h=>?_) (fun h=>?_) <;> (rw [h]; ((conv=>whnf);repeat(refine⟨rfl,?_⟩;conv=>whnf))))
 ·have hk' : k < l.length:=by ((try simp only[oo,reduceCtorEq]at*)<;>omega)
  refine ⟨by omega,_,ziD (c:=fun a=>.sc (.int .i64 a)) (k:=k) (by omega) hk',?_⟩
  ((conv=>whnf);repeat(refine⟨rfl,?_⟩;conv=>whnf))
  (refine zab (fun h2=>?_) (fun h2=>?_) <;> (rw [h2]; ((conv=>whnf);repeat(refine⟨rfl,?_⟩;conv=>whnf))))
  ·exact fin (zeG hk' h2 fun j hj=>hno j hj (by omega)).symm
  ·(refine .inl ⟨by (unfold InR; rw [IntKind.wrap_i64]; omega),?_⟩; ((conv=>whnf);repeat(refine⟨rfl,?_⟩;conv=>whnf)))
   refine ⟨k + 1,⟨by omega,fun j hj hl=>?_⟩,by dsimp only; omega,zan (by (repeat' (first | exact trivial | refine And.intro rfl ?_))) rfl⟩
   by_cases e : j = k
   ·subst e; exact h2
   ·exact hno j (by omega) hl
 ·have hk' : ¬ k < l.length:=by ((try simp only[oo,reduceCtorEq]at*)<;>omega)
  exact fin (ze1 fun j hj=>hno j (by omega) hj).symm
def c63 : PC:=.seq (.ops [q 4 (.move (.const (.bool false)))] false) (.seq (.ops [qm 5 0,qm 6 1,q 7 (.call 89 [(.tmp 5),(.tmp 6)]),q 8 (.bin .geq (.tmp 7) (.const (.int .i64 0))),qm 4 8] false) (.ret))
theorem c63_ok : FunOK Tryz.prog 63 9 [.tmp 4] c63:=⟨⟨Tryz.f63,Tryz.func63,rfl,by kernel_rfl,rfl,by kernel_rfl⟩⟩
theorem zj8 (l : List Int) (hl : l.length≤9223372036854775807) (b : Int) :
  PCall Tryz.prog 63 [.lst 1 (l.map fun a=>[.sc (.int .i64 a)]),.sc (.int .i64 b)] (.sc (.bool (l.contains b))):=by
 have hpl : zbd (l.map fun a=>[D.sc (.int .i64 a)]):=zas _ (fun a=>by simp [zao,Pure]) l
 refine zag c63_ok (by simp) (by simp [zao,Pure,hpl]) ?_ (by simp [Pure])
 (apply zac; focus (repeat' constructor))
 ((conv=>whnf);repeat(refine⟨rfl,?_⟩;conv=>whnf))
 (refine .inl ⟨_,(zkO l hl b),?_⟩; ((conv=>whnf);repeat(refine⟨rfl,?_⟩;conv=>whnf)))
 rw [zdb]
 exact zbW (by rw [List.contains_eq_any_beq])
def c77_1 : PC:=.seq (.ops [q 9 (.bin .lss (.tmp 8) (.tmp 7))] false) (.seq (.cond (.tmp 9) (.skip) (.exit 0)) (.seq (.block 1 (.seq (.ops [qm 10 8,qm 5 10] false) (.seq (.ops [qm 11 1,qm 12 0,qm 13 5,q 14 (.iaddr 1 (.tmp 12) (.tmp 13)),q 15 (.load1 (.tmp 14)),q 16 (.eqb false (.tmp 11) (.tmp 15))] false) (.cond (.tmp 16) (.seq (.ops [qm 17 5,qm 4 17] false) (.ret)) (.skip))))) (.ops [q 18 (.bin .add (.tmp 8) (.const (.int .i64 1))),qm 8 18] false)))
def c77 : PC:=.seq (.ops [q 4 (.move (.const (.int .i64 0)))] false) (.seq (.seq (.ops [qm 6 0,q 7 (.len (.tmp 6)),q 8 (.move (.const (.int .i64 0)))] false) (.block 0 (.loop c77_1))) (.seq (.ops [q 4 (.move (.const (.int .i64 (-1))))] false) (.ret)))
theorem c77_ok : FunOK Tryz.prog 77 19 [.tmp 4] c77:=⟨⟨Tryz.f77,Tryz.func77,rfl,by kernel_rfl,rfl,by kernel_rfl⟩⟩
theorem zmL (l : List Bool) (hl : l.length≤9223372036854775807) (b : Bool) :
  PCall Tryz.prog 77 [.lst 1 (l.map fun a=>[.sc (.bool a)]),.sc (.bool b)] (.sc (.int .i64 (idxF (fun a=>b == a) l))):=by
 have hpl : zbd (l.map fun a=>[D.sc (.bool a)]):=zas _ (fun a=>by simp [zao,Pure]) l
 refine zag c77_ok (by simp) (by simp [zao,Pure,hpl]) ?_ (by simp [Pure])
 (apply zac; focus (repeat' constructor))
 ((conv=>whnf);repeat(refine⟨rfl,?_⟩;conv=>whnf))
 rw [List.length_map]
 have fin : ∀ {z : Int},z = idxF (fun a=>b == a) l→Deep [] (.sc (.int .i64 z)) (.sc (.int .i64 (idxF (fun a=>b == a) l))):=fun h=>h ▸ .refl _
 refine zaT [0,1,7] (fun k : Nat=>[(8,.sc (.int .i64 k))]) (fun _=>[]) (fun k=>k≤l.length∧∀ j (hj : j < k) (hl : j < l.length),(b == l[j]) = false) (fun k=>l.length - k) 0 ?_
 ((conv=>whnf);repeat(refine⟨rfl,?_⟩;conv=>whnf))
 refine ⟨⟨by omega,fun j hj=>by omega⟩,by (repeat' (first | exact trivial | refine And.intro rfl ?_)),rfl,?_⟩
 rintro k ⟨hk,hno⟩
 ((conv=>whnf);repeat(refine⟨rfl,?_⟩;conv=>whnf))
 (apply zac; focus (repeat' constructor))
 ((conv=>whnf);repeat(refine⟨rfl,?_⟩;conv=>whnf))
 (refine zab (fun h=>?_) (fun h=>?_) <;> (rw [h]; ((conv=>whnf);repeat(refine⟨rfl,?_⟩;conv=>whnf))))
 ·have hk' : k < l.length:=by ((try simp only[oo,reduceCtorEq]at*)<;>omega)
  refine ⟨by omega,_,ziD (c:=fun a=>.sc (.bool a)) (k:=k) (by omega) hk',?_⟩
  ((conv=>whnf);repeat(refine⟨rfl,?_⟩;conv=>whnf))
  (refine zab (fun h2=>?_) (fun h2=>?_) <;> (rw [h2]; ((conv=>whnf);repeat(refine⟨rfl,?_⟩;conv=>whnf))))
  ·exact fin (zeG hk' h2 fun j hj=>hno j hj (by omega)).symm
  ·(refine .inl ⟨by (unfold InR; rw [IntKind.wrap_i64]; omega),?_⟩; ((conv=>whnf);repeat(refine⟨rfl,?_⟩;conv=>whnf)))
   refine ⟨k + 1,⟨by omega,fun j hj hl=>?_⟩,by dsimp only; omega,zan (by (repeat' (first | exact trivial | refine And.intro rfl ?_))) rfl⟩
   by_cases e : j = k
   ·subst e; exact h2
   ·exact hno j (by omega) hl
 ·have hk' : ¬ k < l.length:=by ((try simp only[oo,reduceCtorEq]at*)<;>omega)
  exact fin (ze1 fun j hj=>hno j (by omega) hj).symm
end
section
open Go.RowKit
def inB (l : List Int) (n : Nat) : Bool:=l.all fun x=>decide (0≤x) && decide (x < (n : Int))
theorem zo4 (l : List Int) (n : Nat) : (l.any fun x=>decide (x < 0) || decide (x≥(n : Int))) = !(inB l n):=by
 unfold inB
 induction l with
 | nil=>rfl
 | cons x r ih =>
  simp only [List.any_cons,List.all_cons,ih]
  rw [Bool.not_and]
  congr 1
  rw [Bool.eq_iff_iff]
  simp only [Bool.or_eq_true,decide_eq_true_eq,Bool.not_eq_true',Bool.and_eq_false_iff,decide_eq_false_iff_not]
  omega
theorem zoK {α : Type} {p : α→Bool} {l : List α} (h : ∀ j (hj : j < l.length),p l[j] = false) : l.any p = false:=by
 rw [List.any_eq_false]
 intro x hx
 obtain ⟨j,hj,rfl⟩:=List.mem_iff_getElem.1 hx
 simp [h j hj]
theorem zig {α : Type} {p : α→Bool} {l : List α} {k : Nat} (hk : k < l.length) (h : p l[k] = true) : l.any p = true:=List.any_eq_true.2 ⟨_,List.getElem_mem hk,h⟩
theorem all_no {α : Type} {p : α→Bool} {l : List α} {k : Nat} (hk : k < l.length) (h : p l[k] = false) : l.all p = false:=by
 rw [← Bool.not_eq_true,List.all_eq_true]
 exact fun q=>by simp [q _ (List.getElem_mem hk)] at h
theorem all_yes {α : Type} {p : α→Bool} {l : List α} (h : ∀ j (hj : j < l.length),p l[j] = true) : l.all p = true:=by
 rw [List.all_eq_true]
 intro x hx
 obtain ⟨j,hj,rfl⟩:=List.mem_iff_getElem.1 hx
 exact h j hj
theorem zjf {g : List (List Int)} {z k : Nat} (hz : z = k) (h : k < g.length) : (g.map fun l=>[zaD l])[z]? = some [zaD g[k]]:=ziD (c:=zaD) hz h
theorem zlA {l : List Int} {z k : Nat} (hz : z = k) (h : k < l.length) : (l.map fun n=>[D.sc (.int .i64 n)])[z]? = some [.sc (.int .i64 l[k])]:=ziD (c:=fun n=>.sc (.int .i64 n)) hz h
def c13_1 : PC:=.seq (.seq (.ops [qm 6 5,qm 7 0,q 8 (.len (.tmp 7)),q 9 (.bin .lss (.tmp 6) (.tmp 8))] false) (.cond (.tmp 9) (.skip) (.exit 0))) (.seq (.block 1 (.seq (.ops [qm 12 0,qm 13 5,q 14 (.iaddr 1 (.tmp 12) (.tmp 13)),q 15 (.load1 (.tmp 14)),q 16 (.bin .lss (.tmp 15) (.const (.int .i64 0))),qm 17 16,⟨some 18,.move (.tmp 0),some (17,false),0⟩,⟨some 19,.move (.tmp 5),some (17,false),0⟩,⟨some 20,.iaddr 1 (.tmp 18) (.tmp 19),some (17,false),0⟩,⟨some 21,.load1 (.tmp 20),some (17,false),0⟩,⟨some 22,.move (.tmp 1),some (17,false),0⟩,⟨some 23,.bin .geq (.tmp 21) (.tmp 22),some (17,false),0⟩,q 24 (.pick (.tmp 17) (.const (.bool true)) (.tmp 23))] false) (.cond (.tmp 24) (.seq (.ops [q 4 (.move (.const (.bool false)))] false) (.ret)) (.skip)))) (.ops [qm 10 5,q 11 (.bin .add (.tmp 10) (.const (.int .i64 1))),qm 5 11] false))
def c13 : PC:=.seq (.ops [q 4 (.move (.const (.bool false)))] false) (.seq (.seq (.ops [q 5 (.move (.const (.int .i64 0)))] false) (.block 0 (.loop c13_1))) (.seq (.ops [q 4 (.move (.const (.bool true)))] false) (.ret)))
theorem c13_ok : FunOK Tryz.prog 13 25 [.tmp 4] c13:=⟨⟨Tryz.f13,Tryz.func13,rfl,by kernel_rfl,rfl,by kernel_rfl⟩⟩
theorem zn6 (l : List Int) (hl : l.length≤9223372036854775807) (n : Nat) : PCall Tryz.prog 13 [zaD l,.sc (.int .i64 n)] (.sc (.bool (inB l n))):=by
 refine zag c13_ok (by simp) (by simp [zao,Pure,zam]) ?_ (by simp [Pure])
 unfold zaD
 (apply zac; focus (repeat' constructor))
 ((conv=>whnf);repeat(refine⟨rfl,?_⟩;conv=>whnf))
 have fin : ∀ {b : Bool},b = inB l n→Deep [] (.sc (.bool b)) (.sc (.bool (inB l n))):=fun h=>h ▸ .refl _
 refine zaT [0,1] (fun k : Nat=>[(5,.sc (.int .i64 k))]) (fun _=>[]) (fun k=>k≤l.length∧∀ j (hj : j < k) (hl : j < l.length),0≤l[j]∧l[j] < (n : Int)) (fun k=>l.length - k) 0 ?_
 ((conv=>whnf);repeat(refine⟨rfl,?_⟩;conv=>whnf))
 refine ⟨⟨by omega,fun j hj=>by omega⟩,by (repeat' (first | exact trivial | refine And.intro rfl ?_)),rfl,?_⟩
 rintro k ⟨hk,hall⟩
 ((conv=>whnf);repeat(refine⟨rfl,?_⟩;conv=>whnf))
 (apply zac; focus (repeat' constructor))
 ((conv=>whnf);repeat(refine⟨rfl,?_⟩;conv=>whnf))
 rw [List.length_map]
 (refine zab (fun h=>?_) (fun h=>?_) <;> (rw [h]; ((conv=>whnf);repeat(refine⟨rfl,?_⟩;conv=>whnf))))
 ·have hk' : k < l.length:=by ((try simp only[oo,reduceCtorEq]at*)<;>omega)
  refine ⟨by omega,_,zlA (k:=k) (by omega) hk',?_⟩
  ((conv=>whnf);repeat(refine⟨rfl,?_⟩;conv=>whnf))
  (refine zab (fun h1=>?_) (fun h1=>?_) <;> (rw [h1]; ((conv=>whnf);repeat(refine⟨rfl,?_⟩;conv=>whnf))))
  ·exact fin (all_no hk' (by ((try simp only[oo,reduceCtorEq]at*)<;>omega))).symm
  ·refine ⟨by omega,_,zlA (k:=k) (by omega) hk',?_⟩
   ((conv=>whnf);repeat(refine⟨rfl,?_⟩;conv=>whnf))
   (refine zab (fun h2=>?_) (fun h2=>?_) <;> (rw [h2]; ((conv=>whnf);repeat(refine⟨rfl,?_⟩;conv=>whnf))))
   ·exact fin (all_no hk' (by ((try simp only[oo,reduceCtorEq]at*)<;>omega))).symm
   ·(refine .inl ⟨by (unfold InR; rw [IntKind.wrap_i64]; omega),?_⟩; ((conv=>whnf);repeat(refine⟨rfl,?_⟩;conv=>whnf)))
    refine ⟨k + 1,⟨by omega,fun j hj hl=>?_⟩,by dsimp only; omega,zan (by (repeat' (first | exact trivial | refine And.intro rfl ?_))) rfl⟩
    by_cases e : j = k
    ·subst e; ((try simp only[oo,reduceCtorEq]at*)<;>omega)
    ·exact hall j (by omega) hl
 ·have hk' : ¬ k < l.length:=by ((try simp only[oo,reduceCtorEq]at*)<;>omega)
  exact fin (all_yes fun j hj=>by have:=hall j (by omega) hj; simpa using this).symm
end
section
open Go.RowKit
def dlet (l : List Int) : D:=.lst 1 (l.map fun n=>[.sc (.int .u64 n)])
theorem zcQ (l : List Int) : Pure (dlet l):=by
 simp only [dlet,Pure]; exact zas _ (fun n=>by simp [zao,Pure]) l
end
end Go.Proofs.YtojegakfidinaaaGreat
