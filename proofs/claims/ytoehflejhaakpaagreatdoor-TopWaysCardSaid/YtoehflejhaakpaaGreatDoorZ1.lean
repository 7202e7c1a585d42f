/-
  Parts of a proof, joined. No statement is proved here.
-/
import Derived.Laws.Tables
import Derived.Orders
import Derived.Still
import Derived.Deep.LoopGhost
import Derived.LoopN
import Derived.Test.YtoehflejhaakpaaGreatDoorZ0
import Derived.WalkKit
import Derived.Laws.OwnMore
import Derived.Laws.Rows
import Derived.Deep.AppendLies
import Derived.Deep.Draws
import Derived.Lib.Hide
import Derived.ProofKit
import Derived.ChangeArms
import Derived.ChangeSame
import Derived.OpenShut
import Derived.ShutString
import Derived.Deep.Slices
import Derived.Deep.Fields
import Derived.Lib.SmallJoins
import Derived.Test.YtoehflejhaakpaaGreatDoorProg
namespace Go.Proofs.YtoehflejhaakpaaGreatDoor
set_option linter.unusedSimpArgs false
set_option linter.unusedVariables false
set_option maxRecDepth 100000
section
section
open Go.RowKit
section
variable {P:Program} {seq:Bool} {o:Oper} {env:Env} {H:List zf} {K:Jk}
theorem wX {t:TypeId} {u v:Value} {w:World} {b:Bool} (h:(Op.equalIn (9999+1) t u v).run P w=.ok b w):(Op.equal t u v).run P w=.ok b w:=h
theorem zoS {t:TypeId} {y:Operand} {kind:Nat} (h:Vt P t y=some kind) :
  (kind=0∧(∃e,P.underlying t=some (.pointer e))∧y=.const (.pointer none))∨(kind=1∧(∃e,P.underlying t=some (.interface e))∧y=.const .nilIface) ∨
  (kind=2∧(∃a b c,P.underlying t=some (.func a b c))∧y=.const .nilFunc)∨(kind=3∧(∃e,P.underlying t=some (.slice e))∧y=.const (.slice none 0 0)):=by
 unfold Vt at h
 split at h
 all_goals (first|cases h|skip)
 ·rename_i h1;exact .inl ⟨rfl,⟨_,h1⟩,rfl⟩
 ·rename_i h1;exact .inr (.inl ⟨rfl,⟨_,h1⟩,rfl⟩)
 ·rename_i h1;exact .inr (.inr (.inl ⟨rfl,⟨_,_,_,h1⟩,rfl⟩))
 ·rename_i h1;exact .inr (.inr (.inr ⟨rfl,⟨_,h1⟩,rfl⟩))
def zsC:Operand→Option Value
 | .const v=>some v
 | _=>none
theorem znD {neq:Bool} {op:BinOp} {t yt:TypeId} {x y:Operand} {kind:Nat} (hop:op=if neq then .neq else .eql) (hk:Vt P t y=some kind) (ho:o.op=.binOp op t x y yt) (h:step P seq (.ziJ kind neq x) env H K):Sound P o env H K∨(seq=true∧ZH P o env H K):=by
 simp only[step,yN] at h
 have fin:∀(b:Bool) (v:Value),zsC y=some v→K (.sc (.bool (if neq then !b else b))) H [] []→(∀(J:yX) (F:Nat→Prop) (w:World) (u:Value),rep J F w (xi env x) u→(∀z w,(Op.equal t u v).run P w=.ok b w∧(eqGuard op t x y u v).run P w=.ok z w∧z=())∧(∀k n,u≠.int k n)∧(∀s,u≠.string s)∧(∀k n,u≠.float k n)∧(∀k n m,u≠.complex k n m))→Sound P o env H K:=by
  intro b v hv hK hall
  refine zJ hK λJ F w a G _ hops _=>⟨.bool (if neq then !b else b),?_,by simp only[rep]⟩
  obtain⟨h1,h4,h5,h6,h7⟩:=hall J F w _ (hops x (by simp[ho,Op.operands]))
  obtain⟨h1,h2,_⟩:=h1 () w
  have hy:a.eval y=v:=by
   cases y<;>simp[zsC] at hv
   subst hv;rfl
  have hb:(binOp op t (a.eval x) v).run P w=.ok (.bool (if neq then !b else b)) w:=by
   revert h1 h4 h5 h6 h7
   generalize a.eval x=u
   intro q1 q2 q3 q4 q5
   subst hop
   cases neq<;>cases u<;>simp_all [binOp,pure,Sem.run]
  simp only[execOp,ho,hy,Sem.run_bind,h2,Result.andThen_ok,hb,pure,Sem.run]
 have hold:=@fin
 clear fin
 have fin:=λb v h1 h2 h3=>Or.inl (b:=seq=true∧ZH P o env H K) (hold b v h1 h2 h3)
 have g1:∀(A:Option Addr) (w:World),(eqGuard op t x y (.pointer A) (.pointer none)).run P w=.ok () w:=by
  intro A w;subst hop;cases neq<;>simp[eqGuard,pure,Sem.run]
 have g2:∀(c:Value) (w:World),y=.const c→(eqGuard op t x y .nilIface .nilIface).run P w=.ok () w:=by
  intro c w hc;subst hop;subst hc;cases neq<;>simp[eqGuard,pure,Sem.run]
 have g3:∀(d:TypeId) (v:Value) (w:World),(eqGuard op t x y (.iface d v) .nilIface).run P w=.ok () w:=by
  intro d v w;subst hop;cases neq<;>simp[eqGuard,pure,Sem.run]
 have g4:∀(w:World),(eqGuard op t x y .nilFunc .nilFunc).run P w=.ok () w:=by
  intro w;subst hop;cases neq<;>simp[eqGuard,pure,Sem.run]
 have g5:∀(f:Fn) (a b:Array Value) (w:World),(eqGuard op t x y (.func f a b) .nilFunc).run P w=.ok () w:=by
  intro f a b w;subst hop;cases neq<;>simp[eqGuard,pure,Sem.run]
 have g6:∀(w:World),(eqGuard op t x y (.slice none 0 0) (.slice none 0 0)).run P w=.ok () w:=by
  intro w;subst hop;cases neq<;>simp[eqGuard,pure,Sem.run]
 rcases zoS hk with⟨rfl,⟨e,ht⟩,rfl⟩|⟨rfl,⟨e,ht⟩,rfl⟩|⟨rfl,⟨e1,e2,e3,ht⟩,rfl⟩|⟨rfl,⟨e,ht⟩,rfl⟩
 ·have eq1:∀(A:Option Addr) (w:World),(Op.equal t (.pointer A) (.pointer none)).run P w=.ok A.isNone w:=λA w=>by
   refine wX ?_
   unfold Op.equalIn
   cases A<;>simp[underlying,program,Sem.run,ht,pure]
  simp only[zdc] at h
  split at h
  ·rename_i ex
   refine fin true _ rfl (by cases neq<;>exact h) λJ F w u hu=>?_
   rw[ex] at hu;simp only[rep] at hu;subst hu
   exact⟨λ_ w=>⟨eq1 none w,g1 none w,rfl⟩,by simp,by simp,by simp,by simp⟩
  ·rename_i ex
   refine fin false _ rfl (by cases neq<;>exact h) λJ F w u hu=>?_
   rw[ex] at hu;simp only[rep] at hu;obtain⟨_,_,_,_,_,rfl⟩:=hu
   exact⟨λ_ w=>⟨eq1 (some _) w,g1 (some _) w,rfl⟩,by simp,by simp,by simp,by simp⟩
  ·rename_i ex
   refine fin false _ rfl (by cases neq<;>exact h) λJ F w u hu=>?_
   rw[ex] at hu;simp only[rep] at hu;obtain⟨_,_,rfl,_⟩:=hu
   exact⟨λ_ w=>⟨eq1 (some _) w,g1 (some _) w,rfl⟩,by simp,by simp,by simp,by simp⟩
  ·rename_i ex
   refine fin false _ rfl (by cases neq<;>exact h) λJ F w u hu=>?_
   rw[ex] at hu;simp only[rep] at hu;obtain⟨_,_,_,rfl,_⟩:=hu
   exact⟨λ_ w=>⟨eq1 (some _) w,g1 (some _) w,rfl⟩,by simp,by simp,by simp,by simp⟩
  ·exact h.elim
 ·have eq1:∀(w:World),(Op.equal t .nilIface .nilIface).run P w=.ok true w:=λw=>by
   refine wX ?_
   unfold Op.equalIn
   simp[underlying,program,Sem.run,ht,pure]
  have eq2:∀(d:TypeId) (v:Value) (w:World),(Op.equal t (.iface d v) .nilIface).run P w=.ok false w:=λd v w=>by
   refine wX ?_
   unfold Op.equalIn
   simp[underlying,program,Sem.run,ht,pure]
  simp only[zdc] at h
  split at h
  ·rename_i ex
   refine fin true _ rfl (by cases neq<;>exact h) λJ F w u hu=>?_
   rw[ex] at hu;simp only[rep] at hu;subst hu
   exact⟨λ_ w=>⟨eq1 w,g2 _ w rfl,rfl⟩,by simp,by simp,by simp,by simp⟩
  ·rename_i ex
   refine fin false _ rfl (by cases neq<;>exact h) λJ F w u hu=>?_
   rw[ex] at hu;simp only[rep] at hu;obtain⟨_,rfl,_⟩:=hu
   exact⟨λ_ w=>⟨eq2 _ _ w,g3 _ _ w,rfl⟩,by simp,by simp,by simp,by simp⟩
  ·exact h.elim
 ·have eq1:∀(w:World),(Op.equal t .nilFunc .nilFunc).run P w=.ok true w:=λw=>by
   refine wX ?_
   unfold Op.equalIn
   simp[underlying,program,Sem.run,ht,pure]
  have eq2:∀(f:Fn) (a b:Array Value) (w:World),(Op.equal t (.func f a b) .nilFunc).run P w=.ok false w:=λf a b w=>by
   refine wX ?_
   unfold Op.equalIn
   simp[underlying,program,Sem.run,ht,pure]
  simp only[zdc] at h
  split at h
  ·rename_i ex
   refine fin true _ rfl (by cases neq<;>exact h) λJ F w u hu=>?_
   rw[ex] at hu;simp only[rep] at hu;subst hu
   exact⟨λ_ w=>⟨eq1 w,g4 w,rfl⟩,by simp,by simp,by simp,by simp⟩
  ·rename_i ex
   refine fin false _ rfl (by cases neq<;>exact h) λJ F w u hu=>?_
   rw[ex] at hu;simp only[rep] at hu;obtain⟨_,_,rfl,_⟩:=hu
   exact⟨λ_ w=>⟨eq2 _ _ _ w,g5 _ _ _ w,rfl⟩,by simp,by simp,by simp,by simp⟩
  ·exact h.elim
 ·have eq1:∀(w:World),(Op.equal t (.slice none 0 0) (.slice none 0 0)).run P w=.ok true w:=λw=>by
   refine wX ?_
   unfold Op.equalIn
   simp[underlying,program,Sem.run,ht,pure]
  simp only[zdc] at h
  split at h
  ·rename_i ex
   refine fin true _ rfl (by cases neq<;>exact h) λJ F w u hu=>?_
   rw[ex] at hu;simp only[rep] at hu;subst hu
   exact⟨λ_ w=>⟨eq1 w,g6 w,rfl⟩,by simp,by simp,by simp,by simp⟩
  ·rename_i zH xs ex
   obtain⟨hs,h⟩:=h
   refine .inr ⟨hs,λJ F w a hok hdom hops K2 Q hK2=>?_⟩
   have hu:=hops x (by simp[ho,Op.operands])
   rw[ex] at hu
   simp only[rep] at hu
   obtain⟨A,n,c,hu,hn,hc,hx⟩:=hu
   have hb:A.isNone=true→xs=[]:=λhA=>by
    rcases hx with hx|⟨b,o',rfl,_⟩
    ·exact List.length_eq_zero_iff.1 (by omega)
    ·cases hA
   have eq2:(Op.equal t (.slice A n c) (.slice none 0 0)).run P w=.ok A.isNone w:=by
    refine wX ?_
    unfold Op.equalIn
    cases A<;>simp[underlying,program,Sem.run,ht,pure]
   have g7:(eqGuard op t x (.const (.slice none 0 0)) (.slice A n c) (.slice none 0 0)).run P w=.ok () w:=by
    subst hop;cases neq<;>simp[eqGuard,pure,Sem.run]
   have hrun:(execOp a.eval o).run P w=.ok (.value (.bool (J5 neq A.isNone))) w:=by
    have hbo:(binOp op t (.slice A n c) (.slice none 0 0)).run P w=.ok (.bool (J5 neq A.isNone)) w:=by
     clear hold fin h
     subst hop
     cases neq<;>simp_all [binOp,pure,Sem.run,J5]
    have hy:a.eval (.const (.slice none 0 0))=.slice none 0 0:=rfl
    simp only[execOp,ho,hu,hy,Sem.run_bind,g7,Result.andThen_ok,hbo,pure,Sem.run]
   unfold Oper.wp
   rw[hrun,Oper.upon_value]
   exact hK2 _ H [] [] _ w J F (h A.isNone hb) (by simp only[rep]) hok (Ext.refl _ _ _) hdom
  ·exact h.elim
theorem ze2 (place:Nat→Option (Nat × Nat)):∀(l:List (Nat × Operand)) (l':List (Nat × Nat × Operand)) (cs:List D) (K':List D→Prop),v7 place l=some l'→zij env l' cs K'→∃cs',K' cs' ∧
  ∀(J:yX) (F:Nat→Prop) (w:World) (a:Act) (cells:Array Value),(∀p∈l,rep J F w (xi env p.2) (a.eval p.2))→yf J F w cs cells.toList →
   ∃cells',Instr.fill place cells (l.map λp=>(p.1,a.eval p.2))=some cells'∧yf J F w cs' cells'.toList
 | [],l',cs,K',hl,h=>by
  simp[v7] at hl;subst hl
  exact⟨cs,h,λJ F w a cells _ hr=>⟨cells,rfl,hr⟩⟩
 | (i,x)::r,l',cs,K',hl,h=>by
  simp only[v7] at hl
  split at hl
  ·rename_i off n rl e1 e2
   cases hl
   simp only[zij,yN,Vp,wg] at h
   obtain⟨h1,h2,h3⟩:=h
   obtain⟨h4,h5⟩:=(Vf _ _ _ _).1 h3
   obtain⟨cs',h6,h7⟩:=ze2 place r rl _ K' e2 h5
   refine⟨cs',h6,λJ F w a cells hops hr=>?_⟩
   obtain⟨k1,_⟩:=Xi h1 (hops (i,x) (by simp))
   have hl1:=xx _ _ k1
   have hl2:=xx _ _ hr
   have hsz:(a.eval x).cells.size=n:=by rw[h2,←hl1];simp
   obtain⟨c1,f1,f2,f3⟩:=WE place cells i (a.eval x) (r.map λp=>(p.1,a.eval p.2)) off (by rw[hsz];exact e1) (by rw[hsz];simp at hl2;omega)
   have hc1:yf J F w (cs.take off++(xi env x).cells++cs.drop (off+(xi env x).cells.length)) c1.toList:=by
    have ec:c1.toList=cells.toList.take off++(a.eval x).cells.toList++cells.toList.drop (off+(a.eval x).cells.toList.length):=by
     apply List.ext_getElem?
     intro j
     have hsc:off+(a.eval x).cells.size≤cells.toList.length:=by rw[hsz,hl2];omega
     rw[Array.getElem?_toList,f3]
     by_cases q1:j<off
     ·rw[if_neg (by omega),List.append_assoc,List.getElem?_append_left (by simp at hsc ⊢;omega),List.getElem?_take,if_pos q1];simp
     ·by_cases q2:j<off+(a.eval x).cells.size
      ·rw[if_pos (by omega),List.append_assoc,List.getElem?_append_right (by simp at hsc ⊢;omega),List.getElem?_append_left (by simp at hsc ⊢;omega)]
       simp at hsc ⊢
       rw[show j-min off cells.size=j-off by omega]
      ·rw[if_neg (by omega),List.getElem?_append_right (by simp at hsc ⊢;omega),List.getElem?_drop]
       simp at hsc ⊢
       rw[show off+(a.eval x).cells.size+(j-(min off cells.size+(a.eval x).cells.size))=j by omega]
    rw[ec]
    have e3:(a.eval x).cells.toList.length=(xi env x).cells.length:=hl1
    rw[e3]
    exact Yo (Yo (zbj hr _) k1) (zbr hr _)
   obtain⟨c2,g1,g2⟩:=h7 J F w a c1 (λp hp=>hops p (by simp[hp])) hc1
   exact⟨c2,by simp only[List.map_cons];rw[f1];exact g1,g2⟩
  ·cases hl
theorem zdt {t:TypeId} {parts:Array (Nat × Operand)} {z:Value} {place:Nat→Option (Nat × Nat)} {l':List (Nat × Nat × Operand)} (hz:(P.info? t).bind (·.zero)=some z) (hb:∀l cells,Instr.fill place z.cells l=some cells→P.built t l=some cells) (hl:v7 place parts.toList=some l')
  (ho:o.op=.build t parts) (h:step P seq (.build z.cells.toList l') env H K):Sound P o env H K:=by
 simp only[step,zh3] at h
 obtain⟨cs',h1,h2⟩:=ze2 place parts.toList l' _ _ hl h
 refine zJ h1 λJ F w a G hok hops hrd=>?_
 obtain⟨c',h3,h4⟩:=h2 J F w a z.cells (λp hp=>hops p.2 (by
  simp only[ho,Op.operands,List.mem_toArray,List.mem_map]
  exact⟨p,hp,rfl⟩)) (Qh z.cells.toList)
 refine⟨.agg c',?_,by simp only[rep];exact⟨c'.toList,by simp,h4⟩⟩
 have e1:(parts.map λ(i,x)=>(i,a.eval x)).toList=parts.toList.map λp=>(p.1,a.eval p.2):=by rw[Array.toList_map]
 have:=run_build (P:=P) w t (parts.map λ(i,x)=>(i,a.eval x)) c' (by rw[e1];exact hb _ _ h3)
 simp only[execOp,ho,Sem.run_bind,this,Result.andThen_ok,pure,Sem.run]
end
end
section
open Go.RowKit
section
variable {P:Program} {seq:Bool} {o:Oper} {env:Env} {H:List zf} {K:Jk}
theorem QW {p:POp} (hc:cop P o=some p) (h:step P seq p env H K):Sound P o env H K∨(seq=true∧ZH P o env H K):=by
 unfold cop at hc
 split at hc
 ·rename_i x ho;cases hc;exact .inl (zrD (.inl ho) h)
 ·rename_i x ho;cases hc;exact .inl (zrD (.inr ho) h)
 ·rename_i c a b ho;cases hc;exact .inl (zxk ho h)
 ·rename_i t ho
  split at hc
  ·rename_i z hz
   split at hc
   ·rename_i hone;cases hc;exact .inl (zv6 hz hone ho h)
   ·cases hc
  ·cases hc
 ·rename_i t x ho;cases hc;exact .inl (zAT ho h)
 ·rename_i t parts ho
  split at hc
  ·rename_i z fs hz hu
   split at hc
   ·rename_i places hp
    cases e:v7 (places.toArray[·]?) parts.toList with
    | none=>rw[e] at hc;cases hc
    | some l' =>
     rw[e] at hc;cases hc
     refine .inl (zdt hz (λl cells hf=>?_) e ho h)
     unfold Program.built
     cases hi:P.info? t with
     | none=>rw[hi] at hz;cases hz
     | some it =>
      have hz':it.zero=some z:=by simpa [hi] using hz
      simp only[hu,hz',hp]
      exact hf
   ·cases hc
  ·rename_i z n e hz hu
   split at hc
   ·rename_i ie hie
    cases e':v7 (λi=>some (i*ie.size,ie.size)) parts.toList with
    | none=>rw[e'] at hc;cases hc
    | some l' =>
     rw[e'] at hc;cases hc
     refine .inl (zdt hz (λl cells hf=>?_) e' ho h)
     unfold Program.built
     cases hi:P.info? t with
     | none=>rw[hi] at hz;cases hz
     | some it =>
      have hz':it.zero=some z:=by simpa [hi] using hz
      simp only[hu,hz',hie]
      exact hf
   ·cases hc
  ·cases hc
 ·rename_i t n parts ho
  split at hc
  ·rename_i e ht
   split at hc
   ·rename_i z hz
    split at hc
    ·rename_i hq
     cases e':Y6 0 parts.toList with
     | none =>
      rw[e'] at hc
      cases e2:wk z 0 n parts.toList with
      | none=>rw[e2] at hc;cases hc
      | some ys=>rw[e2] at hc;cases hc;exact .inl (ziV ht hz hq.1 hq.2 (.inr e2) ho h)
     | some xs=>rw[e'] at hc;cases hc;exact .inl (ziV ht hz hq.1 hq.2 (.inl e') ho h)
    ·cases hc
   ·cases hc
  ·cases hc
 ·rename_i t x ho
  split at hc
  ·rename_i ht;cases hc;exact .inl (zuT ht ho h)
  ·rename_i ht;cases hc;exact .inl (zvv ht ho h)
  ·cases hc
 ·rename_i t x y ho
  split at hc
  ·cases hc
  ·rename_i hz;cases hc;exact .inl (zvP hz ho h)
 ·rename_i x ho;cases hc;exact .inl (zq5 ho h)
 ·rename_i op t x y yt ho
  split at hc
  ·cases hc;exact .inl (zBf ho h)
  ·split at hc
   ·split at hc
    ·rename_i hb
     cases hc
     refine .inl (zwy (op:=.eql) rfl ?_ ho h)
     unfold zcY at hb
     split at hb
     ·assumption
     ·cases hb
    ·split at hc
     ·rename_i ks hks
      cases hc
      exact .inl (zwj (op:=.eql) rfl hks ho h)
     ·cases e:Vt P t y with
      | none=>rw[e] at hc;cases hc
      | some k=>rw[e] at hc;cases hc;exact znD (op:=.eql) rfl e ho h
   ·split at hc
    ·rename_i hb
     cases hc
     refine .inl (zwy (op:=.neq) rfl ?_ ho h)
     unfold zcY at hb
     split at hb
     ·assumption
     ·cases hb
    ·split at hc
     ·rename_i ks hks
      cases hc
      exact .inl (zwj (op:=.neq) rfl hks ho h)
     ·cases e:Vt P t y with
      | none=>rw[e] at hc;cases hc
      | some k=>rw[e] at hc;cases hc;exact znD (op:=.neq) rfl e ho h
   ·cases hc
 ·rename_i op t x ho;cases hc;exact .inl (s_un ho h)
 ·rename_i x i ho;cases hc;exact .inl (zBH ho h)
 ·rename_i s x f ho
  split at hc
  ·rename_i fs hs
   split at hc
   ·rename_i fd hf
    split at hc
    ·cases hc
    ·rename_i hz;cases hc;exact .inl (zuK hs hf hz ho h)
   ·cases hc
  ·cases hc
 ·rename_i s x f ho
  split at hc
  ·rename_i fs hs
   split at hc
   ·rename_i fd hf
    split at hc
    ·rename_i ag hag;cases hc;exact .inl (zvX hs hf hag ho h)
    ·cases hc
   ·cases hc
  ·cases hc
 ·rename_i t x i ho
  split at hc
  ·rename_i e ht
   split at hc
   ·cases hc
   ·rename_i hz;cases hc;exact .inl (zvp ht hz ho h)
  ·rename_i n e ht
   split at hc
   ·cases hc
   ·rename_i hz;cases hc;exact .inl (zt8 ht hz ho h)
  ·cases hc
 ·rename_i t x i ho
  split at hc
  ·rename_i ht;cases hc;exact .inl (zzP ht ho h)
  ·rename_i n e ht
   split at hc
   ·rename_i ag hag;cases hc;exact .inl (zzW ht hag ho h)
   ·cases hc
  ·cases hc
 ·rename_i f first cap ho;cases hc;exact .inl (zz4 ho h)
 ·rename_i t l c ho
  split at hc
  ·rename_i e ht
   split at hc
   ·rename_i z hz
    split at hc
    ·rename_i hq;cases hc;exact .inl (zqb ht hz hq.1 hq.2.1 hq.2.2.1 hq.2.2.2 ho h)
    ·cases hc
   ·cases hc
  ·cases hc
 ·rename_i t x lo hi mx ho
  split at hc
  ·rename_i e ht
   split at hc
   ·rename_i hz;cases hc;exact .inl (zBF ht hz ho h)
   ·cases hc
  ·rename_i ht
   split at hc
   ·cases hc;exact .inl (zx1 ht ho h)
   ·cases hc
  ·cases hc
 ·rename_i args ts ho
  split at hc
  ·rename_i x t ha hts
   split at hc
   ·rename_i e ht;cases hc;exact .inl (zAt ha hts ht ho h)
   ·rename_i ht;cases hc;exact .inl (zzR ha hts ht ho h)
   ·cases hc
  ·cases hc
 ·rename_i args ts ho
  split at hc
  ·rename_i x y t u ha hts
   split at hc
   ·rename_i e e' ht hu
    split at hc
    ·rename_i z hz
     split at hc
     ·rename_i hq;cases hc;exact .inl (zr0 ha hts ht hu hz hq.1 hq.2.1 hq.2.2 ho h)
     ·cases hc
    ·cases hc
   ·cases hc
  ·cases hc
 ·rename_i args ts ho
  split at hc
  ·rename_i x t ha hts
   split at hc
   ·rename_i e ht
    split at hc
    ·rename_i z hz
     split at hc
     ·rename_i u hu
      split at hc
      ·rename_i hq;cases hc;exact .inl (zAX ha hts ht hz hu hq ho h)
      ·cases hc
     ·cases hc
    ·cases hc
   ·cases hc
  ·cases hc
 ·rename_i args ts _ ho
  split at hc
  ·rename_i x y ha;cases hc;exact .inl (zB1 ha ho h)
  ·cases hc
 ·rename_i args ts _ ho
  split at hc
  ·rename_i x y ha;cases hc;exact .inl (zAN ha ho h)
  ·cases hc
 ·rename_i f args ts ho
  split at hc
  ·split at hc
   ·cases hc
   ·cases hc;exact zzt ho h
  ·cases hc
 ·rename_i x args ts _ ho;cases hc;exact zs6 ho h
 ·rename_i src dst x ho
  split at hc
  ·rename_i k0 k hs hd;cases hc;exact .inl (zxw hs hd ho h)
  ·rename_i e hs hd
   split at hc
   ·rename_i he;cases hc;exact .inl (zxb hs hd he ho h)
   ·cases hc
  ·cases hc
 ·rename_i t ho
  split at hc
  ·rename_i k e ht;cases hc;exact .inl (zt4 ho h)
  ·cases hc
 ·rename_i t m x ho
  split at hc
  ·rename_i k e ht
   split at hc
   ·rename_i z hz
    split at hc
    ·rename_i h1;cases hc;exact .inl (zyW ht hz h1 ho h)
    ·cases hc
   ·cases hc
  ·cases hc
 ·rename_i t m x ho
  split at hc
  ·rename_i k e ht;cases hc;exact .inl (zts ht ho h)
  ·cases hc
 ·rename_i t m x v ho
  split at hc
  ·rename_i k e ht;cases hc;exact .inl (zxO ht ho h)
  ·cases hc
 ·rename_i t x ho
  split at hc
  ·cases hc
  ·rename_i d hd ht
   cases hc
   exact .inl (zxR (λms e=>by rw[e] at ht;cases ht;exact hd _ rfl) (λe=>by rw[e] at ht;cases ht) ho h)
  ·cases hc
 ·cases hc
end
end
section
open Go.RowKit
theorem qM (t k:Nat) (d:D) (env:Env):xU t ((k,d)::env)=if t=k then d else xU t env:=by
 simp only[xU]
 cases e:Nat.beq t k
 ·rw[if_neg];intro h;subst h;simp at e
 ·rw[if_pos (Nat.eq_of_beq_eq_true e)]
theorem zji (a:Array Value) (t u:Nat) (v:Value) (ht:t<a.size):(a.setIfInBounds t v).getD u undef=if u=t then v else a.getD u undef:=by
 simp only[Array.getD_eq_getD_getElem?]
 by_cases h:u=t
 ·subst h;simp[Array.getElem?_setIfInBounds,ht]
 ·rw[if_neg h,Array.getElem?_setIfInBounds_ne (λe=>h e.symm)]
section
variable {P:Program} {n:Nat} {J J':yX} {F F':Nat→Prop} {env:Env} {H H':List zf} {a:Act} {w w':World}
theorem wZ.zjo (h:wZ n J F env H a w) (hx:Ext J F w J' F' w'):∀t,rep J' F' w' (xU t env) (a.tmps.getD t undef):=λt=>zcQ hx (h.tmps t)
theorem wZ.put (h:wZ n J F env H a w) (hx:Ext J F w J' F' w') {t:Nat} {d:D} {v:Value} (ht:t<n) (hv:rep J' F' w' d v) (hok:yZ J' F' w' (λi=>H'[i]?)) (hd:∀id,J' id≠none→id<H'.length):wZ n J' F' ((t,d)::env) H' (a.put (some t) v) w' where
 defers:=h.defers
 size:=by simp[Act.put,h.size]
 tmps u:=by
  rw[qM]
  simp only[Act.put]
  rw[zji _ _ _ _ (by rw[h.size];exact ht)]
  split
  ·exact hv
  ·exact h.zjo hx u
 ok:=hok
 dom:=hd
theorem wZ.skip (h:wZ n J F env H a w) (hx:Ext J F w J' F' w') (hok:yZ J' F' w' (λi=>H'[i]?)) (hd:∀id,J' id≠none→id<H'.length):wZ n J' F' env H' a w' where
 defers:=h.defers
 size:=h.size
 tmps:=h.zjo hx
 ok:=hok
 dom:=hd
theorem wZ.eval (h:wZ n J F env H a w) (x:Operand):rep J F w (xi env x) (a.eval x):=by
 cases x with
 | tmp t=>exact h.tmps t
 | const v =>
  cases v<;>simp only[xi,lift,Act.eval,rep]
  rename_i cs
  exact⟨cs.toList,by simp,Qh cs.toList⟩
 | global g=>exact zjN h.ok.lt g
 | func f=>simp only[xi,Act.eval,rep];exact⟨[],[],rfl,by simp only[yf],by simp only[yf]⟩
theorem Q8 {ops:Array Oper} {mask:Nat} {o:Oper} {p:yy} (h:zsJ P n ops mask o=some p) :
  cop P o=some p.op∧p.dst=o.dst∧(∀t,o.dst=some t→t<n)∧((o.guard=none∧p.guard=none)∨∃j b t,o.guard=some (j,b)∧(ops[j]?).bind (·.dst)=some t∧p.guard=some (t,b)) ∧
   p.mask=mask:=by
 unfold zsJ at h
 split at h
 ·rename_i q hd hq hg
  cases h
  exact⟨hq,rfl,λt ht=>by unfold zsf at hd;rw[ht] at hd;simpa using hd,.inl ⟨hg,rfl⟩,rfl⟩
 ·rename_i q j b hd hq hg
  split at h
  ·rename_i t ht
   cases h
   exact⟨hq,rfl,λt ht=>by unfold zsf at hd;rw[ht] at hd;simpa using hd,.inr ⟨j,b,t,hg,ht,rfl⟩,rfl⟩
  ·cases h
 ·cases h
def zyX (b:Bool):Value→Bool
 | .bool c=>c != b
 | .tuple _=>true
 | _=>false
theorem zoc {ops:Array Oper} {o:Oper} {tmps:Array Value} {j:Nat} {b:Bool} {t:Nat} (h1:o.guard=some (j,b)) (h2:(ops[j]?).bind (·.dst)=some t) (h:tmps.getD t undef=.bool b):Region.wanted o (yielded ops tmps)=true:=by
 have h4:tmps[t]? = some (.bool b):=by
  rw[Array.getD_eq_getD_getElem?] at h
  cases e:tmps[t]? with
  | none=>rw[e] at h;simp[undef] at h
  | some v=>rw[e] at h;simp at h;rw[h]
 simp only[Region.wanted,h1,yielded,h2,Option.bind_some,h4]
 cases b<;>rfl
theorem zek {ops:Array Oper} {o:Oper} {tmps:Array Value} {j:Nat} {b:Bool} {t:Nat} (h1:o.guard=some (j,b)) (h2:(ops[j]?).bind (·.dst)=some t) (h:zyX b (tmps.getD t undef)=true):Region.wanted o (yielded ops tmps)=false:=by
 rw[Array.getD_eq_getD_getElem?] at h
 cases e:tmps[t]? with
 | none=>simp only[Region.wanted,h1,yielded,h2,Option.bind_some,e];cases b<;>rfl
 | some v =>
  rw[e] at h
  simp only[Option.getD_some] at h
  simp only[Region.wanted,h1,yielded,h2,Option.bind_some,e]
  cases v<;>simp[zyX] at h ⊢
  exact h
theorem zpB {ops:Array Oper} {o:Oper} (h:wZ n J F env H a w) {j:Nat} {b c:Bool} {t:Nat} (h1:o.guard=some (j,b)) (h2:(ops[j]?).bind (·.dst)=some t) (hc:xU t env=.sc (.bool c)) :
  Region.wanted o (yielded ops a.tmps)=(c==b):=by
 have h3:=h.tmps t
 rw[hc] at h3
 simp only[rep] at h3
 have h4:a.tmps[t]? = some (.bool c):=by
  rw[Array.getD_eq_getD_getElem?] at h3
  cases e:a.tmps[t]? with
  | none=>rw[e] at h3;simp[undef] at h3
  | some v=>rw[e] at h3;simp at h3;rw[h3]
 simp only[Region.wanted,h1,yielded,h2,Option.bind_some,h4]
 cases b<;>cases c<;>rfl
end
section
variable {P:Program} {n:Nat} {ops:Array Oper} {K':Env→List zf→Prop} {Q:Exit→Act→World→Prop}
theorem zav {c:Bool} {A B:Prop}:ifK c A B↔(c=true→A)∧(c=false→B):=by
 cases c<;>simp[ifK]
theorem zjD {o:Oper} {p:POp} {env:Env} {H:List zf} {K:Jk} (hc:cop P o=some p) (h:step P true p env H K):ZH P o env H K :=
 (QW hc h).elim zob (·.2)
theorem zah:∀(l:List Oper) (i:Nat) (ms:List Nat) (pl:List yy),(∀j,l[j]? = ops[i+j]?)→qS P n ops ms l=some pl→∀(env:Env) (H:List zf) (J:yX) (F:Nat→Prop) (a:Act) (w:World),vt P pl env H K'→wZ n J F env H a w →
  (∀env' H' J' F' a' w',K' env' H'→wZ n J' F' env' H' a' w'→Ext J F w J' F' w'→Q .normal a' w')→wpOps P ops Q (List.range' i l.length) a w
 | [],i,ms,pl,hl,hc,env,H,J,F,a,w,h,hr,hQ=>by
  simp[qS] at hc;subst hc
  simp only[List.length_nil,List.range'_zero,wpOps]
  exact hQ env H J F a w h hr (Ext.refl _ _ _)
 | o::l,i,ms,pl,hl,hc,env,H,J,F,a,w,h,hr,hQ=>by
  simp only[qS] at hc
  split at hc
  ·rename_i p pr h1 h2
   cases hc
   have ho:ops[i]? = some o:=by simpa using (hl 0).symm
   have hl':∀j,l[j]? = ops[i+1+j]?:=λj=>by have:=hl (j+1);simpa [Nat.add_assoc,Nat.add_comm 1 j] using this
   obtain⟨k1,k2,k3,k4,_⟩:=Q8 h1
   have go:∀env' H' J' F' a' w',Ext J F w J' F' w'→vt P pr env' H' K'→wZ n J' F' env' H' a' w'→wpOps P ops Q (List.range' (i+1) l.length) a' w':=λenv' H' J' F' a' w' hx h' hr' =>
    zah l (i+1) ms.tail pr hl' h2 env' H' J' F' a' w' h' hr' λenv'' H'' J'' F'' a'' w'' q1 q2 q3=>hQ env'' H'' J'' F'' a'' w'' q1 q2 (hx.trans q3)
   have exec:(step P true p.op env H λd H' _ _=>match p.dst with
     | some t=>vt P pr ((t,d)::env) H' K'
     | none=>vt P pr env H' K')→o.wp P a w (wpOps P ops Q (List.range' (i+1) l.length)) Q:=λhs=>by
    refine zjD k1 hs J F w a hr.ok hr.dom (λx _=>hr.eval x) _ _ λd H2 rd wr v w' J' F' hK q1 q2 q3 q4=>?_
    rw[k2] at hK
    cases hd:o.dst with
    | none =>
     rw[hd] at hK
     exact go env H2 J' F' _ w' q3 hK (hr.skip q3 q2 q4)
    | some t =>
     rw[hd] at hK
     exact go _ H2 J' F' _ w' q3 hK (hr.put q3 (k3 t hd) q1 q2 q4)
   have skip:(match p.dst with
     | some t=>vt P pr ((t,.sc undef)::env) H K'
     | none=>vt P pr env H K')→wpOps P ops Q (List.range' (i+1) l.length) (a.put o.dst undef) w:=λhs=>by
    rw[k2] at hs
    cases hd:o.dst with
    | none =>
     rw[hd] at hs
     exact go env H J F _ w (Ext.refl _ _ _) hs hr
    | some t =>
     rw[hd] at hs
     exact go _ H J F _ w (Ext.refl _ _ _) hs (hr.put (Ext.refl _ _ _) (k3 t hd) (by simp only[rep]) hr.ok hr.dom)
   simp only[List.length_cons,List.range'_succ,wpOps,ho]
   simp only[vt] at h
   rcases k4 with⟨g1,g2⟩|⟨j,b,t,g1,g2,g3⟩
   ·rw[g2] at h
    rw[if_pos (by simp[Region.wanted,g1])]
    exact .inl (exec h)
   ·rw[g3] at h
    simp only[Yu] at h
    split at h
    ·rename_i c hcc
     have hw:=zpB hr g1 g2 hcc
     cases b with
     | true =>
      obtain⟨hA,hB⟩:=zav.1 h
      cases c with
      | true=>rw[if_pos (by rw[hw];rfl)];exact .inl (exec (hA rfl))
      | false=>rw[if_neg (by rw[hw];simp)];exact skip (hB rfl)
     | false =>
      obtain⟨hA,hB⟩:=zav.1 h
      cases c with
      | true=>rw[if_neg (by rw[hw];simp)];exact skip (hA rfl)
      | false=>rw[if_pos (by rw[hw];rfl)];exact .inl (exec (hB rfl))
    ·rename_i xs hcc
     have h3:=hr.tmps t
     rw[hcc] at h3
     simp only[rep] at h3
     rw[if_neg (by rw[zek g1 g2 (by rw[h3];rfl)];simp)]
     exact skip h
    ·exact h.elim
  ·cases hc
end
end
section
open Go.RowKit
theorem zeT {ms:List Nat} {i:Nat}:∀(l:List Nat),(UP ms l).testBit i=true→∃a∈l,a=i∨(ms.getD a 0).testBit i=true
 | [],h=>by simp[UP] at h
 | a::r,h=>by
  simp only[UP,Nat.testBit_or,Bool.or_eq_true] at h
  rcases h with(h|h)|h
  ·rw[Nat.testBit_two_pow] at h
   exact⟨a,by simp,.inl (by simpa using h)⟩
  ·exact⟨a,by simp,.inr h⟩
  ·obtain⟨b,hb,k⟩:=zeT r h
   exact⟨b,by simp[hb],k⟩
theorem JZ:∀(l:List Oper) (acc:List Nat),(∀k,k<acc.length→(qg acc l).getD k 0=acc.getD k 0)∧(qg acc l).length=acc.length+l.length ∧
  ∀k o,l[k]? = some o→∃acc',(∀a,a<acc.length+k→acc'.getD a 0=(qg acc l).getD a 0)∧(∀a,acc.length+k≤a→acc'.getD a 0=0)∧(qg acc l).getD (acc.length+k) 0=UP acc' (uw o)
 | [],acc=>⟨λ_ _=>rfl,by simp[qg],λk o h=>by simp at h⟩
 | x::r,acc=>by
  obtain⟨h1,h2,h3⟩:=JZ r (acc++[UP acc (uw x)])
  simp only[qg]
  simp only[List.length_append,List.length_singleton] at h1 h2 h3
  have hacc:∀k,k<acc.length→(acc++[UP acc (uw x)]).getD k 0=acc.getD k 0:=λk hk=>by
   simp[List.getD,List.getElem?_append_left hk]
  refine⟨λk hk=>by rw[h1 k (by omega),hacc k hk],by rw[h2];simp;omega,λk o hk=>?_⟩
  cases k with
  | zero =>
   simp at hk;subst hk
   refine⟨acc,λa ha=>by rw[h1 a (by omega),hacc a (by omega)],λa ha=>by simp[List.getD,List.getElem?_eq_none (by omega:acc.length≤a)],?_⟩
   rw[Nat.add_zero,h1 _ (by omega)]
   simp[List.getD]
  | succ k =>
   obtain⟨acc',k1,k2,k3⟩:=h3 k o (by simpa using hk)
   rw[show acc.length+1+k=acc.length+(k+1) by omega] at k1 k2 k3
   exact⟨acc',k1,k2,k3⟩
theorem Uo {ops:Array Oper} {m:Nat} {o:Oper}:∀(l:List Oper) (i:Nat),UZ ops m o i l=true→∀k x,l[k]? = some x→m.testBit (i+k)=true∨x.apart ops o=true
 | [],i,_,k,x,h=>by simp at h
 | y::r,i,h,k,x,hk=>by
  simp only[UZ,Bool.and_eq_true,Bool.or_eq_true] at h
  cases k with
  | zero=>simp at hk;subst hk;exact h.1
  | succ k =>
   have:=Uo r (i+1) h.2 k x (by simpa using hk)
   rwa [show i+1+k=i+(k+1) by omega] at this
theorem X4 {ops:Array Oper} {ms:List Nat}:∀(l pre:List Oper),zde ops ms pre l=true→∀k o,l[k]? = some o→(∀a∈uw o,a<pre.length+k) ∧
  ∀i x,i<pre.length+k→(pre++l)[i]? = some x→(ms.getD (pre.length+k) 0).testBit i=true∨x.apart ops o=true
 | [],pre,_,k,o,h=>by simp at h
 | y::r,pre,h,k,o,hk=>by
  simp only[zde,Bool.and_eq_true] at h
  obtain⟨⟨h1,h2⟩,h3⟩:=h
  cases k with
  | zero =>
   simp at hk;subst hk
   refine⟨λa ha=>by simpa using List.all_eq_true.1 h1 a ha,λi x hi hx=>?_⟩
   rw[List.getElem?_append_left (by omega)] at hx
   have:=Uo pre 0 h2 i x hx
   simpa using this
  | succ k =>
   have:=X4 r (pre++[y]) h3 k o (by simpa using hk)
   simp only[List.length_append,List.length_singleton,List.append_assoc,List.singleton_append] at this
   rw[show pre.length+1+k=pre.length+(k+1) by omega] at this
   exact this
section
variable {ops:Array Oper}
def Bef (ops:Array Oper) (i j:Nat):Prop:=((qg [] ops.toList).getD j 0).testBit i=true
def VB (ops:Array Oper) (S:Nat→Bool):Prop:=∀j o,ops[j]? = some o→S j=true→∀a∈uw o,S a=true
theorem zet (hreg:zde ops (qg [] ops.toList) [] ops.toList=true):∀(j:Nat) (o:Oper),ops[j]? = some o→∀i,Bef ops i j→i<j∧∀S:Nat→Bool,VB ops S→(∀a∈uw o,S a=true)→S i=true:=by
 intro j
 induction j using Nat.strongRecOn with
 | _ j ih =>
  intro o ho i hb
  obtain⟨acc,h1,h2,h3⟩:=(JZ ops.toList []).2.2 j o (by simpa using ho)
  simp only[List.length_nil,Nat.zero_add] at h1 h2 h3
  unfold Bef at hb
  rw[h3] at hb
  have hlt:=(X4 ops.toList [] hreg j o (by simpa using ho)).1
  simp only[List.length_nil,Nat.zero_add] at hlt
  obtain⟨a,ha,rfl|hbit⟩:=zeT _ hb
  ·exact⟨hlt _ ha,λS _ hS=>hS _ ha⟩
  ·have haj:=hlt a ha
   rw[h1 a haj] at hbit
   have hj:j<ops.size:=by
    rcases Nat.lt_or_ge j ops.size with h|h
    ·exact h
    ·rw[Array.getElem?_eq_none h] at ho;cases ho
   have hao:ops[a]? = some ops[a]:=Array.getElem?_eq_getElem (by omega)
   obtain⟨q1,q2⟩:=ih a haj _ hao i hbit
   exact⟨by omega,λS hC hS=>q2 S hC (hC a _ hao (hS a ha))⟩
end
structure Rec where
 d:D
 rd:List Nat
 wr:List Nat
 H2:List zf
 lt:Option (Nat × Nat)
instance:Inhabited Rec:=⟨⟨.xO,[],[],[],none⟩⟩
def Rec.entry (r:Rec):(List Nat × List Nat) × (Option (Nat × Nat) × D × List zf):=((r.rd,r.wr),(r.lt,r.d,r.H2))
def V8 (x:(List Nat × List Nat) × (Option (Nat × Nat) × D × List zf)):List Nat × List Nat:=match x.2.1 with
 | some _=>([],x.1.2)
 | none=>x.1
section
variable {P:Program} {n:Nat} {ops:Array Oper}
def zh8 (P:Program) (o:Oper) (env:Env) (H:List zf) (r:Rec):Prop:=∀id k,r.lt=some (id,k)→r.rd=[id]∧r.wr=[]∧r.H2=H∧(∃m cs,H[id]? = some (.row m cs)∧cs[k]? = some r.d) ∧
 ∀(H':List zf) m' cs',H'[id]? = some (.row m' cs')→cs'[k]? = some r.d→OpS P o env [id] [] H' r.d H'
theorem zle {o:Oper} {p:POp} (k1:cop P o=some p) {env:Env} {H:List zf} {K:D→List zf→List Nat→List Nat→Prop} (h:step P false p env H K) {id k:Nat} (hl:Vr p env=some (id,k)) :
  ∃c,K c H [id] []∧(∃m cs,H[id]? = some (.row m cs)∧cs[k]? = some c)∧∀(H':List zf) m' cs',H'[id]? = some (.row m' cs')→cs'[k]? = some c→OpS P o env [id] [] H' c H':=by
 unfold Vr at hl
 split at hl
 ·rename_i a
  split at hl
  ·rename_i id' k' e
   cases hl
   simp only[step,yN] at h
   rw[e] at h
   obtain⟨ob,h1,h2⟩:=(yM _ _ _).1 h
   split at h2
   ·rename_i m cs
    obtain⟨c,h3,h4⟩:=(Yl _ _ _).1 h2
    refine⟨c,h4,⟨m,cs,h1,h3⟩,λH' m' cs' g1 g2=>?_⟩
    have hs:step P false (.zg a) env H' λd h rd wr=>d=c∧h=H'∧rd=[id]∧wr=[]:=by
     simp only[step,yN]
     rw[e]
     exact(yM _ _ _).2 ⟨_,g1,(Yl _ _ _).2 ⟨c,g2,by simp⟩⟩
    rcases QW k1 hs with⟨d,H2,rd,wr,q,rfl,rfl,rfl,rfl⟩|⟨q,_⟩
    ·exact q
    ·cases q
   ·exact h2.elim
  ·cases hl
 ·cases hl
def zev (P:Program) (n:Nat) (ops:Array Oper) (o:Oper) (env:Env) (H:List zf) (r:Rec):Prop :=
 (∀t,o.dst=some t→t<n)∧(∀cs b,o.op≠.select cs b)∧zh8 P o env H r ∧
 ((o.guard=none∧OpS P o env r.rd r.wr H r.d r.H2) ∨
  ∃j b t c,o.guard=some (j,b)∧(ops[j]?).bind (·.dst)=some t∧xU t env=.sc c ∧
   ((c=.bool b∧OpS P o env r.rd r.wr H r.d r.H2)∨(zyX b c=true∧r=⟨.sc undef,[],[],H,none⟩)))
def Qw (o:Oper) (r:Rec) (env:Env):Env:=match o.dst with
 | some t=>(t,r.d)::env
 | none=>env
inductive Run (P:Program) (n:Nat) (ops:Array Oper):List Oper→Env→List zf→List Rec→Env→List zf→Prop
 | nil (env:Env) (H:List zf):Run P n ops [] env H [] env H
 | cons (o:Oper) (l:List Oper) (env:Env) (H:List zf) (r:Rec) (rs:List Rec) (env':Env) (H':List zf) (h:zev P n ops o env H r) (k:Run P n ops l (Qw o r env) r.H2 rs env' H'):Run P n ops (o::l) env H (r::rs) env' H'
theorem qY {o:Oper} {p:POp} (h:cop P o=some p):∀cs b,o.op≠.select cs b:=λcs b e=>by
 unfold cop at h
 rw[e] at h
 simp at h
theorem zh8.none {o:Oper} {env:Env} {H:List zf} {d:D} {rd wr:List Nat} {H2:List zf}:zh8 P o env H ⟨d,rd,wr,H2,.none⟩:=λ_ _ h=>by cases h
theorem zfT:∀(l:List Oper) (ms:List Nat) (pl:List yy),qS P n ops ms l=some pl→∀(env:Env) (H:List zf) (K:Env→List zf→Trace→Prop),Vy P pl env H K →
  ∃rs env' H',Run P n ops l env H rs env' H'∧K env' H' (rs.map Rec.entry)∧rs.length=l.length
 | [],ms,pl,hc,env,H,K,h=>by
  simp[qS] at hc;subst hc
  exact⟨[],env,H,.nil env H,h,rfl⟩
 | o::l,ms,pl,hc,env,H,K,h=>by
  simp only[qS] at hc
  split at hc
  ·rename_i p pr h1 h2
   cases hc
   obtain⟨k1,k2,k3,k4,_⟩:=Q8 h1
   have fin:∀(r:Rec),zev P n ops o env H r→(match p.dst with
     | some t=>Vy P pr ((t,r.d)::env) r.H2 λe h tr=>K e h (((r.rd,r.wr),(r.lt,r.d,r.H2))::tr)
     | none=>Vy P pr env r.H2 λe h tr=>K e h (((r.rd,r.wr),(r.lt,r.d,r.H2))::tr))→∃rs env' H',Run P n ops (o::l) env H rs env' H'∧K env' H' (rs.map Rec.entry)∧rs.length=(o::l).length:=λr hr hs=>by
    have hs':Vy P pr (Qw o r env) r.H2 λe h tr=>K e h (((r.rd,r.wr),(r.lt,r.d,r.H2))::tr):=by
     unfold Qw
     rw[k2] at hs
     cases hd:o.dst with
     | none=>rw[hd] at hs;exact hs
     | some t=>rw[hd] at hs;exact hs
    obtain⟨rs,env',H',q1,q2,q3⟩:=zfT l ms.tail pr h2 _ _ _ hs'
    exact⟨r::rs,env',H',.cons o l env H r rs env' H' hr q1,q2,by simp[q3]⟩
   have exec:∀{K':D→List zf→List Nat→List Nat→Prop},step P false p.op env H K'→∃d H2 rd wr,OpS P o env rd wr H d H2∧K' d H2 rd wr:=λhs=>by
    rcases QW k1 hs with q|⟨q,_⟩
    ·exact q
    ·cases q
   simp only[Vy] at h
   rcases k4 with⟨g1,g2⟩|⟨j,b,t,g1,g2,g3⟩
   ·rw[g2] at h
    cases hl:Vr p.op env with
    | none =>
     simp only[hl] at h
     obtain⟨d,H2,rd,wr,q1,q2⟩:=exec h
     exact fin ⟨d,rd,wr,H2,none⟩ ⟨k3,qY k1,.none,.inl ⟨g1,q1⟩⟩ q2
    | some q =>
     obtain⟨id,k⟩:=q
     simp only[hl] at h
     obtain⟨c,q1,⟨m,cs,q2,q3⟩,q4⟩:=zle k1 h hl
     refine fin ⟨c,[id],[],H,some (id,k)⟩ ⟨k3,qY k1,λid' k' e=>?_,.inl ⟨g1,q4 H m cs q2 q3⟩⟩ q1
     cases e
     exact⟨rfl,rfl,rfl,⟨m,cs,q2,q3⟩,q4⟩
   ·rw[g3] at h
    simp only[Yu] at h
    split at h
    ·rename_i c hcc
     cases b with
     | true =>
      obtain⟨hA,hB⟩:=zav.1 h
      cases c with
      | true =>
       obtain⟨d,H2,rd,wr,q1,q2⟩:=exec (hA rfl)
       exact fin ⟨d,rd,wr,H2,none⟩ ⟨k3,qY k1,.none,.inr ⟨j,true,t,.bool true,g1,g2,hcc,.inl ⟨rfl,q1⟩⟩⟩ q2
      | false=>exact fin ⟨.sc undef,[],[],H,none⟩ ⟨k3,qY k1,.none,.inr ⟨j,true,t,.bool false,g1,g2,hcc,.inr ⟨rfl,rfl⟩⟩⟩ (hB rfl)
     | false =>
      obtain⟨hA,hB⟩:=zav.1 h
      cases c with
      | true=>exact fin ⟨.sc undef,[],[],H,none⟩ ⟨k3,qY k1,.none,.inr ⟨j,false,t,.bool true,g1,g2,hcc,.inr ⟨rfl,rfl⟩⟩⟩ (hA rfl)
      | false =>
       obtain⟨d,H2,rd,wr,q1,q2⟩:=exec (hB rfl)
       exact fin ⟨d,rd,wr,H2,none⟩ ⟨k3,qY k1,.none,.inr ⟨j,false,t,.bool false,g1,g2,hcc,.inl ⟨rfl,q1⟩⟩⟩ q2
    ·rename_i xs hcc
     exact fin ⟨.sc undef,[],[],H,none⟩ ⟨k3,qY k1,.none,.inr ⟨j,b,t,.tuple xs,g1,g2,hcc,.inr ⟨rfl,rfl⟩⟩⟩ h
    ·exact h.elim
  ·cases hc
def X2 (l:List Oper) (k:Nat):Option Tmp:=(l[k]?).bind (·.dst)
def recAt (rs:List Rec) (k:Nat):Rec:=(rs[k]?).getD default
def Et (l:List Oper) (rs:List Rec) (env:Env) (S:Nat→Bool):Nat→Nat→D
 | 0,t=>xU t env
 | k+1,t=>if S k=true∧X2 l k=some t then (recAt rs k).d else Et l rs env S k t
def Gt (rs:List Rec) (H:List zf) (S:Nat→Bool):Nat→Nat→Option zf
 | 0,id=>H[id]?
 | k+1,id=>if S k=true∧id∈(recAt rs k).wr then (recAt rs k).H2[id]? else Gt rs H S k id
theorem Um {l:List Oper} {rs:List Rec} {env:Env} {S S':Nat→Bool} {t:Nat}:∀(k:Nat),(∀i,i<k→X2 l i=some t→S i=S' i)→Et l rs env S k t=Et l rs env S' k t
 | 0,_=>rfl
 | k+1,h=>by
  simp only[Et]
  by_cases hd:X2 l k=some t
  ·rw[h k (by omega) hd,Um k λi hi hd=>h i (by omega) hd]
  ·rw[if_neg (λq=>hd q.2),if_neg (λq=>hd q.2),Um k λi hi hd=>h i (by omega) hd]
theorem WX {rs:List Rec} {H:List zf} {S S':Nat→Bool} {id:Nat}:∀(k:Nat),(∀i,i<k→id∈(recAt rs i).wr→S i=S' i)→Gt rs H S k id=Gt rs H S' k id
 | 0,_=>rfl
 | k+1,h=>by
  simp only[Gt]
  by_cases hd:id∈(recAt rs k).wr
  ·rw[h k (by omega) hd,WX k λi hi hd=>h i (by omega) hd]
  ·rw[if_neg (λq=>hd q.2),if_neg (λq=>hd q.2),WX k λi hi hd=>h i (by omega) hd]
def upto (j:Nat):Nat→Bool:=λi=>decide (i<j)
theorem zmr {l:List Oper} {rs:List Rec} {env:Env} {j t:Nat}:∀(k:Nat),j≤k→Et l rs env (upto j) k t=Et l rs env (λ_=>true) j t
 | 0,h=>by have:j=0:=by omega
           subst this;rfl
 | k+1,h=>by
  by_cases e:j=k+1
  ·subst e
   exact Um (k+1) λi hi _=>by simp[upto,hi]
  ·simp only[Et]
   rw[if_neg (by simp[upto];omega),zmr k (by omega)]
theorem zhV {rs:List Rec} {H:List zf} {j id:Nat}:∀(k:Nat),j≤k→Gt rs H (upto j) k id=Gt rs H (λ_=>true) j id
 | 0,h=>by have:j=0:=by omega
           subst this;rfl
 | k+1,h=>by
  by_cases e:j=k+1
  ·subst e
   exact WX (k+1) λi hi _=>by simp[upto,hi]
  ·simp only[Gt]
   rw[if_neg (by simp[upto];omega),zhV k (by omega)]
def JK (l:List Oper) (rs:List Rec) (env:Env):Nat→Env
 | 0=>env
 | k+1=>match l[k]?,rs[k]? with
  | some o,some r=>Qw o r (JK l rs env k)
  | _,_=>JK l rs env k
def uB (rs:List Rec) (H:List zf):Nat→List zf
 | 0=>H
 | k+1=>match rs[k]? with
  | some r=>r.H2
  | none=>uB rs H k
theorem zbp {o:Oper} {l:List Oper} {r:Rec} {rs:List Rec} {env:Env}:∀k,JK (o::l) (r::rs) env (k+1)=JK l rs (Qw o r env) k
 | 0=>rfl
 | k+1=>by
  rw[JK]
  rw[zbp k]
  rfl
theorem QU {r:Rec} {rs:List Rec} {H:List zf}:∀k,uB (r::rs) H (k+1)=uB rs r.H2 k
 | 0=>rfl
 | k+1=>by
  rw[uB]
  rw[QU k]
  rfl
theorem Run.at {l:List Oper} {env env':Env} {H H':List zf} {rs:List Rec} (h:Run P n ops l env H rs env' H'):rs.length=l.length∧JK l rs env l.length=env'∧uB rs H l.length=H' ∧
  ∀k o,l[k]? = some o→∃r,rs[k]? = some r∧zev P n ops o (JK l rs env k) (uB rs H k) r:=by
 induction h with
 | nil env H=>exact⟨rfl,rfl,rfl,λk o h=>by simp at h⟩
 | cons o l env H r rs env' H' h k ih =>
  obtain⟨i1,i2,i3,i4⟩:=ih
  refine⟨by simp[i1],by rw[List.length_cons,zbp];exact i2,by rw[List.length_cons,QU];exact i3,λm x hx=>?_⟩
  cases m with
  | zero=>simp at hx;subst hx;exact⟨r,rfl,h⟩
  | succ m =>
   obtain⟨r',q1,q2⟩:=i4 m x (by simpa using hx)
   exact⟨r',by simpa using q1,by rw[zbp,QU];exact q2⟩
theorem WN {rs:List Rec} {k:Nat} {r:Rec} (h:rs[k]? = some r):recAt rs k=r:=by simp[recAt,h]
theorem JI {l:List Oper} {k:Nat} {o:Oper} (h:l[k]? = some o):X2 l k=o.dst:=by simp[X2,h]
theorem zev.frame {o:Oper} {env:Env} {H:List zf} {r:Rec} (h:zev P n ops o env H r):(∀id,id ∉ r.wr→r.H2[id]? = H[id]?)∧H.length≤r.H2.length∧∀id∈r.wr,id<r.H2.length:=by
 rcases h.2.2.2 with⟨_,q⟩|⟨j,b,t,c,_,_,_,⟨_,q⟩|⟨_,rfl⟩⟩
 ·exact⟨q.frame,q.len,q.lt⟩
 ·exact⟨q.frame,q.len,q.lt⟩
 ·exact⟨λ_ _=>rfl,Nat.le_refl _,λ_ h=>by cases h⟩
section
variable {l:List Oper} {rs:List Rec} {env:Env} {H:List zf}
variable (hA:∀k o,l[k]? = some o→∃r,rs[k]? = some r∧zev P n ops o (JK l rs env k) (uB rs H k) r)
include hA
theorem zg9:∀k,k≤l.length→∀t,Et l rs env (λ_=>true) k t=xU t (JK l rs env k)
 | 0,_,t=>rfl
 | k+1,hk,t=>by
  have hl:l[k]? = some l[k]:=List.getElem?_eq_getElem (by omega)
  obtain⟨r,h1,_⟩:=hA k _ hl
  simp only[Et,JK,hl,h1,WN h1,JI hl,true_and,Qw]
  cases hd:l[k].dst with
  | none=>simp;exact zg9 k (by omega) t
  | some u =>
   simp only[Option.some.injEq]
   rw[qM]
   by_cases e:t=u
   ·rw[if_pos e.symm,if_pos e]
   ·rw[if_neg (λq=>e q.symm),if_neg e];exact zg9 k (by omega) t
theorem zid:∀k,k≤l.length→∀id,Gt rs H (λ_=>true) k id=(uB rs H k)[id]?
 | 0,_,id=>rfl
 | k+1,hk,id=>by
  have hl:l[k]? = some l[k]:=List.getElem?_eq_getElem (by omega)
  obtain⟨r,h1,h2⟩:=hA k _ hl
  simp only[Gt,uB,h1,WN h1,true_and]
  split
  ·rfl
  ·rename_i hn;rw[zid k (by omega) id];exact(h2.frame.1 id hn).symm
theorem J4:∀k j,j≤k→k≤l.length→(uB rs H j).length≤(uB rs H k).length
 | 0,j,hj,_=>by have:j=0:=by omega
                subst this;exact Nat.le_refl _
 | k+1,j,hj,hk=>by
  have hl:l[k]? = some l[k]:=List.getElem?_eq_getElem (by omega)
  obtain⟨r,h1,h2⟩:=hA k _ hl
  by_cases e:j=k+1
  ·rw[e];exact Nat.le_refl _
  ·refine Nat.le_trans (J4 k j (by omega) (by omega)) ?_
   simp only[uB,h1]
   exact h2.frame.2.1
theorem zwm {i k:Nat} (hik:i<k) (hk:k≤l.length) {id:Nat} (h:id∈(recAt rs i).wr):id<(uB rs H k).length:=by
 have hl:l[i]? = some l[i]:=List.getElem?_eq_getElem (by omega)
 obtain⟨r,h1,h2⟩:=hA i _ hl
 rw[WN h1] at h
 have h3:=h2.frame.2.2 id h
 have h4:=J4 hA k (i+1) (by omega) hk
 simp only[uB,h1] at h4
 omega
end
theorem zap (x:Nat):∀l:List Nat,zaY x l=true↔x∈l
 | []=>by simp[zaY]
 | y::r=>by
  simp only[zaY]
  cases e:Nat.beq x y with
  | true=>simp[Nat.eq_of_beq_eq_true e]
  | false =>
   have:x≠y:=λh=>by subst h;simp at e
   simp[zap x r,this]
theorem zgy:∀(a b:List Nat),meets a b=true↔∃x∈a,x∈b
 | [],b=>by simp[meets]
 | x::r,b=>by
  simp only[meets]
  cases e:zaY x b with
  | true=>simp[(zap x b).1 e]
  | false =>
   have:x ∉ b:=λh=>by rw[(zap x b).2 h] at e;cases e
   simp[zgy r b,this]
theorem VA {m:Nat} {b:List Nat × List Nat}:∀(tr:List (List Nat × List Nat)) (i:Nat),Ql m b i tr=true→∀k a,tr[k]? = some a→UE a b=true→QI m (i+k)=true
 | [],i,_,k,a,h,_=>by simp at h
 | x::r,i,h,k,a,hk,hc=>by
  simp only[Ql] at h
  split at h
  ·rename_i h1
   cases k with
   | zero =>
    simp at hk;subst hk
    simpa [hc] using h1
   | succ k =>
    have:=VA r (i+1) h k a (by simpa using hk) hc
    rwa [show i+1+k=i+(k+1) by omega] at this
  ·cases h
theorem zeh:∀(pl:List yy) (pre:List (List Nat × List Nat)) (tr:Trace),zgW pre pl tr=true→∀k o b,pl[k]? = some o→tr[k]? = some b→∀i a,i<pre.length+k→(pre++tr.map (·.1))[i]? = some a→UE a b.1=true→QI o.mask i=true
 | [],pre,tr,_,k,o,b,h,_,_,_,_,_,_=>by simp at h
 | p::pl,pre,[],_,k,o,b,_,h,_,_,_,_,_=>by simp at h
 | p::pl,pre,(t,y)::tr,h,k,o,b,hk,hb,i,a,hi,ha,hc=>by
  simp only[zgW] at h
  split at h
  ·rename_i h1
   cases k with
   | zero =>
    simp at hk hb;subst hk;subst hb
    rw[List.getElem?_append_left (by omega)] at ha
    have:=VA pre 0 h1 i a ha hc
    simpa using this
   | succ k =>
    refine zeh pl (pre++[t]) tr h k o b (by simpa using hk) (by simpa using hb) i a (by simp;omega) ?_ hc
    simpa using ha
  ·cases h
theorem Ug:∀(pl:List yy) (pre:List (List Nat × List Nat)) (tr:Trace),za0 pre pl tr=true→∀k o b,pl[k]? = some o→tr[k]? = some b→∀i a,i<pre.length+k→(pre++tr.map V8)[i]? = some a→UE a b.1=true→QI o.mask i=true
 | [],pre,tr,_,k,o,b,h,_,_,_,_,_,_=>by simp at h
 | p::pl,pre,[],_,k,o,b,_,h,_,_,_,_,_=>by simp at h
 | p::pl,pre,(t,q,y)::tr,h,k,o,b,hk,hb,i,a,hi,ha,hc=>by
  simp only[za0] at h
  split at h
  ·rename_i h1
   cases k with
   | zero =>
    simp at hk hb;subst hk;subst hb
    rw[List.getElem?_append_left (by omega)] at ha
    have:=VA pre 0 h1 i a ha hc
    simpa using this
   | succ k =>
    have e:pre++((t,q,y)::tr).map V8=(pre++[V8 (t,q,y)])++tr.map V8:=by simp
    rw[e] at ha
    cases q with
    | none=>exact Ug pl (pre++[t]) tr h k o b (by simpa using hk) (by simpa using hb) i a (by simp;omega) ha hc
    | some q=>exact Ug pl (pre++[([],t.2)]) tr h k o b (by simpa using hk) (by simpa using hb) i a (by simp;omega) ha hc
  ·cases h
def zic (m:Nat) (wr:List Nat) (H:List zf) (w:Nat × (Nat × Nat) × D):Prop:=QI m w.1=true∨w.2.1.1 ∉ wr∨∃mm cs,H[w.2.1.1]? = some (.row mm cs)∧cs[w.2.1.2]? = some w.2.2
theorem UB {m:Nat} {wr:List Nat} {H:List zf} {K:Prop}:∀ws,zeO m wr H K ws→K∧∀w∈ws,zic m wr H w
 | [],h=>⟨h,λw hw=>by cases hw⟩
 | (i,(id,k),d)::r,h=>by
  simp only[zeO] at h
  split at h
  ·rename_i e
   obtain⟨q1,q2⟩:=UB r h
   refine⟨q1,λw hw=>?_⟩
   rcases List.mem_cons.1 hw with rfl|hw
   ·rw[Bool.or_eq_true,Bool.not_eq_true'] at e
    rcases e with e|e
    ·exact .inl e
    ·refine .inr (.inl λz=>?_)
     rw[(zap _ _).2 z] at e;cases e
   ·exact q2 w hw
  ·unfold zwD at h
   obtain⟨ob,h1,h2⟩:=(yM _ _ _).1 h
   split at h2
   ·rename_i mm cs
    obtain⟨c,h3,rfl,h4⟩:=(Yl _ _ _).1 h2
    obtain⟨q1,q2⟩:=UB r h4
    refine⟨q1,λw hw=>?_⟩
    rcases List.mem_cons.1 hw with rfl|hw
    ·exact .inr (.inr ⟨mm,cs,h1,h3⟩)
    ·exact q2 w hw
   ·exact h2.elim
theorem UC {K:Prop}:∀(l:List yy) (tr:Trace) (i0:Nat) (ws:List (Nat × (Nat × Nat) × D)),zbf K i0 ws l tr→l.length=tr.length→K∧∀j o b q d H,l[j]? = some o→tr[j]? = some (b,(q,d,H)) →
   (∀w∈ws,zic o.mask b.2 H w)∧∀i b' lt d' H',i<j→tr[i]? = some (b',(some lt,d',H'))→zic o.mask b.2 H (i0+i,lt,d')
 | [],[],i0,ws,h,_=>⟨h,λj o b q d H hj=>by simp at hj⟩
 | [],_::_,_,_,_,hl=>by simp at hl
 | _::_,[],_,_,_,hl=>by simp at hl
 | p::l,(b0,(q0,d0,H0))::tr,i0,ws,h,hl=>by
  simp only[zbf] at h
  obtain⟨h1,h2⟩:=UB ws h
  cases q0 with
  | none =>
   obtain⟨k1,k2⟩:=UC l tr (i0+1) ws h1 (by simpa using hl)
   refine⟨k1,λj o b q d H hj hb=>?_⟩
   cases j with
   | zero=>simp at hj hb;obtain⟨rfl,rfl,rfl,rfl⟩:=hb;subst hj;exact⟨h2,λi _ _ _ _ hi=>by omega⟩
   | succ j =>
    obtain⟨m1,m2⟩:=k2 j o b q d H (by simpa using hj) (by simpa using hb)
    refine⟨m1,λi b' lt d' H' hi hb'=>?_⟩
    cases i with
    | zero=>simp at hb'
    | succ i =>
     have:=m2 i b' lt d' H' (by omega) (by simpa using hb')
     rwa [show i0+1+i=i0+(i+1) by omega] at this
  | some q0 =>
   obtain⟨k1,k2⟩:=UC l tr (i0+1) (ws++[(i0,q0,d0)]) h1 (by simpa using hl)
   refine⟨k1,λj o b q d H hj hb=>?_⟩
   cases j with
   | zero=>simp at hj hb;obtain⟨rfl,rfl,rfl,rfl⟩:=hb;subst hj;exact⟨h2,λi _ _ _ _ hi=>by omega⟩
   | succ j =>
    obtain⟨m1,m2⟩:=k2 j o b q d H (by simpa using hj) (by simpa using hb)
    refine⟨λw hw=>m1 w (List.mem_append_left _ hw),λi b' lt d' H' hi hb'=>?_⟩
    cases i with
    | zero =>
     simp at hb'
     obtain⟨rfl,rfl,rfl,rfl⟩:=hb'
     exact m1 (i0,q0,d0) (by simp)
    | succ i =>
     have:=m2 i b' lt d' H' (by omega) (by simpa using hb')
     rwa [show i0+1+i=i0+(i+1) by omega] at this
theorem zlf {m i:Nat} (h:QI m i=true):m.testBit i=true:=by
 unfold QI at h
 split at h
 ·rename_i e
  rw[Nat.testBit_eq_decide_div_mod_eq]
  simpa using Nat.eq_of_beq_eq_true e
 ·cases h
theorem zb2:∀(l:List Oper) (ms:List Nat) (pl:List yy),qS P n ops ms l=some pl→∀k p,pl[k]? = some p→p.mask=ms.getD k 0
 | [],ms,pl,h,k,p,hk=>by simp[qS] at h;subst h;simp at hk
 | o::l,ms,pl,h,k,p,hk=>by
  simp only[qS] at h
  split at h
  ·rename_i q pr h1 h2
   cases h
   cases k with
   | zero =>
    simp at hk;subst hk
    rw[(Q8 h1).2.2.2.2]
    cases ms<;>rfl
   | succ k =>
    rw[zb2 l ms.tail pr h2 k p (by simpa using hk)]
    cases ms<;>simp[List.getD]
  ·cases h
theorem zdq:∀(l:List Oper) (ms:List Nat) (pl:List yy),qS P n ops ms l=some pl→pl.length=l.length
 | [],ms,pl,h=>by simp[qS] at h;subst h;rfl
 | o::l,ms,pl,h=>by
  simp only[qS] at h
  split at h
  ·rename_i q pr h1 h2
   cases h
   simp[zdq l ms.tail pr h2]
  ·cases h
end
end
section
open Go.RowKit
structure Ua (P:Program) (n:Nat) (ops:Array Oper) (env:Env) (H:List zf) (rs:List Rec):Prop where
 at_:∀k o,ops.toList[k]? = some o→∃r,rs[k]? = some r∧zev P n ops o (JK ops.toList rs env k) (uB rs H k) r
 len:rs.length=ops.size
 reg:zde ops (qg [] ops.toList) [] ops.toList=true
 mem:∀i j,i<j→j<ops.size→UE (V8 (recAt rs i).entry) ((recAt rs j).rd,(recAt rs j).wr)=true→Bef ops i j
 lite:∀i id k,(recAt rs i).lt=some (id,k)→∀j,i<j→j<ops.size→id∈(recAt rs j).wr→Bef ops i j∨∃m cs,(recAt rs j).H2[id]? = some (.row m cs)∧cs[k]? = some (recAt rs i).d
section
variable {P:Program} {n:Nat} {ops:Array Oper} {env:Env} {H:List zf} {rs:List Rec}
structure Inv (P:Program) (n:Nat) (ops:Array Oper) (env:Env) (H:List zf) (rs:List Rec) (J0:yX) (F0:Nat→Prop) (w0:World) (S:Nat→Bool) (J:yX) (F:Nat→Prop) (a:Act) (w:World):Prop where
 closed:VB ops S
 defers:a.defers=[]
 size:a.tmps.size=n
 tmps:∀t,rep J F w (Et ops.toList rs env S ops.size t) (a.tmps.getD t undef)
 ok:yZ J F w (Gt rs H S ops.size)
 ext:Ext J0 F0 w0 J F w
 dom:∀id,J id≠none→id<H.length∨∃i,i<ops.size∧S i=true∧id∈(recAt rs i).wr
theorem Ua.before (hp:Ua P n ops env H rs) {S:Nat→Bool} (hC:VB ops S) {j:Nat} {o:Oper} (ho:ops[j]? = some o) (hj:S j=false) (hr:∀a∈uw o,S a=true) {i:Nat} (hi:i<ops.size) (hne:i≠j) (hcmp:Bef ops i j∨Bef ops j i):S i=upto j i:=by
 have hio:ops[i]? = some ops[i]:=Array.getElem?_eq_getElem hi
 rcases hcmp with h|h
 ·obtain⟨q1,q2⟩:=zet hp.reg j o ho i h
  rw[q2 S hC hr]
  simp[upto,q1]
 ·obtain⟨q1,q2⟩:=zet hp.reg i _ hio j h
  have:S i=false:=by
   cases e:S i with
   | false=>rfl
   | true =>
    have:=q2 S hC (hC i _ hio e)
    rw[hj] at this;cases this
  rw[this]
  simp[upto];omega
theorem Ua.cmp (hp:Ua P n ops env H rs) {i j:Nat} {x y:Oper} (hi:ops[i]? = some x) (hj:ops[j]? = some y) (hne:i≠j):(Bef ops i j∨Bef ops j i)∨(x.apart ops y=true∧i<j)∨(y.apart ops x=true∧j<i):=by
 rcases Nat.lt_or_gt_of_ne hne with h|h
 ·have:=(X4 ops.toList [] hp.reg j y (by simpa using hj)).2 i x (by simpa using h) (by simpa using hi)
  simp only[List.length_nil,Nat.zero_add] at this
  rcases this with q|q
  ·exact .inl (.inl q)
  ·exact .inr (.inl ⟨q,h⟩)
 ·have:=(X4 ops.toList [] hp.reg i x (by simpa using hi)).2 j y (by simpa using h) (by simpa using hj)
  simp only[List.length_nil,Nat.zero_add] at this
  rcases this with q|q
  ·exact .inl (.inr q)
  ·exact .inr (.inr ⟨q,h⟩)
theorem Ua.tmp (hp:Ua P n ops env H rs) {S:Nat→Bool} (hC:VB ops S) {j:Nat} {o:Oper} (ho:ops[j]? = some o) (hj:S j=false) (hr:∀a∈uw o,S a=true) {t:Nat} (ht:t∈o.looksAt ops):Et ops.toList rs env S ops.size t=xU t (JK ops.toList rs env j):=by
 have hjs:j<ops.size:=by
  rcases Nat.lt_or_ge j ops.size with h|h
  ·exact h
  ·rw[Array.getElem?_eq_none h] at ho;cases ho
 rw[←zg9 hp.at_ j (by simp;omega),←zmr ops.size (by omega)]
 refine Um _ λi hi hd=>?_
 have hio:ops[i]? = some ops[i]:=Array.getElem?_eq_getElem hi
 have hil:ops.toList[i]? = some ops[i]:=by rw[Array.getElem?_toList];exact hio
 rw[JI hil] at hd
 by_cases e:i=j
 ·subst e;rw[hj];simp[upto]
 ·rcases hp.cmp hio ho e with h|⟨h,_⟩|⟨h,_⟩
  ·exact hp.before hC ho hj hr hi e h
  ·exact absurd ht ((Oper.apart_spec h).1 t hd)
  ·exact absurd ht ((Oper.apart_spec h).2.2 t hd)
theorem Qz (a b:List Nat × List Nat):UE a b=true↔(∃x∈a.2,x∈b.1)∨(∃x∈a.2,x∈b.2)∨∃x∈b.2,x∈a.1:=by
 simp only[UE,Bool.or_eq_true,zgy,or_assoc]
theorem J9 (r:Rec):(V8 r.entry).2=r.wr:=by unfold V8 Rec.entry;split<;>rfl
theorem zqR {r:Rec} (h:r.lt=none):(V8 r.entry).1=r.rd:=by unfold V8 Rec.entry;dsimp only;rw[h]
theorem Ua.objB (hp:Ua P n ops env H rs) {S:Nat→Bool} (hC:VB ops S) {j:Nat} {o:Oper} (ho:ops[j]? = some o) (hj:S j=false) (hr:∀a∈uw o,S a=true) {id:Nat} (hid:id∈(recAt rs j).rd∨id∈(recAt rs j).wr) {i:Nat} (h:i<j) (hw:id∈(recAt rs i).wr):S i=upto j i:=by
 have hjs:j<ops.size:=by
  rcases Nat.lt_or_ge j ops.size with h|h
  ·exact h
  ·rw[Array.getElem?_eq_none h] at ho;cases ho
 refine hp.before hC ho hj hr (by omega) (by omega) (.inl (hp.mem i j h hjs ((Qz _ _).2 ?_)))
 rcases hid with q|q
 ·exact .inl ⟨id,by rw[J9];exact hw,q⟩
 ·exact .inr (.inl ⟨id,by rw[J9];exact hw,q⟩)
theorem Ua.obj (hp:Ua P n ops env H rs) {S:Nat→Bool} (hC:VB ops S) {j:Nat} {o:Oper} (ho:ops[j]? = some o) (hj:S j=false) (hr:∀a∈uw o,S a=true) {id:Nat} (hid:(id∈(recAt rs j).rd∧(recAt rs j).lt=none)∨id∈(recAt rs j).wr) {i:Nat} (hi:i<ops.size) (hw:id∈(recAt rs i).wr):S i=upto j i:=by
 by_cases e:i=j
 ·subst e;rw[hj];simp[upto]
 rcases Nat.lt_or_gt_of_ne e with h|h
 ·exact hp.objB hC ho hj hr (hid.imp_left And.left) h hw
 ·refine hp.before hC ho hj hr hi e (.inr (hp.mem j i h hi ((Qz _ _).2 ?_)))
  rcases hid with⟨q,ql⟩|q
  ·exact .inr (.inr ⟨id,hw,by rw[zqR ql];exact q⟩)
  ·exact .inr (.inl ⟨id,by rw[J9];exact q,hw⟩)
theorem Ua.objs (hp:Ua P n ops env H rs) {S:Nat→Bool} (hC:VB ops S) {j:Nat} {o:Oper} (ho:ops[j]? = some o) (hj:S j=false) (hr:∀a∈uw o,S a=true) {id:Nat} (hid:(id∈(recAt rs j).rd∧(recAt rs j).lt=none)∨id∈(recAt rs j).wr):Gt rs H S ops.size id=(uB rs H j)[id]?:=by
 have hjs:j<ops.size:=by
  rcases Nat.lt_or_ge j ops.size with h|h
  ·exact h
  ·rw[Array.getElem?_eq_none h] at ho;cases ho
 rw[←zid hp.at_ j (by simp;omega),←zhV ops.size (by omega)]
 exact WX _ λi hi hw=>hp.obj hC ho hj hr hid hi hw
theorem Ua.cell (hp:Ua P n ops env H rs) {S:Nat→Bool} (hC:VB ops S) {j:Nat} {o:Oper} (ho:ops[j]? = some o) (hj:S j=false) (hr:∀a∈uw o,S a=true) {id k:Nat} (hl:(recAt rs j).lt=some (id,k)) (hrd:(recAt rs j).rd=[id])
  (h0:∃m cs,(uB rs H j)[id]? = some (.row m cs)∧cs[k]? = some (recAt rs j).d):∃m cs,Gt rs H S ops.size id=some (.row m cs)∧cs[k]? = some (recAt rs j).d:=by
 have hjs:j<ops.size:=by
  rcases Nat.lt_or_ge j ops.size with h|h
  ·exact h
  ·rw[Array.getElem?_eq_none h] at ho;cases ho
 have key:∀x,j+x≤ops.size→∃m cs,Gt rs H S (j+x) id=some (.row m cs)∧cs[k]? = some (recAt rs j).d:=λx=>by
  induction x with
  | zero =>
   intro _
   have:Gt rs H S j id=(uB rs H j)[id]?:=by
    rw[←zid hp.at_ j (by simp;omega),←zhV j (Nat.le_refl _)]
    exact WX _ λi hi hw=>hp.objB hC ho hj hr (.inl (by rw[hrd];simp)) hi hw
   rw[Nat.add_zero,this]
   exact h0
  | succ x ih =>
   intro hx
   rw[←Nat.add_assoc]
   simp only[Gt]
   split
   ·rename_i q
    by_cases e:x=0
    ·subst e;rw[Nat.add_zero] at q;rw[hj] at q;exact absurd q.1 (by simp)
    ·rcases hp.lite j id k hl (j+x) (by omega) (by omega) q.2 with r|r
     ·exfalso
      have hio:ops[j+x]? = some ops[j+x]:=Array.getElem?_eq_getElem (by omega)
      obtain⟨_,q2⟩:=zet hp.reg (j+x) _ hio j r
      have:=q2 S hC (hC (j+x) _ hio q.1)
      rw[hj] at this;cases this
     ·exact r
   ·exact ih (by omega)
 have:=key (ops.size-j) (by omega)
 rwa [show j+(ops.size-j)=ops.size by omega] at this
def plus (S:Nat→Bool) (j:Nat):Nat→Bool:=λi=>S i||decide (i=j)
theorem zm3 {l:List Oper} {S:Nat→Bool} {j t:Nat} (hj:S j=false) (hlater:∀i,j<i→S i=true→X2 l i=some t→X2 l j≠some t):∀k,Et l rs env (plus S j) k t=if j<k∧X2 l j=some t then (recAt rs j).d else Et l rs env S k t
 | 0=>rfl
 | k+1=>by
  simp only[Et]
  rw[zm3 hj hlater k]
  by_cases e:k=j
  ·subst e
   by_cases hd:X2 l k=some t
   ·rw[if_pos ⟨by simp[plus],hd⟩,if_pos ⟨by omega,hd⟩]
   ·rw[if_neg (λq=>hd q.2),if_neg (λq=>hd q.2),if_neg (λq=>hd q.2),if_neg (λq=>hd q.2)]
  ·have hS:plus S j k=S k:=by simp[plus,e]
   rw[hS]
   by_cases hk:S k=true∧X2 l k=some t
   ·rw[if_pos hk,if_pos hk]
    rw[if_neg]
    rintro⟨q1,q2⟩
    exact hlater k (by omega) hk.1 hk.2 q2
   ·rw[if_neg hk,if_neg hk]
    by_cases hd:j<k∧X2 l j=some t
    ·rw[if_pos hd,if_pos ⟨by omega,hd.2⟩]
    ·rw[if_neg hd,if_neg (λq=>hd ⟨by omega,q.2⟩)]
theorem zmN {S:Nat→Bool} {j id:Nat} (hj:S j=false) (hlater:∀i,j<i→S i=true→id∈(recAt rs i).wr→id ∉ (recAt rs j).wr):∀k,Gt rs H (plus S j) k id=if j<k∧id∈(recAt rs j).wr then (recAt rs j).H2[id]? else Gt rs H S k id
 | 0=>rfl
 | k+1=>by
  simp only[Gt]
  rw[zmN hj hlater k]
  by_cases e:k=j
  ·subst e
   by_cases hd:id∈(recAt rs k).wr
   ·rw[if_pos ⟨by simp[plus],hd⟩,if_pos ⟨by omega,hd⟩]
   ·rw[if_neg (λq=>hd q.2),if_neg (λq=>hd q.2),if_neg (λq=>hd q.2),if_neg (λq=>hd q.2)]
  ·have hS:plus S j k=S k:=by simp[plus,e]
   rw[hS]
   by_cases hk:S k=true∧id∈(recAt rs k).wr
   ·rw[if_pos hk,if_pos hk]
    rw[if_neg]
    rintro⟨q1,q2⟩
    exact hlater k (by omega) hk.1 hk.2 q2
   ·rw[if_neg hk,if_neg hk]
    by_cases hd:j<k∧id∈(recAt rs j).wr
    ·rw[if_pos hd,if_pos ⟨by omega,hd.2⟩]
    ·rw[if_neg hd,if_neg (λq=>hd ⟨by omega,q.2⟩)]
theorem Ua.step (hp:Ua P n ops env H rs) {J0:yX} {F0:Nat→Prop} {w0:World} {S:Nat→Bool} {J:yX} {F:Nat→Prop} {a:Act} {w:World} (hv:Inv P n ops env H rs J0 F0 w0 S J F a w) {j:Nat} {o:Oper} (ho:ops[j]? = some o) (hj:S j=false) (hr:∀a∈uw o,S a=true)
  {K:Act→World→Prop} {Q:Exit→Act→World→Prop} (hK:∀J' F' a' w',Inv P n ops env H rs J0 F0 w0 (plus S j) J' F' a' w'→K a' w') :
  if Region.wanted o (yielded ops a.tmps) then o.wp P a w K Q else K (a.put o.dst undef) w:=by
 have hjs:j<ops.size:=by
  rcases Nat.lt_or_ge j ops.size with h|h
  ·exact h
  ·rw[Array.getElem?_eq_none h] at ho;cases ho
 have hjl:ops.toList[j]? = some o:=by simpa using ho
 obtain⟨r,hr1,hr2⟩:=hp.at_ j o hjl
 have hrec:recAt rs j=r:=WN hr1
 have hdst:X2 ops.toList j=o.dst:=JI hjl
 have hclosed:VB ops (plus S j):=λi x hx hi b hb=>by
  simp only[plus,Bool.or_eq_true,decide_eq_true_eq] at hi ⊢
  rcases hi with hi|rfl
  ·exact .inl (hv.closed i x hx hi b hb)
  ·rw[ho] at hx;cases hx
   exact .inl (hr b hb)
 have hlaterT:∀t i,j<i→S i=true→X2 ops.toList i=some t→X2 ops.toList j≠some t:=λt i hi hS hd hd'=>by
  have his:i<ops.size:=by
   rcases Nat.lt_or_ge i ops.size with h|h
   ·exact h
   ·rw[X2,List.getElem?_eq_none (by simpa using h)] at hd;cases hd
  have hio:ops[i]? = some ops[i]:=Array.getElem?_eq_getElem his
  have hil:ops.toList[i]? = some ops[i]:=by rw[Array.getElem?_toList];exact hio
  rw[JI hil] at hd
  rw[hdst] at hd'
  rcases hp.cmp hio ho (by omega) with h|⟨h,h'⟩|⟨h,_⟩
  ·have:=hp.before hv.closed ho hj hr his (by omega) h
   rw[hS] at this
   simp[upto] at this
   omega
  ·omega
  ·exact(Oper.apart_spec h).2.1 t hd' hd
 have hlaterG:∀id i,j<i→S i=true→id∈(recAt rs i).wr→id ∉ (recAt rs j).wr:=λid i hi hS hw hw'=>by
  by_cases his:i<ops.size
  ·have:=hp.obj hv.closed ho hj hr (.inr hw') his hw
   rw[hS] at this
   simp[upto] at this
   omega
  ·have e:rs[i]? = none:=List.getElem?_eq_none (by rw[hp.len];omega)
   simp[recAt,e] at hw
   cases hw
 -- the new state
 have mk:∀(v:Value) (J':yX) (F':Nat→Prop) (w':World),rep J' F' w' r.d v→yZ J' F' w' (Jy (Gt rs H S ops.size) r.wr r.H2)→Ext J F w J' F' w'→(∀id,J id=none→id ∉ r.wr→J' id=none)→Inv P n ops env H rs J0 F0 w0 (plus S j) J' F' (a.put o.dst v) w':=λv J' F' w' q1 q2 q3 q4=>by
  refine⟨hclosed,?_,?_,λt=>?_,?_,hv.ext.trans q3,λid hid=>?_⟩
  ·cases o.dst<;>exact hv.defers
  ·cases o.dst<;>simp[Act.put,hv.size]
  ·rw[zm3 hj (hlaterT t)]
   rw[hdst,hrec]
   cases hd:o.dst with
   | none=>rw[if_neg (by simp)];exact zcQ q3 (hv.tmps t)
   | some u =>
    simp only[hjs,true_and,Option.some.injEq,Act.put]
    rw[zji _ _ _ _ (by rw[hv.size];exact hr2.1 u hd)]
    by_cases e:t=u
    ·rw[if_pos e.symm,if_pos e];exact q1
    ·rw[if_neg (λq=>e q.symm),if_neg e];exact zcQ q3 (hv.tmps t)
  ·have:Gt rs H (plus S j) ops.size=Jy (Gt rs H S ops.size) r.wr r.H2:=by
    funext id
    rw[zmN hj (hlaterG id)]
    simp only[hjs,true_and,hrec,Jy]
   rw[this];exact q2
  ·by_cases h1:J id=none
   ·by_cases h2:id∈r.wr
    ·exact .inr ⟨j,hjs,by simp[plus],by rw[hrec];exact h2⟩
    ·exact absurd (q4 id h1 h2) hid
   ·rcases hv.dom id h1 with q|⟨i,i1,i2,i3⟩
    ·exact .inl q
    ·exact .inr ⟨i,i1,by simp[plus,i2],i3⟩
 have opnd:∀x∈o.op.operands,rep J F w (xi (JK ops.toList rs env j) x) (a.eval x):=λx hx=>by
  ·cases x with
   | tmp t =>
    have ht:t∈o.looksAt ops:=by
     unfold Oper.looksAt
     refine List.mem_append.2 (.inl (List.mem_filterMap.2 ⟨.tmp t,by simpa using hx,rfl⟩))
    have:=hv.tmps t
    rw[hp.tmp hv.closed ho hj hr ht] at this
    exact this
   | const v =>
    cases v<;>simp only[xi,lift,Act.eval,rep]
    rename_i cs
    exact⟨cs.toList,by simp,Qh cs.toList⟩
   | global g=>exact zjN hv.ok.lt g
   | func f=>simp only[xi,Act.eval,rep];exact⟨[],[],rfl,by simp only[yf],by simp only[yf]⟩
 have exec:OpS P o (JK ops.toList rs env j) r.rd r.wr (uB rs H j) r.d r.H2→o.wp P a w K Q:=λhs=>by
  cases hlt:r.lt with
  | some q =>
   obtain⟨id,k⟩:=q
   obtain⟨e1,e2,e3,e4,e5⟩:=hr2.2.2.1 id k hlt
   obtain⟨m,cs,c1,c2⟩:=hp.cell hv.closed ho hj hr (by rw[hrec];exact hlt) (by rw[hrec];exact e1) (by rw[hrec];exact e4)
   rw[hrec] at c2
   obtain⟨m0,cs0,c3,_⟩:=e4
   have hidl:id<(uB rs H j).length:=by
    rcases Nat.lt_or_ge id (uB rs H j).length with h|h
    ·exact h
    ·rw[List.getElem?_eq_none h] at c3;cases c3
   have hset:((uB rs H j).set id (.row m cs))[id]? = some (.row m cs):=by rw[List.getElem?_set];simp[hidl]
   refine(e5 _ m cs hset c2).run J F w a _ hv.ok opnd (λi hi=>?_) (λi hi hw=>by cases hw) K Q λv w' J' F' q1 q2 q3 q4=>hK _ _ _ _ (mk v J' F' w' q1 (by rw[VJ] at q2;rw[e2,VJ];exact q2) q3 λi h1 _=>q4 i h1 (by simp))
   rcases hi with hi|hi
   ·rw[List.mem_singleton] at hi;subst hi;rw[c1,hset]
   ·cases hi
  | none =>
   refine hs.run J F w a _ hv.ok opnd (λid hid=>by rw[←hrec] at hid;exact hp.objs hv.closed ho hj hr (hid.imp_left λh=>⟨h,by rw[hrec];exact hlt⟩)) (λid hid hw=>?_) K Q λv w' J' F' q1 q2 q3 q4=>hK _ _ _ _ (mk v J' F' w' q1 q2 q3 q4)
   ·cases e:J id with
    | none=>rfl
    | some s =>
     rcases hv.dom id (by rw[e];simp) with q|⟨i,i1,i2,i3⟩
     ·have:=J4 hp.at_ j 0 (by omega) (by simp;omega)
      simp only[uB] at this
      omega
     ·have h1:=hp.obj hv.closed ho hj hr (.inr (by rw[hrec];exact hw)) i1 i3
      rw[i2] at h1
      have hij:i<j:=by simpa [upto] using h1.symm
      have:=zwm hp.at_ hij (by simp;omega) i3
      omega
 rcases hr2.2.2.2 with⟨g1,g2⟩|⟨g,b,t,c,g1,g2,g3,g4⟩
 ·rw[if_pos (by simp[Region.wanted,g1])]
  exact exec g2
 ·have ht:t∈o.looksAt ops:=by
   unfold Oper.looksAt
   refine List.mem_append.2 (.inr ?_)
   rw[g1]
   simp only[g2,Option.toList_some,List.mem_singleton]
  have h3:=hv.tmps t
  rw[hp.tmp hv.closed ho hj hr ht,g3] at h3
  simp only[rep] at h3
  rcases g4 with⟨rfl,g4⟩|⟨hne,rfl⟩
  ·rw[if_pos (zoc g1 g2 h3)]
   exact exec g4
  ·rw[if_neg (by rw[zek g1 g2 (by rw[h3];exact hne)];simp)]
   exact hK _ _ _ _ (mk undef J F w (by simp only[rep]) (by rw[VJ];exact hv.ok) (Ext.refl _ _ _) λ_ h _=>h)
theorem zdl {listed:Array Bool} {j:Nat} (h:j∈Region.ready .any ops listed):∃o,ops[j]? = some o∧listed.getD j true=false∧∀a∈uw o,listed.getD a false=true:=by
 obtain⟨h1,o,h2,h3⟩:=mem_ready.1 h
 refine⟨o,h2,h1,λa ha=>?_⟩
 unfold uw at ha
 obtain⟨e,he,rfl⟩:=List.mem_map.1 ha
 obtain⟨he1,he2⟩:=List.mem_filter.1 he
 exact h3 e (by simpa using he1) he2
def Zz (listed:Array Bool):Nat→Bool:=λi=>listed.getD i false
theorem zit {listed:Array Bool} {j:Nat} (hj:j<listed.size):Zz (listed.setIfInBounds j true)=plus (Zz listed) j:=by
 funext i
 simp only[Zz,plus,Array.getD_eq_getD_getElem?]
 by_cases e:i=j
 ·subst e;simp[Array.getElem?_setIfInBounds,hj]
 ·rw[Array.getElem?_setIfInBounds_ne (λq=>e q.symm)];simp[e]
def missing (listed:Array Bool):Nat:=(List.range listed.size).countP λi=>!listed.getD i false
theorem zkY {listed:Array Bool} (hreg:zde ops (qg [] ops.toList) [] ops.toList=true) (hs:listed.size=ops.size) (h:Region.ready .any ops listed=[]):∀i,i<ops.size→listed.getD i false=true:=by
 intro i
 induction i using Nat.strongRecOn with
 | _ i ih =>
  intro hi
  cases e:listed.getD i false with
  | true=>rfl
  | false =>
   have hio:ops[i]? = some ops[i]:=Array.getElem?_eq_getElem hi
   have hil:ops.toList[i]? = some ops[i]:=by rw[Array.getElem?_toList];exact hio
   have hlt:=(X4 ops.toList [] hreg i _ hil).1
   simp only[List.length_nil,Nat.zero_add] at hlt
   have:i∈Region.ready .any ops listed:=by
    refine mem_ready.2 ⟨?_,_,hio,λed hed hb=>?_⟩
    ·have:i<listed.size:=by omega
     simp only[Array.getD_eq_getD_getElem?,Array.getElem?_eq_getElem this,Option.getD_some] at e ⊢
     exact e
    ·have ha:ed.on∈uw ops[i]:=List.mem_map.2 ⟨ed,List.mem_filter.2 ⟨by simpa using hed,hb⟩,rfl⟩
     exact ih _ (hlt _ ha) (by have:=hlt _ ha;omega)
   rw[h] at this;cases this
theorem zsL (hp:Ua P n ops env H rs) {J0:yX} {F0:Nat→Prop} {w0:World} {Q:Exit→Act→World→Prop}
  (hQ:∀J F a w,Inv P n ops env H rs J0 F0 w0 (λ_=>true) J F a w→Q .normal a w):∀(fuel:Nat) (listed:Array Bool) (J:yX) (F:Nat→Prop) (a:Act) (w:World),listed.size=ops.size→missing listed≤fuel→Inv P n ops env H rs J0 F0 w0 (Zz listed) J F a w→wpAny P .any ops Q fuel listed a w:=by
 have done:∀(listed:Array Bool) (J:yX) (F:Nat→Prop) (a:Act) (w:World),listed.size=ops.size→(∀i,i<ops.size→listed.getD i false=true)→Inv P n ops env H rs J0 F0 w0 (Zz listed) J F a w→Q .normal a w:=λlisted J F a w hs hall hv=>by
  refine hQ J F a w ⟨λ_ _ _ _ _ _=>rfl,hv.defers,hv.size,λt=>?_,?_,hv.ext,λid hid=>(hv.dom id hid).imp_right λ⟨i,i1,_,i3⟩=>⟨i,i1,rfl,i3⟩⟩
  ·have:=hv.tmps t
   have e:Et ops.toList rs env (Zz listed) ops.size t=Et ops.toList rs env (λ_=>true) ops.size t:=Um ops.size λi hi _=>hall i hi
   rwa [e] at this
  ·have e:Gt rs H (Zz listed) ops.size=Gt rs H (λ_=>true) ops.size:=funext λid=>WX ops.size λi hi _=>hall i hi
   have:=hv.ok
   rwa [e] at this
 have key:∀(listed:Array Bool) (j:Nat),listed.size=ops.size→j∈Region.ready .any ops listed→j<ops.size∧listed.getD j false=false:=λlisted j hs hj=>by
  obtain⟨o,h1,h2,_⟩:=zdl hj
  have hjs:j<ops.size:=by
   rcases Nat.lt_or_ge j ops.size with h|h
   ·exact h
   ·rw[Array.getElem?_eq_none h] at h1;cases h1
  refine⟨hjs,?_⟩
  have:j<listed.size:=by omega
  simp only[Array.getD_eq_getD_getElem?,Array.getElem?_eq_getElem this,Option.getD_some] at h2 ⊢
  exact h2
 intro fuel
 induction fuel with
 | zero =>
  intro listed J F a w hs hm hv
  have hall:∀i,i<ops.size→listed.getD i false=true:=λi hi=>by
   have h0:missing listed=0:=by omega
   unfold missing at h0
   rw[List.countP_eq_zero] at h0
   have:=h0 i (by simp;omega)
   simpa using this
  refine⟨?_,done listed J F a w hs hall hv⟩
  cases e:Region.ready .any ops listed with
  | nil=>rfl
  | cons j r =>
   obtain⟨q1,q2⟩:=key listed j hs (by rw[e];simp)
   rw[hall j q1] at q2;cases q2
 | succ fuel ih =>
  intro listed J F a w hs hm hv
  refine⟨λh=>done listed J F a w hs (zkY hp.reg hs h) hv,λj hj=>?_⟩
  obtain⟨o,h1,h2,h3⟩:=zdl hj
  obtain⟨q1,q2⟩:=key listed j hs hj
  have hm':missing (listed.setIfInBounds j true)≤fuel:=by
   have hlt:missing (listed.setIfInBounds j true)<missing listed:=by
    unfold missing
    rw[Array.size_setIfInBounds]
    have hmem:j∈List.range listed.size:=by simp;omega
    obtain⟨l1,l2,hl⟩:=List.append_of_mem hmem
    have hnd:(List.range listed.size).Nodup:=List.nodup_range
    rw[hl] at hnd ⊢
    have hne1:∀x∈l1,x≠j:=λx hx e=>by
     subst e
     rw[List.nodup_append] at hnd
     exact hnd.2.2 x hx x (by simp) rfl
    have hne2:∀x∈l2,x≠j:=λx hx e=>by
     subst e
     rw[List.nodup_append] at hnd
     have:=hnd.2.1
     simp at this
     exact this.1 hx
    have hset:∀x,x≠j→(listed.setIfInBounds j true).getD x false=listed.getD x false:=λx hx=>by
     simp only[Array.getD_eq_getD_getElem?]
     rw[Array.getElem?_setIfInBounds_ne (λq=>hx q.symm)]
    rw[List.countP_append,List.countP_append,List.countP_cons,List.countP_cons]
    have c1:l1.countP (λi=>!(listed.setIfInBounds j true).getD i false)=l1.countP (λi=>!listed.getD i false):=List.countP_congr λx hx=>by rw[hset x (hne1 x hx)]
    have c2:l2.countP (λi=>!(listed.setIfInBounds j true).getD i false)=l2.countP (λi=>!listed.getD i false):=List.countP_congr λx hx=>by rw[hset x (hne2 x hx)]
    rw[c1,c2,q2]
    have:(listed.setIfInBounds j true).getD j false=true:=by
     simp only[Array.getD_eq_getD_getElem?]
     simp[Array.getElem?_setIfInBounds,show j<listed.size by omega]
    rw[this]
    simp
   omega
  have st:=hp.step hv h1 (by simpa [Zz] using q2) (by simpa [Zz] using h3) (K:=wpAny P .any ops Q fuel (listed.setIfInBounds j true)) (Q:=Q) λJ' F' a' w' hv'=>ih _ J' F' a' w' (by simp[hs]) hm' (by rw[zit (by omega)];exact hv')
  unfold wpOp
  simp only[h1]
  split
  ·rename_i hw;rw[if_pos hw] at st;exact .inl st
  ·rename_i hw;rw[if_neg hw] at st;exact st
theorem ziX {l:List yy} {Q:Exit→Act→World→Prop} {K':Env→List zf→Prop} (h:zcS P l env H K') {id:Nat} (hc:JE P n ops true=some l) {J:yX} {F:Nat→Prop} {a:Act} {w:World} (hr:wZ n J F env H a w)
  (hQ:∀env' H' J' F' a' w',K' env' H'→wZ n J' F' env' H' a' w'→Ext J F w J' F' w'→Q .normal a' w'):(Code.region id ops true).wp P Q a w:=by
 simp only[JE] at hc
 split at hc
 ·rename_i hb
  rw[Bool.and_eq_true] at hb
  unfold zcS at h
  obtain⟨rs,env',H',h1,h2,h3⟩:=zfT ops.toList _ l hc env H _ h
  obtain⟨r1,r2,r3,r4⟩:=h1.at
  have hlen:rs.length=ops.size:=by simpa using r1
  have hllen:l.length=ops.size:=by rw[zdq _ _ _ hc];simp
  have ent:∀i,i<ops.size→(rs.map Rec.entry)[i]? = some (recAt rs i).entry:=λi hi=>by
   have e1:=List.getElem?_eq_getElem (show i<rs.length by omega)
   rw[List.getElem?_map,e1,WN e1];rfl
  have bit:∀j (hj:j<l.length) i,QI l[j].mask i=true→Bef ops i j:=λj hj i h=>by
   have hm:=zb2 _ _ _ hc j _ (List.getElem?_eq_getElem hj)
   rw[hm] at h
   exact zlf h
  have hsub:∀r:Rec,∀b,UE (V8 r.entry) b=true→UE (r.rd,r.wr) b=true:=λr b h=>by
   rw[Qz] at h ⊢
   rw[J9] at h
   refine h.imp_right λh=>h.imp_right λ⟨x,q1,q2⟩=>⟨x,q1,?_⟩
   unfold V8 at q2
   split at q2
   ·cases q2
   ·exact q2
  have hK:K' env' H'∧Ua P n ops env H rs:=by
   split at h2
   ·rename_i hmem
    have strict:∀i j,i<j→j<ops.size→UE ((recAt rs i).rd,(recAt rs i).wr) ((recAt rs j).rd,(recAt rs j).wr)=true→Bef ops i j:=λi j hij hj hcl=>by
     have hpl:j<l.length:=by omega
     refine bit j hpl i (zeh l [] _ hmem j l[j] (recAt rs j).entry (List.getElem?_eq_getElem hpl) (ent j hj) i ((recAt rs i).rd,(recAt rs i).wr) (by simpa using hij) ?_ hcl)
     rw[List.nil_append,List.getElem?_map,ent i (by omega)];rfl
    exact⟨h2,r4,hlen,hb.2,λi j hij hj hcl=>strict i j hij hj (hsub _ _ hcl),λi id k hl j hij hj hw=>.inl (strict i j hij hj ((Qz _ _).2 (.inr (.inr ⟨id,hw,by
     obtain⟨r,q1,q2⟩:=r4 i _ (List.getElem?_eq_getElem (show i<ops.toList.length by simp;omega))
     rw[WN q1] at hl ⊢
     rw[(q2.2.2.1 id k hl).1];simp⟩))))⟩
   ·split at h2
    ·rename_i hmem
     obtain⟨hk,hw⟩:=UC l _ 0 [] h2 (by simp;omega)
     refine⟨hk,r4,hlen,hb.2,λi j hij hj hcl=>?_,λi id k hl j hij hj hwr=>?_⟩
     ·have hpl:j<l.length:=by omega
      refine bit j hpl i (Ug l [] _ hmem j l[j] (recAt rs j).entry (List.getElem?_eq_getElem hpl) (ent j hj) i (V8 (recAt rs i).entry) (by simpa using hij) ?_ hcl)
      rw[List.nil_append,List.getElem?_map,ent i (by omega)];rfl
     ·have hpl:j<l.length:=by omega
      have:=(hw j l[j] _ _ _ _ (List.getElem?_eq_getElem hpl) (ent j hj)).2 i ((recAt rs i).rd,(recAt rs i).wr) (id,k) (recAt rs i).d (recAt rs i).H2 hij (by rw[ent i (by omega),←hl];rfl)
      rw[Nat.zero_add] at this
      rcases this with q|q|q
      ·exact .inl (bit j hpl i q)
      ·exact absurd hwr q
      ·exact .inr q
    ·exact h2.elim
  obtain⟨h2,hp⟩:=hK
  ·skip
   refine wp_region_any hb.1 (zsL hp (J0:=J) (F0:=F) (w0:=w) (λJ' F' a' w' hv=>?_) _ _ J F a _ (by simp) ?_ ?_)
   ·refine hQ env' H' J' F' a' w' h2 ⟨hv.defers,hv.size,λt=>?_,?_,λi hi=>?_⟩ hv.ext
    ·have:=hv.tmps t
     rw[zg9 hp.at_ _ (by simp)] at this
     rw[←r2]
     simpa using this
    ·have:=hv.ok
     have e:Gt rs H (λ_=>true) ops.size=λi=>H'[i]?:=funext λi=>by
      rw[zid hp.at_ _ (by simp),←r3];simp
     rwa [e] at this
    ·rcases hv.dom i hi with q|⟨k,k1,_,k3⟩
     ·have:=J4 hp.at_ ops.size 0 (by omega) (by simp)
      simp only[uB] at this
      rw[←r3];simp;omega
     ·have:=zwm hp.at_ k1 (by simp) k3
      rw[←r3];simpa using this
   ·unfold missing
    refine Nat.le_trans List.countP_le_length ?_
    simp
   ·have hf:Zz (Array.replicate ops.size false)=λ_=>false:=by
     funext i
     simp only[Zz,Array.getD_eq_getD_getElem?,Array.getElem?_replicate]
     split<;>rfl
    rw[hf]
    have e1:∀k t,Et ops.toList rs env (λ_=>false) k t=xU t env:=λk t=>by
     induction k with
     | zero=>rfl
     | succ k ih=>simp only[Et];rw[if_neg (by simp)];exact ih
    have e2:∀k i,Gt rs H (λ_=>false) k i=H[i]?:=λk i=>by
     induction k with
     | zero=>rfl
     | succ k ih=>simp only[Gt];rw[if_neg (by simp)];exact ih
    have hd:Ext J F w J F { w with drawn:=w.drawn+1 }:=Ext.drew
    refine⟨(λ_ _ _ h=>by cases h),hr.defers,hr.size,λt=>?_,?_,hd,λi hi=>.inl (hr.dom i hi)⟩
    ·rw[e1];exact zcQ hd (hr.tmps t)
    ·have:Gt rs H (λ_=>false) ops.size=λi=>H[i]?:=funext (e2 _)
     rw[this]
     exact hr.ok.drew
 ·cases hc
end
end
section
open Go.RowKit
def zpO (n:Nat) (J:yX) (F:Nat→Prop) (w:World) (Q:qO):Exit→Act→World→Prop:=λe a' w'=>∃env' H' J' F',Q e env' H'∧wZ n J' F' env' H' a' w'∧Ext J F w J' F' w'
section
variable {P:Program} {n:Nat}
theorem qh {p:PC} {Q:qO} {env:Env} {H:List zf} (h:PWp P n p Q env H) {c:Code} (hc:comp P n c=some p.bare) {J:yX} {F:Nat→Prop} {a:Act} {w:World} (hr:wZ n J F env H a w):c.wp P (zpO n J F w Q) a w:=by
 unfold PWp at h
 exact h c hc J F a w hr
theorem YU {p:PC} {Q:qO} {env:Env} {H:List zf} (h:∀(c:Code),comp P n c=some p.bare→∀(J:yX) (F:Nat→Prop) (a:Act) (w:World),wZ n J F env H a w→c.wp P (zpO n J F w Q) a w):PWp P n p Q env H:=by
 unfold PWp
 exact h
theorem zdG {J J':yX} {F F':Nat→Prop} {w w':World} {Q:qO} {e:Exit} {a:Act} {w'':World} (hx:Ext J F w J' F' w') (h:zpO n J' F' w' Q e a w''):zpO n J F w Q e a w'' :=
 let⟨env',H',J'',F'',q1,q2,q3⟩:=h
 ⟨env',H',J'',F'',q1,q2,hx.trans q3⟩
theorem Je {env:Env}:∀(env':Env),V3 env env'→∀t,xU t env'=xU t env∨xU t env'=.xO
 | [],_,t=>.inr rfl
 | (k,d)::r,h,t=>by
  simp only[V3] at h
  rw[qM]
  split
  ·rename_i e;rw[e];exact .inl h.1.symm
  ·exact Je r h.2 t
theorem zbl {env env':Env} {H:List zf} (h:V3 env env'):St.le n env H env' H:=λJ F a w hr =>
 ⟨J,F,⟨hr.defers,hr.size,λt=>by
  rcases Je env' h t with e|e
  ·rw[e];exact hr.tmps t
  ·rw[e];simp only[rep],hr.ok,hr.dom⟩,Ext.refl _ _ _⟩
theorem zoG {c:Code} (h:comp P n c=some .skip):c=.skip:=by
 cases c<;>simp[comp] at h
 ·rfl
 all_goals first|(obtain⟨_,_,h⟩:=h;cases h)|(split at h<;>simp at h)|skip
theorem zr4 {c:Code} {x y:PC} (h:comp P n c=some (.seq x y)):∃a b,c=.seq a b∧comp P n a=some x∧comp P n b=some y:=by
 cases c<;>simp[comp] at h
 case seq a b =>
  split at h
  ·rename_i e1 e2;simp at h;obtain⟨rfl,rfl⟩:=h;exact⟨a,b,rfl,e1,e2⟩
  ·cases h
 all_goals first|(obtain⟨_,_,h⟩:=h;cases h)|(split at h<;>simp at h)
theorem znW {c:Code} {z:Operand} {x y:PC} (h:comp P n c=some (.cond z x y)):∃a b,c=.cond z a b∧comp P n a=some x∧comp P n b=some y:=by
 cases c<;>simp[comp] at h
 case cond z' a b =>
  split at h
  ·rename_i e1 e2;simp at h;obtain⟨rfl,rfl,rfl⟩:=h;exact⟨a,b,rfl,e1,e2⟩
  ·cases h
 all_goals first|(obtain⟨_,_,h⟩:=h;cases h)|(split at h<;>simp at h)
theorem zk9 {c:Code} {id:Nat} {x:PC} (h:comp P n c=some (.block id x)):∃a,c=.block id a∧comp P n a=some x:=by
 cases c<;>simp[comp] at h
 case block id' a=>obtain⟨h1,rfl⟩:=h;exact⟨a,rfl,h1⟩
 all_goals first|(split at h<;>simp at h)
theorem zg2 {c:Code} {x:PC} (h:comp P n c=some (.loop x)):∃a,c=.loop a∧comp P n a=some x:=by
 cases c<;>simp[comp] at h
 case loop a=>exact⟨a,rfl,h⟩
 all_goals first|(split at h<;>simp at h)
theorem znP {c:Code} {id:Nat} (h:comp P n c=some (.exit id)):c=.exit id:=by
 cases c<;>simp[comp] at h
 case exit id'=>rw[h]
 all_goals first|(split at h<;>simp at h)
theorem zqs {c:Code} (h:comp P n c=some .ret):c=.ret:=by
 cases c<;>simp[comp] at h
 ·first|rfl|(split at h<;>simp at h)
 all_goals first|rfl|(split at h<;>simp at h)
theorem zso {c:Code} {l:List yy} {d:Bool} (h:comp P n c=some (.ops l d)):∃id ops,c=.region id ops d∧JE P n ops d=some l:=by
 cases c<;>simp[comp] at h
 case region id ops d'=>obtain⟨l',h1,rfl,rfl⟩:=h;exact⟨id,ops,rfl,h1⟩
 all_goals first|(split at h<;>simp at h)
theorem zk4 {l:List yy} {Q:qO} {env:Env} {H:List zf} (h:zcS P l env H λenv H=>Q .normal env H) {id:Nat} {ops:Array Oper} (hc:JE P n ops true=some l) {J:yX} {F:Nat→Prop} {a:Act} {w:World} (hr:wZ n J F env H a w) :
  (Code.region id ops true).wp P (zpO n J F w Q) a w:=ziX h hc hr λenv' H' J' F' a' w' q1 q2 q3=>⟨env',H',J',F',q1,q2,q3⟩
theorem W4:∀(p:PC) (Q:qO) (env:Env) (H:List zf),pw P n p Q env H→PWp P n p Q env H
 | .skip,Q,env,H,h=>YU λc hc J F a w hr=>by
  rw[zoG hc]
  exact wp_skip ⟨env,H,J,F,h,hr,Ext.refl _ _ _⟩
 | .ops l d,Q,env,H,h=>YU λc hc J F a w hr=>by
  obtain⟨id,ops,rfl,h1⟩:=zso hc
  cases d with
  | false =>
   refine wp_region ?_
   rw[List.range_eq_range']
   have:=zah (P:=P) (ops:=ops) (Q:=zpO n J F w Q) ops.toList 0 [] l (λj=>by simp) h1 env H J F a w h hr λenv' H' J' F' a' w' q1 q2 q3=>⟨env',H',J',F',q1,q2,q3⟩
   simpa using this
  | true=>exact zk4 h h1 hr
 | .seq x y,Q,env,H,h=>YU λc hc J F a w hr=>by
  obtain⟨a',b',rfl,h1,h2⟩:=zr4 hc
  refine wp_seq (wp_mono (qh (W4 x _ env H h) h1 hr) λe a1 w1 ⟨env',H',J',F',q1,q2,q3⟩=>?_)
  cases e with
  | normal=>exact wp_mono (qh (W4 y Q env' H' q1) h2 q2) λe a2 w2 q=>zdG q3 q
  | _=>exact⟨env',H',J',F',q1,q2,q3⟩
 | .cond z x y,Q,env,H,h=>YU λc hc J F a w hr=>by
  obtain⟨a',b',rfl,h1,h2⟩:=znW hc
  simp only[pw,yN] at h
  split at h
  ·rename_i t e
   have hz:=hr.eval z
   rw[e] at hz
   simp only[rep] at hz
   obtain⟨k1,k2⟩:=zav.1 h
   refine wp_cond hz ?_
   cases t with
   | true=>exact qh (W4 x Q env H (k1 rfl)) h1 hr
   | false=>exact qh (W4 y Q env H (k2 rfl)) h2 hr
  ·exact h.elim
 | .block id x,Q,env,H,h=>YU λc hc J F a w hr=>by
  obtain⟨a',rfl,h1⟩:=zk9 hc
  refine wp_block (wp_mono (qh (W4 x _ env H h) h1 hr) λe a1 w1 ⟨env',H',J',F',q1,q2,q3⟩=>?_)
  cases e with
  | exit id' =>
   simp only[Exit.inBlock]
   by_cases e:id'=id
   ·subst e
    rw[if_pos rfl]
    have hb:Nat.beq id' id'=true:=by simp
    simp only[hb] at q1
    exact⟨env',H',J',F',q1,q2,q3⟩
   ·rw[if_neg e]
    have hb:Nat.beq id' id=false:=by
     cases h:Nat.beq id' id
     ·rfl
     ·exact absurd (Nat.eq_of_beq_eq_true h) e
    simp only[hb] at q1
    exact⟨env',H',J',F',q1,q2,q3⟩
  | _=>exact⟨env',H',J',F',q1,q2,q3⟩
 | .loop x,Q,env,H,h=>h
 | .exit id,Q,env,H,h=>YU λc hc J F a w hr=>by
  rw[znP hc]
  exact wp_exit ⟨env,H,J,F,h,hr,Ext.refl _ _ _⟩
 | .ret,Q,env,H,h=>YU λc hc J F a w hr=>by
  rw[zqs hc]
  exact wp_ret ⟨env,H,J,F,h,hr,Ext.refl _ _ _⟩
 | .stop x,Q,env,H,h=>YU λc hc J F a w hr=>qh h hc hr
theorem zdS {p:PC} {Q:qO} {env:Env} {H:List zf} {ι:Type} (E:ι→Env) (O:ι→List zf) (G:ι→Prop) (m:ι→Nat) (i:ι) (h0:G i) (h1:St.le n env H (E i) (O i))
  (round:∀j,G j→PWp P n p (zBI n Q E O G m (m j)) (E j) (O j)):PWp P n (.loop p) Q env H:=YU λc hc J F a w hr=>by
 obtain⟨c',rfl,hc'⟩:=zg2 hc
 obtain⟨J0,F0,k1,k2⟩:=h1 J F a w hr
 refine wp_loop_ghost (λk a' w'=>∃j J' F',G j∧m j=k∧wZ n J' F' (E j) (O j) a' w'∧Ext J F w J' F' w') (m i) ⟨i,J0,F0,h0,rfl,k1,k2⟩ λk a1 w1 ⟨j,J1,F1,g1,g2,g3,g4⟩=>?_
 refine wp_mono (qh (round j g1) hc' g3) λe a2 w2 ⟨env',H',J',F',q1,q2,q3⟩=>?_
 cases e with
 | normal =>
  obtain⟨j',r1,r2,r3⟩:=q1
  obtain⟨J2,F2,t1,t2⟩:=r3 J' F' a2 w2 q2
  exact⟨m j',by omega,j',J2,F2,r1,rfl,t1,(g4.trans q3).trans t2⟩
 | _=>exact⟨env',H',J',F',q1,q2,g4.trans q3⟩
theorem zb6:∀(args:List D) (k t:Nat),xU t (params k args)=if k≤t then (args[t-k]?).getD .xO else .xO
 | [],k,t=>by simp[params,xU]
 | d::r,k,t=>by
  simp only[params]
  rw[qM,zb6 r (k+1) t]
  by_cases h1:t=k
  ·subst h1;simp
  ·rw[if_neg h1]
   by_cases h2:k+1≤t
   ·rw[if_pos h2,if_pos (by omega),show t-k=t-(k+1)+1 by omega,List.getElem?_cons_succ]
   ·rw[if_neg h2,if_neg (by omega)]
section
variable {J J':yX} {F:Nat→Prop} {w:World}
mutual
theorem JD:∀(d:D) (v:Value),Pure d→rep J F w d v→rep J' F w d v
 | .xO,v,_,_=>by simp only[rep]
 | .sc u,v,_,h=>by simpa only[rep] using h
 | .gv u,v,_,h=>by simpa only[rep] using h
 | .loc ..,v,hp,_=>by simp only[Pure] at hp
 | .elt ..,v,hp,_=>by simp only[Pure] at hp
 | .own ..,v,hp,_=>by simp only[Pure] at hp
 | .y7 cs,v,hp,h=>by
  simp only[Pure] at hp
  simp only[rep] at h ⊢
  obtain⟨b,o,h1,h2,h3⟩:=h
  exact⟨b,o,h1,h2,Jx b cs o hp h3⟩
 | .xj zH xs,v,hp,h=>by
  simp only[Pure] at hp
  simp only[rep] at h ⊢
  obtain⟨A,n,c,h1,h2,hc,h3⟩:=h
  exact⟨A,n,c,h1,h2,hc,h3.imp_right λ⟨b,o,h4,h5,h6⟩=>⟨b,o,h4,h5,zfU b zH xs o hp h6⟩⟩
 | .fn f a b,v,hp,h=>by
  simp only[Pure] at hp
  simp only[rep] at h ⊢
  obtain⟨vs,us,h1,h2,h3⟩:=h
  exact⟨vs,us,h1,Xd a vs hp.1 h2,Xd b us hp.2 h3⟩
 | .ifc t d,v,hp,h=>by
  simp only[Pure] at hp
  simp only[rep] at h ⊢
  obtain⟨u,h1,h2⟩:=h
  exact⟨u,h1,JD d u hp h2⟩
 | .agg cs,v,hp,h=>by
  simp only[Pure] at hp
  simp only[rep] at h ⊢
  obtain⟨vs,h1,h2⟩:=h
  exact⟨vs,h1,Xd cs vs hp h2⟩
 | .yO cs,v,hp,h=>by
  simp only[Pure] at hp
  simp only[rep] at h ⊢
  obtain⟨vs,h1,h2⟩:=h
  exact⟨vs,h1,Xd cs vs hp h2⟩
theorem Xd:∀(d:List D) (v:List Value),ze d→yf J F w d v→yf J' F w d v
 | [],v,_,h=>by simpa only[yf] using h
 | d::r,v,hp,h=>by
  simp only[ze] at hp
  simp only[yf] at h ⊢
  obtain⟨u,us,h1,h2,h3⟩:=h
  exact⟨u,us,h1,JD d u hp.1 h2,Xd r us hp.2 h3⟩
theorem Jx (b:Nat):∀(d:List D) (o:Nat),ze d→zS J F w b d o→zS J' F w b d o
 | [],o,_,h=>by simp only[zS]
 | d::r,o,hp,h=>by
  simp only[ze] at hp
  simp only[zS] at h ⊢
  obtain⟨⟨u,h1,h2,h3⟩,h4⟩:=h
  exact⟨⟨u,h1,h2,JD d u hp.1 h3⟩,Jx b r (o+1) hp.2 h4⟩
theorem zfU (b zH:Nat):∀(d:List (List D)) (o:Nat),yE d→yk J F w b zH d o→yk J' F w b zH d o
 | [],o,_,h=>by simp only[yk]
 | d::r,o,hp,h=>by
  simp only[yE] at hp
  simp only[yk] at h ⊢
  exact⟨h.1,Jx b d o hp.1 h.2.1,zfU b zH r (o+zH) hp.2 h.2.2⟩
end
end
def Ys (tmps:Array Value):ResultVar→Sem Value
 | .tmp t=>pure (tmps.getD t undef)
 | .cell a t=>do loadVar t (←asAddr (tmps.getD a undef))
theorem zbZ {t:TypeId} {a:Addr} {w:World} {v:Value} (h:(Instr.loadAt t (.pointer (some a))).run P w=.ok v w):(loadVar t a).run P w=.ok v w:=by
 simpa [Instr.loadAt,Instr.sureAddr] using h
theorem zcc {J:yX} {F:Nat→Prop} {env:Env} {H:List zf} {a:Act} {w:World} (hr:wZ n J F env H a w):∀(l:List ResultVar) (rs:List RV) (K':List D→Prop),zkS P l=some rs→qt env H rs K' →
  ∃ds vs,K' ds∧(l.mapM (Ys a.tmps)).run P w=.ok vs w∧yf J F w ds vs
 | [],rs,K',hc,h=>by
  simp[zkS] at hc;subst hc
  exact⟨[],[],h,by simp[pure,Sem.run],by simp only[yf]⟩
 | r::l,rs,K',hc,h=>by
  simp only[zkS] at hc
  split at hc
  ·rename_i x y e1 e2
   cases hc
   have step:∀(d:D) (v:Value),(Ys a.tmps r).run P w=.ok v w→rep J F w d v→qt env H y (λds=>K' (d::ds))→∃ds vs,K' ds∧((r::l).mapM (Ys a.tmps)).run P w=.ok vs w∧yf J F w ds vs:=λd v q1 q2 q3=>by
    obtain⟨ds,vs,k1,k2,k3⟩:=zcc hr l y _ e2 q3
    refine⟨d::ds,v::vs,k1,?_,by simp only[yf];exact⟨v,vs,rfl,q2,k3⟩⟩
    rw[List.mapM_cons]
    simp only[Sem.run_bind,q1,Result.andThen_ok,k2,pure,Sem.run]
   cases r with
   | tmp t =>
    simp[crv] at e1;subst e1
    simp only[qt,Yu] at h
    exact step _ _ (by simp[Ys,pure,Sem.run]) (hr.tmps t) h
   | cell t ty =>
    simp only[crv] at e1
    have ptr:∀id off m cs,xU t env=.loc id off→H[id]? = some (.row m cs)→∃b o,a.tmps.getD t undef=.pointer (some ⟨b,o,none⟩)∧zS J F w b (cs.drop off) o:=λid off m cs q1 q2=>by
     have q3:=hr.tmps t
     rw[q1] at q3
     exact Jg (P:=P) (env:=env) q2 J F w _ _ hr.ok (λ_ _=>rfl) q3
    split at e1
    ·rename_i hag
     cases e1
     simp only[qt,Yu] at h
     split at h
     ·rename_i id off e3
      obtain⟨ob,h1,h2⟩:=(yM _ _ _).1 h
      split at h2
      ·rename_i m cs
       obtain⟨h3,h4⟩:=(Z3 _ _ _).1 h2
       obtain⟨h5,h6⟩:=(Z2 _ _ _).1 h4
       obtain⟨b,o,p1,p2⟩:=ptr id off m cs e3 h1
       have p3:=WB p2 0 (P.cellsOf ty)
       simp only[List.drop_zero,Nat.add_zero] at p3
       obtain⟨vs,p4,p5,_⟩:=Yh _ _ p3
       have hl:vs.length=P.cellsOf ty:=by rw[xx _ _ p4,List.length_take];omega
       refine step _ (.agg vs.toArray) ?_ (by simp only[rep];exact⟨vs,rfl,p4⟩) h6
       simp only[Ys,p1,asAddr,pure,Sem.run_bind,Sem.run,Result.andThen_ok]
       exact zbZ (zay hag hl p5)
      ·exact h2.elim
     ·exact h.elim
    ·rename_i hag
     cases e1
     simp only[qt,Yu] at h
     split at h
     ·rename_i id off e3
      obtain⟨ob,h1,h2⟩:=(yM _ _ _).1 h
      split at h2
      ·rename_i m cs
       obtain⟨c,h3,h4⟩:=(Yl _ _ _).1 h2
       obtain⟨b,o,p1,p2⟩:=ptr id off m cs e3 h1
       obtain⟨u,p3,_,p4⟩:=xC _ o 0 c (by rw[List.getElem?_drop];exact h3) p2
       refine step _ u ?_ p4 h4
       simp only[Ys,p1,asAddr,pure,Sem.run_bind,Sem.run,Result.andThen_ok]
       exact zbZ (JP hag (by simpa using p3))
      ·exact h2.elim
     ·exact h.elim
    ·cases e1
  ·cases hc
theorem Uw {fn:Func} {rs:List RV} (hrs:zkS P fn.results.toList=some rs) {J:yX} {F:Nat→Prop} {env:Env} {H:List zf} {a:Act} {w:World} (hr:wZ n J F env H a w) {R:D→List zf→Prop} {e:Exit} (he:e=.normal∨e=.ret) (h:ztk rs R e env H) :
  ∃d v,R d H∧(results fn a.tmps).run P w=.ok v w∧rep J F w d v:=by
 have h':qt env H rs (λds=>match ds with
  | [d]=>R d H
  | ds=>R (.yO ds) H):=by rcases he with rfl|rfl<;>exact h
 obtain⟨ds,vs,k1,k2,k3⟩:=zcc hr fn.results.toList rs _ hrs h'
 have run:(results fn a.tmps).run P w=.ok (if h:vs.length=1 then vs[0] else .tuple vs.toArray) w:=by
  have e1:(fn.results.mapM (Ys a.tmps)).run P w=.ok vs.toArray w:=by
   rw[Array.mapM_eq_mapM_toList]
   simp[k2]
  have e3:results fn a.tmps=fn.results.mapM (Ys a.tmps) >>= λvs=>pure (if h:vs.size=1 then vs[0] else .tuple vs):=by
   unfold results
   congr 1
  rw[e3,Sem.run_bind,e1]
  simp[pure,Sem.run]
 have hl:=xx _ _ k3
 match ds,k1,k3,hl with
 | [d],k1,k3,hl =>
  simp only[yf] at k3
  obtain⟨v,us,rfl,q1,rfl⟩:=k3
  exact⟨d,v,k1,by rw[run];simp,q1⟩
 | [],k1,k3,hl =>
  refine⟨.yO [],_,k1,run,?_⟩
  have:vs=[]:=List.length_eq_zero_iff.1 hl
  subst this
  simp only[rep]
  exact⟨[],by simp,k3⟩
 | d::d'::r,k1,k3,hl =>
  refine⟨.yO (d::d'::r),_,k1,run,?_⟩
  simp only[List.length_cons] at hl
  rw[dif_neg (by omega)]
  simp only[rep]
  exact⟨vs,rfl,k3⟩
theorem zbk {J:yX} {F:Nat→Prop} {w:World} {args:List D} {vs:List Value} {H:List zf} (hn:args.length≤n) (h:yf J F w args vs) (hok:yZ J F w (λi=>H[i]?)) (hd:∀id,J id≠none→id<H.length) :
  wZ n J F (params 0 args) H ⟨vs.toArray++Array.replicate (n-vs.toArray.size) undef,[]⟩ w where
 defers:=rfl
 size:=by simp[xx _ _ h];omega
 tmps t:=by
  rw[zb6]
  simp only[Nat.zero_le,if_true,Nat.sub_zero]
  have hl:=xx _ _ h
  cases e:args[t]? with
  | none=>simp only[Option.getD_none,rep]
  | some d =>
   obtain⟨v,h1,h2⟩:=vI _ _ _ _ e h
   have ht:t<vs.length:=by
    rcases Nat.lt_or_ge t vs.length with h|h
    ·exact h
    ·rw[List.getElem?_eq_none h] at h1;cases h1
   simp only[Option.getD_some,Array.getD_eq_getD_getElem?]
   rw[Array.getElem?_append_left (by simpa using ht)]
   simp[h1,h2]
 ok:=hok
 dom:=hd
theorem zdT {f:FuncId} {rs:List RV} {p:PC} (hf:zy P f n rs p):zd9 P f:=by
 obtain⟨fn,h1,_,h3,_,h5⟩:=hf.out
 refine⟨fn,h1,h3,?_⟩
 cases e:fn.body with
 | none=>rw[e] at h5;cases h5
 | some c=>rfl
theorem znY {F:Nat→Prop} {w:World} (h:FOK F w) (G:Nat→Option zf):yZ vV F w G:=⟨(λ_ _ h=>by cases h),(λ_ _ _ _ _ h=>by cases h),(λ_ _ _ _ h=>by cases h),h⟩
theorem za {f:FuncId} {rs:List RV} {p:PC} {args:List D} {d:D} (hf:zy P f n rs p) (hn:args.length≤n) (hp:ze args)
  (h:PWp P n p (ztk rs λr H=>Deep H r d) (params 0 args) []) (hd:Pure d):zq P f args d:=by
 refine⟨zdT hf,λJ F w vs hF hargs=>?_⟩
 obtain⟨fn,h1,h2,h3,h4,h5⟩:=hf.out
 have hargs':yf vV F w args vs:=Xd args vs hp hargs
 cases e:fn.body with
 | none=>rw[e] at h5;cases h5
 | some c =>
  rw[e] at h5
  simp only[Option.bind_some] at h5
  refine calls_of_wp h1 e ?_
  rw[h2]
  refine wp_mono (qh h h5 (zbk hn hargs' (znY hF _) (λid hid=>absurd rfl hid))) λe' a' w' ⟨env',H',J',F',q1,q2,q3⟩=>?_
  have fin:e'=.normal∨e'=.ret→a'.defers=[]∧∃v,(results fn a'.tmps).run P w'=.ok v w'∧∃v' F'',Ending.returned v=Ending.returned v'∧(∀b,F'' b→b<w'.heap.size)∧rep vV F'' w' d v'∧Ext vV F w vV F'' w':=λhe=>by
   obtain⟨r,v,k1,k2,k3⟩:=Uw h4 q2 he q1
   refine⟨q2.defers,v,k2,v,λb=>F' b∨Zs J' b,rfl,λb hb=>hb.elim (q2.ok.lt b) λ⟨i,s,hi,hs⟩=>q2.ok.xu hi hs,JD d v hd (VH q2.ok (λ_ _ h=>h) _ _ _ k1 k3),?_⟩
   exact⟨q3.os,q3.tape,q3.output,q3.size,q3.block,q3.frozen,yX.le_refl _,λb hb=>.inl (q3.grow b hb),λb hb=>absurd hb (ZK b),λb hb=>by
    rcases hb with hb|hb
    ·exact q3.wu b hb
    ·exact .inr ((q3.x7 b hb).imp_left λq=>absurd q (ZK b))⟩
  cases e' with
  | normal=>exact fin (.inl rfl)
  | ret=>exact fin (.inr rfl)
  | exit id=>exact q1.elim
  | goto l=>exact q1.elim
  | panic ch=>exact q1.elim
  | outgrown=>exact q1.elim
end
end
section
open Go.RowKit
section
variable {P:Program} {n:Nat}
theorem z1 {f:FuncId} {rs:List RV} {p:PC} {args:List D} {H:List zf} {d:D} {H2:List zf} (hf:zy P f n rs p) (hn:args.length≤n) (hlen:H.length≤H2.length)
  (h:PWp P n p (ztk rs λr Hf=>r=d∧Hf.take H2.length=H2∧H2.length≤Hf.length) (params 0 args) H) (hd:zt H2.length d) (hH:∀o∈H2,o.under H2.length):yu P f args H d H2:=by
 refine⟨zdT hf,hlen,λJ F w vs hok hdom hargs=>?_⟩
 obtain⟨fn,h1,h2,h3,h4,h5⟩:=hf.out
 cases e:fn.body with
 | none=>rw[e] at h5;cases h5
 | some c =>
  rw[e] at h5
  simp only[Option.bind_some] at h5
  refine calls_of_wp h1 e ?_
  rw[h2]
  refine wp_mono (qh h h5 (zbk hn hargs hok hdom)) λe' a' w' ⟨env',H',J',F',q1,q2,q3⟩=>?_
  have fin:e'=.normal∨e'=.ret→a'.defers=[]∧∃v,(results fn a'.tmps).run P w'=.ok v w'∧∃v' J'' F'',Ending.returned v=Ending.returned v'∧yZ J'' F'' w' (λi=>H2[i]?)∧(∀id,J'' id≠none→id<H2.length)∧rep J'' F'' w' d v'∧Ext J F w J'' F'' w':=λhe=>by
   obtain⟨r,v,⟨rfl,k1,k1'⟩,k2,k3⟩:=Uw h4 q2 he q1
   have hget:∀i,i<H2.length→H2[i]? = H'[i]?:=λi hi=>by
    conv=>lhs;rw[←k1]
    rw[List.getElem?_take,if_pos hi]
   have kle:(yp H2.length J').le J':=λi s hs=>by
    unfold yp at hs
    split at hs
    ·exact⟨s,hs,Nat.le_refl _,λ_=>rfl⟩
    ·cases hs
   refine⟨q2.defers,v,k2,v,yp H2.length J',F',rfl,⟨λi s hs=>?_,λi i' s s' b g1 g2 g3 g4=>?_,λi s b o g1 g2 g3 g4=>?_,q2.ok.lt⟩,λi hi=>?_,Vi _ _ hd k3,?_⟩
   ·unfold yp at hs
    split at hs
    ·rename_i hi
     obtain⟨o,g1,g2⟩:=q2.ok.obj i s hs
     have g1':H2[i]? = some o:=by rw[hget i hi];exact g1
     exact⟨o,g1',Jb (hH o (List.mem_of_getElem? g1')) g2⟩
    ·cases hs
   ·unfold yp at g1 g2
    split at g1<;>split at g2
    ·exact q2.ok.one i i' s s' b g1 g2 g3 g4
    all_goals first|cases g1|cases g2
   ·unfold yp at g1
    split at g1
    ·rename_i hi
     exact q2.ok.apart i s b o g1 g2 (by rw[←hget i hi];exact g3) g4
    ·cases g1
   ·unfold yp at hi
    split at hi
    ·assumption
    ·exact absurd rfl hi
   ·refine⟨q3.os,q3.tape,q3.output,q3.size,q3.block,q3.frozen,λi s hs=>?_,q3.grow,λb ⟨i,s,hs,hb⟩=>?_,q3.wu⟩
    ·obtain⟨s',g1,g2,g3⟩:=q3.le i s hs
     have hi:i<H2.length:=by have:=hdom i (by rw[hs];simp);omega
     exact⟨s',by simp[yp,hi,g1],g2,g3⟩
    ·obtain⟨s',g1,_⟩:=kle i s hs
     unfold yp at hs
     split at hs
     ·exact q3.x7 b ⟨i,s,hs,hb⟩
     ·cases hs
  cases e' with
  | normal=>exact fin (.inl rfl)
  | ret=>exact fin (.inr rfl)
  | exit id=>exact q1.elim
  | goto l=>exact q1.elim
  | panic ch=>exact q1.elim
  | outgrown=>exact q1.elim
end
end
section
open Go.RowKit
mutual
inductive yc (S:Nat→Bool) (H:List zf):D→D→Prop
 | refl (d:D):yc S H d d
 | xO (d:D):yc S H d .xO
 | none (zH:Nat):yc S H (.sc (.slice none 0 0)) (.xj zH [])
 | loc (id off:Nat) (q:Bool) (cs ds:List D) (hm:S id=true) (h:H[id]? = some (.row q cs)) (k:zQ S H (cs.drop off) ds):yc S H (.loc id off) (.y7 ds)
 | own (id zY lo hi zH:Nat) (q:Bool) (xs ys:List (List D)) (hm:S id=true) (h:H[id]? = some (.vec q zY zH xs)) (k:zK S H ((xs.take hi).drop lo) ys):yc S H (.own id zY lo hi) (.xj zH ys)
 | fn (f:Fn) (a b c e:List D) (h:zQ S H a b) (k:zQ S H c e):yc S H (.fn f a c) (.fn f b e)
 | ifc (t:TypeId) (d e:D) (h:yc S H d e):yc S H (.ifc t d) (.ifc t e)
 | agg (a b:List D) (h:zQ S H a b):yc S H (.agg a) (.agg b)
 | yO (a b:List D) (h:zQ S H a b):yc S H (.yO a) (.yO b)
inductive zQ (S:Nat→Bool) (H:List zf):List D→List D→Prop
 | refl (l:List D):zQ S H l l
 | cons (d e:D) (a b:List D) (h:yc S H d e) (k:zQ S H a b):zQ S H (d::a) (e::b)
inductive zK (S:Nat→Bool) (H:List zf):List (List D)→List (List D)→Prop
 | refl (l:List (List D)):zK S H l l
 | cons (x y:List D) (a b:List (List D)) (h:zQ S H x y) (k:zK S H a b):zK S H (x::a) (y::b)
 | append (x y a b:List (List D)) (h:zK S H x y) (k:zK S H a b):zK S H (x++a) (y++b)
end
def YE (S:Nat→Bool) (J:yX) (b:Nat):Prop:=∃id s,S id=true∧J id=some s∧s.u6=some b
section
variable {J:yX} {F:Nat→Prop} {w:World} {H:List zf} {S:Nat→Bool}
mutual
theorem Vq:∀(d e:List D),zQ S H d e→d.length=e.length
 | _,_,.refl _=>rfl
 | _,_,.cons d e a b _ k=>by simp[Vq a b k]
theorem uM:∀(d e:List (List D)),zK S H d e→d.length=e.length
 | _,_,.refl _=>rfl
 | _,_,.cons d e a b _ k=>by simp[uM a b k]
 | _,_,.append x y a b h k=>by simp[uM x y h,uM a b k]
end
theorem zci {b zH:Nat}:∀(xs ys:List (List D)) (o:Nat),yk J F w b zH (xs++ys) o↔yk J F w b zH xs o∧yk J F w b zH ys (o+xs.length*zH)
 | [],ys,o=>by simp[yk]
 | x::r,ys,o=>by
  simp only[List.cons_append,yk,zci r ys,List.length_cons,and_assoc]
  rw[show o+zH+r.length*zH=o+(r.length+1)*zH by rw[Nat.add_mul];omega]
mutual
theorem Zk (hok:yZ J F w (λi=>H[i]?)):∀(d e:D) (v:Value),yc S H d e→rep J F w d v→rep J (λb=>F b∨YE S J b) w e v
 | d,_,v,.refl _,h=>yT (yX.le_refl J) (λ_ h=>.inl h) (λ_ _=>rfl) d v h
 | _,_,v,.xO _,_=>by simp only[rep]
 | _,_,v,.none zH,h=>by
  simp only[rep] at h ⊢
  exact⟨none,0,0,h,rfl,Nat.le_refl _,.inl rfl⟩
 | _,_,v,.loc id off q cs ds hm h k,hv=>by
  simp only[rep] at hv ⊢
  obtain⟨s,b,h1,h2,h3,rfl⟩:=hv
  have hc:=qF (zr7 hok h1 h3 h) off
  refine⟨b,off,rfl,.inr ⟨id,s,hm,h1,by simp[Site.u6,h2,h3]⟩,?_⟩
  rw[Nat.zero_add] at hc
  exact vz hok _ _ b off k hc
 | _,_,v,.own id zY lo hi zH q xs ys hm h k,hv=>by
  simp only[rep] at hv ⊢
  obtain⟨s,A,n,c,h1,rfl,h2,h3⟩:=hv
  obtain⟨p1,p2,p3,p4,p5,p6⟩:=QJ hok h1 h
  obtain⟨t1,t2,t3,rfl,rfl,t6⟩:=h3 p2.symm
  have hl:ys.length=hi-lo:=by
   rw[←uM _ _ k];simp;omega
  refine⟨A,_,_,rfl,hl.symm,by omega,?_⟩
  rcases t6 with t6|⟨b,o,t6,rfl⟩
  ·exact .inl (by omega)
  ·rcases p6 with p6|⟨b',o',vals,te,e,q1,q2,q3,q4⟩
   ·exact .inl (by omega)
   ·rw[t6] at e;cases e
    by_cases hz:s.cap=0
    ·exact .inl (by omega)
    ·refine .inr ⟨b,_,rfl,.inr ⟨id,s,hm,h1,by simp[Site.u6,hz,t6]⟩,?_⟩
     rw[p3]
     exact w9 hok _ _ b zH _ k (vX q3 lo hi)
 | _,_,v,.fn f a b c e h k,hv=>by
  simp only[rep] at hv ⊢
  obtain⟨vs,us,rfl,h2,h3⟩:=hv
  exact⟨vs,us,rfl,ZA hok _ _ vs h h2,ZA hok _ _ us k h3⟩
 | _,_,v,.ifc t d e h,hv=>by
  simp only[rep] at hv ⊢
  obtain⟨u,rfl,h2⟩:=hv
  exact⟨u,rfl,Zk hok _ _ u h h2⟩
 | _,_,v,.agg a b h,hv=>by
  simp only[rep] at hv ⊢
  obtain⟨vs,rfl,h2⟩:=hv
  exact⟨vs,rfl,ZA hok _ _ vs h h2⟩
 | _,_,v,.yO a b h,hv=>by
  simp only[rep] at hv ⊢
  obtain⟨vs,rfl,h2⟩:=hv
  exact⟨vs,rfl,ZA hok _ _ vs h h2⟩
theorem ZA (hok:yZ J F w (λi=>H[i]?)):∀(d e:List D) (v:List Value),zQ S H d e→yf J F w d v→yf J (λb=>F b∨YE S J b) w e v
 | d,_,v,.refl _,h=>Ya (yX.le_refl J) (λ_ h=>.inl h) (λ_ _=>rfl) d v h
 | _,_,v,.cons d e a b h k,hv=>by
  simp only[yf] at hv ⊢
  obtain⟨u,us,rfl,h2,h3⟩:=hv
  exact⟨u,us,rfl,Zk hok _ _ u h h2,ZA hok _ _ us k h3⟩
theorem vz (hok:yZ J F w (λi=>H[i]?)):∀(d e:List D) (b o:Nat),zQ S H d e→zS J F w b d o→zS J (λb=>F b∨YE S J b) w b e o
 | d,_,b,o,.refl _,h=>qE (yX.le_refl J) (λ_ h=>.inl h) (λ_ _=>rfl) b (λ_=>rfl) d o h
 | _,_,b,o,.cons d e x y h k,hv=>by
  simp only[zS] at hv ⊢
  obtain⟨⟨u,h1,h2,h3⟩,h4⟩:=hv
  exact⟨⟨u,h1,h2,Zk hok _ _ u h h3⟩,vz hok _ _ b (o+1) k h4⟩
theorem w9 (hok:yZ J F w (λi=>H[i]?)):∀(d e:List (List D)) (b zH o:Nat),zK S H d e→yk J F w b zH d o→yk J (λb=>F b∨YE S J b) w b zH e o
 | d,_,b,zH,o,.refl _,h=>Y9 (yX.le_refl J) (λ_ h=>.inl h) (λ_ _=>rfl) b zH (λ_=>rfl) d o h
 | _,_,b,zH,o,.cons d e x y h k,hv=>by
  simp only[yk] at hv ⊢
  obtain⟨h1,h2,h3⟩:=hv
  exact⟨by rw[←Vq _ _ h];exact h1,vz hok _ _ b o h h2,w9 hok _ _ b zH (o+zH) k h3⟩
 | _,_,b,zH,o,.append x y a c h k,hv=>by
  rw[zci] at hv ⊢
  refine⟨w9 hok _ _ b zH o h hv.1,?_⟩
  rw[←uM _ _ h]
  exact w9 hok _ _ b zH _ k hv.2
end
end
def YZ (m:Nat):Nat→Bool:=λi=>Nat.ble m i
theorem zgv {m i:Nat}:YZ m i=true↔m≤i:=by simp[YZ]
def St.leB (L n:Nat) (env:Env) (H:List zf) (env':Env) (H':List zf):Prop:=∀J F a w,wZ n J F env H a w→∃J' F',wZ n J' F' env' H' a w∧(∀i s,i<L→J i=some s→J' i=some s)∧(∀b,F b→F' b)∧(∀b,Zs J' b→Zs J b)∧∀b,F' b→F b∨Zs J b
theorem zau {L n:Nat} {env env':Env} {H:List zf} (h:V3 env env'):St.leB L n env H env' H:=λJ F a w hr =>
 ⟨J,F,⟨hr.defers,hr.size,λt=>by
  rcases Je env' h t with e|e
  ·rw[e];exact hr.tmps t
  ·rw[e];simp only[rep],hr.ok,hr.dom⟩,λ_ _ _ h=>h,λ_ h=>h,λ_ h=>h,λ_ h=>.inl h⟩
theorem wT {L n:Nat} {env env' env'':Env} {H H' H'':List zf} (h:St.leB L n env H env' H') (k:St.leB L n env' H' env'' H''):St.leB L n env H env'' H'':=λJ F a w hr=>by
 obtain⟨J',F',h1,h2,h3,h4,h5⟩:=h J F a w hr
 obtain⟨J'',F'',k1,k2,k3,k4,k5⟩:=k J' F' a w h1
 exact⟨J'',F'',k1,λi s q1 q2=>k2 i s q1 (h2 i s q1 q2),λb hb=>k3 b (h3 b hb),λb hb=>h4 b (k4 b hb),λb hb=>(k5 b hb).elim (h5 b) λq=>.inr (h4 b q)⟩
def zho (m:Nat) (H:List zf) (env:Env):Env→Prop
 | []=>True
 | (t,d)::r=>yc (YZ m) H (xU t env) d∧zt m d∧zho m H env r
def zmd (m:Nat) (H:List zf):zf→zf→Prop
 | .row q cs,.row q' cs'=>q=q'∧zQ (YZ m) H cs cs'∧zl m cs'
 | .vec q v e xs,.vec q' v' e' xs'=>q=q'∧v=v'∧e=e'∧zK (YZ m) H xs xs'∧zF m xs'
 | .wc q I,.wc q' I'=>q=q'∧I=I'
 | _,_=>False
def Wy (m:Nat) (H:List zf):List zf→List zf→Prop
 | _,[]=>True
 | o::r,o'::r'=>zmd m H o o'∧Wy m H r r'
 | [],_::_=>False
theorem zbK {m:Nat} {H:List zf} {env:Env}:∀(env':Env),zho m H env env'→∀t,(yc (YZ m) H (xU t env) (xU t env')∧zt m (xU t env'))∨xU t env'=.xO
 | [],_,t=>.inr rfl
 | (k,d)::r,h,t=>by
  simp only[zho] at h
  rw[qM]
  split
  ·rename_i e;subst e;exact .inl ⟨h.1,h.2.1⟩
  ·exact zbK r h.2.2 t
theorem XF {m:Nat} {H:List zf}:∀(l l':List zf),Wy m H l l'→∀i (o:zf),i<l'.length→l[i]? = some o→∃o',l'[i]? = some o'∧zmd m H o o'
 | _,[],_,i,o,hi,_=>by simp at hi
 | [],_::_,h,i,o,hi,_=>by simp only[Wy] at h
 | o::r,o'::r',h,0,x,_,hx=>by
  simp at hx;subst hx
  exact⟨o',rfl,h.1⟩
 | o::r,o'::r',h,i+1,x,hi,hx=>by
  simpa using XF r r' h.2 i x (by simpa using hi) (by simpa using hx)
theorem Qj {J:yX} {F:Nat→Prop} {w:World} {H:List zf} {m:Nat} (hok:yZ J F w (λi=>H[i]?)) {s:Site} {o o':zf} (h:zmd m H o o') (k:YD J F w s o):YD (yp m J) (λb=>F b∨YE (YZ m) J b) w s o'∧o'.mut=o.mut:=by
 cases o with
 | row q cs =>
  cases o' with
  | vec=>exact h.elim
  | wc=>exact h.elim
  | row q' cs' =>
   obtain⟨rfl,h1,h2⟩:=h
   obtain⟨k1,k2,k3,k4,k5,b,vals,te,t1,t2,t3,t4,t5⟩:=k
   have hl:=Vq _ _ h1
   exact⟨⟨k1,k2,k3,by rw[←hl];exact k4,by rw[←hl];exact k5,b,vals,te,t1,t2,by rw[←hl];exact t3,qA b cs' 0 h2 (vz hok _ _ b 0 h1 t4),λe=>.inl (t5 e)⟩,rfl⟩
 | vec q v e xs =>
  cases o' with
  | row=>exact h.elim
  | wc=>exact h.elim
  | vec q' v' e' xs' =>
   obtain⟨rfl,rfl,rfl,h1,h2⟩:=h
   obtain⟨k1,k2,k3,k4,k5,k6⟩:=k
   have hl:=uM _ _ h1
   exact⟨⟨k1,k2,k3,by rw[←hl];exact k4,k5,k6.imp_right λ⟨b,o,vals,te,t1,t2,t3,t4,t5⟩=>⟨b,o,vals,te,t1,t2,t3,Y8 b e xs' o h2 (w9 hok _ _ b e o h1 t4),λe=>.inl (t5 e)⟩⟩,rfl⟩
 | wc q I =>
  cases o' with
  | row=>exact h.elim
  | vec=>exact h.elim
  | wc q' I' =>
   obtain⟨rfl,rfl⟩:=h
   exact⟨k,rfl⟩
theorem zj {L n:Nat} (m:Nat) {env env':Env} {H H':List zf} (hL:L≤m) (hm:H'.length=m) (hE:zho m H env env') (hH:Wy m H H H'):St.leB L n env H env' H':=λJ F a w hr=>by
 refine⟨yp m J,λb=>F b∨YE (YZ m) J b,⟨hr.defers,hr.size,λt=>?_,⟨λi s hs=>?_,λi i' s s' b g1 g2 g3 g4=>?_,λi s b o g1 g2 g3 g4=>?_,hr.ok.lt.mono (λ_ h=>.inl h) (λ_ _=>rfl) λb hb=>?_⟩,λi hi=>?_⟩,λi s hi hs=>?_,λb hb=>.inl hb,λb ⟨i,s,hs,hb⟩=>?_,λb hb=>hb.imp_right λ⟨i,s,_,h1,h2⟩=>⟨i,s,h1,h2⟩⟩
 ·rcases zbK env' hE t with⟨h1,h2⟩|e
  ·exact Vi _ _ h2 (Zk hr.ok _ _ _ h1 (hr.tmps t))
  ·rw[e];simp only[rep]
 ·unfold yp at hs
  split at hs
  ·rename_i hi
   obtain⟨o,h1,h2⟩:=hr.ok.obj i s hs
   obtain⟨o',h3,h4⟩:=XF H H' hH i o (by omega) h1
   exact⟨o',h3,(Qj hr.ok h4 h2).1⟩
  ·cases hs
 ·unfold yp at g1 g2
  split at g1<;>split at g2
  ·exact hr.ok.one i i' s s' b g1 g2 g3 g4
  all_goals first|cases g1|cases g2
 ·unfold yp at g1
  split at g1
  ·rename_i hi
   obtain⟨o1,h1,h2⟩:=hr.ok.obj i s g1
   obtain⟨o',h3,h4⟩:=XF H H' hH i o1 (by omega) h1
   have h3':H'[i]? = some o:=g3
   rw[h3'] at h3
   cases h3
   have hmut:=(Qj hr.ok h4 h2).2
   rintro(hx|⟨i',s',p1,p2,p3⟩)
   ·exact hr.ok.apart i s b o1 g1 g2 h1 (by rw[←hmut];exact g4) hx
   ·have p1:=zgv.1 p1
    have:=hr.ok.one i i' s s' b g1 p2 g2 p3
    omega
  ·cases g1
 ·exact hb.elim (hr.ok.lt b) λ⟨i,s,_,h1,h2⟩=>hr.ok.xu h1 h2
 ·unfold yp at hi
  split at hi
  ·omega
  ·exact absurd rfl hi
 ·unfold yp;rw[if_pos (by omega)];exact hs
 ·unfold yp at hs
  split at hs
  ·exact⟨i,s,hs,hb⟩
  ·cases hs
theorem ziD {L n:Nat} (t zH zY:Nat) {env:Env} {H:List zf} (hL:L≤H.length) (h:xU t env=.sc (.slice none 0 0)):St.leB L n env H ((t,.own H.length zY 0 0)::env) (H++[.vec true zY zH []]):=λJ F a w hr=>by
 have hfree:J H.length=none:=by
  cases e:J H.length with
  | none=>rfl
  | some s=>have:=hr.dom H.length (by rw[e];simp);omega
 let J':yX:=λi=>if i=H.length then some ⟨false,zY,none,zH,0,0⟩ else J i
 have hle:J.le J':=λi s hs=>⟨s,by
  have:i≠H.length:=λe=>by subst e;rw[hfree] at hs;cases hs
  simp[J',this,hs],Nat.le_refl _,λ_=>rfl⟩
 have hget:∀i,i≠H.length→(H++[zf.vec true zY zH []])[i]? = H[i]?:=λi hi=>by
  rcases Nat.lt_or_ge i H.length with q|q
  ·rw[List.getElem?_append_left q]
  ·rw[List.getElem?_eq_none q,List.getElem?_eq_none (by simp;omega)]
 refine⟨J',F,⟨hr.defers,hr.size,λu=>?_,⟨λi s hs=>?_,λi i' s s' b g1 g2 g3 g4=>?_,λi s b o g1 g2 g3 g4=>?_,hr.ok.lt⟩,λi hi=>?_⟩,λi s hi hs=>?_,λb hb=>hb,λb ⟨i,s,hs,hb⟩=>?_,λb hb=>.inl hb⟩
 ·rw[qM]
  split
  ·rename_i e;subst e
   have:=hr.tmps u
   rw[h] at this
   simp only[rep] at this ⊢
   exact⟨_,none,0,0,by simp[J'];rfl,this,Nat.le_refl _,λ_=>⟨rfl,Nat.le_refl _,Nat.zero_le _,rfl,rfl,.inl rfl⟩⟩
  ·exact yT hle (λ_ h=>h) (λ_ _=>rfl) _ _ (hr.tmps u)
 ·simp only[J'] at hs
  split at hs
  ·rename_i e;subst e
   cases hs
   exact⟨.vec true zY zH [],by simp,rfl,rfl,rfl,rfl,Nat.le_refl _,.inl rfl⟩
  ·rename_i e
   obtain⟨o,h1,h2⟩:=hr.ok.obj i s hs
   exact⟨o,by rw[hget i e];exact h1,xX hle (λ_ h=>h) (λ_ _=>rfl) (λ_ _=>rfl) h2⟩
 ·simp only[J'] at g1 g2
  split at g1
  ·cases g1;simp[Site.u6] at g3
  ·split at g2
   ·cases g2;simp[Site.u6] at g4
   ·exact hr.ok.one i i' s s' b g1 g2 g3 g4
 ·simp only[J'] at g1
  split at g1
  ·cases g1;simp[Site.u6] at g2
  ·rename_i e
   exact hr.ok.apart i s b o g1 g2 (by rw[←hget i e];exact g3) g4
 ·simp only[J'] at hi
  rw[List.length_append,List.length_singleton]
  split at hi
  ·omega
  ·have:=hr.dom i hi;omega
 ·have:i≠H.length:=by omega
  simp[J',this,hs]
 ·simp only[J'] at hs
  split at hs
  ·cases hs;simp[Site.u6] at hb
  ·exact⟨i,s,hs,hb⟩
theorem xr {L n:Nat} (t zH:Nat) {env:Env} {H:List zf} (hL:L≤H.length) (h:xU t env=.sc (.slice none 0 0)):St.leB L n env H ((t,.own H.length 0 0 0)::env) (H++[.vec true 0 zH []]):=ziD t zH 0 hL h
section
variable {P:Program} {n:Nat}
def zl5 {ι:Type} (L n:Nat) (Q:qO) (E:ι→Env) (O:ι→List zf) (G:ι→Prop) (m:ι→Nat) (k:Nat):qO
 | .normal,env,H=>∃j,G j∧m j<k∧St.leB L n env H (E j) (O j)
 | e,env,H=>Q e env H
theorem zcN {L:Nat} {J J1 J2:yX} {F F1 F2:Nat→Prop} {w w1:World} (hd:∀id,J id≠none→id<L) (h:Ext J F w J1 F1 w1) (k1:∀i s,i<L→J1 i=some s→J2 i=some s) (k2:∀b,F1 b→F2 b) (k3:∀b,Zs J2 b→Zs J1 b) (k4:∀b,F2 b→F1 b∨Zs J1 b):Ext J F w J2 F2 w1 :=
 ⟨h.os,h.tape,h.output,h.size,h.block,h.frozen,λi s hs=>by
  obtain⟨s',g1,g2⟩:=h.le i s hs
  exact⟨s',k1 i s' (hd i (by rw[hs];simp)) g1,g2⟩,λb hb=>k2 b (h.grow b hb),λb hb=>h.x7 b (k3 b hb),λb hb=>by
  rcases k4 b hb with q|q
  ·exact h.wu b q
  ·rcases h.x7 b q with q|q
   ·exact .inr (.inl q)
   ·exact .inr (.inr q)⟩
theorem WM {p:PC} {Q:qO} {env:Env} {H:List zf} {ι:Type} (E:ι→Env) (O:ι→List zf) (G:ι→Prop) (m:ι→Nat) (i:ι) (h0:G i) (h1:St.leB H.length n env H (E i) (O i))
  (round:∀j,G j→PWp P n p (zl5 H.length n Q E O G m (m j)) (E j) (O j)):PWp P n (.loop p) Q env H:=YU λc hc J F a w hr=>by
 obtain⟨c',rfl,hc'⟩:=zg2 hc
 obtain⟨J0,F0,k1,k2,k3,k4,k5⟩:=h1 J F a w hr
 have k6:Ext J F w J0 F0 w:=zcN hr.dom (Ext.refl J F w) k2 k3 k4 k5
 refine wp_loop_ghost (λk a' w'=>∃j J' F',G j∧m j=k∧wZ n J' F' (E j) (O j) a' w'∧Ext J F w J' F' w') (m i) ⟨i,J0,F0,h0,rfl,k1,k6⟩ λk a1 w1 ⟨j,J1,F1,g1,g2,g3,g4⟩=>?_
 refine wp_mono (qh (round j g1) hc' g3) λe a2 w2 ⟨env',H',J',F',q1,q2,q3⟩=>?_
 cases e with
 | normal =>
  obtain⟨j',r1,r2,r3⟩:=q1
  obtain⟨J2,F2,t1,t2,t3,t4,t5⟩:=r3 J' F' a2 w2 q2
  exact⟨m j',by omega,j',J2,F2,r1,rfl,t1,zcN hr.dom (g4.trans q3) t2 t3 t4 t5⟩
 | _=>exact⟨env',H',J',F',q1,q2,g4.trans q3⟩
theorem zG {p:PC} {Q:qO} {env env':Env} {H H':List zf} (h:St.leB H.length n env H env' H') (k:PWp P n p Q env' H'):PWp P n p Q env H :=
 YU λc hc J F a w hr=>by
  obtain⟨J',F',h1,h2,h3,h4,h5⟩:=h J F a w hr
  exact wp_mono (qh k hc h1) λe a' w' q=>zdG (zcN hr.dom (Ext.refl J F w) h2 h3 h4 h5) q
end
section
variable {P:Program}
end
end
section
open Go.RowKit
section
variable {P:Program} {f:FuncId}
theorem zbR {args:List D} {H0 H0' H H':List zf} {d:D} (ρ:Nat→Nat) (hA:yu P f args H0 d H0') (inj:∀i j,i<H0'.length→j<H0'.length→ρ i=ρ j→i=j) (hold:∀i o,H0[i]? = some o→H[ρ i]? = some (o.yI ρ))
  (hnew:∀i,H0.length≤i→i<H0'.length→H.length≤ρ i) (hlen:H.length≤H'.length) (h1:∀i o,H0'[i]? = some o→H'[ρ i]? = some (o.yI ρ)) (h2:∀j,j<H.length→(∀i,i<H0.length→ρ i≠j)→H'[j]? = H[j]?)
  (hargs:zl H0.length args) (hobj:∀o∈H0,o.under H0.length):yu P f (yG ρ args) H (D.yI ρ d) H':=by
 obtain⟨hok,hl0,hrun⟩:=hA
 refine⟨hok,hlen,λJ F w vs hst hdom hrep=>?_⟩
 have h0get:∀i,i<H0.length→H0[i]? = some (H0[i]!):=λi hi=>by rw[List.getElem!_eq_getElem?_getD,List.getElem?_eq_getElem hi];rfl
 have hst0:yZ (yp H0.length λi=>J (ρ i)) F w (λi=>H0[i]?):=by
  refine⟨λi s hs=>?_,λi i' s s' b g1 g2 g3 g4=>?_,λi s b o g1 g2 g3 g4=>?_,hst.lt⟩
  ·unfold yp at hs
   split at hs
   ·rename_i hi
    have ho:=h0get i hi
    refine⟨_,ho,Jb (hobj _ (List.mem_of_getElem? ho)) (U0.2 ?_)⟩
    obtain⟨o',q1,q2⟩:=hst.obj (ρ i) s hs
    have q1':H[ρ i]? = some o':=q1
    rw[hold i _ ho] at q1'
    cases q1'
    exact q2
   ·cases hs
  ·unfold yp at g1 g2
   split at g1<;>split at g2
   ·exact inj i i' (by omega) (by omega) (hst.one (ρ i) (ρ i') s s' b g1 g2 g3 g4)
   all_goals first|cases g1|cases g2
  ·unfold yp at g1
   split at g1
   ·exact hst.apart (ρ i) s b (o.yI ρ) g1 g2 (hold i o g3) (by rw[zcI];exact g4)
   ·cases g1
 have hd0:∀id,yp H0.length (λi=>J (ρ i)) id≠none→id<H0.length:=λid hid=>by
  unfold yp at hid
  split at hid
  ·assumption
  ·exact absurd rfl hid
 have hr0:yf (yp H0.length λi=>J (ρ i)) F w args vs:=Z5 _ _ hargs ((ue args vs).2 hrep)
 have own0:∀b,Zs (yp H0.length λi=>J (ρ i)) b→∃i s,i<H0.length∧J (ρ i)=some s∧s.u6=some b:=λb ⟨i,s,hs,hb⟩=>by
  unfold yp at hs
  split at hs
  ·exact⟨i,s,by assumption,hs,hb⟩
  ·cases hs
 have main:=hrun _ F w vs hst0 hd0 hr0
 refine Calls.mono main λe w' ⟨v,J0',F',he,st',dom',rp',ex⟩=>?_
 let J':yX:=λid=>match back ρ H0'.length id with|some i=>J0' i|none=>J id
 have jat:∀i,i<H0'.length→J' (ρ i)=J0' i:=λi hi=>by simp only[J',zmt inj hi]
 have jno:∀id,back ρ H0'.length id=none→J' id=J id:=λid h=>by simp only[J',h]
 have hle:J.le J':=λid s hs=>by
  cases e:back ρ H0'.length id with
  | none=>exact⟨s,by rw[jno id e];exact hs,Nat.le_refl _,λ_=>rfl⟩
  | some i =>
   obtain⟨k1,rfl⟩:=xy e
   have hi:i<H0.length:=by
    rcases Nat.lt_or_ge i H0.length with q|q
    ·exact q
    ·have:=hnew i q k1
     have:=hdom (ρ i) (by rw[hs];simp)
     omega
   obtain⟨s',g1,g2⟩:=ex.le i s (by simp only[yp,if_pos hi];exact hs)
   exact⟨s',by rw[jat i k1];exact g1,g2⟩
 have hleρ:J0'.le (λi=>J' (ρ i)):=λi s hs=>⟨s,by
  dsimp only
  rw[jat i (dom' i (by rw[hs];simp))];exact hs,Nat.le_refl _,λ_=>rfl⟩
 have nown:∀id s b,back ρ H0'.length id=none→J id=some s→s.u6=some b→¬Zs (yp H0.length λi=>J (ρ i)) b:=λid s b hb hs hblk ho=>by
  obtain⟨i,s',k1,k2,k3⟩:=own0 b ho
  exact Z6 hb i (by omega) (hst.one (ρ i) id s' s b k2 hs k3 hblk)
 refine⟨v,J',F',he,⟨λid s hs=>?_,λid id' s s' b g1 g2 g3 g4=>?_,λid s b o g1 g2 g3 g4=>?_,st'.lt⟩,λid hid=>?_,(Wh d v).1 (yT hleρ (λ_ h=>h) (λ_ _=>rfl) _ _ rp'),?_⟩
 ·cases e:back ρ H0'.length id with
  | some i =>
   obtain⟨k1,rfl⟩:=xy e
   rw[jat i k1] at hs
   obtain⟨o,q1,q2⟩:=st'.obj i s hs
   exact⟨o.yI ρ,h1 i o q1,U0.1 (xX hleρ (λ_ h=>h) (λ_ _=>rfl) (λ_ _=>rfl) q2)⟩
  | none =>
   rw[jno id e] at hs
   obtain⟨o,q1,q2⟩:=hst.obj id s hs
   refine⟨o,?_,xX hle ex.grow ex.frozen (λb hb=>ex.block b (hst.xu hs hb) (nown id s b e hs hb)) q2⟩
   show H'[id]? = some o
   rw[h2 id (hdom id (by rw[hs];simp)) λi hi=>Z6 e i (by omega)]
   exact q1
 ·cases e:back ρ H0'.length id with
  | some i =>
   obtain⟨k1,rfl⟩:=xy e
   rw[jat i k1] at g1
   cases e':back ρ H0'.length id' with
   | some i' =>
    obtain⟨k1',rfl⟩:=xy e'
    rw[jat i' k1'] at g2
    rw[st'.one i i' s s' b g1 g2 g3 g4]
   | none =>
    rw[jno id' e'] at g2
    rcases ex.x7 b ⟨i,s,g1,g3⟩ with q|q
    ·exact absurd q (nown id' s' b e' g2 g4)
    ·have:=hst.xu g2 g4;omega
  | none =>
   rw[jno id e] at g1
   cases e':back ρ H0'.length id' with
   | some i' =>
    obtain⟨k1',rfl⟩:=xy e'
    rw[jat i' k1'] at g2
    rcases ex.x7 b ⟨i',s',g2,g4⟩ with q|q
    ·exact absurd q (nown id s b e g1 g3)
    ·have:=hst.xu g1 g3;omega
   | none =>
    rw[jno id' e'] at g2
    exact hst.one id id' s s' b g1 g2 g3 g4
 ·have g3':H'[id]? = some o:=g3
  cases e:back ρ H0'.length id with
  | some i =>
   obtain⟨k1,rfl⟩:=xy e
   rw[jat i k1] at g1
   obtain⟨o0,q1,_⟩:=st'.obj i s g1
   rw[h1 i o0 q1] at g3'
   cases g3'
   exact st'.apart i s b o0 g1 g2 q1 (by rw[zcI] at g4;exact g4)
  | none =>
   rw[jno id e] at g1
   rw[h2 id (hdom id (by rw[g1];simp)) λi hi=>Z6 e i (by omega)] at g3'
   intro hx
   rcases ex.wu b hx with q|q|q
   ·exact hst.apart id s b o g1 g2 g3' g4 q
   ·exact nown id s b e g1 g2 q
   ·have:=hst.xu g1 g2;omega
 ·cases e:back ρ H0'.length id with
  | some i =>
   obtain⟨k1,rfl⟩:=xy e
   have:=h1 i _ (List.getElem?_eq_getElem k1)
   exact ua this
  | none =>
   rw[jno id e] at hid
   have:=hdom id hid
   omega
 ·refine⟨ex.os,ex.tape,ex.output,ex.size,λb hb hn=>ex.block b hb λho=>?_,ex.frozen,hle,ex.grow,λb ⟨id,s,hs,hb⟩=>?_,λb hb=>?_⟩
  ·obtain⟨i,s,_,k2,k3⟩:=own0 b ho
   exact hn ⟨ρ i,s,k2,k3⟩
  ·cases e:back ρ H0'.length id with
   | some i =>
    obtain⟨k1,rfl⟩:=xy e
    rw[jat i k1] at hs
    refine(ex.x7 b ⟨i,s,hs,hb⟩).imp_left λq=>?_
    obtain⟨k,s',_,k2,k3⟩:=own0 b q
    exact⟨ρ k,s',k2,k3⟩
   | none =>
    rw[jno id e] at hs
    exact .inl ⟨id,s,hs,hb⟩
  ·rcases ex.wu b hb with q|q|q
   ·exact .inl q
   ·obtain⟨k,s',_,k2,k3⟩:=own0 b q
    exact .inr (.inl ⟨ρ k,s',k2,k3⟩)
   ·exact .inr (.inr q)
theorem wU {pre post:List D} {cs cs':List D} {d:D} (h:yu P f (pre++.loc 0 0::post) [.row true cs] d [.row true cs']) (hpre:ze pre) (hpost:ze post) (hcs:ze cs) (hcs':ze cs') (hd:Pure d)
  {H:List zf} {id:Nat} (hid:H[id]? = some (.row true cs)):yu P f (pre++.loc id 0::post) H d (H.set id (.row true cs')):=by
 have hap:∀(a b:List D) (ρ:Nat→Nat),yG ρ (a++b)=yG ρ a++yG ρ b:=λa b ρ=>by
  induction a with
  | nil=>simp only[yG,List.nil_append]
  | cons x r ih=>simp only[List.cons_append,yG,ih]
 have hua:∀(a b:List D),zl 1 a→zl 1 b→zl 1 (a++b):=λa b ha hb=>by
  induction a with
  | nil=>exact hb
  | cons x r ih=>simp only[zl,List.cons_append] at ha ⊢;exact⟨ha.1,ih ha.2⟩
 have one:∀(i:Nat) (x y:zf),[x][i]? = some y→i=0∧y=x:=λi x y h=>by
  cases i with
  | zero=>simp at h;exact⟨rfl,h.symm⟩
  | succ i=>simp at h
 have:=zbR (H:=H) (H':=H.set id (.row true cs')) (λ_=>id) h (λi j hi hj _=>by simp at hi hj;omega) (λi o ho=>by
   obtain⟨_,rfl⟩:=one i _ o ho
   simp only[zf.yI,xa cs hcs];exact hid) (λi h1 h2=>by simp at h1 h2;omega) (by simp) (λi o ho=>by
   obtain⟨_,rfl⟩:=one i _ o ho
   simp only[zf.yI,xa cs' hcs']
   rw[List.getElem?_set_self (ua hid)]) (λj hj hne=>by
   rw[List.getElem?_set_ne (hne 0 (by simp))]) (by
   refine hua _ _ (zr _ hpre) ?_
   simp only[zl,zt]
   exact⟨by simp,zr _ hpost⟩) (λo ho=>by
   simp at ho;subst ho
   exact zr _ hcs)
 rw[hap,xa _ hpre,yH _ hd] at this
 simpa only[yG,D.yI,xa _ hpost] using this
def WA:List zf→List Nat→List zf→List zf
 | H,i::L,o::r=>WA (H.set i o) L r
 | H,_,_=>H
theorem YA:∀(L:List Nat) (os H:List zf),(WA H L os).length=H.length
 | [],os,H=>by cases os<;>rfl
 | i::L,[],H=>rfl
 | i::L,o::r,H=>by simp only[WA];rw[YA L r];simp
theorem zac:∀(L:List Nat) (os H:List zf) (j:Nat),j ∉ L→(WA H L os)[j]? = H[j]?
 | [],os,H,j,_=>by cases os<;>rfl
 | i::L,[],H,j,_=>rfl
 | i::L,o::r,H,j,h=>by
  simp only[WA]
  rw[zac L r _ j (λq=>h (by simp[q])),List.getElem?_set_ne (λe=>h (by simp[e]))]
theorem zcG:∀(L:List Nat) (os H:List zf) (k:Nat) (o:zf),L.Nodup→(∀i∈L,i<H.length)→k<L.length→os[k]? = some o→(WA H L os)[L.getD k 0]? = some o
 | [],os,H,k,o,_,_,h,_=>by simp at h
 | i::L,[],H,k,o,_,_,_,h=>by simp at h
 | i::L,x::r,H,0,o,hn,hl,_,h=>by
  simp only[WA,List.getD_cons_zero]
  rw[zac L r _ i (List.nodup_cons.1 hn).1,List.getElem?_set_self (hl i (by simp))]
  simpa using h
 | i::L,x::r,H,k+1,o,hn,hl,hk,h=>by
  simp only[WA,List.getD_cons_succ]
  exact zcG L r _ k o (List.nodup_cons.1 hn).2 (λj hj=>by simpa using hl j (by simp[hj])) (by simpa using hk) (by simpa using h)
theorem QY {args0:List D} {H0 H0':List zf} {d0:D} (hA:yu P f args0 H0 d0 H0') (hl:H0'.length=H0.length) (L:List Nat) (hL:L.length=H0.length) (hnd:L.Nodup)
  (hargs:zl H0.length args0) (hobj:wD H0.length H0) {args:List D} {d:D} {H:List zf} (e1:yG (λi=>L.getD i 0) args0=args) (e2:D.yI (λi=>L.getD i 0) d0=d)
  (h1:∀i o,H0[i]? = some o→H[L.getD i 0]? = some (o.yI λi=>L.getD i 0)):u7 P f args H d (WA H L (H0'.map (zf.yI λi=>L.getD i 0))) L:=by
 subst e1 e2
 have mem:∀{j},j∈L↔∃i,i<H0.length∧L.getD i 0=j:=λ{j}=>by
  rw[List.mem_iff_getElem]
  constructor
  ·rintro⟨i,hi,rfl⟩
   exact⟨i,by omega,by rw[List.getD_eq_getElem?_getD,List.getElem?_eq_getElem hi];rfl⟩
  ·rintro⟨i,hi,rfl⟩
   exact⟨i,by omega,by rw[List.getD_eq_getElem?_getD,List.getElem?_eq_getElem (by omega)];rfl⟩
 have ub:∀id∈L,id<H.length:=λid hid=>by
  obtain⟨i,hi,rfl⟩:=mem.1 hid
  exact ua (h1 i _ (List.getElem?_eq_getElem hi))
 have inj:∀i j,i<H0'.length→j<H0'.length→L.getD i 0=L.getD j 0→i=j:=λi j hi hj e=>by
  rw[List.getD_eq_getElem?_getD,List.getD_eq_getElem?_getD,List.getElem?_eq_getElem (by omega),List.getElem?_eq_getElem (by omega)] at e
  exact(List.getElem_inj hnd).1 e
 refine⟨hA.ok,by rw[YA];exact Nat.le_refl _,λid hid=>zac _ _ _ _ hid,λid hid=>by rw[YA];exact ub id hid,λJ F w vs G hst hG _ hrep=>?_⟩
 have core:=QV (G:=G) (G':=λid=>if id∈L then (WA H L (H0'.map (zf.yI λi=>L.getD i 0)))[id]? else G id) (λi=>L.getD i 0) hA inj hst (λi o ho=>by
   rw[hG _ (mem.2 ⟨i,ua ho,rfl⟩)];exact h1 i o ho) (λi h1 h2=>by omega) hrep (λi o ho=>by
   have hi:=ua ho
   rw[if_pos (mem.2 ⟨i,by omega,rfl⟩)]
   exact zcG L _ H i _ hnd ub (by omega) (by rw[List.getElem?_map,ho];rfl)) (λj hj=>by
   rw[if_neg λh=>by obtain⟨i,hi,e⟩:=mem.1 h;exact hj i (by omega) e]) hargs (qT hobj)
 refine core.mono λe w' ⟨v,J',F',q1,q2,q3,q4,q5⟩=>⟨v,J',F',q1,q2,λid hid=>(q3 id hid).imp_right λ⟨i,hi,e⟩=>mem.2 ⟨i,by omega,e⟩,q4,q5⟩
theorem ziw {args0:List D} {H0:List zf} {d0:D} (hA:yu P f args0 H0 d0 H0) (L:List Nat) (hL:L.length=H0.length) (hnd:L.Nodup)
  (hargs:zl H0.length args0) (hobj:wD H0.length H0) {args:List D} {d:D} {H:List zf} (e1:yG (λi=>L.getD i 0) args0=args) (e2:D.yI (λi=>L.getD i 0) d0=d)
  (h1:∀i o,H0[i]? = some o→H[L.getD i 0]? = some (o.yI λi=>L.getD i 0)) (m:Nat) {q:Bool} {cs:List D} (hm:D.loc m 0∈args) (hrow:H[m]? = some (.row q cs)) (hmL:m∈L) (xL:∀id∈L,id=m∨∃v lo hi,D.own id v lo hi∈cs):zgC P f args H d L:=by
 have hAt:=QY hA rfl L hL hnd hargs hobj e1 e2 h1
 have ub:∀id∈L,id<H.length∧(WA H L (H0.map (zf.yI λi=>L.getD i 0)))[id]? = H[id]?:=λid hid=>by
  obtain⟨i,hi,rfl⟩:=List.mem_iff_getElem.1 hid
  have e:L.getD i 0=L[i]:=by rw[List.getD_eq_getElem?_getD,List.getElem?_eq_getElem hi];rfl
  have hk:=h1 i _ (List.getElem?_eq_getElem (by omega))
  rw[←e]
  refine⟨ua hk,?_⟩
  rw[hk]
  refine zcG L _ H i _ hnd (λj hj=>?_) hi (by rw[List.getElem?_map,List.getElem?_eq_getElem (by omega)];rfl)
  obtain⟨i',hi',rfl⟩:=List.mem_iff_getElem.1 hj
  have:=ua (h1 i' _ (List.getElem?_eq_getElem (by omega)))
  rwa [List.getD_eq_getElem?_getD,List.getElem?_eq_getElem hi'] at this
 refine⟨hA.ok,λJ F w vs G hok hG hrep=>?_⟩
 have hJm:∃s,J m=some s:=by
  have:∀(ds:List D) (us:List Value),D.loc m 0∈ds→yf J F w ds us→∃s,J m=some s:=λds=>by
   induction ds with
   | nil=>intro us h;simp at h
   | cons x r ih =>
    intro us h k
    simp only[yf] at k
    obtain⟨v,us,rfl,k1,k2⟩:=k
    rcases List.mem_cons.1 h with rfl|h
    ·simp only[rep] at k1
     obtain⟨s,b,k1,_⟩:=k1
     exact⟨s,k1⟩
    ·exact ih us h k2
  exact this _ _ hm hrep
 have hJ:∀id∈L,J id≠none:=λid hid=>by
  obtain⟨s,hs⟩:=hJm
  rcases xL id hid with rfl|⟨v,lo,hi,hc⟩
  ·rw[hs];simp
  ·obtain⟨o,k1,k2⟩:=hok.obj m s hs
   rw[hG m hmL,hrow] at k1
   cases k1
   obtain⟨_,_,_,_,_,b,vals,te,_,_,_,k3,_⟩:=k2
   have:∀(ds:List D) (n:Nat),D.own id v lo hi∈ds→zS J F w b ds n→J id≠none:=λds=>by
    induction ds with
    | nil=>intro n h;simp at h
    | cons x r ih =>
     intro n h k
     simp only[zS] at k
     obtain⟨⟨u,_,_,k1⟩,k2⟩:=k
     rcases List.mem_cons.1 h with rfl|h
     ·simp only[rep] at k1
      obtain⟨s',_,_,_,k1,_⟩:=k1
      rw[k1];simp
     ·exact ih _ h k2
   exact this _ _ hc k3
 refine(hAt.run J F w vs G hok hG (λid hid hge=>by have:=(ub id hid).1;omega) hrep).mono λe w' hR=>?_
 obtain⟨v,J',F',rfl,k1,k2,k3,k4⟩:=hR
 refine⟨v,J',F',rfl,?_,λid h=>(k2 id h).elim (λh=>h) (hJ id),k3,k4⟩
 have e:(λid=>if id∈L then (WA H L (H0.map (zf.yI λi=>L.getD i 0)))[id]? else G id)=G:=by
  funext id
  split
  ·rename_i hid
   rw[(ub id hid).2,hG id hid]
  ·rfl
 rw[e] at k1
 exact k1
def VQ (L:List Nat) (h n:Nat):List Nat:=L++List.range' h n
theorem zcd {args0:List D} {H0 H0':List zf} {d0:D} (hA:yu P f args0 H0 d0 H0') (L:List Nat) (hL:L.length=H0.length) (hnd:L.Nodup)
  (hargs:zl H0.length args0) (hobj:wD H0.length H0) {args:List D} {d:D} {H:List zf} (W:List Nat) (hW:W=VQ L H.length (H0'.length-H0.length)) (e1:yG (λi=>W.getD i 0) args0=args) (e2:D.yI (λi=>W.getD i 0) d0=d)
  (h1:∀i o,H0[i]? = some o→H[L.getD i 0]? = some (o.yI λi=>W.getD i 0)) {H2:List zf} (e3:WA H L ((H0'.take H0.length).map (zf.yI λi=>W.getD i 0))++(H0'.drop H0.length).map (zf.yI λi=>W.getD i 0)=H2):u7 P f args H d H2 W:=by
 subst e1 e2 e3
 have hl0:=hA.len
 have ub:∀id∈L,id<H.length:=λid hid=>by
  obtain⟨i,hi,rfl⟩:=List.mem_iff_getElem.1 hid
  have:=ua (h1 i _ (List.getElem?_eq_getElem (by omega)))
  rwa [List.getD_eq_getElem?_getD,List.getElem?_eq_getElem hi] at this
 have hWl:W.length=H0'.length:=by rw[hW,VQ,List.length_append,List.length_range'];omega
 have hWn:W.Nodup:=by
  rw[hW,VQ,List.nodup_append]
  refine⟨hnd,List.nodup_range',λa ha b hb e=>?_⟩
  have:=ub a ha
  have:=(List.mem_range'_1.1 hb).1
  omega
 have mem:∀{j},j∈W↔∃i,i<H0'.length∧W.getD i 0=j:=λ{j}=>by
  rw[List.mem_iff_getElem]
  constructor
  ·rintro⟨i,hi,rfl⟩
   exact⟨i,by omega,by rw[List.getD_eq_getElem?_getD,List.getElem?_eq_getElem hi];rfl⟩
  ·rintro⟨i,hi,rfl⟩
   exact⟨i,by omega,by rw[List.getD_eq_getElem?_getD,List.getElem?_eq_getElem (by omega)];rfl⟩
 have inj:∀i j,i<H0'.length→j<H0'.length→W.getD i 0=W.getD j 0→i=j:=λi j hi hj e=>by
  rw[List.getD_eq_getElem?_getD,List.getD_eq_getElem?_getD,List.getElem?_eq_getElem (by omega),List.getElem?_eq_getElem (by omega)] at e
  exact(List.getElem_inj hWn).1 e
 have wold:∀i,i<L.length→W.getD i 0=L.getD i 0:=λi hi=>by
  rw[hW,VQ,List.getD_eq_getElem?_getD,List.getElem?_append_left hi,List.getD_eq_getElem?_getD]
 have wnew:∀i,L.length≤i→i<H0'.length→W.getD i 0=H.length+(i-L.length):=λi h1 h2=>by
  rw[hW,VQ,List.getD_eq_getElem?_getD,List.getElem?_append_right h1,List.getElem?_range' (by omega)]
  simp
 have hN:(WA H L ((H0'.take H0.length).map (zf.yI λi=>W.getD i 0))++(H0'.drop H0.length).map (zf.yI λi=>W.getD i 0)).length=H.length+(H0'.length-H0.length):=by
  rw[List.length_append,YA,List.length_map,List.length_drop]
 have at2:∀i o,H0'[i]? = some o→(WA H L ((H0'.take H0.length).map (zf.yI λi=>W.getD i 0))++(H0'.drop H0.length).map (zf.yI λi=>W.getD i 0))[W.getD i 0]? = some (o.yI λi=>W.getD i 0):=λi o ho=>by
  have hi:=ua ho
  rcases Nat.lt_or_ge i L.length with q|q
  ·rw[wold i q,List.getElem?_append_left (by rw[YA];exact ub _ (by rw[List.getD_eq_getElem?_getD,List.getElem?_eq_getElem q];exact List.getElem_mem q))]
   refine zcG L _ H i _ hnd ub q ?_
   rw[List.getElem?_map,List.getElem?_take_of_lt (by omega),ho]
   rfl
  ·rw[wnew i q hi,List.getElem?_append_right (by rw[YA];omega),YA,List.getElem?_map,List.getElem?_drop,show H0.length+(H.length+(i-L.length)-H.length)=i by omega,ho]
   rfl
 refine⟨hA.ok,by rw[hN];omega,λid hid=>?_,λid hid=>?_,λJ F w vs G hst hG hnone hrep=>?_⟩
 ·have h2:id ∉ L:=λh=>hid (by rw[hW,VQ];exact List.mem_append_left _ h)
  rcases Nat.lt_or_ge id H.length with q|q
  ·rw[List.getElem?_append_left (by rw[YA];exact q),zac _ _ _ _ h2]
  ·rcases Nat.lt_or_ge id (H.length+(H0'.length-H0.length)) with q2|q2
   ·exact absurd (by rw[hW,VQ];exact List.mem_append_right _ (List.mem_range'_1.2 ⟨q,q2⟩)) hid
   ·rw[List.getElem?_eq_none q,List.getElem?_eq_none (by rw[hN];exact q2)]
 ·obtain⟨i,hi,rfl⟩:=mem.1 hid
  exact ua (at2 i _ (List.getElem?_eq_getElem hi))
 ·have core:=QV (G:=G) (G':=λid=>if id∈W then (WA H L ((H0'.take H0.length).map (zf.yI λi=>W.getD i 0))++(H0'.drop H0.length).map (zf.yI λi=>W.getD i 0))[id]? else G id) (λi=>W.getD i 0) hA inj hst (λi o ho=>by
    have hi:=ua ho
    rw[hG _ (mem.2 ⟨i,by omega,rfl⟩),wold i (by omega)];exact h1 i o ho) (λi q1 q2=>by
    refine hnone _ (mem.2 ⟨i,q2,rfl⟩) ?_
    rw[wnew i (by omega) q2];omega) hrep (λi o ho=>by
    rw[if_pos (mem.2 ⟨i,ua ho,rfl⟩)]
    exact at2 i o ho) (λj hj=>by
    rw[if_neg λh=>by obtain⟨i,hi,e⟩:=mem.1 h;exact hj i hi e]) hargs (qT hobj)
  exact core.mono λe w' ⟨v,J',F',q1,q2,q3,q4,q5⟩=>⟨v,J',F',q1,q2,λid hid=>(q3 id hid).imp_right λ⟨i,hi,e⟩=>mem.2 ⟨i,hi,e⟩,q4,q5⟩
theorem vP {args:List D} {H0':List zf} {d0:D} (hA:yu P f args [] d0 H0') (hp:ze args) {d:D} {H H2:List zf} (W:List Nat) (hW:W=List.range' H.length H0'.length) (e2:D.yI (λi=>W.getD i 0) d0=d)
  (e3:H++H0'.map (zf.yI λi=>W.getD i 0)=H2):u7 P f args H d H2 W :=
 zcd hA [] rfl .nil (zr _ hp) trivial W (by rw[hW];rfl) (xa _ hp) e2 (λi o h=>by simp at h) (by rw[←e3];rfl)
theorem wa {pre post:List D} {cs cs':List D} {d:D} (h:yu P f (pre++.loc 0 0::post) [.row true cs] d [.row true cs']) (hpre:ze pre) (hpost:ze post) (hcs:ze cs) (hcs':ze cs') (hd:Pure d)
  {H:List zf} {id:Nat} (hid:H[id]? = some (.row true cs)):u7 P f (pre++.loc id 0::post) H d (H.set id (.row true cs')) [id]:=by
 have hap:∀(a b:List D) (ρ:Nat→Nat),yG ρ (a++b)=yG ρ a++yG ρ b:=λa b ρ=>by
  induction a with
  | nil=>simp only[yG,List.nil_append]
  | cons x r ih=>simp only[List.cons_append,yG,ih]
 have hua:∀(a b:List D),zl 1 a→zl 1 b→zl 1 (a++b):=λa b ha hb=>by
  induction a with
  | nil=>exact hb
  | cons x r ih=>simp only[zl,List.cons_append] at ha ⊢;exact⟨ha.1,ih ha.2⟩
 have:=QY h rfl [id] rfl (by simp) (hua _ _ (zr _ hpre) ⟨by simp[zt],zr _ hpost⟩) ⟨zr _ hcs,trivial⟩ (H:=H) (args:=pre++.loc id 0::post) (d:=d)
  (by rw[hap,xa _ hpre];simp only[yG,D.yI,xa _ hpost];rfl) (yH _ hd) (λi o ho=>by
   cases i with
   | zero=>simp at ho;subst ho;simp only[zf.yI,xa cs hcs];exact hid
   | succ i=>simp at ho)
 simpa only[List.map_cons,List.map_nil,WA,zf.yI,xa cs' hcs'] using this
end
end
section
open Go.RowKit
section
variable {P:Program} {n:Nat}
def endD (d:D) (H2:List zf) (r:D) (Hf:List zf):Prop:=yc (YZ H2.length) Hf r d∧Wy H2.length Hf Hf H2
theorem wI {f:FuncId} {rs:List RV} {p:PC} {args:List D} {H:List zf} {d:D} {H2:List zf} (hf:zy P f n rs p) (hn:args.length≤n) (hlen:H.length≤H2.length)
  (h:PWp P n p (ztk rs λr Hf=>endD d H2 r Hf) (params 0 args) H) (hd:zt H2.length d):yu P f args H d H2:=by
 refine⟨zdT hf,hlen,λJ F w vs hok hdom hargs=>?_⟩
 obtain⟨fn,h1,h2,h3,h4,h5⟩:=hf.out
 cases e:fn.body with
 | none=>rw[e] at h5;cases h5
 | some c =>
  rw[e] at h5
  simp only[Option.bind_some] at h5
  refine calls_of_wp h1 e ?_
  rw[h2]
  refine wp_mono (qh h h5 (zbk hn hargs hok hdom)) λe' a' w' ⟨env',H',J',F',q1,q2,q3⟩=>?_
  have fin:e'=.normal∨e'=.ret→a'.defers=[]∧∃v,(results fn a'.tmps).run P w'=.ok v w'∧∃v' J'' F'',Ending.returned v=Ending.returned v'∧yZ J'' F'' w' (λi=>H2[i]?)∧(∀id,J'' id≠none→id<H2.length)∧rep J'' F'' w' d v'∧Ext J F w J'' F'' w':=λhe=>by
   obtain⟨r,v,⟨hdm,hcl⟩,k2,k3⟩:=Uw h4 q2 he q1
   have hok':=q2.ok
   have kle:(yp H2.length J').le J':=λi s hs=>by
    unfold yp at hs
    split at hs
    ·exact⟨s,hs,Nat.le_refl _,λ_=>rfl⟩
    ·cases hs
   refine⟨q2.defers,v,k2,v,yp H2.length J',λb=>F' b∨YE (YZ H2.length) J' b,rfl,⟨λi s hs=>?_,λi i' s s' b g1 g2 g3 g4=>?_,λi s b o g1 g2 g3 g4=>?_,hok'.lt.mono (λ_ h=>.inl h) (λ_ _=>rfl) λb hb=>?_⟩,λi hi=>?_,Vi _ _ hd (Zk hok' _ _ _ hdm k3),?_⟩
   ·unfold yp at hs
    split at hs
    ·rename_i hi
     obtain⟨o,g1,g2⟩:=hok'.obj i s hs
     obtain⟨o',g3,g4⟩:=XF H' H2 hcl i o hi g1
     exact⟨o',g3,(Qj hok' g4 g2).1⟩
    ·cases hs
   ·unfold yp at g1 g2
    split at g1<;>split at g2
    ·exact hok'.one i i' s s' b g1 g2 g3 g4
    all_goals first|cases g1|cases g2
   ·unfold yp at g1
    split at g1
    ·rename_i hi
     obtain⟨o1,t1,t2⟩:=hok'.obj i s g1
     obtain⟨o',t3,t4⟩:=XF H' H2 hcl i o1 hi t1
     have g3':H2[i]? = some o:=g3
     rw[g3'] at t3
     cases t3
     have hmut:=(Qj hok' t4 t2).2
     rintro(hx|⟨i',s',p1,p2,p3⟩)
     ·exact hok'.apart i s b o1 g1 g2 t1 (by rw[←hmut];exact g4) hx
     ·have p1:=zgv.1 p1
      have:=hok'.one i i' s s' b g1 p2 g2 p3
      omega
    ·cases g1
   ·exact hb.elim (hok'.lt b) λ⟨i,s,_,t1,t2⟩=>hok'.xu t1 t2
   ·unfold yp at hi
    split at hi
    ·assumption
    ·exact absurd rfl hi
   ·refine⟨q3.os,q3.tape,q3.output,q3.size,q3.block,q3.frozen,λi s hs=>?_,λb hb=>.inl (q3.grow b hb),λb ⟨i,s,hs,hb⟩=>?_,λb hb=>?_⟩
    ·obtain⟨s',g1,g2,g3⟩:=q3.le i s hs
     have hi:i<H2.length:=by have:=hdom i (by rw[hs];simp);omega
     exact⟨s',by simp[yp,hi,g1],g2,g3⟩
    ·obtain⟨s',g1,_⟩:=kle i s hs
     unfold yp at hs
     split at hs
     ·exact q3.x7 b ⟨i,s,hs,hb⟩
     ·cases hs
    ·rcases hb with hb|⟨i,s,_,t1,t2⟩
     ·exact q3.wu b hb
     ·rcases q3.x7 b ⟨i,s,t1,t2⟩ with q|q
      ·exact .inr (.inl q)
      ·exact .inr (.inr q)
  cases e' with
  | normal=>exact fin (.inl rfl)
  | ret=>exact fin (.inr rfl)
  | exit id=>exact q1.elim
  | goto l=>exact q1.elim
  | panic ch=>exact q1.elim
  | outgrown=>exact q1.elim
end
end
section
open Go.RowKit
abbrev WP:=qO→Env→List zf→Prop
def zwf:WP:=λQ env H=>Q .normal env H
def seqQ (g:WP) (Q:qO):qO:=λe env H=>match e with
 | .normal=>g Q env H
 | e=>Q e env H
def seqW (f g:WP):WP:=λQ env H=>f (seqQ g Q) env H
def zwq (c:Operand) (f g:WP):WP:=λQ env H=>Zw env c λd=>match d with
 | .sc (.bool t)=>ifK t (f Q env H) (g Q env H)
 | _=>False
def zzg (id:Nat) (Q:qO):qO:=λe env H=>match e with
 | .exit id'=>match Nat.beq id' id with
  | true=>Q .normal env H
  | false=>Q (.exit id') env H
 | e=>Q e env H
def zsq (id:Nat) (f:WP):WP:=λQ env H=>f (zzg id Q) env H
def zwF (P:Program) (n:Nat) (c:PC):WP:=λQ env H=>PWp P n (.loop c) Q env H
def zwM (P:Program) (n:Nat) (c:PC):WP:=λQ env H=>PWp P n c Q env H
def zwR (id:Nat):WP:=λQ env H=>Q (.exit id) env H
def retW:WP:=λQ env H=>Q .ret env H
abbrev WO:=Env→List zf→(Env→List zf→Prop)→Prop
def nilO:WO:=λenv H K=>K env H
def opO (P:Program) (o:yy) (g:WO):WO:=λenv H K =>
 match o.guard with
 | none=>step P true o.op env H λd H' _ _=>match o.dst with
  | some t=>g ((t,d)::env) H' K
  | none=>g env H' K
 | some (t,b)=>V7 t (λq=>match q with
  | .sc (.bool c)=>match b with
   | true=>ifK c
    (step P true o.op env H λd H' _ _=>match o.dst with
     | some u=>g ((u,d)::env) H' K
     | none=>g env H' K)
    (match o.dst with
     | some u=>g ((u,.sc undef)::env) H K
     | none=>g env H K)
   | false=>ifK c
    (match o.dst with
     | some u=>g ((u,.sc undef)::env) H K
     | none=>g env H K)
    (step P true o.op env H λd H' _ _=>match o.dst with
     | some u=>g ((u,d)::env) H' K
     | none=>g env H' K)
  | .sc (.tuple _)=>match o.dst with
   | some u=>g ((u,.sc undef)::env) H K
   | none=>g env H K
  | _=>False) env
def opsW (f:WO):WP:=λQ env H=>f env H λenv H=>Q .normal env H
abbrev WD:=Env→List zf→(Env→List zf→Trace→Prop)→Prop
def nilD:WD:=λenv H K=>K env H []
def opD (P:Program) (o:yy) (g:WD):WD:=λenv H K =>
 match o.guard with
 | none=>step P false o.op env H λd H' rd wr=>match o.dst with
  | some t=>g ((t,d)::env) H' λe h tr=>K e h (((rd,wr),(Vr o.op env,d,H'))::tr)
  | none=>g env H' λe h tr=>K e h (((rd,wr),(Vr o.op env,d,H'))::tr)
 | some (t,b)=>V7 t (λq=>match q with
  | .sc (.bool c)=>match b with
   | true=>ifK c
    (step P false o.op env H λd H' rd wr=>match o.dst with
     | some u=>g ((u,d)::env) H' λe h tr=>K e h (((rd,wr),(none,d,H'))::tr)
     | none=>g env H' λe h tr=>K e h (((rd,wr),(none,d,H'))::tr))
    (match o.dst with
     | some u=>g ((u,.sc undef)::env) H λe h tr=>K e h ((([],[]),(none,.sc undef,H))::tr)
     | none=>g env H λe h tr=>K e h ((([],[]),(none,.sc undef,H))::tr))
   | false=>ifK c
    (match o.dst with
     | some u=>g ((u,.sc undef)::env) H λe h tr=>K e h ((([],[]),(none,.sc undef,H))::tr)
     | none=>g env H λe h tr=>K e h ((([],[]),(none,.sc undef,H))::tr))
    (step P false o.op env H λd H' rd wr=>match o.dst with
     | some u=>g ((u,d)::env) H' λe h tr=>K e h (((rd,wr),(none,d,H'))::tr)
     | none=>g env H' λe h tr=>K e h (((rd,wr),(none,d,H'))::tr))
  | .sc (.tuple _)=>match o.dst with
   | some u=>g ((u,.sc undef)::env) H λe h tr=>K e h ((([],[]),(none,.sc undef,H))::tr)
   | none=>g env H λe h tr=>K e h ((([],[]),(none,.sc undef,H))::tr)
  | _=>False) env
def zwk (l:List yy) (f:WD):WP:=λQ env H=>f env H λe h tr=>match zgW [] l tr with
 | true=>Q .normal e h
 | false=>match za0 [] l tr with
  | true=>zbf (Q .normal e h) 0 [] l tr
  | false=>False
section
variable {P:Program} {n:Nat}
def zhy (P:Program) (l:List yy) (f:WO):Prop:=f=vt P l
def zhA (P:Program) (l:List yy) (f:WD):Prop:=f=Vy P l
def Q3 (P:Program) (n:Nat) (p:PC) (f:WP):Prop:=f=pw P n p
theorem zhy.nil:zhy P [] nilO:=rfl
theorem zhy.cons (o:yy) {l:List yy} {g:WO} (h:zhy P l g):zhy P (o::l) (opO P o g):=by
 unfold zhy at h ⊢
 subst h
 funext env H K
 rfl
theorem zhA.nil:zhA P [] nilD:=rfl
theorem zhA.cons (o:yy) {l:List yy} {g:WD} (h:zhA P l g):zhA P (o::l) (opD P o g):=by
 unfold zhA at h ⊢
 subst h
 funext env H K
 rfl
theorem Q3.skip:Q3 P n .skip zwf:=rfl
theorem Q3.ops {l:List yy} {f:WO} (h:zhy P l f):Q3 P n (.ops l false) (opsW f):=by
 unfold zhy at h;subst h;rfl
theorem Q3.draw {l:List yy} {f:WD} (h:zhA P l f):Q3 P n (.ops l true) (zwk l f):=by
 unfold zhA at h;subst h;rfl
theorem Q3.seq {a b:PC} {f g:WP} (h:Q3 P n a f) (k:Q3 P n b g):Q3 P n (.seq a b) (seqW f g):=by
 unfold Q3 at h k;subst h;subst k;rfl
theorem Q3.cond (c:Operand) {a b:PC} {f g:WP} (h:Q3 P n a f) (k:Q3 P n b g):Q3 P n (.cond c a b) (zwq c f g):=by
 unfold Q3 at h k;subst h;subst k;rfl
theorem Q3.block (id:Nat) {a:PC} {f:WP} (h:Q3 P n a f):Q3 P n (.block id a) (zsq id f):=by
 unfold Q3 at h;subst h;rfl
theorem Q3.loop (c:PC):Q3 P n (.loop c) (zwF P n c):=rfl
theorem Q3.stop (c:PC):Q3 P n (.stop c) (zwM P n c):=rfl
theorem Q3.exit (id:Nat):Q3 P n (.exit id) (zwR id):=rfl
theorem Q3.ret:Q3 P n .ret retW:=rfl
theorem zo9 {p:PC} {f:WP} {Q:qO} {env:Env} {H:List zf} (h:Q3 P n p f) (k:f Q env H):PWp P n p Q env H :=
 W4 _ _ _ _ (by unfold Q3 at h;subst h;exact k)
inductive RdO (P:Program):List yy→WO→Prop
 | nil:RdO P [] nilO
 | cons {o:yy} {l:List yy} {g:WO} (h:RdO P l g):RdO P (o::l) (opO P o g)
inductive RdD (P:Program):List yy→WD→Prop
 | nil:RdD P [] nilD
 | cons {o:yy} {l:List yy} {g:WD} (h:RdD P l g):RdD P (o::l) (opD P o g)
inductive Rd (P:Program) (n:Nat):PC→WP→Prop
 | skip:Rd P n .skip zwf
 | ret:Rd P n .ret retW
 | exit {id:Nat}:Rd P n (.exit id) (zwR id)
 | loop {c:PC}:Rd P n (.loop c) (zwF P n c)
 | stop {c:PC}:Rd P n (.stop c) (zwM P n c)
 | ops {l:List yy} {f:WO} (h:RdO P l f):Rd P n (.ops l false) (opsW f)
 | draw {l:List yy} {f:WD} (h:RdD P l f):Rd P n (.ops l true) (zwk l f)
 | seq {a b:PC} {f g:WP} (h:Rd P n a f) (k:Rd P n b g):Rd P n (.seq a b) (seqW f g)
 | cond {c:Operand} {a b:PC} {f g:WP} (h:Rd P n a f) (k:Rd P n b g):Rd P n (.cond c a b) (zwq c f g)
 | block {id:Nat} {a:PC} {f:WP} (h:Rd P n a f):Rd P n (.block id a) (zsq id f)
theorem RdO.red {l:List yy} {f:WO} (h:RdO P l f):zhy P l f:=by
 induction h with
 | nil=>exact .nil
 | cons _ ih=>exact .cons _ ih
theorem RdD.red {l:List yy} {f:WD} (h:RdD P l f):zhA P l f:=by
 induction h with
 | nil=>exact .nil
 | cons _ ih=>exact .cons _ ih
theorem Rd.red {p:PC} {f:WP} (h:Rd P n p f):Q3 P n p f:=by
 induction h with
 | skip=>exact .skip
 | ret=>exact .ret
 | exit=>exact .exit _
 | loop=>exact .loop _
 | stop=>exact .stop _
 | ops h=>exact .ops h.red
 | draw h=>exact .draw h.red
 | seq _ _ ih ik=>exact .seq ih ik
 | cond _ _ ih ik=>exact .cond _ ih ik
 | block _ ih=>exact .block _ ih
theorem ziI {p:PC} {f:WP} {Q:qO} {env:Env} {H:List zf} (h:Rd P n p f) (k:f Q env H):PWp P n p Q env H:=zo9 h.red k
end
end
section
open Go.RowKit
theorem yV {L n:Nat} (id j zH:Nat) {env:Env} {H:List zf} {cs:List D} (hL:L≤H.length) (hid:H[id]? = some (.row true cs)) (hj:cs[j]? = some (.sc (.slice none 0 0))) :
  St.leB L n env H env (H.set id (.row true (cs.set j (.own H.length 0 0 0)))++[.vec true 0 zH []]):=λJ F a w hr=>by
 have hfree:J H.length=none:=by
  cases e:J H.length with
  | none=>rfl
  | some s=>have:=hr.dom H.length (by rw[e];simp);omega
 have hidl:=ua hid
 let J':yX:=λi=>if i=H.length then some ⟨false,0,none,zH,0,0⟩ else J i
 have hle:J.le J':=λi s hs=>⟨s,by
  have:i≠H.length:=λe=>by subst e;rw[hfree] at hs;cases hs
  simp[J',this,hs],Nat.le_refl _,λ_=>rfl⟩
 have hget:∀i,i≠H.length→i≠id→(H.set id (.row true (cs.set j (.own H.length 0 0 0)))++[zf.vec true 0 zH []])[i]? = H[i]?:=λi hi hne=>by
  rcases Nat.lt_or_ge i H.length with q|q
  ·rw[List.getElem?_append_left (by simpa using q),List.getElem?_set_ne (λe=>hne e.symm)]
  ·rw[List.getElem?_eq_none q,List.getElem?_eq_none (by simp;omega)]
 have hgid:(H.set id (.row true (cs.set j (.own H.length 0 0 0)))++[zf.vec true 0 zH []])[id]? = some (.row true (cs.set j (.own H.length 0 0 0))):=by
  rw[List.getElem?_append_left (by simpa using hidl),List.getElem?_set_self hidl]
 have hnew:∀v,v=Value.slice none 0 0→rep J' F w (.own H.length 0 0 0) v:=λv hv=>by
  simp only[rep]
  exact⟨_,none,0,0,by simp[J'];rfl,hv,Nat.le_refl _,λ_=>⟨rfl,Nat.le_refl _,Nat.zero_le _,rfl,rfl,.inl rfl⟩⟩
 refine⟨J',F,⟨hr.defers,hr.size,λu=>yT hle (λ_ h=>h) (λ_ _=>rfl) _ _ (hr.tmps u),⟨λi s hs=>?_,λi i' s s' b g1 g2 g3 g4=>?_,λi s b o g1 g2 g3 g4=>?_,hr.ok.lt⟩,λi hi=>?_⟩,λi s hi hs=>?_,λb hb=>hb,λb ⟨i,s,hs,hb⟩=>?_,λb hb=>.inl hb⟩
 ·simp only[J'] at hs
  split at hs
  ·rename_i e;subst e
   cases hs
   exact⟨.vec true 0 zH [],by simp,rfl,rfl,rfl,rfl,Nat.le_refl _,.inl rfl⟩
  ·rename_i e
   obtain⟨o,h1,h2⟩:=hr.ok.obj i s hs
   by_cases e2:i=id
   ·subst e2
    have h1':H[i]? = some o:=h1
    rw[hid] at h1'
    cases h1'
    obtain⟨k1,k2,k3,k4,k5,b,vals,te,t1,t2,t3,t4,t5⟩:=h2
    refine⟨_,hgid,k1,k2,k3,by rw[List.length_set];exact k4,by rw[List.length_set];exact k5,b,vals,te,t1,t2,by rw[List.length_set];exact t3,xw _ _ λq c hq=>?_,t5⟩
    by_cases e3:q=j
    ·subst e3
     rw[List.getElem?_set_self (ua hj)] at hq
     cases hq
     obtain⟨u,p1,p2,p3⟩:=xC _ _ _ _ hj t4
     simp only[rep] at p3
     exact⟨u,p1,p2,hnew u p3⟩
    ·rw[List.getElem?_set_ne (λe=>e3 e.symm)] at hq
     obtain⟨u,p1,p2,p3⟩:=xC _ _ _ _ hq t4
     exact⟨u,p1,p2,yT hle (λ_ h=>h) (λ_ _=>rfl) _ _ p3⟩
   ·exact⟨o,by rw[hget i e e2];exact h1,xX hle (λ_ h=>h) (λ_ _=>rfl) (λ_ _=>rfl) h2⟩
 ·simp only[J'] at g1 g2
  split at g1
  ·cases g1;simp[Site.u6] at g3
  ·split at g2
   ·cases g2;simp[Site.u6] at g4
   ·exact hr.ok.one i i' s s' b g1 g2 g3 g4
 ·simp only[J'] at g1
  split at g1
  ·cases g1;simp[Site.u6] at g2
  ·rename_i e
   by_cases e2:i=id
   ·subst e2
    exact hr.ok.apart i s b _ g1 g2 hid rfl
   ·exact hr.ok.apart i s b o g1 g2 (by rw[←hget i e e2];exact g3) g4
 ·simp only[J'] at hi
  rw[List.length_append,List.length_singleton,List.length_set]
  split at hi
  ·omega
  ·have:=hr.dom i hi;omega
 ·have:i≠H.length:=by omega
  simp[J',this,hs]
 ·simp only[J'] at hs
  split at hs
  ·cases hs;simp[Site.u6] at hb
  ·exact⟨i,s,hs,hb⟩
end
section
open Go.RowKit
def zcX (S:Nat→Bool) (H:List zf) (env:Env):Env→Prop
 | []=>True
 | (t,d)::r=>yc S H (xU t env) d∧zcX S H env r
def zmv (S:Nat→Bool) (H:List zf) (i:Nat):zf→zf→Prop
 | .row q cs,.row q' cs'=>(q'=q∨(S i=true∧q'=false))∧(S i=true→q'=false)∧zQ S H cs cs'
 | .vec q v e xs,.vec q' v' e' xs'=>(q'=q∨(S i=true∧q'=false))∧(S i=true→q'=false)∧v=v'∧e=e'∧zK S H xs xs'
 | .wc q I,.wc q' I'=>(q'=q∨(S i=true∧q'=false))∧(S i=true→q'=false)∧I=I'
 | _,_=>False
def Qg (S:Nat→Bool) (H:List zf):Nat→List zf→List zf→Prop
 | _,[],[]=>True
 | i,o::r,o'::r'=>zmv S H i o o'∧Qg S H (i+1) r r'
 | _,_,_=>False
theorem zab {S:Nat→Bool} {H:List zf} {env:Env}:∀(env':Env),zcX S H env env'→∀t,yc S H (xU t env) (xU t env')∨xU t env'=.xO
 | [],_,t=>.inr rfl
 | (k,d)::r,h,t=>by
  simp only[zcX] at h
  rw[qM]
  split
  ·rename_i e;subst e;exact .inl h.1
  ·exact zab r h.2 t
theorem zcj {S:Nat→Bool} {H:List zf}:∀(l l':List zf) (k:Nat),Qg S H k l l'→l.length=l'.length∧∀i (o:zf),l[i]? = some o→∃o',l'[i]? = some o'∧zmv S H (k+i) o o'
 | [],[],k,_=>⟨rfl,λi o h=>by simp at h⟩
 | [],_::_,k,h=>by simp only[Qg] at h
 | _::_,[],k,h=>by simp only[Qg] at h
 | o::r,o'::r',k,h=>by
  simp only[Qg] at h
  obtain⟨h1,h2⟩:=zcj r r' (k+1) h.2
  refine⟨by simp[h1],λi x hx=>?_⟩
  cases i with
  | zero=>simp at hx;subst hx;exact⟨o',rfl,h.1⟩
  | succ i =>
   obtain⟨y,q1,q2⟩:=h2 i x (by simpa using hx)
   exact⟨y,by simpa using q1,by rw[show k+(i+1)=k+1+i by omega];exact q2⟩
theorem Z9 {L n:Nat} (S:Nat→Bool) {env env':Env} {H H':List zf} (hE:zcX S H env env') (hH:Qg S H 0 H H'):St.leB L n env H env' H':=λJ F a w hr=>by
 obtain⟨hlen,hget⟩:=zcj H H' 0 hH
 have hok:=hr.ok
 refine⟨J,λb=>F b∨YE S J b,⟨hr.defers,hr.size,λt=>?_,⟨λi s hs=>?_,hok.one,λi s b o g1 g2 g3 g4=>?_,hok.lt.mono (λ_ h=>.inl h) (λ_ _=>rfl) λb hb=>hb.elim (hok.lt b) λ⟨i,s,_,h1,h2⟩=>hok.xu h1 h2⟩,λi hi=>by rw[←hlen];exact hr.dom i hi⟩,λi s hi hs=>hs,λb hb=>.inl hb,λb hb=>hb,λb hb=>hb.imp_right λ⟨i,s,_,h1,h2⟩=>⟨i,s,h1,h2⟩⟩
 ·rcases zab env' hE t with h1|e
  ·exact Zk hok _ _ _ h1 (hr.tmps t)
  ·rw[e];simp only[rep]
 ·obtain⟨o,h1,h2⟩:=hok.obj i s hs
  obtain⟨o',h3,h4⟩:=hget i o h1
  rw[Nat.zero_add] at h4
  refine⟨o',h3,?_⟩
  cases o with
  | row q cs =>
   cases o' with
   | vec=>exact h4.elim
   | wc=>exact h4.elim
   | row q' cs' =>
    obtain⟨p1,_,p2⟩:=h4
    obtain⟨k1,k2,k3,k4,k5,b,vals,te,t1,t2,t3,t4,t5⟩:=h2
    have hl:=Vq _ _ p2
    refine⟨k1,k2,k3,by rw[←hl];exact k4,by rw[←hl];exact k5,b,vals,te,t1,t2,by rw[←hl];exact t3,vz hok _ _ b 0 p2 t4,λe=>?_⟩
    rcases p1 with rfl|⟨p1,_⟩
    ·exact .inl (t5 e)
    ·exact .inr ⟨i,s,p1,hs,by simp[Site.u6,k1,t1]⟩
  | vec q v e xs =>
   cases o' with
   | row=>exact h4.elim
   | wc=>exact h4.elim
   | vec q' v' e' xs' =>
    obtain⟨p1,_,rfl,rfl,p2⟩:=h4
    obtain⟨k1,k2,k3,k4,k5,k6⟩:=h2
    have hl:=uM _ _ p2
    refine⟨k1,k2,k3,by rw[←hl];exact k4,k5,?_⟩
    by_cases hz:s.cap=0
    ·exact .inl hz
    rcases k6 with k6|⟨b,o,vals,te,t1,t2,t3,t4,t5⟩
    ·exact .inl k6
    ·refine .inr ⟨b,o,vals,te,t1,t2,t3,w9 hok _ _ b e o p2 t4,λe=>?_⟩
     rcases p1 with rfl|⟨p1,_⟩
     ·exact .inl (t5 e)
     ·exact .inr ⟨i,s,p1,hs,by simp[Site.u6,k1,hz,t1]⟩
  | wc q I =>
   cases o' with
   | row=>exact h4.elim
   | vec=>exact h4.elim
   | wc q' I' =>
    obtain⟨_,_,rfl⟩:=h4
    exact h2
 ·obtain⟨o0,h1,h2⟩:=hok.obj i s g1
  obtain⟨o',h3,h4⟩:=hget i o0 h1
  rw[Nat.zero_add] at h4
  have g3':H'[i]? = some o:=g3
  rw[h3] at g3'
  cases g3'
  have hm:¬S i=true∧o0.mut=true:=by
   cases o0 with
   | row q cs =>
    cases o with
    | vec=>exact h4.elim
    | wc=>exact h4.elim
    | row q' cs' =>
     obtain⟨p1,p2,_⟩:=h4
     simp only[zf.mut] at g4 ⊢
     refine⟨λh=>?_,?_⟩
     ·rw[p2 h] at g4;cases g4
     ·rcases p1 with rfl|⟨_,rfl⟩
      ·exact g4
      ·cases g4
   | vec q v e xs =>
    cases o with
    | row=>exact h4.elim
    | wc=>exact h4.elim
    | vec q' v' e' xs' =>
     obtain⟨p1,p2,_⟩:=h4
     simp only[zf.mut] at g4 ⊢
     refine⟨λh=>?_,?_⟩
     ·rw[p2 h] at g4;cases g4
     ·rcases p1 with rfl|⟨_,rfl⟩
      ·exact g4
      ·cases g4
   | wc q I =>
    cases o with
    | row=>exact h4.elim
    | vec=>exact h4.elim
    | wc q' I' =>
     obtain⟨p1,p2,_⟩:=h4
     simp only[zf.mut] at g4 ⊢
     refine⟨λh=>?_,?_⟩
     ·rw[p2 h] at g4;cases g4
     ·rcases p1 with rfl|⟨_,rfl⟩
      ·exact g4
      ·cases g4
  rintro(hx|⟨i',s',p1,p2,p3⟩)
  ·exact hok.apart i s b o0 g1 g2 h1 hm.2 hx
  ·have:=hok.one i i' s s' b g1 p2 g2 p3
   subst this
   exact hm.1 p1
end
end
section
open Go.RowKit
def zjv (env:Env):List Nat→(Env→Prop)→Prop
 | [],K=>K []
 | t::ts,K=>V7 t (λd=>zjv env ts λe=>K ((t,d)::e)) env
def zr6:Env→Env→(Env→Prop)→Prop
 | [],e,K=>K e
 | p::r,e,K=>zr6 r e λE=>K (p::E)
def zoU:List (Nat × zf)→List zf→List zf
 | [],H=>H
 | (i,o)::r,H=>zoU r (H.set i o)
def znp:List (Nat × zf)→List zf→(List zf→Prop)→Prop
 | [],H,K=>K H
 | (i,o)::r,H,K=>XN H i o λH'=>znp r H' K
theorem zee (env:Env):∀(ts:List Nat) (K:Env→Prop),zjv env ts K=K (ts.map λt=>(t,xU t env))
 | [],K=>rfl
 | t::ts,K=>by simp only[zjv,Yu,zee env ts,List.map_cons]
theorem zg6:∀(a e:Env) (K:Env→Prop),zr6 a e K=K (a++e)
 | [],e,K=>rfl
 | p::r,e,K=>by simp only[zr6,zg6 r e,List.cons_append]
theorem zgX:∀(l:List (Nat × zf)) (H:List zf) (K:List zf→Prop),znp l H K→K (zoU l H)
 | [],H,K,h=>h
 | (i,o)::r,H,K,h=>by
  simp only[znp,uk] at h
  simp only[zoU]
  exact zgX r _ K h.2
theorem za4 {env:Env}:∀(a e:Env),V3 env a→V3 env e→V3 env (a++e)
 | [],e,_,k=>k
 | (t,d)::r,e,h,k=>⟨h.1,za4 r e h.2 k⟩
theorem Jt {env:Env}:∀ts:List Nat,V3 env (ts.map λt=>(t,xU t env))
 | []=>trivial
 | t::ts=>⟨rfl,Jt ts⟩
theorem zD {L n:Nat} {env env':Env} {H H':List zf} (h:V3 env env') (e:H=H'):St.leB L n env H env' H':=e▸zau h
structure ForK (P:Program) (n:Nat) (p:PC) (Q:qO) (env:Env) (H:List zf) {ι:Type} (Jy:ι→Env) (hup:ι→List (Nat × zf)) (G:ι→Prop) (m:ι→Nat) (i:ι) (e:Env):Prop where
 vN:G i
 start:V3 env (Jy i)
 heap:H=zoU (hup i) H
 round:∀j,G j→zr6 (Jy j) e λE=>znp (hup j) H λO=>PWp P n p (zl5 H.length n Q (λj=>Jy j++e) (λj=>zoU (hup j) H) G m (m j)) E O
theorem zO {P:Program} {n:Nat} {p:PC} {Q:qO} {env:Env} {H:List zf} {ι:Type} (kept:List Nat) (Jy:ι→Env) (hup:ι→List (Nat × zf)) (G:ι→Prop) (m:ι→Nat) (i:ι)
  (h:zjv env kept λe=>ForK P n p Q env H Jy hup G m i e):PWp P n (.loop p) Q env H:=by
 rw[zee] at h
 refine WM (λj=>Jy j++kept.map λt=>(t,xU t env)) (λj=>zoU (hup j) H) G m i h.vN (zD (za4 _ _ h.start (Jt _)) h.heap) λj hj=>?_
 have:=h.round j hj
 rw[zg6] at this
 exact zgX _ _ _ this
end
section
open Go.RowKit
section
variable {w w':World} {B B' size n:Nat} {A:Option Addr} {xs:List Value}
end
end
section
open Go.RowKit
section
variable {w w':World} {g:Nat} {t:TypeId} {cs:Array Value}
end
inductive Tree where
 | node (kind n:Int) (kids:List Tree)
namespace Tree
instance:Inhabited Tree:=⟨.node 0 0 []⟩
def kind:Tree→Int|.node k _ _=>k
def num:Tree→Int|.node _ n _=>n
def kids:Tree→List Tree|.node _ _ ks=>ks
def yD (t:Tree) (j:Nat):Tree:=t.kids.getD j default
def width (t:Tree):Nat:=t.kids.length
theorem uD {t:Tree} {j:Nat} (h:j<t.kids.length):t.yD j=t.kids[j]:=by simp[yD,List.getD,List.getElem?_eq_getElem h]
theorem eta (t:Tree):Tree.node t.kind t.num t.kids=t:=by cases t;rfl
theorem ind {p:Tree→Prop} (h:∀t:Tree,(∀j,j<t.width→p (t.yD j))→p t):∀t,p t:=by
 intro t
 refine Tree.rec (motive_1:=p) (motive_2:=λks=>∀t∈ks,p t) ?_ ?_ ?_ t
 ·intro k n ks ih
  refine h _ λj hj=>?_
  rw[uD (t:=.node k n ks) hj]
  exact ih _ (List.getElem_mem hj)
 ·intro t ht;cases ht
 ·intro t ts h1 h2 u hu
  rcases List.mem_cons.1 hu with rfl|hu
  ·exact h1
  ·exact h2 u hu
end Tree
def zP (k:Int):Int:=if k=1∨k=2∨k=3 then 0 else if k=4∨k=7∨k=10∨k=11 then 1 else if k=5∨k=6∨k=8∨k=9 then 2 else -1
def xn (k:Int):Int:=if k=1∨k=2∨k=3 then 0 else if k=4∨k=7∨k=8∨k=9∨k=11∨k=12∨k=13 then 1 else if k=5∨k=6∨k=10∨k=14 then 2 else -1
def yC (kd:Int→Int) (t:Tree):Prop:=kd t.kind≠(t.width:Int)∨t.num<0∨63<t.num∨(t.kind≠3∧t.num≠0)
instance (kd:Int→Int) (t:Tree):Decidable (yC kd t):=by unfold yC;infer_instance
mutual
def vp (kd:Int→Int):Tree→Int→Int→Int × Int
 | .node k x ks,d,n =>
  if 60<n+1 then (2,n+1) else if 20<d then (5,n+1) else if yC kd (.node k x ks) then (1,n+1) else Ye kd ks (d+1) (n+1)
def Ye (kd:Int→Int):List Tree→Int→Int→Int × Int
 | [],_,n=>(0,n)
 | t::ts,d,n=>if (vp kd t d n).1=0 then Ye kd ts d (vp kd t d n).2 else vp kd t d n
end
theorem zmn (kd:Int→Int) (t:Tree) (d n:Int) :
  vp kd t d n=if 60<n+1 then (2,n+1) else if 20<d then (5,n+1) else if yC kd t then (1,n+1) else Ye kd t.kids (d+1) (n+1):=by
 cases t;rw[vp];rfl
theorem zgM (kd:Int→Int) {t:Tree} {j:Nat} (hj:j<t.width) (d n:Int) :
  Ye kd (t.kids.drop j) d n=if (vp kd (t.yD j) d n).1=0 then Ye kd (t.kids.drop (j+1)) d (vp kd (t.yD j) d n).2 else vp kd (t.yD j) d n:=by
 rw[List.drop_eq_getElem_cons hj,Ye,Tree.uD hj]
theorem zf6 (kd:Int→Int) (t:Tree) (d n:Int):Ye kd (t.kids.drop t.width) d n=(0,n):=by
 rw[Tree.width,List.drop_length,Ye]
def yJ (kd:Int→Int) (t:Tree):Int:=(vp kd t 1 0).1
mutual
theorem zbw (kd:Int→Int):∀(t:Tree) (d n:Int),n+1≤(vp kd t d n).2∧(n≤60→(vp kd t d n).2≤61)
 | .node k x ks,d,n=>by
  have:=zgx kd ks (d+1) (n+1)
  rw[vp]
  split
  ·simp;omega
  ·split
   ·simp;omega
   ·split
    ·simp;omega
    ·omega
theorem zgx (kd:Int→Int):∀(ts:List Tree) (d n:Int),n≤(Ye kd ts d n).2∧(n≤60→(Ye kd ts d n).2≤61)
 | [],_,n=>by rw[Ye];simp;omega
 | t::ts,d,n=>by
  have h1:=zbw kd t d n
  have h2:=zgx kd ts d (vp kd t d n).2
  have h3:=zcR kd t d n
  rw[Ye]
  split
  ·rename_i h
   have:=h3 h
   omega
  ·omega
theorem zcR (kd:Int→Int):∀(t:Tree) (d n:Int),(vp kd t d n).1=0→(vp kd t d n).2≤60
 | .node k x ks,d,n=>by
  have:=zmk kd ks (d+1) (n+1)
  rw[vp]
  split
  ·simp
  ·split
   ·simp
   ·split
    ·simp
    ·intro h;exact this (by omega) h
theorem zmk (kd:Int→Int):∀(ts:List Tree) (d n:Int),n≤60→(Ye kd ts d n).1=0→(Ye kd ts d n).2≤60
 | [],_,n=>by rw[Ye];simp
 | t::ts,d,n=>by
  have h1:=zcR kd t d n
  have h2:=zmk kd ts d (vp kd t d n).2
  intro hn
  rw[Ye]
  split
  ·rename_i h
   exact h2 (h1 h)
  ·intro h;contradiction
end
end
section
theorem Tree.zqF {a b:Tree} (h1:a.kind=b.kind) (h2:a.num=b.num) (h3:a.width=b.width) (h4:∀j,j<a.width→a.yD j=b.yD j):a=b:=by
 rw[←Tree.eta a,←Tree.eta b,h1,h2]
 congr 1
 refine List.ext_getElem h3 λi hi hi'=>?_
 have:=h4 i hi
 rwa [Tree.uD hi,Tree.uD hi'] at this
open Classical in
noncomputable def QN (a b:Tree):Bool:=decide (a=b)
theorem zse {a b:Tree} (h:a=b):true=QN a b:=by simp[QN,h]
theorem zf4 {a b:Tree} (h:a≠b):false=QN a b:=by simp[QN,h]
theorem zcz {a b:Tree}:QN a b=true↔a=b:=by simp[QN]
mutual
def Tree.size:Tree→Nat
 | .node _ _ ks=>1+Tree.Zu ks
def Tree.Zu:List Tree→Nat
 | []=>0
 | t::ts=>t.size+Tree.Zu ts
end
mutual
def Tree.depth:Tree→Nat
 | .node _ _ ks=>1+Tree.za9 ks
def Tree.za9:List Tree→Nat
 | []=>0
 | t::ts=>max t.depth (Tree.za9 ts)
end
mutual
def Tree.wf (kd:Int→Int):Tree→Prop
 | .node k n ks=>¬yC kd (.node k n ks)∧Tree.wfs kd ks
def Tree.wfs (kd:Int→Int):List Tree→Prop
 | []=>True
 | t::ts=>t.wf kd∧Tree.wfs kd ts
end
theorem Tree.zpG:∀t:Tree,1≤t.depth:=λt=>by cases t;rw[Tree.depth];omega
mutual
theorem zgu (kd:Int→Int):∀(t:Tree) (d n:Int),(vp kd t d n).1=0↔(n+t.size≤60∧d+t.depth≤21∧t.wf kd)
 | .node k x ks,d,n=>by
  have h1:=zgH kd ks (d+1) (n+1)
  rw[vp,Tree.size,Tree.depth,Tree.wf]
  by_cases c1:60<n+1
  ·rw[if_pos c1];simp;omega
  ·rw[if_neg c1]
   by_cases c2:20<d
   ·rw[if_pos c2];simp;omega
   ·rw[if_neg c2]
    by_cases c3:yC kd (.node k x ks)
    ·rw[if_pos c3];simp[c3]
    ·rw[if_neg c3,h1]
     constructor
     ·rintro⟨a,b,c⟩
      cases ks with
      | nil=>rw[Tree.Zu,Tree.za9] at *;exact⟨by omega,by omega,c3,c⟩
      | cons t ts=>have:=a (by simp);have:=b (by simp);exact⟨by omega,by omega,c3,c⟩
     ·rintro⟨a,b,_,c⟩
      exact⟨by omega,λ_=>by omega,c⟩
theorem zgH (kd:Int→Int):∀(ts:List Tree) (d n:Int),(Ye kd ts d n).1=0↔((ts≠[]→n+Tree.Zu ts≤60)∧(ts≠[]→d+Tree.za9 ts≤21)∧Tree.wfs kd ts)
 | [],_,n=>by rw[Ye,Tree.wfs];simp
 | t::ts,d,n=>by
  have h1:=zgu kd t d n
  have h3:=zjL kd t d n
  have h2:=zgH kd ts d (vp kd t d n).2
  rw[Ye,Tree.Zu,Tree.za9,Tree.wfs]
  have hd:=Tree.zpG t
  by_cases c:(vp kd t d n).1=0
  ·rw[if_pos c,h2,h3 c]
   rw[h1] at c
   obtain⟨c1,c2,c3⟩:=c
   cases ts with
   | nil=>rw[Tree.Zu,Tree.za9,Tree.wfs];simp[c3];omega
   | cons u us =>
    simp only[ne_eq,reduceCtorEq,not_false_eq_true,true_implies,c3,true_and]
    constructor
    ·rintro⟨a,b,e⟩;exact⟨by omega,by omega,e⟩
    ·rintro⟨a,b,e⟩;exact⟨by omega,by omega,e⟩
  ·rw[if_neg c]
   constructor
   ·intro h;exact absurd h c
   ·rintro⟨a,b,e⟩
    refine absurd (h1.2 ⟨?_,?_,e.1⟩) c
    ·have:=a (by simp);omega
    ·have:=b (by simp);omega
theorem zjL (kd:Int→Int):∀(t:Tree) (d n:Int),(vp kd t d n).1=0→(vp kd t d n).2=n+t.size
 | .node k x ks,d,n=>by
  have h1:=ziT kd ks (d+1) (n+1)
  rw[vp,Tree.size]
  split
  ·simp
  ·split
   ·simp
   ·split
    ·simp
    ·intro h;rw[h1 h];omega
theorem ziT (kd:Int→Int):∀(ts:List Tree) (d n:Int),(Ye kd ts d n).1=0→(Ye kd ts d n).2=n+Tree.Zu ts
 | [],_,n=>by rw[Ye,Tree.Zu];simp
 | t::ts,d,n=>by
  have h1:=zjL kd t d n
  have h2:=ziT kd ts d (vp kd t d n).2
  rw[Ye,Tree.Zu]
  split
  ·rename_i h;intro h';rw[h2 h',h1 h];omega
  ·intro h;contradiction
end
theorem qG (kd:Int→Int) (t:Tree):yJ kd t=0↔(t.size≤60∧t.depth≤20∧t.wf kd):=by
 unfold yJ;rw[zgu]
 constructor
 ·rintro⟨a,b,c⟩;exact⟨by omega,by omega,c⟩
 ·rintro⟨a,b,c⟩;exact⟨by omega,by omega,c⟩
theorem zm1 (kd:Int→Int):∀ts:List Tree,Tree.wfs kd ts↔∀t∈ts,t.wf kd
 | []=>by simp[Tree.wfs]
 | t::ts=>by rw[Tree.wfs,zm1 kd ts];simp
theorem xM (kd:Int→Int) (t:Tree):t.wf kd↔¬yC kd t∧∀u∈t.kids,u.wf kd:=by
 cases t;rw[Tree.wf,zm1];rfl
theorem x9 {kd:Int→Int} {t:Tree} (h:t.wf kd) {j:Nat} (hj:j<t.width):(t.yD j).wf kd:=by
 rw[Tree.uD hj];exact((xM kd t).1 h).2 _ (List.getElem_mem hj)
def yB (k n:Int):Tree:=.node k n []
def yS (k:Int) (a:Tree):Tree:=.node k 0 [a]
def vx (k:Int) (a b:Tree):Tree:=.node k 0 [a,b]
theorem vZ {t:Tree} (h:¬yC zP t):(t.kind=1∨t.kind=2∨t.kind=3)∧t.width=0∨(t.kind=4∨t.kind=7∨t.kind=10∨t.kind=11)∧t.width=1∨(t.kind=5∨t.kind=6∨t.kind=8∨t.kind=9)∧t.width=2:=by
 unfold yC zP at h
 (repeat' split at h)<;>omega
end
section
open Go.RowKit
def zeF (b:Bool):D:=.sc (.bool b)
def zB (l:List Int):D:=.xj 1 (l.map λn=>[.sc (.int .i64 n)])
def ya (g:List (List Int)):D:=.xj 1 (g.map λl=>[zB l])
theorem zC {α:Type} (f:α→List D) (h:∀a,ze (f a)):∀l:List α,yE (l.map f)
 | []=>by simp only[List.map_nil,yE]
 | a::l=>by simp only[List.map_cons,yE];exact⟨h a,zC f h l⟩
theorem zi (l:List Int):Pure (zB l):=by
 simp only[zB,Pure];exact zC _ (λn=>by simp[ze,Pure]) l
theorem z7 (g:List (List Int)):Pure (ya g):=by
 simp only[ya,Pure];exact zC _ (λl=>by simp[ze,zi]) g
mutual
def y6:Tree→List D
 | .node k n ks=>[.sc (.int .i64 k),.sc (.int .i64 n),.xj 3 (zbN ks)]
def zbN:List Tree→List (List D)
 | []=>[]
 | t::r=>y6 t::zbN r
end
def yo (t:Tree):List D:=[.sc (.int .i64 t.kind),.sc (.int .i64 t.num),.xj 3 (t.kids.map y6)]
def zZ (t:Tree):D:=.agg (yo t)
theorem zgV:∀l,zbN l=l.map y6
 | []=>by simp only[zbN,List.map_nil]
 | t::r=>by simp only[zbN,List.map_cons,zgV r]
theorem Zj (t:Tree):y6 t=yo t:=by
 cases t;simp only[y6,zgV];rfl
mutual
theorem Yw:∀t:Tree,ze (y6 t)
 | .node k n ks=>by simp only[y6,ze,Pure,true_and,and_true];exact zdg ks
theorem zdg:∀l:List Tree,yE (zbN l)
 | []=>by simp only[zbN,yE]
 | t::r=>by simp only[zbN,yE];exact⟨Yw t,zdg r⟩
end
theorem zm (t:Tree):Pure (zZ t):=by simp only[zZ,Pure];rw[←Zj];exact Yw t
theorem xv {H:List zf}:∀l:List D,wP H l l
 | []=>.nil
 | d::r=>.cons _ _ _ _ (.refl d) (xv r)
theorem z6 {H:List zf}:∀l:List (List D),vA H l l
 | []=>.nil
 | d::r=>.cons _ _ _ _ (xv d) (z6 r)
theorem zdO {H:List zf} (t:Tree):wP H (yo t) (y6 t):=by rw[Zj];exact xv _
inductive Small:Tree→Prop where
 | mk (t:Tree) (h:t.width≤9223372036854775807) (k:∀j,j<t.width→Small (t.yD j)):Small t
theorem Small.width {t:Tree} (h:Small t):t.kids.length≤9223372036854775807:=by cases h;assumption
theorem Small.yD {t:Tree} (h:Small t) {j:Nat} (hj:j<t.width):Small (t.yD j):=by cases h with|mk _ _ k=>exact k j hj
theorem WU:∀t:Tree,t.wf zP→Small t:=by
 intro t
 induction t using Tree.ind with
 | h t ih =>
  intro hw
  refine .mk t ?_ λj hj=>ih j hj (x9 hw hj)
  have:=vZ ((xM _ _).1 hw).1
  omega
theorem zp {m:Nat→Bool} {H:List zf} {xs ys:List (List D)} (h:xs=ys):zK m H xs ys:=h▸.refl xs
theorem ym (t:Tree):ze (yo t):=by rw[←Zj];exact Yw t
theorem xG (t:Tree):yE (t.kids.map y6):=zC _ Yw _
theorem zfH {α:Type} {β:Type} (f:α→β) {l:List α} {k:Nat} {a:α} (h:l[k]? = some a):List.drop 0 (List.take k ((l.take k).map f))++[f a]=(l.take (k+1)).map f:=by
 rw[List.drop_zero,List.take_of_length_le (by simp;omega),List.take_add_one,h]
 simp
theorem kid_get? {t:Tree} {j:Nat} (h:j<t.width):t.kids[j]? = some (t.yD j):=by rw[Tree.uD h,List.getElem?_eq_getElem h]
theorem y8 {t:Tree} {j:Nat} (h:j<t.width):(t.kids.map y6)[j]? = some (yo (t.yD j)):=by
 rw[List.getElem?_map,Tree.uD h,List.getElem?_eq_getElem h,←Zj];rfl
theorem yA {H:List zf} {d e:D} (h:d=e):Deep H d e:=h▸.refl d
theorem ZJ {H:List zf} {d:D} {t u:Tree} (h:t=u) (k:Deep H d (zZ u)):Deep H d (zZ t):=h▸k
end
section
open Go.RowKit
section
variable {P:Program} {f:FuncId}
theorem vB {args:List D} {H0 H0':List zf} {d:D} (hA:yu P f args H0 d H0') (L R:List zf) (hlen:H0'.length=H0.length) (hargs:zl H0.length args) (hobj:wD H0.length H0)
  {args2:List D} {d2:D} {H H2:List zf} (e1:yG (λi=>L.length+i) args=args2) (e2:D.yI (λi=>L.length+i) d=d2) (e3:L++(H0.map (zf.yI λi=>L.length+i)++R)=H) (e4:L++(H0'.map (zf.yI λi=>L.length+i)++R)=H2) :
  yu P f args2 H d2 H2:=by
 subst e1 e2 e3 e4
 refine zbR (λi=>L.length+i) hA (λi j _ _ h=>by omega) (λi o h=>?_) (λi h1 h2=>by omega) (by simp[hlen]) (λi o h=>?_) (λj hj hne=>?_) hargs (qT hobj)
 ·rw[List.getElem?_append_right (by omega),Nat.add_sub_cancel_left,List.getElem?_append_left (by simpa using ua h),List.getElem?_map,h];rfl
 ·rw[List.getElem?_append_right (by omega),Nat.add_sub_cancel_left,List.getElem?_append_left (by simpa using ua h),List.getElem?_map,h];rfl
 ·rcases Nat.lt_or_ge j L.length with h|h
  ·rw[List.getElem?_append_left h,List.getElem?_append_left h]
  ·have:H0.length≤j-L.length:=by
    rcases Nat.lt_or_ge (j-L.length) H0.length with q|q
    ·exact absurd (by omega) (hne (j-L.length) q)
    ·exact q
   rw[List.getElem?_append_right h,List.getElem?_append_right h,List.getElem?_append_right (by simp;omega),List.getElem?_append_right (by simp;omega)]
   simp[hlen]
theorem vH {args:List D} {H0 H0':List zf} {d:D} (hA:yu P f args H0 d H0') (R:List zf) (hlen:H0'.length=H0.length) (hargs:zl H0.length args) (hobj:wD H0.length H0):yu P f args (H0++R) d (H0'++R):=by
 have h:(λi=>([]:List zf).length+i)=λi=>i:=by funext i;simp
 refine vB hA [] R hlen hargs hobj ?_ ?_ ?_ ?_<;>rw[h]
 ·exact Yj _
 ·exact zhg _
 ·rw[show(zf.yI λi=>i)=id from funext zcP];simp
 ·rw[show(zf.yI λi=>i)=id from funext zcP];simp
end
theorem zms {c:Bool} {A B:Prop} (h:c=true) (k:A):ifK c A B:=by subst h;exact k
theorem zjM {c:Bool} {A B:Prop} (h:c=false) (k:B):ifK c A B:=by subst h;exact k
def cutQ {ι:Type} (L n:Nat) (Q:qO) (E:ι→Env) (O:ι→List zf) (G:ι→Prop):qO
 | .normal,env,H=>∃i,G i∧St.leB L n env H (E i) (O i)
 | e,env,H=>Q e env H
theorem zcW {P:Program} {n:Nat} {p:PC} {Q:qO} {env:Env} {H:List zf} {ι:Type} (E:ι→Env) (O:ι→List zf) (G:ι→Prop) (h1:PWp P n p (cutQ H.length n Q E O G) env H)
  (h2:∀i,G i→Q .normal (E i) (O i)):PWp P n p Q env H:=YU λc hc J F a w hr=>by
 refine wp_mono (qh h1 hc hr) λe a2 w2 ⟨env',H',J',F',q1,q2,q3⟩=>?_
 cases e with
 | normal =>
  obtain⟨i,r1,r2⟩:=q1
  obtain⟨J2,F2,t1,t2,t3,t4,t5⟩:=r2 J' F' a2 w2 q2
  exact⟨E i,O i,J2,F2,h2 i r1,t1,zcN hr.dom q3 t2 t3 t4 t5⟩
 | _=>exact⟨env',H',J',F',q1,q2,q3⟩
@[simp] theorem zsT {m:Nat} (t:Tree):zl m (y6 t)↔True:=⟨λ_=>trivial,λ_=>zr _ (Yw t)⟩
@[simp] theorem zAg {ρ:Nat→Nat} (t:Tree):D.yI ρ (zZ t)=zZ t:=yH _ (zm t)
end
section
open Go.RowKit
instance (n:Nat):OfNat Operand n:=⟨.tmp n⟩
def cI (n:Int):Operand:=.const (.int .i64 n)
def cS (l:Array UInt8):Operand:=.const (.string ⟨l⟩)
def cT:Operand:=.const (.bool true)
def cF:Operand:=.const (.bool false)
def cN:Operand:=.const (.slice none 0 0)
def GT (d g:Nat) (o:POp):yy:=⟨some d,o,some (g,true),0⟩
def GF (d g:Nat) (o:POp):yy:=⟨some d,o,some (g,false),0⟩
def Fa (d k:Nat) (x:Operand):yy:=q d (.zz k x)
def Lo (d:Nat) (x:Operand):yy:=q d (.zg x)
def LA (d n:Nat) (x:Operand):yy:=q d (.vw n x)
def Xt (d k:Nat) (x:Operand):yy:=q d (.ext k x)
def Bx (d:Nat) (x:Operand):yy:=q d (.box x)
def Nt (d:Nat) (x:Operand):yy:=q d (.un .not x)
def Ln (d:Nat) (x:Operand):yy:=q d (.len x)
def Mv (d:Nat) (x:Operand):yy:=q d (.move x)
def Bi (d:Nat) (o:BinOp) (x y:Operand):yy:=q d (.bin o x y)
def Ia (d e:Nat) (x y:Operand):yy:=q d (.zM e x y)
def Ap (d e b:Nat) (x y:Operand):yy:=q d (.append e b x y)
def Pk (d:Nat) (c x y:Operand):yy:=q d (.pick c x y)
def Ca (d:Nat) (f:FuncId) (l:List Operand):yy:=q d (.call f l)
def Bs (d e n:Nat) (l:List Operand):yy:=q d (.xe e n l)
def So (n:Nat) (x y:Operand):yy:=qn (.store n x y)
abbrev OP (l:List yy):PC:=.ops l false
theorem fK {P : Program} {f : FuncId} {n : Nat} {rs : List RV} {p : PC} {fn : Func} (h : P.funcs[f]? = some fn) (a : fn.ntmps = n := by rfl) (b : (fn.name == "runtime.NumGoroutine") = false := by kernel_rfl) (c : zkS P fn.results.toList = some rs := by rfl) (d : fn.body.bind (comp P n) = some p.bare := by kernel_rfl) : zy P f n rs p := ⟨⟨fn, h, a, b, c, d⟩⟩
theorem sO {A:Prop} (h:A:=by((try simp only[oo,reduceCtorEq]at*)<;>omega)):A:=h
theorem zo {A:Prop} (h:A:=by omega):A:=h
theorem zs {A:Prop} (h:A:=by simp):A:=h
theorem zd {A:Prop} (h:A:=by(dsimp only;omega)):A:=h
theorem zc {A:Prop} (h:A:=by decide):A:=h
theorem sW {A B:Prop} (b:B) (e:B→A:=by(intro h;((conv=>whnf);repeat(refine⟨rfl,?_⟩;conv=>whnf));exact h)):A:=e b
theorem sR {P:Program} {n:Nat} {p:PC} {Q:qO} {env:Env} {H:List zf} {f:WP} {B:Prop} (b:B) (h:Rd P n p f:=by(focus (repeat' constructor))) (e:B→f Q env H:=by(intro h;((conv=>whnf);repeat(refine⟨rfl,?_⟩;conv=>whnf));exact h)):PWp P n p Q env H:=ziI h (e b)
theorem sS {c:Bool} {A A' B B':Prop} (a:c=true→A') (b:c=false→B') (e:c=true→A'→A:=by(intro h k;rw[h];((conv=>whnf);repeat(refine⟨rfl,?_⟩;conv=>whnf));exact k)) (g:c=false→B'→B:=by(intro h k;rw[h];((conv=>whnf);repeat(refine⟨rfl,?_⟩;conv=>whnf));exact k)):ifK c A B:=zaQ (λh=>e h (a h)) λh=>g h (b h)
theorem sC {P:Program} {f:FuncId} {args:List D} {d:D} {K:D→Prop} {R B:Prop} (t:zq P f args d) (b:B) (e:B→K d:=by(intro h;((conv=>whnf);repeat(refine⟨rfl,?_⟩;conv=>whnf));exact h)):(∃d,zq P f args d∧K d)∨R:=.inl ⟨d,t,e b⟩
theorem sA {P:Program} {f:FuncId} {args:List D} {H H2:List zf} {d:D} {K:D→List zf→Prop} {X Y R B:Prop} (t:yu P f args H d H2) (b:B) (e:B→K d H2:=by(intro h;((conv=>whnf);repeat(refine⟨rfl,?_⟩;conv=>whnf));exact h)):X∨Y∨(true=true∧∃d H2,yu P f args H d H2∧K d H2)∨R:=.inr (.inr (.inl ⟨rfl,d,H2,t,e b⟩))
theorem sE {P:Program} {f:FuncId} {args:List D} {H H2:List zf} {d:D} {L:List Nat} {K:D→List zf→List Nat→Prop} {X Y Z U R B:Prop} (t:u7 P f args H d H2 L) (b:B) (e:B→K d H2 L:=by(intro h;((conv=>whnf);repeat(refine⟨rfl,?_⟩;conv=>whnf));exact h)):X∨Y∨Z∨U∨(∃d H2 L,u7 P f args H d H2 L∧K d H2 L)∨R:=.inr (.inr (.inr (.inr (.inl ⟨d,H2,L,t,e b⟩))))
theorem sX {P:Program} {f:FuncId} {args:List D} {H:List zf} {d:D} {L:List Nat} {K:D→List Nat→Prop} {X Y Z U V W B:Prop} (t:zgC P f args H d L) (b:B) (e:B→K d L:=by(intro h;((conv=>whnf);repeat(refine⟨rfl,?_⟩;conv=>whnf));exact h)):X∨Y∨Z∨U∨V∨W∨(∃d L,zgC P f args H d L∧K d L):=.inr (.inr (.inr (.inr (.inr (.inr ⟨d,L,t,e b⟩)))))
theorem zem {H:List zf} {n:Nat} {l:List (List D)} (h:l.length≤n):vA H (List.drop 0 (List.take n l)) l:=by rw[List.drop_zero,List.take_of_length_le h];exact z6 _
theorem sN {P:Program} {f:FuncId} {args args':List D} {H:List zf} {d:D} {K:D→Prop} {X R B:Prop} (t:zq P f args' d) (b:B) (h:wP H args args':=by(repeat' (first|exact Deep.refl _|exact Deep.none _|exact zdO _|exact wP.nil|exact vA.nil|refine Deep.agg _ _ ?_|refine Deep.yO _ _ ?_|refine Deep.own _ _ _ _ _ _ _ _ rfl ?_|refine Deep.loc _ _ _ _ _ rfl ?_|refine Deep.ifc _ _ _ ?_|refine Deep.fn _ _ _ _ _ ?_ ?_|refine wP.cons _ _ _ _ ?_ ?_|refine vA.cons _ _ _ _ ?_ ?_|exact z6 _|exact zem (by first|(simp;done)|(simp[zL];done))))) (r:zjf d=true:=by rfl) (e:B→K d:=by(intro h;((conv=>whnf);repeat(refine⟨rfl,?_⟩;conv=>whnf));exact h)):X∨(∃args' d,wP H args args'∧zq P f args' d∧zjf d=true∧K d)∨R:=.inr (.inl ⟨args',d,h,t,r,e b⟩)
theorem sV {P:Program} {f:FuncId} {args args':List D} {H:List zf} {d:D} {K:D→Prop} {X Y Z U V R B:Prop} (t:zq P f args' d) (b:B) (h:wP H args args':=by(repeat' (first|exact Deep.refl _|exact Deep.none _|exact zdO _|exact wP.nil|exact vA.nil|refine Deep.agg _ _ ?_|refine Deep.yO _ _ ?_|refine Deep.own _ _ _ _ _ _ _ _ rfl ?_|refine Deep.loc _ _ _ _ _ rfl ?_|refine Deep.ifc _ _ _ ?_|refine Deep.fn _ _ _ _ _ ?_ ?_|refine wP.cons _ _ _ _ ?_ ?_|refine vA.cons _ _ _ _ ?_ ?_|exact z6 _|exact zem (by first|(simp;done)|(simp[zL];done))))) (e:B→K d:=by(intro h;((conv=>whnf);repeat(refine⟨rfl,?_⟩;conv=>whnf));exact h)):X∨Y∨Z∨U∨V∨(true=true∧∃args' d,wP H args args'∧zq P f args' d∧K d)∨R:=.inr (.inr (.inr (.inr (.inr (.inl ⟨rfl,args',d,h,t,e b⟩)))))
theorem sL {X:Prop} {α:Type} {o:Option α} {a:α} {K:α→Prop} {B:Prop} (t:o=some a) (b:B) (h:X:=by omega) (e:B→K a:=by(intro h;((conv=>whnf);repeat(refine⟨rfl,?_⟩;conv=>whnf));exact h)):X∧∃a,o=some a∧K a:=⟨h,a,t,e b⟩
theorem sJ {A K B:Prop} (b:B) (h:A:=by(unfold xd;simp only[ll];omega)) (e:B→K:=by(intro h;((conv=>whnf);repeat(refine⟨rfl,?_⟩;conv=>whnf));exact h)):A∧K:=⟨h,e b⟩
theorem sI {k:IntKind} {z:Int} {K:Prop} {R B:Prop} (b:B) (h:InR k z:=by(unfold InR;rw[IntKind.wrap_i64];omega)) (e:B→K:=by(intro h;((conv=>whnf);repeat(refine⟨rfl,?_⟩;conv=>whnf));exact h)):(InR k z∧K)∨R:=.inl ⟨h,e b⟩
theorem sB {X Y K B:Prop} (b:B) (h:X:=by omega) (g:Y:=by(first|omega|(simp;done)|(simp;omega)|(simp only[ll];omega))) (e:B→K:=by(intro h;((conv=>whnf);repeat(refine⟨rfl,?_⟩;conv=>whnf));exact h)):X∧Y∧K:=⟨h,g,e b⟩
theorem sP {A:Prop} (h:A:=by(repeat' (first|exact Deep.refl _|exact Deep.none _|exact zdO _|exact wP.nil|exact vA.nil|refine Deep.agg _ _ ?_|refine Deep.yO _ _ ?_|refine Deep.own _ _ _ _ _ _ _ _ rfl ?_|refine Deep.loc _ _ _ _ _ rfl ?_|refine Deep.ifc _ _ _ ?_|refine Deep.fn _ _ _ _ _ ?_ ?_|refine wP.cons _ _ _ _ ?_ ?_|refine vA.cons _ _ _ _ ?_ ?_|exact z6 _))):A:=h
theorem sD {A:Prop} (h:A:=by(repeat' (first|exact trivial|exact yc.none _|refine And.intro ?_ ?_|exact Or.inl rfl|exact Or.inr ⟨rfl,rfl⟩|exact λ_=>rfl|exact(λh=>by cases h)|refine yc.loc _ _ _ _ _ rfl rfl ?_|refine yc.own _ _ _ _ _ _ _ _ rfl rfl ?_|refine yc.fn _ _ _ _ _ ?_ ?_|refine yc.agg _ _ ?_|refine yc.yO _ _ ?_|refine yc.ifc _ _ _ ?_|exact yc.refl _|refine zQ.cons _ _ _ _ ?_ ?_|exact zQ.refl _|refine zK.cons _ _ _ _ ?_ ?_|exact zK.refl _|exact rfl))):A:=h
theorem sQ {A:Prop} (h:A:=by(repeat' (first|exact trivial|exact rfl|exact yc.refl _|exact zQ.refl _|exact zK.refl _|refine And.intro ?_ ?_|(simp[zt,zl,zF,-List.map_take,-List.map_drop];done)))):A:=h
theorem sU {A B:Prop} (b:B) (e:B→A:=by(intro h;(repeat' (first|exact trivial|exact rfl|exact yc.refl _|exact zQ.refl _|exact zK.refl _|refine And.intro ?_ ?_|(simp[zt,zl,zF,-List.map_take,-List.map_drop];done)|exact h)))):A:=e b
theorem sK {A:Prop} (h:A:=by(repeat' (first|exact trivial|refine And.intro rfl ?_))):A:=h
end
section
section
open Go.RowKit
mutual
def lens {H:Type} (L:Nat):DataW H→Prop
 | .lit (.string b)=>b.length≤L
 | .lit _=>True
 | .slice elems _=>elems.length≤L∧Wb L elems
 | .agg parts=>Wb L parts
 | _=>True
def Wb {H:Type} (L:Nat):List (DataW H)→Prop
 | []=>True
 | d::r=>lens L d∧Wb L r
end
theorem UU {H:Type} {L:Nat}:∀{l:List (DataW H)},Wb L l→∀d∈l,lens L d
 | [],_,_,h=>by cases h
 | x::r,h,d,hd=>by
  simp only[Wb] at h
  rcases List.mem_cons.1 hd with rfl|hd
  ·exact h.1
  ·exact UU h.2 d hd
mutual
inductive Xa (P:Program) (L:Nat):TypeId→List D→Prop
 | bool (t:TypeId) (b:Bool) (ht:P.underlying t=some .bool):Xa P L t [.sc (.bool b)]
 | int (t:TypeId) (k:IntKind) (n:Int) (ht:P.underlying t=some (.int k)) (h:k.min≤n∧n≤k.max):Xa P L t [.sc (.int k n)]
 | str (t:TypeId) (s:ByteArray) (ht:P.underlying t=some .string) (h:s.size≤140737488351232) (hL:L=0∨s.size≤L):Xa P L t [.sc (.string s)]
 | slice (t e:TypeId) (xs:List (List D)) (ht:P.underlying t=some (.slice e)) (hn:xs.length≤9223372036854775807∧xs.length*P.bytesOf e≤140737488351232) (hL:L=0∨xs.length≤L) (h:zaA P L e xs):Xa P L t [.xj (P.cellsOf e) xs]
 | struct (t:TypeId) (fs:Array Field) (cs:List D) (ht:P.underlying t=some (.struct fs)) (h:XE P L (fs.toList.map (·.type)) cs):Xa P L t cs
inductive XE (P:Program) (L:Nat):List TypeId→List D→Prop
 | nil:XE P L [] []
 | cons (t:TypeId) (ts:List TypeId) (a b:List D) (h:Xa P L t a) (k:XE P L ts b):XE P L (t::ts) (a++b)
inductive zaA (P:Program) (L:Nat):TypeId→List (List D)→Prop
 | nil (e:TypeId):zaA P L e []
 | cons (e:TypeId) (x:List D) (r:List (List D)) (h:Xa P L e x) (k:zaA P L e r):zaA P L e (x::r)
end
abbrev OfT (P:Program):=Xa P 0
abbrev OfTL (P:Program):=zaA P 0
section
variable {P:Program} {L:Nat} {t:TypeId} {cs:List D}
theorem of_int {k:IntKind} (ht:P.underlying t=some (.int k)) (h:Xa P L t cs):∃n,cs=[.sc (.int k n)]∧k.min≤n∧n≤k.max:=by
 cases h<;>simp_all
theorem zv4 (ht:P.underlying t=some .string) (h:Xa P L t cs):∃s:ByteArray,cs=[.sc (.string s)]∧s.size≤140737488351232:=by
 cases h<;>simp_all
theorem zzx (ht:P.underlying t=some .string) (h:Xa P L t cs):∃s:ByteArray,cs=[.sc (.string s)]∧s.size≤9223372036854775807:=by
 obtain⟨s,e,h⟩:=zv4 ht h
 exact⟨s,e,by omega⟩
theorem zpd {e:TypeId} (ht:P.underlying t=some (.slice e)) (h:Xa P L t cs):∃xs,cs=[.xj (P.cellsOf e) xs]∧(xs.length≤9223372036854775807∧xs.length*P.bytesOf e≤140737488351232)∧zaA P L e xs:=by
 cases h<;>simp_all
theorem of_slice {e:TypeId} (ht:P.underlying t=some (.slice e)) (h:Xa P L t cs):∃xs,cs=[.xj (P.cellsOf e) xs]∧xs.length≤9223372036854775807∧zaA P L e xs:=by
 obtain⟨xs,e,h,k⟩:=zpd ht h
 exact⟨xs,e,h.1,k⟩
theorem of_struct {fs:Array Field} (ht:P.underlying t=some (.struct fs)) (h:Xa P L t cs):XE P L (fs.toList.map (·.type)) cs:=by
 cases h<;>simp_all
theorem zeg (h:XE P L [] cs):cs=[]:=by cases h;rfl
theorem za2 {ts:List TypeId} (h:XE P L (t::ts) cs):∃a b,cs=a++b∧Xa P L t a∧XE P L ts b:=by
 cases h with
 | cons t ts a b h k=>exact⟨a,b,rfl,h,k⟩
theorem ze6 {k:IntKind} {ts:List TypeId} (ht:P.underlying t=some (.int k)) (h:XE P L (t::ts) cs):∃n b,cs=.sc (.int k n)::b∧(k.min≤n∧n≤k.max)∧XE P L ts b:=by
 obtain⟨a,b,rfl,ha,hb⟩:=za2 h
 obtain⟨n,rfl,hn⟩:=of_int ht ha
 exact⟨n,b,rfl,hn,hb⟩
theorem zqK {ts:List TypeId} (ht:P.underlying t=some .string) (h:XE P L (t::ts) cs):∃(s:ByteArray) (b:List D),cs=.sc (.string s)::b∧s.size≤9223372036854775807∧XE P L ts b:=by
 obtain⟨a,b,rfl,ha,hb⟩:=za2 h
 obtain⟨n,rfl,hn⟩:=zzx ht ha
 exact⟨n,b,rfl,hn,hb⟩
theorem zd2 {e:TypeId} {ts:List TypeId} (ht:P.underlying t=some (.slice e)) (h:XE P L (t::ts) cs):∃xs b,cs=.xj (P.cellsOf e) xs::b∧xs.length≤9223372036854775807∧zaA P L e xs∧XE P L ts b:=by
 obtain⟨a,b,rfl,ha,hb⟩:=za2 h
 obtain⟨n,rfl,h1,h2⟩:=of_slice ht ha
 exact⟨n,b,rfl,h1,h2,hb⟩
end
def zdB (P:Program):List Field→Nat→Nat→Bool
 | [],o,n=>o==n
 | f::r,o,n=>f.offset==o&&zdB P r (o+P.cellsOf f.type) n
def zar (P:Program) (S:List TypeId):Bool:=S.all λt=>match P.underlying t with
 | some .bool|some .string=>true
 | some (.int _)=>true
 | some (.slice e)=>S.contains e&&decide (0<P.cellsOf e)
 | some (.struct fs)=>zdB P fs.toList 0 (P.cellsOf t)&&fs.toList.all λf=>S.contains f.type
 | _=>false
section
variable {P:Program}
theorem zkh {L:Nat} {e:TypeId}:∀{xs:List (List D)},(∀x∈xs,Xa P L e x)→zaA P L e xs
 | [],_=>.nil e
 | x::r,h=>.cons e x r (h x (by simp)) (zkh λy hy=>h y (by simp[hy]))
variable {H:Type} {enc:TypeId × Value→H} {W:World} {spare:Nat→Bool} {held:Bool}
def Wm (W:World):Nat→Prop:=λb=>b<W.heap.size
theorem zd0 {L:Nat} {cs:List Value} {N:Nat} (hl:cs.length=N):∀(l:List Field) (o:Nat),zdB P l o N=true →
  (∀f∈l,∃ds,Xa P L f.type ds∧yf vV (Wm W) W ds ((cs.drop f.offset).take (P.cellsOf f.type))∧(∀v∈(cs.drop f.offset).take (P.cellsOf f.type),yx v=true)) →
  ∃ds,XE P L (l.map (·.type)) ds∧yf vV (Wm W) W ds (cs.drop o)∧∀v∈cs.drop o,yx v=true
 | [],o,ho,_=>by
  simp only[zdB,beq_iff_eq] at ho
  refine⟨[],.nil,?_,?_⟩
  ·simp only[yf];exact List.drop_eq_nil_of_le (by omega)
  ·rw[List.drop_eq_nil_of_le (by omega)];intro v hv;cases hv
 | f::r,o,ho,h=>by
  simp only[zdB,Bool.and_eq_true,beq_iff_eq] at ho
  obtain⟨ho1,ho2⟩:=ho
  obtain⟨a,h1,h2,h3⟩:=h f (by simp)
  obtain⟨b,k1,k2,k3⟩:=zd0 hl r (o+P.cellsOf f.type) ho2 λg hg=>h g (by simp[hg])
  rw[ho1] at h2 h3
  have e:cs.drop o=(cs.drop o).take (P.cellsOf f.type)++cs.drop (o+P.cellsOf f.type):=by
   rw[←List.drop_drop,List.take_append_drop]
  refine⟨a++b,.cons _ _ _ _ h1 k1,?_,?_⟩
  ·rw[e];exact Yo h2 k2
  ·intro v hv
   rw[e] at hv
   rcases List.mem_append.1 hv with hv|hv
   ·exact h3 v hv
   ·exact k3 v hv
theorem Ul {e:TypeId}:∀{ds:List (DataW H)} {d:DataW H},d∈ds→∀n∈d.weights P e,n∈DataW.weightsAll P e ds
 | d0::ds,d,hd,n,hn=>by
  simp only[DataW.weightsAll,List.mem_append]
  rcases List.mem_cons.1 hd with rfl|hd
  ·exact .inl hn
  ·exact .inr (Ul hd n hn)
 | [],_,hd,_,_=>by cases hd
theorem zpm {L:Nat} {S:List TypeId} (hS:zar P S=true):∀(fuel:Nat) (t:TypeId) (cs:List Value) (x:DataW H × List MemPlace),t∈S→DataW.trod enc P W 0 spare held fuel t cs=some x→(∀n∈x.1.weights P t,n≤reachBytes)→(L=0∨lens L x.1) →
  ∃ds,Xa P L t ds∧yf vV (Wm W) W ds cs∧∀v∈cs,yx v=true:=by
 intro fuel
 induction fuel using Nat.strongRecOn with
 | ind fuel ih =>
  intro t cs x ht h hz hL
  have hT:=List.all_eq_true.1 hS t ht
  split at hT
  ·rename_i hu
   obtain⟨b,rfl,_⟩:=DataW.trod_bool hu h
   exact⟨_,.bool t b hu,by simp[yf,rep],by simp[yx]⟩
  ·rename_i hu
   obtain⟨s,rfl,hx,hs⟩:=DataW.trod_string hu h
   subst hx
   have hw:=hz s.size (by simp[DataW.weights])
   exact⟨_,.str t s hu (by unfold reachBytes at hw;omega) (hL.imp_right λq=>by
    simp only[lens] at q
    have e:s.data.toList.length=s.size:=by rw[Array.length_toList];rfl
    omega),by simp[yf,rep],by simp[yx]⟩
  ·rename_i k hu
   obtain⟨n,rfl,_,hw⟩:=DataW.trod_int hu h
   simp only[Lit.wf,Bool.and_eq_true,decide_eq_true_eq] at hw
   exact⟨_,.int t k n hu hw,by simp[yf,rep],by simp[yx]⟩
  ·rename_i e hu
   simp only[Bool.and_eq_true,List.contains_iff_mem,decide_eq_true_eq] at hT
   obtain⟨he,hpos⟩:=hT
   rcases DataW.trod_slice hu h with⟨rfl,_⟩|⟨a,len,cap,elems,rest,n',hn',rfl,hx,_,hl,hm,hel,hat,_,_⟩
   ·refine⟨_,.slice t e [] hu (by simp) (.inr (Nat.zero_le _)) (.nil e),?_,by simp[yx]⟩
    simp only[yf,rep]
    exact⟨_,_,rfl,⟨none,0,0,rfl,rfl,Nat.le_refl _,.inl rfl⟩,rfl⟩
   ·have hx1:x.1=.slice (elems.map (·.1)) (rest.map (·.1)):=by rw[hx]
    rw[hx1] at hz hL
    have hLe:L=0∨(elems.length≤L∧∀d∈elems.map (·.1),lens L d):=hL.imp_right λq=>by
     simp only[lens,List.length_map] at q
     exact⟨q.1,UU q.2⟩
    have hw:=hz ((elems.length+rest.length)*P.bytesOf e) (by simp[DataW.weights,hu])
    have hwe:∀d∈elems.map (·.1),∀n∈d.weights P e,n≤reachBytes:=λd hd n hn=>hz n (by
     have:=Ul hd n hn
     simp[DataW.weights,hu,this])
    have each:∀i,i<len→∃ds,Xa P L e ds∧ds.length=P.cellsOf e∧(∀j c,ds[j]? = some c→∃u,W.cell? ((a.add (i*P.cellsOf e)).add j)=some u∧yx u=true∧rep vV (Wm W) W c u):=λi hi=>by
     have hi':=hat i hi
     rw[List.getElem?_eq_getElem (by omega)] at hi'
     obtain⟨cs',hc1,hc2⟩:=Option.bind_eq_some_iff.1 hi'
     obtain⟨ds,q1,q2,q3⟩:=ih n' (by omega) e cs' _ he hc2 (hwe _ (List.mem_map_of_mem (List.getElem_mem _))) (hLe.imp_right λq=>q.2 _ (List.mem_map_of_mem (List.getElem_mem _)))
     obtain⟨_,hcl,hc⟩:=World.cells?_some hc1
     have hlen:=xx _ _ q2
     refine⟨ds,q1,by omega,λj c hj=>?_⟩
     have hjl:j<ds.length:=by
      rcases Nat.lt_or_ge j ds.length with q|q
      ·exact q
      ·rw[List.getElem?_eq_none q] at hj;cases hj
     obtain⟨v,k1,k2⟩:=vI _ _ j c hj q2
     exact⟨v,by rw[hc j (by omega)];exact k1,q3 v (List.mem_of_getElem? k1),k2⟩
    obtain⟨R,hR⟩:∃R:Nat→List D,∀i,i<len→Xa P L e (R i)∧(R i).length=P.cellsOf e∧(∀j c,(R i)[j]? = some c→∃u,W.cell? ((a.add (i*P.cellsOf e)).add j)=some u∧yx u=true∧rep vV (Wm W) W c u):=by
     refine⟨λi=>if h:i<len then Classical.choose (each i h) else [],λi hi=>?_⟩
     simp only[dif_pos hi]
     exact Classical.choose_spec (each i hi)
    refine⟨_,.slice t e ((List.range len).map R) hu (by
     rw[List.length_map,List.length_range]
     refine⟨by unfold maxLen at hm;omega,Nat.le_trans (Nat.mul_le_mul_right _ ?_) hw⟩
     omega) (hLe.imp_right λq=>by
      rw[List.length_map,List.length_range]
      omega) (zkh λx hx=>?_),?_,by simp[yx]⟩
    ·obtain⟨i,hi,rfl⟩:=List.mem_map.1 hx
     exact(hR i (List.mem_range.1 hi)).1
    ·simp only[yf,rep]
     refine⟨_,_,rfl,⟨some a,len,cap,rfl,by simp,hl,?_⟩,rfl⟩
     rcases Nat.eq_zero_or_pos len with h0|h0
     ·exact .inl h0
     ·refine .inr ?_
      obtain⟨_,g2,g3⟩:=hR 0 h0
      obtain⟨u,hu,_⟩:=g3 0 _ (List.getElem?_eq_getElem (by omega))
      obtain⟨b,o,sp⟩:=a
      have hsp:sp=none:=by
       simp only[Addr.add,World.cell?] at hu
       split at hu
       ·cases sp with
        | none=>rfl
        | some q=>simp at hu
       ·cases hu
      subst hsp
      rw[uy,uy] at hu
      have hb:b<W.heap.size:=World.block_lt_of_cell? _ _ hu
      refine⟨b,o,rfl,hb,vr _ o λi x hx=>?_⟩
      have hi:i<len:=by
       rcases Nat.lt_or_ge i len with q|q
       ·exact q
       ·rw[List.getElem?_eq_none (by simpa using q)] at hx;cases hx
      rw[List.getElem?_map,List.getElem?_range hi] at hx
      simp at hx
      subst hx
      obtain⟨_,w2,w3⟩:=hR i hi
      exact⟨w2,xw _ _ λj c hc=>by
       have:=w3 j c hc
       rwa [uy,uy] at this⟩
  ·rename_i fs hu
   simp only[Bool.and_eq_true] at hT
   obtain⟨ho,hf⟩:=hT
   obtain⟨ys,n,hn,hx,hlen,hyl,hget⟩:=DataW.trod_struct hu h
   have hx1:x.1=.agg (ys.map (·.1)):=by rw[hx]
   rw[hx1] at hz hL
   obtain⟨ds,k1,k2,k3⟩:=zd0 (P:=P) (W:=W) (L:=L) hlen fs.toList 0 ho λf hmem=>by
    obtain⟨i,hi,rfl⟩:=List.mem_iff_getElem.1 hmem
    have hi':i<fs.size:=by simpa using hi
    have hg:=hget i _ (Array.getElem?_eq_getElem hi')
    rw[List.getElem?_eq_getElem (by omega)] at hg
    have xL:(fs[i]).type∈S:=by
     have:=List.all_eq_true.1 hf _ hmem
     simpa using this
    have e:fs.toList[i]=fs[i]:=by simp
    rw[e]
    refine ih n (by omega) _ _ _ xL hg (λm hm=>hz m ?_) (hL.imp_right λq=>by
     simp only[lens] at q
     exact UU q _ (List.mem_map_of_mem (List.getElem_mem _)))
    have hwm:=DataW.weights_mem_each (P:=P) (ts:=fs.toList.map (·.type)) (ds:=ys.map (·.1)) (j:=i) (t:=(fs[i]).type) (d:=(ys[i]'(by omega)).1) (by rw[List.getElem?_map,Array.getElem?_toList,Array.getElem?_eq_getElem hi'];rfl) (by rw[List.getElem?_map,List.getElem?_eq_getElem (by omega)];rfl) m hm
    simpa [DataW.weights,hu] using hwm
   rw[List.drop_zero] at k2 k3
   exact⟨ds,.struct t fs ds hu k1,k2,k3⟩
  ·cases hT
theorem zs8 {L:Nat} {S:List TypeId} (hS:zar P S=true) {t:TypeId} (ht:t∈S) {v:Value} {d:DataW H} {ps:List MemPlace} (h:DataW.Trod enc P W 0 spare held t v d ps) (hz:∀n∈d.weights P t,n≤reachBytes) (hL:L=0∨lens L d):∃ds,Xa P L t ds∧yf vV (Wm W) W ds v.cells.toList∧∀u∈v.cells.toList,yx u=true:=by
 obtain⟨fuel,hf⟩:=h
 exact zpm hS fuel t _ _ ht hf hz hL
theorem zuw {cs:List D} {xs:Array Value} (h:yf vV (Wm W) W cs (Value.agg xs).cells.toList):rep vV (Wm W) W (.agg cs) (.agg xs):=by
 simp only[rep]
 exact⟨xs.toList,by simp,h⟩
end
end
section
open Go.ChangeShapes Go.WideShapes Go.ChangeAt Go.RowKit Go.Deep
def zon (P:Program) (L:Nat) (t:TypeId) (d:D):Prop:=match P.underlying t with
 | some (.struct _)=>∃cs,d=.agg cs∧Xa P L t cs
 | _=>Xa P L t [d]
def zsF (P:Program) (L:Nat):List TypeId→List D→Prop
 | [],[]=>True
 | t::ts,d::ds=>zon P L t d∧zsF P L ts ds
 | _,_=>False
abbrev OfA (P:Program):=zon P 0
abbrev OfAs (P:Program):=zsF P 0
section
variable {H:Type} {enc:TypeId × Value→H} {P:Program} {W:World}
theorem ztF {L:Nat} {t:TypeId} {ds:List D} (hu:∀fs,P.underlying t≠some (.struct fs)) (h:Xa P L t ds):∃d,ds=[d]:=by
 cases h with
 | struct=>rename_i ht _;exact absurd ht (hu _)
 | _=>exact⟨_,rfl⟩
theorem zfD {L:Nat} {S:List TypeId} (hS:zar P S=true) {base:Nat}:∀(ts:List TypeId) (vs:List Value) (ds:List (DataW H)) (ps:List MemPlace),(∀t∈ts,t∈S)→(∀(j:Nat) (t:TypeId) (v:Value),ts[j]? = some t→vs[j]? = some v→Value.okWide P W .any base t v) →
  DataW.TrodAll enc P W 0 (λ_=>true) true ts vs ds ps→(∀n∈DataW.weightsEach P ts ds,n≤reachBytes)→(L=0∨Wb L ds)→∃Ds,zsF P L ts Ds∧yf vV (Wm W) W Ds vs
 | [],[],[],_,_,_,_,_,_=>⟨[],trivial,by simp only[yf]⟩
 | t::ts,v::vs,d::ds,ps,hts,hval,h,hz,hL=>by
  obtain⟨p,q,h1,h2,_⟩:=h
  obtain⟨cs,k1,k2,k3⟩:=zs8 hS (hts t (by simp)) h1 (λn hn=>hz n (by simp[DataW.weightsEach,hn])) (hL.imp_right λq=>by simp only[Wb] at q;exact q.1)
  obtain⟨Ds,g1,g2⟩:=zfD hS ts vs ds q (λu hu=>hts u (by simp[hu])) (λj u x hj hx=>hval (j+1) u x (by simpa using hj) (by simpa using hx)) h2 (λn hn=>hz n (by simp[DataW.weightsEach,hn])) (hL.imp_right λq=>by simp only[Wb] at q;exact q.2)
  have hv:=hval 0 t v rfl rfl
  have one:∃c,zon P L t c∧rep vV (Wm W) W c v:=by
   unfold zon
   split
   ·rename_i fs hu
    obtain⟨xs,rfl,_⟩:=okWide_struct hu hv
    exact⟨_,⟨cs,rfl,k1⟩,zuw k2⟩
   ·rename_i hu
    obtain⟨c,rfl⟩:=ztF hu k1
    have h1v:v.cells.toList=[v]:=by
     have hlen:=xx _ _ k2
     cases v with
     | agg xs =>
      exfalso
      have hT:=List.all_eq_true.1 hS t (hts t (by simp))
      unfold Value.okWide at hv
      split at hT
      ·rename_i e;rw[e] at hv;simp[Cell.okWide,Cell.ok,e] at hv
      ·rename_i e;rw[e] at hv;simp[Cell.okWide,Cell.ok,e] at hv
      ·rename_i e;rw[e] at hv;simp[Cell.okWide,Cell.ok,e] at hv
      ·rename_i e;rw[e] at hv;simp[Cell.okWide,Cell.ok,e] at hv
      ·rename_i fs e;exact hu fs e
      ·cases hT
     | _=>rfl
    refine⟨c,k1,?_⟩
    rw[h1v] at k2
    simp only[yf] at k2
    obtain⟨u,us,e,k,_⟩:=k2
    simp at e
    rw[e.1];exact k
  obtain⟨c,c1,c2⟩:=one
  exact⟨c::Ds,⟨c1,g1⟩,by simp only[yf];exact⟨v,vs,rfl,c2,g2⟩⟩
 | [],_::_,_,_,_,_,h,_,_=>by simp[DataW.TrodAll] at h
 | [],[],_::_,_,_,_,h,_,_=>by simp[DataW.TrodAll] at h
 | _::_,[],_,_,_,_,h,_,_=>by simp[DataW.TrodAll] at h
 | _::_,_::_,[],_,_,_,h,_,_=>by simp[DataW.TrodAll] at h
theorem zrw {S:List TypeId} (hS:zar P S=true) {base:Nat} (ts:List TypeId) (vs:List Value) (ds:List (DataW H)) (ps:List MemPlace) (h1:∀t∈ts,t∈S) (h2:∀(j:Nat) (t:TypeId) (v:Value),ts[j]? = some t→vs[j]? = some v→Value.okWide P W .any base t v)
  (h3:DataW.TrodAll enc P W 0 (λ_=>true) true ts vs ds ps) (h4:∀n∈DataW.weightsEach P ts ds,n≤reachBytes):∃Ds,OfAs P ts Ds∧yf vV (Wm W) W Ds vs:=zfD hS ts vs ds ps h1 h2 h3 h4 (.inl rfl)
theorem V5:∀(ts ts':List TypeId) (ds ds':List (DataW H)),ts.length=ds.length→∀n∈DataW.weightsEach P ts ds,n∈DataW.weightsEach P (ts++ts') (ds++ds')
 | [],_,[],_,_,n,hn=>by simp[DataW.weightsEach] at hn
 | t::ts,ts',d::ds,ds',hl,n,hn=>by
  simp only[List.cons_append,DataW.weightsEach,List.mem_append] at hn ⊢
  exact hn.imp_right (V5 ts ts' ds ds' (by simpa using hl) n)
theorem ziQ (hl:laidOutB P=true) {W':World} {sp:Nat→Bool} (hb:Below W.heap.size W W'):∀(ts:List TypeId) (vs:List Value) (ds:List (DataW H)) (ps:List MemPlace),(∀t∈ts,P.readableRec t=true∧t<P.types.size) →
  (∀x∈ps,x.block<W.heap.size)→(∀x∈ps,sp x.block=true)→DataW.TrodAll enc P W 0 (λ_=>true) true ts vs ds ps→DataW.TrodAll enc P W' 0 sp true ts vs ds ps
 | [],[],[],_,_,_,_,h=>h
 | t::ts,v::vs,d::ds,ps,hts,hlt,hsp,h=>by
  obtain⟨p,q,h1,h2,rfl⟩:=h
  refine⟨p,q,WideElems.Trod_stays hl (hts t (by simp)).1 (hts t (by simp)).2 h1 (λx hx=>hb.same (hlt x (by simp[hx]))) λx hx=>hsp x (by simp[hx]),ziQ hl hb ts vs ds q (λu hu=>hts u (by simp[hu])) (λx hx=>hlt x (by simp[hx])) (λx hx=>hsp x (by simp[hx])) h2,rfl⟩
 | [],_::_,_,_,_,_,_,h=>by simp[DataW.TrodAll] at h
 | [],[],_::_,_,_,_,_,h=>by simp[DataW.TrodAll] at h
 | _::_,[],_,_,_,_,_,h=>by simp[DataW.TrodAll] at h
 | _::_,_::_,[],_,_,_,_,h=>by simp[DataW.TrodAll] at h
theorem UA {sp:Nat→Bool} {hd:Bool} {b:Nat}:∀(ts:List TypeId) (vs:List Value) (ds:List (DataW H)) (ps:List MemPlace),DataW.TrodAll enc P W b sp hd ts vs ds ps→ds.length=ts.length
 | [],[],[],_,_=>rfl
 | t::ts,v::vs,d::ds,ps,h=>by
  obtain⟨p,q,_,h2,_⟩:=h
  simp[UA ts vs ds q h2]
 | [],_::_,_,_,h=>by simp[DataW.TrodAll] at h
 | [],[],_::_,_,h=>by simp[DataW.TrodAll] at h
 | _::_,[],_,_,h=>by simp[DataW.TrodAll] at h
 | _::_,_::_,[],_,h=>by simp[DataW.TrodAll] at h
theorem zhR {F':Nat→Prop} {W':World} (h:Ext vV (Wm W) W vV F' W'):Below W.heap.size W W':=⟨h.os,h.tape,h.output,h.size,λk hk=>h.block k hk (ZK k)⟩
theorem zsv {f:Func} {s:ChangeSpec} {apart fresh handsOn again:Bool} {W':World} {args:Array Value} {ds gs:List (DataW H)} {before:List MemPlace} {tb:TypeId}
  (hW:DataW.Whole enc P f.params.toList s.vars apart W args.toList ds gs before) (hvars:s.vars=[]) (hrt:f.resultTypes=#[tb]) (htb:P.underlying tb=some .bool)
  (hl:laidOutB P=true) (hr:∀t∈f.params.toList,P.readableRec t=true∧t<P.types.size)
  (hs:∀ds:List (DataW H),ds.length=f.params.toList.length→s.fn H ds={ results:=[.lit (.bool true)],args:=ds })
  (hb:Below W.heap.size W W') (hok:∀(j:Nat) (t:TypeId) (r:Value),f.resultTypes[j]? = some t→((Value.bool true).resultList f.resultTypes.size)[j]? = some r→Value.okWide P W' .any 0 t r) :
  s.post enc P f apart fresh handsOn again W args (.bool true) W':=by
 have hlt:∀p∈before,p.block<W.heap.size:=λp hp=>hW.lt p hp
 have hold:∀p∈before,(λb=>decide (b<W.heap.size)) p.block=true:=λp hp=>by simpa using hlt p hp
 obtain⟨pa,pv,hA,hV,hps,hz,hn⟩:=id hW
 rw[hvars] at hV
 have hV':gs=[]∧pv=[]:=by
  cases gs with
  | nil=>exact⟨rfl,hV⟩
  | cons _ _=>simp[DataW.TrodVars] at hV
 obtain⟨rfl,rfl⟩:=hV'
 simp only[List.append_nil] at hps
 subst hps
 have hfn:=hs ds (UA _ _ _ _ hA)
 have hresL:((Value.bool true).resultList f.resultTypes.size)=[.bool true]:=by rw[hrt];rfl
 have hres:∀(b:Nat) (sp:Nat→Bool) (hd:Bool),DataW.TrodAll enc P W' b sp hd f.resultTypes.toList ((Value.bool true).resultList f.resultTypes.size) (s.fn H (ds++[])).results []:=λb sp hd=>by
  rw[List.append_nil,hfn,hrt]
  exact trodAll_cons_mk (shut_bool htb _) trodAll_mk0
 have hargs:∀sp:Nat→Bool,(∀p∈before,sp p.block=true)→DataW.TrodAll enc P W' 0 sp true f.params.toList args.toList (s.fn H (ds++[])).args before:=λsp hsp=>by
  rw[List.append_nil,hfn]
  exact ziQ hl hb _ _ _ _ hr hlt hsp hA
 have hvars':∀sp:Nat→Bool,DataW.TrodVars enc P W' sp s.vars (s.fn H (ds++[])).vars []:=λsp=>by
  rw[List.append_nil,hfn,hvars]
  rfl
 refine⟨ds,[],before,[],before,[],hW,hres _ _ _,hargs _ hold,hvars' _,World.keptBut_mono (λp hp=>⟨hp,Or.inr (Or.inl hp)⟩) (hb.frame (·∈before)),λ_=>?_⟩
 ·refine⟨hok,_,_,([]++before)++[],⟨[]++before,[],trodAll_append (hargs _ (λ_ _=>rfl)) (hres _ _ _),hvars' _,rfl,?_,?_⟩,?_⟩
  ·intro b off hp
   have xL:MemPlace.cell b off∈before:=by simpa using hp
   rw[hb.frozen (hlt _ xL)]
   exact hz b off xL
  ·intro ha
   have:=hn ha
   simpa using this
  ·intro p hp _
   simpa using hp
end
end
end
section
abbrev Pr:=Int × Int
def Zp (L:List Pr) (p:Pr):List Pr:=if p∈L then L else L++[p]
def ve (L:List Pr) (p:Pr):Nat:=L.idxOf p
theorem zri (L:List Pr) (p:Pr):L.length≤(Zp L p).length∧(Zp L p).length≤L.length+1:=by unfold Zp;split<;>simp
theorem zey {L:List Pr} (h:L.Nodup) (p:Pr):(Zp L p).Nodup:=by
 unfold Zp
 split
 ·exact h
 ·rename_i q
  rw[List.nodup_append]
  exact⟨h,by simp,λa ha b hb=>by rw[List.mem_singleton] at hb;subst hb;exact λe=>q (e▸ha)⟩
theorem zc8 {L:List Pr} {p q:Pr}:q∈Zp L p↔q∈L∨q=p:=by
 unfold Zp
 split
 ·rename_i h
  exact⟨λk=>.inl k,λk=>k.elim id λe=>e▸h⟩
 ·simp
theorem zqH (L:List Pr) (p:Pr):ve (Zp L p) p=if p∈L then ve L p else L.length:=by
 unfold Zp ve
 split
 ·rfl
 ·rename_i h
  rw[List.idxOf_append,if_neg h];simp
theorem UW {L:List Pr} {p:Pr} (h:p∈L):ve L p<L.length:=List.idxOf_lt_length_of_mem h
end
section
def vh (f:Nat→Nat):Nat→Nat
 | 0=>0
 | n+1=>vh f n+f n
theorem zbI {f f':Nat→Nat}:∀n,(∀j,j<n→f j=f' j)→vh f n=vh f' n
 | 0,_=>rfl
 | n+1,h=>by simp only[vh];rw[zbI n λj hj=>h j (by omega),h n (by omega)]
theorem Qr {f f':Nat→Nat} {i:Nat}:∀n,i<n→(∀j,j<n→j≠i→f' j=f j)→vh f' n+f i=vh f n+f' i
 | 0,h,_=>by omega
 | n+1,h,k=>by
  simp only[vh]
  by_cases e:i=n
  ·subst e
   rw[zbI i λj hj=>k j (by omega) (by omega)]
   omega
  ·have:=Qr n (by omega) λj hj hne=>k j (by omega) hne
   rw[k n (by omega) (λq=>e q.symm)]
   omega
theorem zi3 {f f':Nat→Nat}:∀n,(∀j,j<n→f j≤f' j)→vh f n≤vh f' n
 | 0,_=>Nat.le_refl _
 | n+1,h=>by simp only[vh];have:=zi3 n λj hj=>h j (by omega);have:=h n (by omega);omega
theorem zi4 {f f':Nat→Nat} {i:Nat}:∀n,i<n→(∀j,j<n→f j≤f' j)→f i<f' i→vh f n<vh f' n
 | 0,h,_,_=>by omega
 | n+1,h,k,q=>by
  simp only[vh]
  have:=k n (by omega)
  by_cases e:i=n
  ·subst e;have:=zi3 i λj hj=>k j (by omega);omega
  ·have:=zi4 n (by omega) (λj hj=>k j (by omega)) q;omega
def xq (s:Nat→Bool) (n:Nat):Nat:=vh (λi=>if s i then 0 else 1) n
theorem zaW (s:Nat→Bool):∀n,xq s n≤n
 | 0=>Nat.le_refl _
 | n+1=>by unfold xq;simp only[vh];have:=zaW s n;unfold xq at this;split<;>omega
theorem UX {s s':Nat→Bool} {n i:Nat} (hi:i<n) (h:∀j,j<n→s j=true→s' j=true) (h1:s i=false) (h2:s' i=true):xq s' n<xq s n:=zi4 n hi (λj hj=>by
 cases e:s j with
 | true=>simp[h j hj e]
 | false=>split<;>simp) (by simp[h1,h2])
def mark (s:Nat→Bool) (v:Nat):Nat→Bool:=λi=>if i=v then true else s i
@[simp] theorem wS (s:Nat→Bool) (v:Nat):mark s v v=true:=by simp[mark]
theorem ztT {s:Nat→Bool} {v i:Nat} (h:i≠v):mark s v i=s i:=by simp[mark,h]
theorem xD {s:Nat→Bool} {v i:Nat} (h:s i=true):mark s v i=true:=by unfold mark;split<;>simp[h]
theorem Yv {s:Nat→Bool} {v i:Nat}:mark s v i=true↔i=v∨s i=true:=by
 unfold mark
 split
 ·rename_i h;simp[h]
 ·rename_i h;simp[h]
inductive Wx (g:List (List Int)) (from_:List Int):Nat→Prop
 | base {x:Int} (h:x∈from_):Wx g from_ x.toNat
 | step {u:Nat} {x:Int} (h:Wx g from_ u) (k:x∈g.getD u []):Wx g from_ x.toNat
theorem zlK {g:List (List Int)} {from_:List Int} {s:Nat→Bool} (h0:∀x∈from_,s x.toNat=true) (h1:∀v,s v=true→∀x∈g.getD v [],s x.toNat=true):∀v,Wx g from_ v→s v=true:=by
 intro v h
 induction h with
 | base h=>exact h0 _ h
 | step _ k ih=>exact h1 _ ih _ k
open Classical in
noncomputable def zcq (g:List (List Int)) (from_:List Int) (v:Nat):Bool:=decide (Wx g from_ v)
theorem WC {g:List (List Int)} {from_:List Int} {v:Nat}:zcq g from_ v=true↔Wx g from_ v:=by unfold zcq;simp
theorem ztE {g:List (List Int)} {from_:List Int} {s:Nat→Bool} {v:Nat} (h:s v=true↔Wx g from_ v):s v=zcq g from_ v:=by
 rw[Bool.eq_iff_iff,h,WC]
theorem yv {l:List Int} {k:Nat} (h:k<l.length):l.getD k 0∈l:=by
 rw[List.getD_eq_getElem?_getD,List.getElem?_eq_getElem h];exact List.getElem_mem h
theorem XK {l:List Int} {x:Int} (h:x∈l):∃k,k<l.length∧l.getD k 0=x:=by
 obtain⟨k,hk,rfl⟩:=List.mem_iff_getElem.1 h
 exact⟨k,hk,by rw[List.getD_eq_getElem?_getD,List.getElem?_eq_getElem hk];rfl⟩
def zcv (g:List (List Int)) (s:Nat→Bool):Nat:=vh (λv=>if s v then 0 else (g.getD v []).length) g.length
theorem zgF {g:List (List Int)} {s:Nat→Bool} {v:Nat} (hv:v<g.length) (h:s v=false):zcv g (mark s v)+(g.getD v []).length=zcv g s:=by
 have:=Qr (f:=λv=>if s v then 0 else (g.getD v []).length) (f':=λw=>if mark s v w then 0 else (g.getD w []).length) g.length hv λj _ hne=>by rw[ztT hne]
 unfold zcv
 simp only[wS,h,if_true,Bool.false_eq_true,if_false] at this
 omega
end
section
abbrev To (g:List (List Int)) (u v:Nat):Prop:=Wx g [(u:Int)] v
theorem Yk (g:List (List Int)) (v:Nat):To g v v:=by
 have:=Wx.base (g:=g) (from_:=[(v:Int)]) (x:=(v:Int)) (by simp)
 simpa using this
theorem uc {g:List (List Int)} {a b c:Nat} (h:To g a b) (k:To g b c):To g a c:=by
 unfold To at k
 generalize hb:[(b:Int)]=fr at k
 induction k with
 | base m=>subst hb;simp only[List.mem_singleton] at m;subst m;simpa using h
 | step _ m ih=>exact .step ih m
theorem VS {g:List (List Int)} {a:Nat} {x:Int} (h:x∈g.getD a []):To g a x.toNat:=.step (Yk g a) h
theorem Qk {g:List (List Int)} {s:Nat→Prop} (h:∀v,s v→∀x∈g.getD v [],s x.toNat) {u v:Nat} (k:To g u v) (hu:s u):s v:=by
 unfold To at k
 generalize hb:[(u:Int)]=fr at k
 induction k with
 | base m=>subst hb;simp only[List.mem_singleton] at m;subst m;simpa using hu
 | step _ m ih=>exact h _ ih _ m
structure TJ where
 num:Nat→Nat
 low:Nat→Nat
 part:Nat→Int
 stack:List Nat
 path:List (Nat × Nat)
 count:Nat
 Ym:Nat
def up {α:Type} (f:Nat→α) (k:Nat) (v:α):Nat→α:=λi=>if i=k then v else f i
@[simp] theorem wB {α:Type} (f:Nat→α) (k:Nat) (v:α):up f k v k=v:=by simp[up]
theorem vR {α:Type} {f:Nat→α} {k i:Nat} {v:α} (h:i≠k):up f k v i=f i:=by simp[up,h]
def Vj (g:List (List Int)) (S:TJ):Nat→Bool→List (Nat × Nat)→Prop
 | U,_,[]=>∀v,v∈S.stack→U≤S.num v
 | U,top,(p,i)::r =>
  p∈S.stack∧S.num p<U ∧
  (∀v,v∈S.stack→S.num p≤S.num v→S.num v<U→To g p v∧(v≠p→(∃w,w∈S.stack∧S.num w<S.num v∧To g v w)∧∀x∈g.getD v [],S.num x.toNat≠0∧(S.part x.toNat<0→S.low p≤S.num x.toNat))) ∧
  (∀k,k<(g.getD p []).length→(if top=true then k<i else k+1<i)→S.num ((g.getD p []).getD k 0).toNat≠0∧(S.part ((g.getD p []).getD k 0).toNat<0→S.low p≤S.num ((g.getD p []).getD k 0).toNat)) ∧
  S.low p≤S.num p∧(∃w,w∈S.stack∧S.num w=S.low p∧To g p w) ∧
  (top=false→1≤i∧i≤(g.getD p []).length) ∧
  (match r with
   | []=>True
   | (q,j)::_=>1≤j∧j≤(g.getD q []).length∧((g.getD q []).getD (j-1) 0).toNat=p) ∧
  Vj g S (S.num p) false r
theorem Vj.za8 {g:List (List Int)} {S S':TJ} (h3:∀x,S.num x≠0→S'.num x≠0∧(S'.part x<0→S.part x<0∧S'.num x=S.num x)) :
  ∀(r:List (Nat × Nat)) {U:Nat} {top:Bool},(∀v,v∈S'.stack→S'.num v<U→v∈S.stack∧S.num v=S'.num v)→(∀v,v∈S.stack→S.num v<U→v∈S'.stack∧S'.num v=S.num v∧S'.low v=S.low v)→Vj g S U top r→Vj g S' U top r
 | [],U,top,h1,h2,h=>λv hv=>by
  rcases Nat.lt_or_ge (S'.num v) U with q|q
  ·obtain⟨a,b⟩:=h1 v hv q
   have:=h v a
   omega
  ·exact q
 | (p,i)::r,U,top,h1,h2,h=>by
  obtain⟨g1,g2,g3,g4,g5,⟨w,w1,w2,w3⟩,g7,g8,g9⟩:=h
  obtain⟨p1,p2,p3⟩:=h2 p g1 g2
  refine⟨p1,by omega,λv hv a b=>?_,λk hk ht=>?_,by omega,?_,g7,g8,?_⟩
  ·obtain⟨c1,c2⟩:=h1 v hv b
   obtain⟨d1,d2⟩:=g3 v c1 (by omega) (by omega)
   refine⟨d1,λhne=>?_⟩
   obtain⟨⟨w,e1,e2,e3⟩,e4⟩:=d2 hne
   obtain⟨f1,f2,f3⟩:=h2 w e1 (by omega)
   refine⟨⟨w,f1,by omega,e3⟩,λx hx=>?_⟩
   obtain⟨n1,n2⟩:=e4 x hx
   obtain⟨m1,m2⟩:=h3 _ n1
   refine⟨m1,λq=>?_⟩
   obtain⟨o1,o2⟩:=m2 q
   have:=n2 o1
   omega
  ·obtain⟨n1,n2⟩:=g4 k hk ht
   obtain⟨m1,m2⟩:=h3 _ n1
   refine⟨m1,λq=>?_⟩
   obtain⟨o1,o2⟩:=m2 q
   have:=n2 o1
   omega
  ·obtain⟨f1,f2,f3⟩:=h2 w w1 (by omega)
   exact⟨w,f1,by omega,w3⟩
  ·rw[p2]
   exact Vj.za8 h3 r (λv hv q=>h1 v hv (by omega)) (λv hv q=>h2 v hv (by omega)) g9
structure TjI (g:List (List Int)) (S:TJ):Prop where
 stk:∀v,v∈S.stack↔S.num v≠0∧S.part v<0
 srt:S.stack.Pairwise λa b=>S.num b<S.num a
 cnt:∀v,S.num v≤S.count
 node:∀v,S.num v≠0→v<g.length
 par:∀v,0≤S.part v→S.part v<(S.Ym:Int)∧S.num v≠0
 cls:∀v,0≤S.part v→∀x∈g.getD v [],0≤S.part x.toNat
 same:∀u v,0≤S.part u→0≤S.part v→(S.part u=S.part v↔To g u v∧To g v u)
 seg:Vj g S (S.count+1) true S.path
 size:S.Ym+S.stack.length≤S.count
 seen:xq (λv=>decide (S.num v≠0)) g.length+S.count=g.length
 deep:S.path.length+xq (λv=>decide (S.num v≠0)) g.length≤g.length
 zp2:∀u v,S.num u=S.num v→S.num u≠0→u=v
def TJ.open (S:TJ) (v:Nat) (path:List (Nat × Nat)):TJ:=⟨up S.num v (S.count+1),up S.low v (S.count+1),S.part,v::S.stack,(v,0)::path,S.count+1,S.Ym⟩
theorem zjW {S:TJ} {n v:Nat} (hv:v<n) (h:S.num v=0):xq (λw=>decide (up S.num v (S.count+1) w≠0)) n+1=xq (λw=>decide (S.num w≠0)) n:=by
 have:=Qr (f:=λw=>if decide (S.num w≠0)=true then 0 else 1) (f':=λw=>if decide (up S.num v (S.count+1) w≠0)=true then 0 else 1) n hv λj _ hne=>by rw[vR hne]
 unfold xq
 rw[wB] at this
 simp only[h] at this
 simp at this
 simp
 omega
theorem TjI.opened {g:List (List Int)} {S:TJ} (h:TjI g S) {v:Nat} (hv:v<g.length) (h0:S.num v=0) {path:List (Nat × Nat)} (hp:path.length≤S.path.length)
  (hs:Vj g S (S.count+1) false path) (hl:match path with|[]=>True|(q,j)::_=>1≤j∧j≤(g.getD q []).length∧((g.getD q []).getD (j-1) 0).toNat=v):TjI g (S.open v path):=by
 have hvs:v ∉ S.stack:=λq=>((h.stk v).1 q).1 h0
 have hpv:S.part v<0:=by
  rcases Int.lt_or_le (S.part v) 0 with q|q
  ·exact q
  ·exact absurd h0 (h.par v q).2
 have hne:∀w,w∈S.stack→w≠v:=λw hw e=>hvs (e▸hw)
 have hn0:∀w,S.num w≠0→w≠v:=λw hw e=>hw (e▸h0)
 have hun:=zjW hv h0
 refine⟨λw=>?_,?_,λw=>?_,λw hw=>?_,λw hw=>?_,h.cls,h.same,?_,?_,?_,?_,?_⟩
 ·show w∈v::S.stack↔up S.num v (S.count+1) w≠0∧S.part w<0
  by_cases e:w=v
  ·subst e;simp[hpv]
  ·rw[vR e,←h.stk w];simp[e]
 ·show(v::S.stack).Pairwise λa b=>up S.num v (S.count+1) b<up S.num v (S.count+1) a
  refine List.pairwise_cons.2 ⟨λw hw=>?_,h.srt.imp_of_mem λ{a b} ha hb q=>?_⟩
  ·rw[wB,vR (hne w hw)];have:=h.cnt w;omega
  ·rw[vR (hne a ha),vR (hne b hb)];exact q
 ·show up S.num v (S.count+1) w≤S.count+1
  by_cases e:w=v
  ·subst e;rw[wB];omega
  ·rw[vR e];have:=h.cnt w;omega
 ·by_cases e:w=v
  ·subst e;exact hv
  ·exact h.node w (by
    have:up S.num v (S.count+1) w≠0:=hw
    rw[vR e] at this;exact this)
 ·obtain⟨a,b⟩:=h.par w hw
  refine⟨a,?_⟩
  show up S.num v (S.count+1) w≠0
  rw[vR (hn0 w b)];exact b
 ·show Vj g (S.open v path) (S.count+1+1) true ((v,0)::path)
  refine⟨List.mem_cons_self ..,?_,λw hw a b=>?_,λk _ hk=>?_,?_,⟨v,List.mem_cons_self ..,?_,Yk g v⟩,λq=>(by cases q),hl,?_⟩
  ·show up S.num v (S.count+1) v<_;rw[wB];omega
  ·have e:w=v:=by
    rcases List.mem_cons.1 hw with e|e
    ·exact e
    ·have a:up S.num v (S.count+1) v≤up S.num v (S.count+1) w:=a
     rw[wB,vR (hne w e)] at a
     have:=h.cnt w
     omega
   subst e
   exact⟨Yk g w,λq=>absurd rfl q⟩
  ·rw[if_pos rfl] at hk;omega
  ·show up S.low v (S.count+1) v≤up S.num v (S.count+1) v;rw[wB,wB];exact Nat.le_refl _
  ·show up S.num v (S.count+1) v=up S.low v (S.count+1) v;rw[wB,wB]
  ·have e:(S.open v path).num v=S.count+1:=wB ..
   rw[e]
   refine Vj.za8 (S:=S) (S':=S.open v path) (λx hx=>⟨?_,λq=>⟨q,?_⟩⟩) path (λw hw q=>?_) (λw hw q=>?_) hs
   ·show up S.num v (S.count+1) x≠0;rw[vR (hn0 x hx)];exact hx
   ·show up S.num v (S.count+1) x=_;rw[vR (hn0 x hx)]
   ·have q:up S.num v (S.count+1) w<S.count+1:=q
    by_cases e:w=v
    ·subst e;rw[wB] at q;omega
    ·refine⟨(List.mem_cons.1 hw).resolve_left e,?_⟩
     show _=up S.num v (S.count+1) w;rw[vR e]
   ·have e:=hne w hw
    refine⟨List.mem_cons_of_mem _ hw,?_,?_⟩
    ·show up S.num v (S.count+1) w=_;rw[vR e]
    ·show up S.low v (S.count+1) w=_;rw[vR e]
 ·have:=h.size
  show S.Ym+(v::S.stack).length≤S.count+1
  rw[List.length_cons];omega
 ·have:=h.seen
  show xq (λw=>decide (up S.num v (S.count+1) w≠0)) g.length+(S.count+1)=g.length
  omega
 ·have:=h.deep
  show((v,0)::path).length+xq (λw=>decide (up S.num v (S.count+1) w≠0)) g.length≤g.length
  rw[List.length_cons];omega
 ·intro a b e ha
  have e:up S.num v (S.count+1) a=up S.num v (S.count+1) b:=e
  have ha:up S.num v (S.count+1) a≠0:=ha
  have ca:=h.cnt a
  have cb:=h.cnt b
  by_cases e1:a=v<;>by_cases e2:b=v
  ·omega
  ·subst e1;rw[wB,vR e2] at e;omega
  ·subst e2;rw[wB,vR e1] at e;omega
  ·rw[vR e1,vR e2] at e;rw[vR e1] at ha;exact h.zp2 a b e ha
theorem Vj.next {g:List (List Int)} {S:TJ} {U p i:Nat} {r:List (Nat × Nat)} (h:Vj g S U true ((p,i)::r)) (hi:i<(g.getD p []).length):Vj g S U false ((p,i+1)::r):=by
 obtain⟨g1,g2,g3,g4,g5,g6,g7,g8,g9⟩:=h
 exact⟨g1,g2,g3,λk hk ht=>g4 k hk (by
  rw[if_neg (by decide)] at ht
  rw[if_pos rfl];omega),g5,g6,λ_=>⟨by omega,by omega⟩,g8,g9⟩
theorem TjI.push {g:List (List Int)} {S:TJ} (h:TjI g S) {p i:Nat} {r:List (Nat × Nat)} (hp:S.path=(p,i)::r) (hi:i<(g.getD p []).length) (hv:((g.getD p []).getD i 0).toNat<g.length) (h0:S.num ((g.getD p []).getD i 0).toNat=0) :
  TjI g (S.open ((g.getD p []).getD i 0).toNat ((p,i+1)::r)):=by
 refine h.opened hv h0 (by rw[hp];simp) (Vj.next (by rw[←hp];exact h.seg) hi) ⟨by omega,by omega,?_⟩
 rw[Nat.add_sub_cancel]
def TJ.skip (S:TJ) (p i:Nat) (r:List (Nat × Nat)) (x:Nat):TJ:=⟨S.num,if S.part x<0 then up S.low p (min (S.low p) (S.num x)) else S.low,S.part,S.stack,(p,i+1)::r,S.count,S.Ym⟩
theorem TjI.skip {g:List (List Int)} {S:TJ} (h:TjI g S) {p i:Nat} {r:List (Nat × Nat)} (hp:S.path=(p,i)::r) (hi:i<(g.getD p []).length) (h0:S.num ((g.getD p []).getD i 0).toNat≠0) :
  TjI g (S.skip p i r ((g.getD p []).getD i 0).toNat):=by
 have hx:(g.getD p []).getD i 0∈g.getD p []:=yv hi
 generalize hxe:(g.getD p []).getD i 0=x at *
 have hseg:=h.seg
 rw[hp] at hseg
 obtain⟨g1,g2,g3,g4,g5,⟨w,w1,w2,w3⟩,g7,g8,g9⟩:=hseg
 have hlow:∀v,S.num v<S.num p→(S.skip p i r x.toNat).low v=S.low v:=λv hv=>by
  show(if S.part x.toNat<0 then up S.low p (min (S.low p) (S.num x.toNat)) else S.low) v=_
  split
  ·rw[vR (λe=>by subst e;omega)]
  ·rfl
 have hlp:(S.skip p i r x.toNat).low p=if S.part x.toNat<0 then min (S.low p) (S.num x.toNat) else S.low p:=by
  show(if S.part x.toNat<0 then up S.low p (min (S.low p) (S.num x.toNat)) else S.low) p=_
  split
  ·rw[wB]
  ·rfl
 have hle:(S.skip p i r x.toNat).low p≤S.low p:=by rw[hlp];split<;>omega
 refine⟨h.stk,h.srt,h.cnt,h.node,h.par,h.cls,h.same,?_,h.size,h.seen,?_,h.zp2⟩
 ·show Vj g (S.skip p i r x.toNat) (S.count+1) true ((p,i+1)::r)
  refine⟨g1,g2,λv hv a b=>?_,λk hk ht=>?_,?_,?_,λq=>(by cases q),g8,?_⟩
  ·obtain⟨d1,d2⟩:=g3 v hv a b
   refine⟨d1,λhne=>⟨(d2 hne).1,λy hy=>?_⟩⟩
   obtain⟨n1,n2⟩:=(d2 hne).2 y hy
   exact⟨n1,λq=>Nat.le_trans hle (n2 q)⟩
  ·rw[if_pos rfl] at ht
   rcases Nat.lt_or_ge k i with q|q
   ·obtain⟨n1,n2⟩:=g4 k hk (by rw[if_pos rfl];exact q)
    exact⟨n1,λz=>Nat.le_trans hle (n2 z)⟩
   ·have:k=i:=by omega
    subst this
    rw[hxe]
    refine⟨h0,λz=>?_⟩
    have z:S.part x.toNat<0:=z
    rw[hlp,if_pos z]
    exact Nat.min_le_right _ _
  ·exact Nat.le_trans hle g5
  ·rw[hlp]
   by_cases z:S.part x.toNat<0
   ·rw[if_pos z]
    rcases Nat.le_total (S.low p) (S.num x.toNat) with q|q
    ·rw[Nat.min_eq_left q];exact⟨w,w1,w2,w3⟩
    ·rw[Nat.min_eq_right q];exact⟨x.toNat,(h.stk _).2 ⟨h0,z⟩,rfl,VS hx⟩
   ·rw[if_neg z];exact⟨w,w1,w2,w3⟩
  ·exact Vj.za8 (S:=S) (S':=S.skip p i r x.toNat) (λy hy=>⟨hy,λq=>⟨q,rfl⟩⟩) r (λv hv q=>⟨hv,rfl⟩) (λv hv q=>⟨hv,rfl,hlow v q⟩) g9
 ·have:=h.deep
  rw[hp] at this
  exact this
def TJ.back (S:TJ) (n p j:Nat) (r:List (Nat × Nat)):TJ:=⟨S.num,up S.low p (min (S.low p) (S.low n)),S.part,S.stack,(p,j)::r,S.count,S.Ym⟩
theorem TjI.back {g:List (List Int)} {S:TJ} (h:TjI g S) {n i p j:Nat} {r:List (Nat × Nat)} (hp:S.path=(n,i)::(p,j)::r) (hi:(g.getD n []).length≤i) (hl:S.low n≠S.num n):TjI g (S.back n p j r):=by
 have hseg:=h.seg
 rw[hp] at hseg
 obtain⟨g1,g2,g3,g4,g5,⟨w,w1,w2,w3⟩,g7,⟨k1,k2,k3⟩,f1,f2,f3,f4,f5,⟨u,u1,u2,u3⟩,f7,f8,f9⟩:=hseg
 have hlow:∀v,S.num v<S.num p→(S.back n p j r).low v=S.low v:=λv hv=>by
  show up S.low p (min (S.low p) (S.low n)) v=_
  rw[vR (λe=>by subst e;omega)]
 have hlp:(S.back n p j r).low p=min (S.low p) (S.low n):=wB ..
 have hpn:To g p n:=by
  have:=VS (g:=g) (a:=p) (yv (l:=g.getD p []) (k:=j-1) (by omega))
  rw[k3] at this
  exact this
 have hln:S.low n<S.num n:=by omega
 refine⟨h.stk,h.srt,h.cnt,h.node,h.par,h.cls,h.same,?_,h.size,h.seen,?_,h.zp2⟩
 ·show Vj g (S.back n p j r) (S.count+1) true ((p,j)::r)
  refine⟨f1,by have:S.num p<S.num n:=f2
               have:S.num n<S.count+1:=g2
               show S.num p<S.count+1
               omega,λv hv a b=>?_,λk hk ht=>?_,?_,?_,λq=>(by cases q),f8,?_⟩
  ·have a:S.num p≤S.num v:=a
   have b:S.num v<S.count+1:=b
   rcases Nat.lt_or_ge (S.num v) (S.num n) with q|q
   ·obtain⟨d1,d2⟩:=f3 v hv a q
    refine⟨d1,λhne=>⟨(d2 hne).1,λy hy=>?_⟩⟩
    obtain⟨n1,n2⟩:=(d2 hne).2 y hy
    refine⟨n1,λz=>?_⟩
    rw[hlp]
    exact Nat.le_trans (Nat.min_le_left _ _) (n2 z)
   ·obtain⟨d1,d2⟩:=g3 v hv q b
    refine⟨uc hpn d1,λhne=>?_⟩
    by_cases e:v=n
    ·subst e
     refine⟨⟨w,w1,by show S.num w<S.num v;omega,w3⟩,λy hy=>?_⟩
     obtain⟨k,hk,rfl⟩:=XK hy
     obtain⟨n1,n2⟩:=g4 k hk (by rw[if_pos rfl];omega)
     refine⟨n1,λz=>?_⟩
     rw[hlp]
     exact Nat.le_trans (Nat.min_le_right _ _) (n2 z)
    ·refine⟨(d2 e).1,λy hy=>?_⟩
     obtain⟨n1,n2⟩:=(d2 e).2 y hy
     refine⟨n1,λz=>?_⟩
     rw[hlp]
     exact Nat.le_trans (Nat.min_le_right _ _) (n2 z)
  ·rw[if_pos rfl] at ht
   rw[hlp]
   rcases Nat.lt_or_ge (k+1) j with q|q
   ·obtain⟨n1,n2⟩:=f4 k hk (by rw[if_neg (by decide)];exact q)
    exact⟨n1,λz=>Nat.le_trans (Nat.min_le_left _ _) (n2 z)⟩
   ·have:k=j-1:=by omega
    subst this
    rw[k3]
    refine⟨((h.stk n).1 g1).1,λz=>?_⟩
    show min _ _≤S.num n
    omega
  ·rw[hlp]
   show _≤S.num p
   omega
  ·rw[hlp]
   rcases Nat.le_total (S.low p) (S.low n) with q|q
   ·rw[Nat.min_eq_left q];exact⟨u,u1,u2,u3⟩
   ·rw[Nat.min_eq_right q];exact⟨w,w1,w2,uc hpn w3⟩
  ·exact Vj.za8 (S:=S) (S':=S.back n p j r) (λy hy=>⟨hy,λq=>⟨q,rfl⟩⟩) r (λv hv q=>⟨hv,rfl⟩) (λv hv q=>⟨hv,rfl,hlow v q⟩) f9
 ·have:=h.deep
  rw[hp] at this
  simp only[List.length_cons] at this
  show((p,j)::r).length+xq (λv=>decide (S.num v≠0)) g.length≤g.length
  rw[List.length_cons]
  omega
end
section
def TJ.shut (S:TJ) (n:Nat) (path:List (Nat × Nat)) (low:Nat→Nat):TJ:=⟨S.num,low,λv=>if v∈S.stack∧S.num n≤S.num v then (S.Ym:Int) else S.part v,S.stack.filter λv=>decide (S.num v<S.num n),path,S.count,S.Ym+1⟩
theorem QM {α:Type} {p:α→Bool} {a:α}:∀{l:List α},a∈l→p a=false→(l.filter p).length<l.length
 | [],h,_=>by cases h
 | b::l,h,hp=>by
  rw[List.filter_cons]
  by_cases e:p b=true
  ·rw[if_pos e]
   rcases List.mem_cons.1 h with q|q
   ·subst q;rw[hp] at e;cases e
   ·have:=QM q hp
    simp only[List.length_cons];omega
  ·rw[if_neg e]
   have:=List.length_filter_le p l
   simp only[List.length_cons];omega
theorem TjI.shut {g:List (List Int)} {S:TJ} (h:TjI g S) {n i:Nat} {r:List (Nat × Nat)} (hp:S.path=(n,i)::r) (hi:(g.getD n []).length≤i) (hl:S.low n=S.num n) {low:Nat→Nat} (hlow:∀v,S.num v<S.num n→low v=S.low v):TjI g (S.shut n r low):=by
 have hseg:=h.seg
 rw[hp] at hseg
 obtain⟨g1,g2,g3,g4,g5,g6,g7,g8,g9⟩:=hseg
 have hn0:=(h.stk n).1 g1
 have hpart:∀v,(S.shut n r low).part v=if v∈S.stack∧S.num n≤S.num v then (S.Ym:Int) else S.part v:=λv=>rfl
 -- the piece of n
 have hE:∀v,v∈S.stack→S.num n≤S.num v→∀x∈g.getD v [],S.num x.toNat≠0∧(S.part x.toNat<0→S.num n≤S.num x.toNat):=λv hv a x hx=>by
  have b:S.num v<S.count+1:=by have:=h.cnt v;omega
  by_cases e:v=n
  ·subst e
   obtain⟨k,hk,rfl⟩:=XK hx
   obtain⟨n1,n2⟩:=g4 k hk (by rw[if_pos rfl];omega)
   exact⟨n1,λz=>by have:=n2 z;omega⟩
  ·obtain⟨n1,n2⟩:=((g3 v hv a b).2 e).2 x hx
   exact⟨n1,λz=>by have:=n2 z;omega⟩
 have hge:∀v,0≤(S.shut n r low).part v↔0≤S.part v∨(v∈S.stack∧S.num n≤S.num v):=λv=>by
  rw[hpart]
  by_cases q:v∈S.stack∧S.num n≤S.num v
  ·rw[if_pos q];simp[q]
  ·rw[if_neg q];simp[q]
 have hcls:∀v,0≤(S.shut n r low).part v→∀x∈g.getD v [],0≤(S.shut n r low).part x.toNat:=λv hv x hx=>by
  rw[hge] at hv ⊢
  rcases hv with hv|⟨hv,a⟩
  ·exact .inl (h.cls v hv x hx)
  ·obtain⟨n1,n2⟩:=hE v hv a x hx
   rcases Int.lt_or_le (S.part x.toNat) 0 with q|q
   ·exact .inr ⟨(h.stk _).2 ⟨n1,q⟩,n2 q⟩
   ·exact .inl q
 have hdown:∀m v,S.num v≤m→v∈S.stack→S.num n≤S.num v→To g v n:=by
  intro m
  induction m with
  | zero=>intro v a hv b;have:=((h.stk v).1 hv).1;omega
  | succ m ih =>
   intro v a hv b
   by_cases e:v=n
   ·subst e;exact Yk g v
   ·obtain⟨⟨w,w1,w2,w3⟩,_⟩:=(g3 v hv b (by have:=h.cnt v;omega)).2 e
    have hw:0≤(S.shut n r low).part w:=Qk (s:=λv=>0≤(S.shut n r low).part v) hcls w3 ((hge v).2 (.inr ⟨hv,b⟩))
    rw[hge] at hw
    have hw:w∈S.stack∧S.num n≤S.num w:=by
     rcases hw with q|q
     ·have:=((h.stk w).1 w1).2;omega
     ·exact q
    exact uc w3 (ih w (by omega) w1 hw.2)
 have hmut:∀v,v∈S.stack→S.num n≤S.num v→To g n v∧To g v n:=λv hv a=>⟨(g3 v hv a (by have:=h.cnt v;omega)).1,hdown _ v (Nat.le_refl _) hv a⟩
 have hold:∀u v,0≤S.part u→v∈S.stack→¬To g u v:=λu v hu hv q=>by
  have:=Qk (s:=λv=>0≤S.part v) h.cls q hu
  have:=((h.stk v).1 hv).2
  omega
 refine⟨λv=>?_,?_,h.cnt,h.node,λv hv=>?_,hcls,λu v hu hv=>?_,?_,?_,h.seen,?_,h.zp2⟩
 ·show v∈S.stack.filter _↔S.num v≠0∧(S.shut n r low).part v<0
  rw[List.mem_filter,decide_eq_true_eq,hpart]
  constructor
  ·rintro⟨a,b⟩
   rw[if_neg (λq=>by omega)]
   exact(h.stk v).1 a
  ·rintro⟨a,b⟩
   by_cases q:v∈S.stack∧S.num n≤S.num v
   ·rw[if_pos q] at b;omega
   ·rw[if_neg q] at b
    have:=(h.stk v).2 ⟨a,b⟩
    exact⟨this,by
     rcases Nat.lt_or_ge (S.num v) (S.num n) with z|z
     ·exact z
     ·exact absurd ⟨this,z⟩ q⟩
 ·exact h.srt.filter _
 ·show(S.shut n r low).part v<((S.Ym+1:Nat):Int)∧S.num v≠0
  rw[hpart]
  by_cases q:v∈S.stack∧S.num n≤S.num v
  ·rw[if_pos q];exact⟨by omega,((h.stk v).1 q.1).1⟩
  ·rw[if_neg q]
   rw[hge] at hv
   obtain⟨a,b⟩:=h.par v (hv.resolve_right q)
   exact⟨by omega,b⟩
 ·rw[hge] at hu hv
  rw[hpart,hpart]
  by_cases qu:u∈S.stack∧S.num n≤S.num u<;>by_cases qv:v∈S.stack∧S.num n≤S.num v
  ·rw[if_pos qu,if_pos qv]
   obtain⟨a1,a2⟩:=hmut u qu.1 qu.2
   obtain⟨b1,b2⟩:=hmut v qv.1 qv.2
   exact⟨λ_=>⟨uc a2 b1,uc b2 a1⟩,λ_=>rfl⟩
  ·rw[if_pos qu,if_neg qv]
   have hv':=hv.resolve_right qv
   have:=(h.par v hv').1
   exact⟨λe=>by omega,λe=>absurd e.2 (hold v u hv' qu.1)⟩
  ·rw[if_neg qu,if_pos qv]
   have hu':=hu.resolve_right qu
   have:=(h.par u hu').1
   exact⟨λe=>by omega,λe=>absurd e.1 (hold u v hu' qv.1)⟩
  ·rw[if_neg qu,if_neg qv]
   exact h.same u v (hu.resolve_right qu) (hv.resolve_right qv)
 ·show Vj g (S.shut n r low) (S.count+1) true r
  have mem':∀v,v∈(S.shut n r low).stack↔v∈S.stack∧S.num v<S.num n:=λv=>by
   show v∈S.stack.filter _↔_
   rw[List.mem_filter,decide_eq_true_eq]
  have h9:Vj g (S.shut n r low) (S.num n) false r:=Vj.za8 (S:=S) (S':=S.shut n r low) (λx hx=>⟨hx,λq=>by
   have q':¬(0≤(S.shut n r low).part x):=by omega
   rw[hge] at q'
   exact⟨by
    rcases Int.lt_or_le (S.part x) 0 with z|z
    ·exact z
    ·exact absurd (.inl z) q',rfl⟩⟩) r (λv hv q=>⟨((mem' v).1 hv).1,rfl⟩) (λv hv q=>⟨(mem' v).2 ⟨hv,q⟩,rfl,hlow v q⟩) g9
  match r,g8,h9 with
  | [],_,h9 =>
   intro v hv
   have:=h9 v hv
   have:=((mem' v).1 hv).2
   have:S.num n≤S.num v:=h9 v hv
   omega
  | (p,j)::r,g8,h9 =>
   obtain⟨f1,f2,f3,f4,f5,f6,f7,f8,f9⟩:=h9
   refine⟨f1,?_,λv hv a b=>?_,λk hk ht=>?_,f5,f6,λq=>(by cases q),f8,f9⟩
   ·have:S.num p<S.num n:=f2
    show S.num p<S.count+1
    have:=h.cnt n
    omega
   ·exact f3 v hv a ((mem' v).1 hv).2
   ·rw[if_pos rfl] at ht
    rcases Nat.lt_or_ge (k+1) j with q|q
    ·exact f4 k hk (by rw[if_neg (by decide)];exact q)
    ·have:k=j-1:=by omega
     subst this
     rw[g8.2.2]
     refine⟨hn0.1,λz=>?_⟩
     have:=(hge n).2 (.inr ⟨g1,Nat.le_refl _⟩)
     omega
 ·have:=h.size
  have h1:=QM (p:=λv=>decide (S.num v<S.num n)) g1 (by simp)
  show S.Ym+1+(S.stack.filter λv=>decide (S.num v<S.num n)).length≤S.count
  omega
 ·have:=h.deep
  rw[hp] at this
  simp only[List.length_cons] at this
  show r.length+xq (λv=>decide (S.num v≠0)) g.length≤g.length
  omega
theorem TjI.zero (g:List (List Int)):TjI g ⟨λ_=>0,λ_=>0,λ_=>-1,[],[],0,0⟩ where
 stk v:=by simp
 srt:=by simp
 cnt _:=Nat.le_refl _
 node v h:=absurd rfl h
 par v h:=by have h:(0:Int)≤-1:=h;omega
 cls v h:=by have h:(0:Int)≤-1:=h;omega
 same u v h:=by have h:(0:Int)≤-1:=h;omega
 seg:=λv hv=>by cases hv
 size:=by simp
 seen:=by
  show xq (λv=>decide ((0:Nat)≠0)) g.length+0=g.length
  have:∀n,xq (λ_=>decide ((0:Nat)≠0)) n=n:=λn=>by
   induction n with
   | zero=>rfl
   | succ n ih=>unfold xq at ih ⊢;simp only[vh,ih];simp
  rw[this];rfl
 deep:=by
  show 0+xq (λv=>decide ((0:Nat)≠0)) g.length≤g.length
  have:=zaW (λv=>decide ((0:Nat)≠0)) g.length
  omega
 zp2 u v _ h:=absurd rfl h
theorem TjI.empty {g:List (List Int)} {S:TJ} (h:TjI g S) (hp:S.path=[]):S.stack=[]:=by
 have hs:=h.seg
 rw[hp] at hs
 cases e:S.stack with
 | nil=>rfl
 | cons v r =>
  have:=hs v (by rw[e];simp)
  have:=h.cnt v
  omega
theorem TjI.done {g:List (List Int)} {S:TJ} (h:TjI g S) (hp:S.path=[]) {v:Nat} (hv:S.num v≠0):0≤S.part v:=by
 rcases Int.lt_or_le (S.part v) 0 with q|q
 ·have:=(h.stk v).2 ⟨hv,q⟩
  rw[h.empty hp] at this
  cases this
 ·exact q
def Wf (g:List (List Int)):List (Nat × Nat)→Nat
 | []=>0
 | (p,i)::r=>(g.getD p []).length-i+1+Wf g r
def TJ.fuel (g:List (List Int)) (S:TJ):Nat:=vh (λv=>if S.num v=0 then (g.getD v []).length+2 else 0) g.length+Wf g S.path
theorem zoJ {g:List (List Int)} {S:TJ} {v:Nat} (hv:v<g.length) (h0:S.num v=0) (path:List (Nat × Nat)):TJ.fuel g (S.open v path)+1+Wf g S.path=TJ.fuel g S+Wf g path:=by
 have:=Qr (f:=λw=>if S.num w=0 then (g.getD w []).length+2 else 0) (f':=λw=>if up S.num v (S.count+1) w=0 then (g.getD w []).length+2 else 0) g.length hv λj _ hne=>by rw[vR hne]
 unfold TJ.fuel
 show vh (λw=>if up S.num v (S.count+1) w=0 then (g.getD w []).length+2 else 0) g.length+((g.getD v []).length-0+1+Wf g path)+1+Wf g S.path=_
 rw[wB,if_pos h0,if_neg (by omega)] at this
 omega
end
section

end
section
def zfp (p:Nat→Bool):Nat→Nat→Nat
 | i,0=>i
 | i,d+1=>if p i=true then i else zfp p (i+1) d
theorem zgk (p:Nat→Bool):∀(d i:Nat),i≤zfp p i d∧zfp p i d≤i+d∧(∀j,i≤j→j<zfp p i d→p j=false)∧(zfp p i d<i+d→p (zfp p i d)=true)
 | 0,i=>⟨Nat.le_refl _,Nat.le_refl _,λj h1 h2=>by simp only[zfp] at h2;omega,λh=>by simp[zfp] at h⟩
 | d+1,i=>by
  simp only[zfp]
  split
  ·rename_i h
   exact⟨Nat.le_refl _,by omega,λj h1 h2=>by omega,λ_=>h⟩
  ·rename_i h
   obtain⟨h1,h2,h3,h4⟩:=zgk p d (i+1)
   refine⟨by omega,by omega,λj g1 g2=>?_,λg=>h4 (by omega)⟩
   by_cases e:j=i
   ·subst e;simpa using h
   ·exact h3 j (by omega) g2
def fst (p:Nat→Bool) (e i:Nat):Nat:=zfp p i (e-i)
theorem zaC {p:Nat→Bool} {e i:Nat} (h:i≤e):i≤fst p e i∧fst p e i≤e∧(∀j,i≤j→j<fst p e i→p j=false)∧(fst p e i<e→p (fst p e i)=true):=by
 obtain⟨h1,h2,h3,h4⟩:=zgk p (e-i) i
 exact⟨h1,by unfold fst;omega,h3,λg=>h4 (by unfold fst at g;omega)⟩
theorem fst_eq {p:Nat→Bool} {e i t:Nat} (h1:i≤t) (h2:t≤e) (h3:∀j,i≤j→j<t→p j=false) (h4:t<e→p t=true):fst p e i=t:=by
 obtain⟨g1,g2,g3,g4⟩:=zaC (p:=p) (e:=e) (i:=i) (by omega)
 rcases Nat.lt_trichotomy (fst p e i) t with q|q|q
 ·have:=h3 _ g1 q
  rw[g4 (by omega)] at this
  cases this
 ·exact q
 ·have:=g3 t h1 q
  rw[h4 (by omega)] at this
  cases this
end
section
theorem zo7 {g:List (List Int)} {S:TJ} {p i v:Nat} {r:List (Nat × Nat)} (hp:S.path=(p,i)::r) (hi:i<(g.getD p []).length) (hv:v<g.length) (h0:S.num v=0):TJ.fuel g (S.open v ((p,i+1)::r))+2=TJ.fuel g S:=by
 have:=zoJ hv h0 ((p,i+1)::r)
 rw[hp] at this
 simp only[Wf] at this
 omega
theorem zpc {g:List (List Int)} {S:TJ} {p i x:Nat} {r:List (Nat × Nat)} (hp:S.path=(p,i)::r) (hi:i<(g.getD p []).length):TJ.fuel g (S.skip p i r x)+1=TJ.fuel g S:=by
 unfold TJ.fuel
 rw[hp]
 show _+((g.getD p []).length-(i+1)+1+Wf g r)+1=_+((g.getD p []).length-i+1+Wf g r)
 show vh (λv=>if S.num v=0 then _ else 0) _+_+1=_
 omega
theorem znU {g:List (List Int)} {S:TJ} {n i p j:Nat} {r:List (Nat × Nat)} (hp:S.path=(n,i)::(p,j)::r):TJ.fuel g (S.back n p j r)<TJ.fuel g S:=by
 unfold TJ.fuel
 rw[hp]
 show vh (λv=>if S.num v=0 then _ else 0) _+((g.getD p []).length-j+1+Wf g r)<_+((g.getD n []).length-i+1+((g.getD p []).length-j+1+Wf g r))
 omega
theorem zfY {g:List (List Int)} {S:TJ} {n i:Nat} {r:List (Nat × Nat)} {low:Nat→Nat} (hp:S.path=(n,i)::r):TJ.fuel g (S.shut n r low)<TJ.fuel g S:=by
 unfold TJ.fuel
 rw[hp]
 show vh (λv=>if S.num v=0 then _ else 0) _+Wf g r<_+((g.getD n []).length-i+1+Wf g r)
 omega
def hasB (same:Nat→Nat→Bool) (k:Nat):Bool:=(List.range k).any λb=>same b k
def Yf (same:Nat→Nat→Bool):Nat→Nat
 | 0=>0
 | k+1=>Yf same k+if hasB same k=true then 0 else 1
def Uu (same:Nat→Nat→Bool) (k:Nat):Nat:=Yf same (fst (λb=>same b k) k 0)
structure Eqv (same:Nat→Nat→Bool) (n:Nat):Prop where
 refl:∀a,a<n→same a a=true
 symm:∀a b,a<n→b<n→same a b=true→same b a=true
 trans:∀a b c,a<n→b<n→c<n→same a b=true→same b c=true→same a c=true
theorem zg4 (same:Nat→Nat→Bool):∀k,Yf same k≤k
 | 0=>Nat.le_refl _
 | k+1=>by simp only[Yf];have:=zg4 same k;split<;>omega
theorem zdx {same:Nat→Nat→Bool} {n:Nat} (h:Eqv same n) {b k:Nat} (hk:k<n) (hb:b<k) (hs:same b k=true) (hf:∀c,c<b→same c k=false):Uu same k=Yf same b∧Uu same b=Yf same b:=by
 constructor
 ·unfold Uu
  rw[fst_eq (i:=0) (t:=b) (Nat.zero_le _) (by omega) (λj _ hj=>hf j hj) (λ_=>hs)]
 ·unfold Uu
  rw[fst_eq (i:=0) (t:=b) (Nat.zero_le _) (Nat.le_refl _) (λj _ hj=>?_) (λz=>by omega)]
  rw[Bool.eq_false_iff]
  intro q
  have:=h.trans j b k (by omega) (by omega) hk q hs
  rw[hf j hj] at this
  cases this
theorem zd3 {same:Nat→Nat→Bool} {k:Nat} (hf:∀c,c<k→same c k=false):Uu same k=Yf same k∧hasB same k=false:=by
 constructor
 ·unfold Uu
  rw[fst_eq (i:=0) (t:=k) (Nat.zero_le _) (Nat.le_refl _) (λj _ hj=>hf j hj) (λz=>by omega)]
 ·unfold hasB
  rw[List.any_eq_false]
  intro b hb
  rw[hf b (List.mem_range.1 hb)]
  decide
theorem ze0 {same:Nat→Nat→Bool} {n:Nat} (h:Eqv same n) {b k:Nat} (hk:k<n) (hb:b<k) (hs:same b k=true):Uu same k=Uu same b∧hasB same k=true:=by
 refine⟨?_,List.any_eq_true.2 ⟨b,List.mem_range.2 hb,hs⟩⟩
 obtain⟨g1,g2,g3,g4⟩:=zaC (p:=λb=>same b k) (e:=k) (i:=0) (Nat.zero_le _)
 have hlt:fst (λb=>same b k) k 0<k:=by
  rcases Nat.lt_or_ge (fst (λb=>same b k) k 0) k with q|q
  ·exact q
  ·have:=g3 b (Nat.zero_le _) (by omega);simp only[hs] at this;cases this
 have hc:=g4 hlt
 generalize fst (λb=>same b k) k 0=c at *
 have hcb:c≤b:=by
  rcases Nat.lt_or_ge b c with q|q
  ·have:=g3 b (Nat.zero_le _) q;simp only[hs] at this;cases this
  ·exact q
 have e1:=(zdx h hk hlt hc λd hd=>g3 d (Nat.zero_le _) hd)
 rw[e1.1]
 by_cases e:c=b
 ·subst e;rw[e1.2]
 ·refine(zdx h (k:=b) (by omega) (show c<b by omega) (h.trans c k b (by omega) hk (by omega) hc (h.symm b k (by omega) hk hs)) λd hd=>?_).1.symm
  rw[Bool.eq_false_iff]
  intro q
  have:=h.trans d b k (by omega) (by omega) hk q hs
  have z:=g3 d (Nat.zero_le _) hd
  simp only[this] at z
  cases z
theorem znb {same:Nat→Nat→Bool} {n:Nat} (h:Eqv same n) {k:Nat} (hk:k<n):Uu same k<n:=by
 unfold Uu
 have:=(zaC (p:=λb=>same b k) (e:=k) (i:=0) (Nat.zero_le _)).2.1
 have:=zg4 same (fst (λb=>same b k) k 0)
 omega
theorem zuf {same:Nat→Nat→Bool} {n:Nat} (h:Eqv same n) {a b:Nat} (ha:a<n) (hb:b<n):Uu same a=Uu same b↔same a b=true:=by
 have mono:∀i j,i≤j→Yf same i≤Yf same j:=λi j hij=>by
  obtain⟨d,rfl⟩:=Nat.exists_eq_add_of_le hij
  clear hij
  induction d with
  | zero=>exact Nat.le_refl _
  | succ d ih=>exact Nat.le_trans ih (by rw[←Nat.add_assoc];simp only[Yf];omega)
 have first:∀k,k<n→∃c,c≤k∧same c k=true∧(∀d,d<c→same d c=false)∧Uu same k=Yf same c:=λk hk=>by
  obtain⟨g1,g2,g3,g4⟩:=zaC (p:=λb=>same b k) (e:=k) (i:=0) (Nat.zero_le _)
  refine⟨fst (λb=>same b k) k 0,g2,?_,λd hd=>?_,rfl⟩
  ·rcases Nat.lt_or_ge (fst (λb=>same b k) k 0) k with q|q
   ·exact g4 q
   ·rw[show fst (λb=>same b k) k 0=k by omega];exact h.refl k hk
  ·rw[Bool.eq_false_iff]
   intro q
   rcases Nat.lt_or_ge (fst (λb=>same b k) k 0) k with z|z
   ·have:=h.trans d _ k (by omega) (by omega) hk q (g4 z)
    have y:=g3 d (Nat.zero_le _) hd
    simp only[this] at y;cases y
   ·have e:fst (λb=>same b k) k 0=k:=by omega
    have y:=g3 d (Nat.zero_le _) hd
    rw[e] at q
    simp only[q] at y;cases y
 constructor
 ·intro e
  obtain⟨c,c1,c2,c3,c4⟩:=first a ha
  obtain⟨d,d1,d2,d3,d4⟩:=first b hb
  have ecd:c=d:=by
   rcases Nat.lt_trichotomy c d with q|q|q
   ·have h1:=mono (c+1) d q
    simp only[Yf,(zd3 c3).2] at h1
    simp at h1;omega
   ·exact q
   ·have h1:=mono (d+1) c q
    simp only[Yf,(zd3 d3).2] at h1
    simp at h1;omega
  subst ecd
  exact h.trans a c b ha (by omega) hb (h.symm c a (by omega) ha c2) d2
 ·intro e
  rcases Nat.lt_trichotomy a b with q|q|q
  ·exact(ze0 h hb q e).1.symm
  ·rw[q]
  ·exact(ze0 h ha q (h.symm a b ha hb e)).1
noncomputable def JW (g:List (List Int)) (a b:Nat):Bool:=zcq g [(a:Int)] b&&zcq g [(b:Int)] a
theorem xo {g:List (List Int)} {a b:Nat}:JW g a b=true↔To g a b∧To g b a:=by
 unfold JW
 rw[Bool.and_eq_true,WC,WC]
theorem zhj (g:List (List Int)) (n:Nat):Eqv (JW g) n where
 refl a _:=xo.2 ⟨Yk g a,Yk g a⟩
 symm a b _ _ h:=xo.2 (xo.1 h).symm
 trans a b c _ _ _ h k:=xo.2 ⟨uc (xo.1 h).1 (xo.1 k).1,uc (xo.1 k).2 (xo.1 h).2⟩
end
section
def Wo (g:List (List Int)) (c:Nat):Prop:=∃x,x∈g.getD c []∧To g x.toNat c
def Fw (g:List (List Int)) (sets:List (Nat→Bool)) (v:Nat):Prop:=∃c,To g v c∧Wo g c∧∀S,S∈sets→∃d,S d=true∧To g c d∧To g d c
open Classical in
noncomputable def fwB (g:List (List Int)) (sets:List (Nat→Bool)) (v:Nat):Bool:=decide (Fw g sets v)
theorem zmK {g:List (List Int)} {sets:List (Nat→Bool)} {v:Nat}:fwB g sets v=true↔Fw g sets v:=by unfold fwB;simp
theorem zxc {g:List (List Int)} {sets:List (Nat→Bool)} {v:Nat} {b:Bool} (h:b=true↔Fw g sets v):b=fwB g sets v:=by
 rw[Bool.eq_iff_iff,h,zmK]
theorem Fw.back {g:List (List Int)} {sets:List (Nat→Bool)} {u v:Nat} (h:Fw g sets v) (k:To g u v):Fw g sets u:=by
 obtain⟨c,h1,h2,h3⟩:=h
 exact⟨c,uc k h1,h2,h3⟩
theorem UI {g:List (List Int)} {c d:Nat} (h:Wo g c) (h1:To g c d) (h2:To g d c):Wo g d:=by
 obtain⟨x,hx,k⟩:=h
 -- the first going of a way from d to c,or d is c
 have key:∀{a b:Nat},To g a b→a=b∨∃y,y∈g.getD a []∧To g y.toNat b:=by
  intro a b q
  unfold To at q
  induction q with
  | base m=>simp only[List.mem_singleton] at m;subst m;left;simp
  | step q m ih =>
   rcases ih with e|⟨y,y1,y2⟩
   ·subst e;exact .inr ⟨_,m,Yk g _⟩
   ·exact .inr ⟨y,y1,.step y2 m⟩
 rcases key h2 with e|⟨y,y1,y2⟩
 ·subst e;exact⟨x,hx,k⟩
 ·exact⟨y,y1,uc y2 h1⟩
open Classical in
def uG (g:List (List Int)) (z:Nat→Bool):List (List Int):=(List.range g.length).map λv=>if z v=true then (g.getD v []).filter λx=>z x.toNat else []
@[simp] theorem zeu (g:List (List Int)) (z:Nat→Bool):(uG g z).length=g.length:=by simp[uG]
theorem zq9 {g:List (List Int)} {z:Nat→Bool} {v:Nat} {x:Int}:x∈(uG g z).getD v []↔x∈g.getD v []∧z v=true∧z x.toNat=true:=by
 by_cases h:v<g.length
 ·rw[List.getD_eq_getElem?_getD,List.getElem?_eq_getElem (by simpa using h)]
  simp only[uG,List.getElem_map,List.getElem_range,Option.getD_some]
  split
  ·rename_i q;simp[List.mem_filter,q]
  ·rename_i q;simp[q]
 ·have e1:(uG g z).getD v []=[]:=by rw[List.getD_eq_getElem?_getD,List.getElem?_eq_none (by simpa using h)];rfl
  have e2:g.getD v []=[]:=by rw[List.getD_eq_getElem?_getD,List.getElem?_eq_none (by omega)];rfl
  rw[e1,e2];simp
theorem zmS {g:List (List Int)} (xL:∀v x,x∈g.getD v []→x.toNat<g.length) {u v:Nat} (hu:u<g.length) (h:To g u v):v<g.length:=Qk (s:=λv=>v<g.length) (λv _ x hx=>xL v x hx) h hu
end
section

end
section
open Go.RowKit
def wA {α:Type} (p:α→Bool) (l:List α):Int:=match l.findIdx? p with|some i=>(i:Int)|none=>-1
theorem WG {α:Type} {p:α→Bool} {l:List α} {k:Nat} (hk:k<l.length) (h:p l[k]=true) (no:∀j (hj:j<k),p (l[j]'zo)=false):wA p l=k:=by
 have:l.findIdx? p=some k:=by
  rw[List.findIdx?_eq_some_iff_getElem]
  exact⟨hk,h,λj hj=>by simp[no j hj]⟩
 unfold wA
 rw[this]
theorem Xp {α:Type} {p:α→Bool} {l:List α} (no:∀j (hj:j<l.length),p l[j]=false):wA p l=-1:=by
 have:l.findIdx? p=none:=by
  rw[List.findIdx?_eq_none_iff]
  intro x hx
  obtain⟨j,hj,rfl⟩:=List.mem_iff_getElem.1 hx
  exact no j hj
 unfold wA
 rw[this]
theorem uL {α:Type} (p:α→Bool) (l:List α):decide (wA p l≥0)=l.any p:=by
 unfold wA
 cases e:l.findIdx? p with
 | none =>
  rw[List.findIdx?_eq_none_iff] at e
  have:l.any p=false:=by rw[List.any_eq_false];intro x hx;simp[e x hx]
  rw[this];rfl
 | some i =>
  rw[List.findIdx?_eq_some_iff_getElem] at e
  obtain⟨h1,h2,_⟩:=e
  have:l.any p=true:=by rw[List.any_eq_true];exact⟨_,List.getElem_mem h1,h2⟩
  rw[this]
  exact decide_eq_true (by show(0:Int)≤(i:Int);omega)
theorem zaG {α:Type} {p:α→Bool} {l:List α} (h:0≤wA p l):∃k:Nat,wA p l=(k:Int)∧∃hk:k<l.length,p l[k]=true∧∀j (hj:j<k),p (l[j]'zo)=false:=by
 unfold wA at h ⊢
 cases e:l.findIdx? p with
 | none=>rw[e] at h;exact absurd h zc
 | some i =>
  rw[List.findIdx?_eq_some_iff_getElem] at e
  obtain⟨h1,h2,h3⟩:=e
  exact⟨i,rfl,h1,h2,λj hj=>by simpa using h3 j hj⟩
theorem za7 {α:Type} {c:α→D} {l:List α} {z k:Nat} (hz:z=k) (h:k<l.length):(l.map λa=>[c a])[z]? = some [c l[k]]:=by
 subst hz
 rw[List.getElem?_map,List.getElem?_eq_getElem h]
 rfl
@[simp] theorem zb0 {α:Type} {m:Nat} (f:α→List D) (l:List α):zF m (l.map f)↔∀a∈l,zl m (f a):=by
 induction l with
 | nil=>simp[zF]
 | cons a r ih=>simp[zF,ih]
@[simp] theorem zwL {α:Type} (f:α→List D) (l:List α):yE (l.map f)↔∀a∈l,ze (f a):=by
 induction l with
 | nil=>simp[yE]
 | cons a r ih=>simp[yE,ih]
@[simp] theorem zAj {α:Type} {ρ:Nat→Nat} (f:α→List D) (l:List α):vS ρ (l.map f)=l.map λa=>yG ρ (f a):=by
 induction l with
 | nil=>simp[vS]
 | cons a r ih=>simp[vS,ih]
@[simp] theorem zjm {m:Nat} (l:List Int):zt m (zB l)↔True:=⟨λ_=>trivial,λ_=>zw _ (zi l)⟩
@[simp] theorem zka {m:Nat} (l:List (List Int)):zt m (ya l)↔True:=⟨λ_=>trivial,λ_=>zw _ (z7 l)⟩
@[simp] theorem vG {ρ:Nat→Nat} (l:List Int):D.yI ρ (zB l)=zB l:=yH _ (zi l)
@[simp] theorem zgi {ρ:Nat→Nat} (l:List (List Int)):D.yI ρ (ya l)=ya l:=yH _ (z7 l)
theorem zu {α:Type} {n:Nat} {l:List α} (h:l.length≤n):List.drop 0 (List.take n l)=l:=by rw[List.drop_zero,List.take_of_length_le h]
def c76o:PC:=.seq (OP [Mv 2 cN]) (.seq (.seq (OP [qm 3 0,q 4 (.ziJ 3 false 3)]) (.cond 4 (.seq (.stop (OP [Mv 2 cN])) .ret) .skip)) (.seq (OP [Bs 5 1 0 [],qm 6 0,Ap 7 1 8 5 6,qm 2 7]) .ret))
theorem zt9:zy Tryz.prog 76 8 [.tmp 2] c76o:=fK Tryz.func76
theorem Jw (l:List Int) (hl:l.length≤17592186044416):yu Tryz.prog 76 [.xj 1 (l.map λn=>[.sc (.int .i64 n)])] [] (.own 0 1 0 l.length) [.vec true 1 1 (l.map λn=>[.sc (.int .i64 n)])]:=by
 refine z1 zt9 zs zs ?_ (by simp[zt]) (by simp[zf.under,zl,zt])
 refine sR ?_
 intro b hb
 cases b
 ·refine sW ?_
  refine sJ ?_
  simp
 ·refine sW ?_
  have hb:=hb rfl
  obtain rfl:l=[]:=by simpa using hb
  refine zcW (λ_:Unit=>[(2,.own 0 1 0 0)]) (λ_=>[.vec true 1 1 []]) (λ_=>True) ?_ ?_
  ·refine sR ?_
   exact⟨(),trivial,wT (ziD 2 1 1 zs rfl) (zau (by exact sK))⟩
  ·rintro _ _
   refine sW ?_
   simp
def zy5:PC:=.seq (OP [Bi 9 .lss 8 7]) (.seq (.cond 9 .skip (.exit 0)) (.seq (.block 1 (.seq (OP [qm 10 8,qm 5 10]) (.seq (OP [qm 11 1,qm 12 0,qm 13 5,Ia 14 1 12 13,Lo 15 14,q 16 (.vu 11 [15])]) (.cond 16 (.seq (OP [qm 17 5,qm 4 17]) .ret) .skip)))) (OP [Bi 18 .add 8 (cI 1),qm 8 18])))
def c109:PC:=.seq (OP [Mv 4 (cI 0)]) (.seq (.seq (OP [qm 6 0,Ln 7 6,Mv 8 (cI 0)]) (.block 0 (.loop zy5))) (.seq (OP [Mv 4 (cI (-1))]) .ret))
theorem ztr:zy Tryz.prog 109 19 [.tmp 4] c109:=fK Tryz.func109
theorem zlt {α:Type} (c:α→D) (hcp:∀a,Pure (c a)) (l:List α) (hl:l.length≤9223372036854775807) (p:α→Bool) (cl:FuncId) (cap:List D) (hp:ze cap) (hc:∀a∈l,zq Tryz.prog cl (c a::cap) (.sc (.bool (p a)))) :
  zq Tryz.prog 109 [.xj 1 (l.map λa=>[c a]),.fn (.func cl) [] cap] (.sc (.int .i64 (wA p l))):=by
 have hpl:yE (l.map λa=>[c a]):=zC _ (λa=>by simp[ze,hcp]) l
 refine za ztr zs (by simp[ze,Pure,hp,hpl]) ?_ (by simp[Pure])
 refine sR ?_
 rw[List.length_map]
 have fin:∀{z:Int},z=wA p l→Deep [] (.sc (.int .i64 z)) (.sc (.int .i64 (wA p l))):=λh=>h▸.refl _
 refine zO [0,1,7] (λk:Nat=>[(8,.sc (.int .i64 k))]) (λ_=>[]) (λk=>k≤l.length∧∀j (hj:j<k) (hl:j<l.length),p l[j]=false) (λk=>l.length-k) 0 ?_
 refine sW ?_
 refine⟨⟨zo,λj hj=>zo⟩,by exact sK,rfl,?_⟩
 rintro k ⟨hk,hno⟩
 refine sW ?_
 refine sR ?_
 refine sS (λh=>?_) λh=>?_
 ·have hk':k<l.length:=sO
  refine sL (za7 (k:=k) zo hk') ?_
  refine sC (hc _ (List.getElem_mem hk')) ?_
  refine sS (λh2=>?_) λh2=>?_
  ·exact fin (WG hk' h2 λj hj=>hno j hj zo).symm
  ·refine sI ?_
   refine⟨k+1,⟨zo,λj hj hl=>?_⟩,zd,zD (by exact sK) rfl⟩
   by_cases e:j=k
   ·subst e;exact h2
   ·exact hno j zo hl
 ·have hk':¬k<l.length:=sO
  exact fin (Xp λj hj=>hno j zo hj).symm
def c49:PC:=.seq (OP [Mv 4 cF]) (.seq (OP [qm 5 0,qm 6 1,Ca 7 109 [5,6],Bi 8 .geq 7 (cI 0),qm 4 8]) .ret)
theorem zzQ:zy Tryz.prog 49 9 [.tmp 4] c49:=fK Tryz.func49
theorem y4 {α:Type} (c:α→D) (hcp:∀a,Pure (c a)) (l:List α) (hl:l.length≤9223372036854775807) (p:α→Bool) (cl:FuncId) (cap:List D) (hp:ze cap) (hc:∀a∈l,zq Tryz.prog cl (c a::cap) (.sc (.bool (p a)))) :
  zq Tryz.prog 49 [.xj 1 (l.map λa=>[c a]),.fn (.func cl) [] cap] (.sc (.bool (l.any p))):=by
 have hpl:yE (l.map λa=>[c a]):=zC _ (λa=>by simp[ze,hcp]) l
 refine za zzQ zs (by simp[ze,Pure,hp,hpl]) ?_ (by simp[Pure])
 refine sR ?_
 refine sC (zlt c hcp l hl p cl cap hp hc) ?_
 rw[uL]
 exact .refl _
def zyB:PC:=.seq (OP [Bi 9 .lss 8 7]) (.seq (.cond 9 .skip (.exit 0)) (.seq (.block 1 (.seq (OP [qm 10 8,qm 5 10]) (.seq (OP [qm 11 1,qm 12 0,qm 13 5,Ia 14 1 12 13,Lo 15 14,q 16 (.vu 11 [15])]) (.cond 16 (.seq (OP [qm 17 5,qm 4 17]) .ret) .skip)))) (OP [Bi 18 .add 8 (cI 1),qm 8 18])))
def c143:PC:=.seq (OP [Mv 4 (cI 0)]) (.seq (.seq (OP [qm 6 0,Ln 7 6,Mv 8 (cI 0)]) (.block 0 (.loop zyB))) (.seq (OP [Mv 4 (cI (-1))]) .ret))
theorem zu8:zy Tryz.prog 143 19 [.tmp 4] c143:=fK Tryz.func143
theorem zjC {α:Type} (c:α→D) (hcp:∀a,Pure (c a)) (l:List α) (hl:l.length≤9223372036854775807) (p:α→Bool) (cl:FuncId) (cap:List D) (hp:ze cap) (hc:∀a∈l,zq Tryz.prog cl (c a::cap) (.sc (.bool (p a)))) :
  zq Tryz.prog 143 [.xj 1 (l.map λa=>[c a]),.fn (.func cl) [] cap] (.sc (.int .i64 (wA p l))):=by
 have hpl:yE (l.map λa=>[c a]):=zC _ (λa=>by simp[ze,hcp]) l
 refine za zu8 zs (by simp[ze,Pure,hp,hpl]) ?_ (by simp[Pure])
 refine sR ?_
 rw[List.length_map]
 have fin:∀{z:Int},z=wA p l→Deep [] (.sc (.int .i64 z)) (.sc (.int .i64 (wA p l))):=λh=>h▸.refl _
 refine zO [0,1,7] (λk:Nat=>[(8,.sc (.int .i64 k))]) (λ_=>[]) (λk=>k≤l.length∧∀j (hj:j<k) (hl:j<l.length),p l[j]=false) (λk=>l.length-k) 0 ?_
 refine sW ?_
 refine⟨⟨zo,λj hj=>zo⟩,by exact sK,rfl,?_⟩
 rintro k ⟨hk,hno⟩
 refine sW ?_
 refine sR ?_
 refine sS (λh=>?_) λh=>?_
 ·have hk':k<l.length:=sO
  refine sL (za7 (k:=k) zo hk') ?_
  refine sC (hc _ (List.getElem_mem hk')) ?_
  refine sS (λh2=>?_) λh2=>?_
  ·exact fin (WG hk' h2 λj hj=>hno j hj zo).symm
  ·refine sI ?_
   refine⟨k+1,⟨zo,λj hj hl=>?_⟩,zd,zD (by exact sK) rfl⟩
   by_cases e:j=k
   ·subst e;exact h2
   ·exact hno j zo hl
 ·have hk':¬k<l.length:=sO
  exact fin (Xp λj hj=>hno j zo hj).symm
def c69:PC:=.seq (OP [Mv 4 cF]) (.seq (OP [qm 5 0,qm 6 1,Ca 7 143 [5,6],Bi 8 .geq 7 (cI 0),qm 4 8]) .ret)
theorem zys:zy Tryz.prog 69 9 [.tmp 4] c69:=fK Tryz.func69
theorem X5 {α:Type} (c:α→D) (hcp:∀a,Pure (c a)) (l:List α) (hl:l.length≤9223372036854775807) (p:α→Bool) (cl:FuncId) (cap:List D) (hp:ze cap) (hc:∀a∈l,zq Tryz.prog cl (c a::cap) (.sc (.bool (p a)))) :
  zq Tryz.prog 69 [.xj 1 (l.map λa=>[c a]),.fn (.func cl) [] cap] (.sc (.bool (l.any p))):=by
 have hpl:yE (l.map λa=>[c a]):=zC _ (λa=>by simp[ze,hcp]) l
 refine za zys zs (by simp[ze,Pure,hp,hpl]) ?_ (by simp[Pure])
 refine sR ?_
 refine sC (zjC c hcp l hl p cl cap hp hc) ?_
 rw[uL]
 exact .refl _
def zyO:PC:=.seq (OP [Bi 9 .lss 8 7]) (.seq (.cond 9 .skip (.exit 0)) (.seq (.block 1 (.seq (OP [qm 10 8,qm 5 10]) (.seq (OP [qm 11 1,qm 12 0,qm 13 5,Ia 14 1 12 13,Lo 15 14,Bi 16 .eql 11 15]) (.cond 16 (.seq (OP [qm 17 5,qm 4 17]) .ret) .skip)))) (OP [Bi 18 .add 8 (cI 1),qm 8 18])))
def c193:PC:=.seq (OP [Mv 4 (cI 0)]) (.seq (.seq (OP [qm 6 0,Ln 7 6,Mv 8 (cI 0)]) (.block 0 (.loop zyO))) (.seq (OP [Mv 4 (cI (-1))]) .ret))
theorem zt7:zy Tryz.prog 193 19 [.tmp 4] c193:=fK Tryz.func193
theorem zfz (l:List Int) (hl:l.length≤9223372036854775807) (b:Int) :
  zq Tryz.prog 193 [.xj 1 (l.map λa=>[.sc (.int .i64 a)]),.sc (.int .i64 b)] (.sc (.int .i64 (wA (λa=>b==a) l))):=by
 have hpl:yE (l.map λa=>[D.sc (.int .i64 a)]):=zC _ (λa=>by simp[ze,Pure]) l
 refine za zt7 zs (by simp[ze,Pure,hpl]) ?_ (by simp[Pure])
 refine sR ?_
 rw[List.length_map]
 have fin:∀{z:Int},z=wA (λa=>b==a) l→Deep [] (.sc (.int .i64 z)) (.sc (.int .i64 (wA (λa=>b==a) l))):=λh=>h▸.refl _
 refine zO [0,1,7] (λk:Nat=>[(8,.sc (.int .i64 k))]) (λ_=>[]) (λk=>k≤l.length∧∀j (hj:j<k) (hl:j<l.length),(b==l[j])=false) (λk=>l.length-k) 0 ?_
 refine sW ?_
 refine⟨⟨zo,λj hj=>zo⟩,by exact sK,rfl,?_⟩
 rintro k ⟨hk,hno⟩
 refine sW ?_
 refine sR ?_
 refine sS (λh=>?_) λh=>?_
 ·have hk':k<l.length:=sO
  refine sL (za7 (c:=λa=>.sc (.int .i64 a)) (k:=k) zo hk') ?_
  refine sS (λh2=>?_) λh2=>?_
  ·exact fin (WG hk' h2 λj hj=>hno j hj zo).symm
  ·refine sI ?_
   refine⟨k+1,⟨zo,λj hj hl=>?_⟩,zd,zD (by exact sK) rfl⟩
   by_cases e:j=k
   ·subst e;exact h2
   ·exact hno j zo hl
 ·have hk':¬k<l.length:=sO
  exact fin (Xp λj hj=>hno j zo hj).symm
def c146:PC:=.seq (OP [Mv 4 cF]) (.seq (OP [qm 5 0,qm 6 1,Ca 7 193 [5,6],Bi 8 .geq 7 (cI 0),qm 4 8]) .ret)
theorem zug:zy Tryz.prog 146 9 [.tmp 4] c146:=fK Tryz.func146
theorem zh9 (l:List Int) (hl:l.length≤9223372036854775807) (b:Int) :
  zq Tryz.prog 146 [.xj 1 (l.map λa=>[.sc (.int .i64 a)]),.sc (.int .i64 b)] (.sc (.bool (l.contains b))):=by
 have hpl:yE (l.map λa=>[D.sc (.int .i64 a)]):=zC _ (λa=>by simp[ze,Pure]) l
 refine za zug zs (by simp[ze,Pure,hpl]) ?_ (by simp[Pure])
 refine sR ?_
 refine sC (zfz l hl b) ?_
 rw[uL]
 exact yA (by rw[List.contains_eq_any_beq])
def zyz:PC:=.seq (OP [Bi 9 .lss 8 7]) (.seq (.cond 9 .skip (.exit 0)) (.seq (.block 1 (.seq (OP [qm 10 8,qm 5 10]) (.seq (OP [qm 11 1,qm 12 0,qm 13 5,Ia 14 1 12 13,Lo 15 14,q 16 (.eqb false 11 15)]) (.cond 16 (.seq (OP [qm 17 5,qm 4 17]) .ret) .skip)))) (OP [Bi 18 .add 8 (cI 1),qm 8 18])))
def c160:PC:=.seq (OP [Mv 4 (cI 0)]) (.seq (.seq (OP [qm 6 0,Ln 7 6,Mv 8 (cI 0)]) (.block 0 (.loop zyz))) (.seq (OP [Mv 4 (cI (-1))]) .ret))
theorem ztB:zy Tryz.prog 160 19 [.tmp 4] c160:=fK Tryz.func160
theorem zeo (l:List Bool) (hl:l.length≤9223372036854775807) (b:Bool) :
  zq Tryz.prog 160 [.xj 1 (l.map λa=>[.sc (.bool a)]),.sc (.bool b)] (.sc (.int .i64 (wA (λa=>b==a) l))):=by
 have hpl:yE (l.map λa=>[D.sc (.bool a)]):=zC _ (λa=>by simp[ze,Pure]) l
 refine za ztB zs (by simp[ze,Pure,hpl]) ?_ (by simp[Pure])
 refine sR ?_
 rw[List.length_map]
 have fin:∀{z:Int},z=wA (λa=>b==a) l→Deep [] (.sc (.int .i64 z)) (.sc (.int .i64 (wA (λa=>b==a) l))):=λh=>h▸.refl _
 refine zO [0,1,7] (λk:Nat=>[(8,.sc (.int .i64 k))]) (λ_=>[]) (λk=>k≤l.length∧∀j (hj:j<k) (hl:j<l.length),(b==l[j])=false) (λk=>l.length-k) 0 ?_
 refine sW ?_
 refine⟨⟨zo,λj hj=>zo⟩,by exact sK,rfl,?_⟩
 rintro k ⟨hk,hno⟩
 refine sW ?_
 refine sR ?_
 refine sS (λh=>?_) λh=>?_
 ·have hk':k<l.length:=sO
  refine sL (za7 (c:=λa=>.sc (.bool a)) (k:=k) zo hk') ?_
  refine sS (λh2=>?_) λh2=>?_
  ·exact fin (WG hk' h2 λj hj=>hno j hj zo).symm
  ·refine sI ?_
   refine⟨k+1,⟨zo,λj hj hl=>?_⟩,zd,zD (by exact sK) rfl⟩
   by_cases e:j=k
   ·subst e;exact h2
   ·exact hno j zo hl
 ·have hk':¬k<l.length:=sO
  exact fin (Xp λj hj=>hno j zo hj).symm
def c99:PC:=.seq (OP [Mv 4 cF]) (.seq (OP [qm 5 0,qm 6 1,Ca 7 160 [5,6],Bi 8 .geq 7 (cI 0),qm 4 8]) .ret)
theorem zz3:zy Tryz.prog 99 9 [.tmp 4] c99:=fK Tryz.func99
theorem zfe (l:List Bool) (hl:l.length≤9223372036854775807) (b:Bool) :
  zq Tryz.prog 99 [.xj 1 (l.map λa=>[.sc (.bool a)]),.sc (.bool b)] (.sc (.bool (l.contains b))):=by
 have hpl:yE (l.map λa=>[D.sc (.bool a)]):=zC _ (λa=>by simp[ze,Pure]) l
 refine za zz3 zs (by simp[ze,Pure,hpl]) ?_ (by simp[Pure])
 refine sR ?_
 refine sC (zeo l hl b) ?_
 rw[uL]
 exact yA (by rw[List.contains_eq_any_beq])
end
section
open Go.RowKit
def xH (l:List Int) (n:Nat):Bool:=l.all λx=>decide (0≤x)&&decide (x<(n:Int))
theorem zvl {l:List Int} {n:Nat} (h:xH l n=true) {k:Nat} (hk:k<l.length):0≤l[k]∧l[k]<(n:Int):=by
 have:=List.all_eq_true.1 h _ (List.getElem_mem hk)
 simpa using this
theorem zhv (l:List Int) (n:Nat):(l.any λx=>decide (x<0)||decide (x≥(n:Int)))=!(xH l n):=by
 unfold xH
 induction l with
 | nil=>rfl
 | cons x r ih =>
  simp only[List.any_cons,List.all_cons,ih]
  rw[Bool.not_and]
  congr 1
  rw[Bool.eq_iff_iff]
  simp only[Bool.or_eq_true,decide_eq_true_eq,Bool.not_eq_true',Bool.and_eq_false_iff,decide_eq_false_iff_not]
  omega
theorem zlh {α:Type} {p:α→Bool} {l:List α} (h:∀j (hj:j<l.length),p l[j]=false):l.any p=false:=by
 rw[List.any_eq_false]
 intro x hx
 obtain⟨j,hj,rfl⟩:=List.mem_iff_getElem.1 hx
 simp[h j hj]
theorem zia {α:Type} {p:α→Bool} {l:List α} {k:Nat} (hk:k<l.length) (h:p l[k]=true):l.any p=true:=List.any_eq_true.2 ⟨_,List.getElem_mem hk,h⟩
theorem zif {g:List (List Int)} {z k:Nat} (hz:z=k) (h:k<g.length):(g.map λl=>[zB l])[z]? = some [zB g[k]]:=za7 (c:=zB) hz h
theorem ints_at {l:List Int} {z k:Nat} (hz:z=k) (h:k<l.length):(l.map λn=>[D.sc (.int .i64 n)])[z]? = some [.sc (.int .i64 l[k])]:=za7 (c:=λn=>.sc (.int .i64 n)) hz h
end
section
open Go.RowKit
def uX (l:List Int):D:=.xj 1 (l.map λn=>[.sc (.int .u64 n)])
theorem ur (l:List Int):Pure (uX l):=by
 simp only[uX,Pure];exact zC _ (λn=>by simp[ze,Pure]) l
end
section
open Go.RowKit Go.ChangeShapes Go.WideShapes Go.ChangeAt
def zvW (l:List Int):Prop:=∀x∈l,0≤x∧x<18446744073709551616
theorem zhI {P:Program} {t:TypeId} {d:D} (ht:P.underlying t=some (.int .i64)) (h:OfA P t d):∃i:Int,d=.sc (.int .i64 i)∧-9223372036854775808≤i∧i≤9223372036854775807:=by
 unfold OfA zon at h
 rw[ht] at h
 obtain⟨n,e,h1,h2⟩:=of_int ht h
 cases e
 refine⟨n,rfl,?_⟩
 simp[IntKind.min,IntKind.max,IntKind.signed,IntKind.bits] at h1 h2
 omega
end
section
open Go.RowKit
section
variable {α:Type}
def vo (b:Nat) (L:List (List α)):List (List D):=(List.range L.length).map λj=>[.own (j+b) (L.getD j []).length 0 (L.getD j []).length]
def y9 (zH:Nat) (c:α→List D) (L:List (List α)):List zf:=L.map λl=>.vec true l.length zH (l.map c)
@[simp] theorem zxx (b:Nat) (L:List (List α)):(vo b L).length=L.length:=by simp[vo]
@[simp] theorem XC (zH:Nat) (c:α→List D) (L:List (List α)):(y9 zH c L).length=L.length:=by simp[y9]
theorem wh {b:Nat} {L:List (List α)} {z i:Nat} (hz:z=i) (h:i<L.length):(vo b L)[z]? = some [.own (i+b) (L.getD i []).length 0 (L.getD i []).length]:=by
 subst hz
 simp[vo,List.getElem?_map,List.getElem?_range h]
theorem Vv {L:List (List α)} {i:Nat} (h:i<L.length):L[i]? = some (L.getD i []):=by
 rw[List.getD_eq_getElem?_getD,List.getElem?_eq_getElem h];rfl
theorem Xo {zH:Nat} {c:α→List D} {L:List (List α)} {i:Nat} (h:i<L.length):(y9 zH c L)[i]? = some (.vec true (L.getD i []).length zH ((L.getD i []).map c)):=by
 unfold y9
 rw[List.getElem?_map,Vv h]
 rfl
theorem zmb {zH:Nat} {c:α→List D} {L:List (List α)} {i:Nat} {K:zf→Prop} (h:i<L.length) (k:K (.vec true (L.getD i []).length zH ((L.getD i []).map c))):vE (y9 zH c L) i K:=(yM _ _ _).2 ⟨_,Xo h,k⟩
theorem zc3 {zH:Nat} {c:α→List D} {L:List (List α)} {i:Nat} (l:List α):(y9 zH c L).set i (.vec true l.length zH (l.map c))=y9 zH c (L.set i l):=by
 unfold y9
 rw[List.map_set]
theorem zvB {L:List (List α)} {i j:Nat} {l:List α} (h:i<L.length):(L.set i l).getD j []=if j=i then l else L.getD j []:=by
 rw[List.getD_eq_getElem?_getD,List.getElem?_set]
 by_cases e:i=j
 ·subst e;simp[h]
 ·rw[if_neg e,if_neg (λq=>e q.symm),List.getD_eq_getElem?_getD]
theorem X1 {b:Nat} {L:List (List α)} {z i:Nat} (hz:z=i) (h:i<L.length) (l:List α) {k:Nat} (hk:k=l.length):(vo b L).set z [.own (i+b) k 0 k]=vo b (L.set i l):=by
 subst hz hk
 apply List.ext_getElem?
 intro j
 by_cases hj:j<L.length
 ·rw[wh rfl (by simpa using hj),zvB h,List.getElem?_set]
  by_cases e:z=j
  ·subst e;simp[h]
  ·rw[if_neg e,wh rfl hj,if_neg (λq=>e q.symm)]
 ·rw[List.getElem?_eq_none (by simp;omega),List.getElem?_eq_none (by simp;omega)]
@[simp] theorem uO {m b:Nat} {L:List (List α)} (h:b+L.length≤m):zF m (vo b L):=by
 unfold vo
 rw[zb0]
 intro j hj
 have:=List.mem_range.1 hj
 simp only[zl,zt,and_true]
 omega
theorem zhT {zH m:Nat} {c:α→List D} {L:List (List α)} (hc:∀a,zl m (c a)):∀o∈y9 zH c L,o.under m:=by
 intro o ho
 unfold y9 at ho
 obtain⟨l,_,rfl⟩:=List.mem_map.1 ho
 simp only[zf.under,zb0]
 exact λa _=>hc a
theorem zkx {H:List zf} {b zH:Nat} {c:α→List D} {L:List (List α)} (hH:∀i,i<L.length→H[i+b]? = some (.vec true (L.getD i []).length zH ((L.getD i []).map c))) :
  vA H (vo b L) (L.map λl=>[.xj zH (l.map c)]):=by
 have e:(L.map λl=>[D.xj zH (l.map c)])=(List.range L.length).map λj=>[D.xj zH ((L.getD j []).map c)]:=by
  apply List.ext_getElem?
  intro j
  by_cases hj:j<L.length
  ·rw[List.getElem?_map,Vv hj,List.getElem?_map,List.getElem?_range hj];rfl
  ·rw[List.getElem?_eq_none (by simp;omega),List.getElem?_eq_none (by simp;omega)]
 rw[e]
 unfold vo
 have:∀l:List Nat,(∀j∈l,j<L.length)→vA H (l.map λj=>[D.own (j+b) (L.getD j []).length 0 (L.getD j []).length]) (l.map λj=>[D.xj zH ((L.getD j []).map c)]):=by
  intro l
  induction l with
  | nil=>intro _;exact .nil
  | cons j r ih =>
   intro hl
   refine .cons _ _ _ _ (.cons _ _ _ _ (.own _ _ _ _ _ _ _ _ (hH j (hl j zs)) ?_) .nil) (ih λk hk=>hl k (by simp[hk]))
   rw[zu zs]
   exact z6 _
 exact this _ λj hj=>List.mem_range.1 hj
theorem VN {S:Nat→Bool} {H:List zf} {b zH:Nat} {c:α→List D} {L:List (List α)} (hS:∀i,i<L.length→S (i+b)=true) (hH:∀i,i<L.length→H[i+b]? = some (.vec true (L.getD i []).length zH ((L.getD i []).map c))) :
  zK S H (vo b L) (L.map λl=>[.xj zH (l.map c)]):=by
 have e:(L.map λl=>[D.xj zH (l.map c)])=(List.range L.length).map λj=>[D.xj zH ((L.getD j []).map c)]:=by
  apply List.ext_getElem?
  intro j
  by_cases hj:j<L.length
  ·rw[List.getElem?_map,Vv hj,List.getElem?_map,List.getElem?_range hj];rfl
  ·rw[List.getElem?_eq_none (by simp;omega),List.getElem?_eq_none (by simp;omega)]
 rw[e]
 unfold vo
 have:∀l:List Nat,(∀j∈l,j<L.length)→zK S H (l.map λj=>[D.own (j+b) (L.getD j []).length 0 (L.getD j []).length]) (l.map λj=>[D.xj zH ((L.getD j []).map c)]):=by
  intro l
  induction l with
  | nil=>intro _;exact .refl _
  | cons j r ih =>
   intro hl
   refine .cons _ _ _ _ (.cons _ _ _ _ (.own _ _ _ _ _ _ _ _ (hS j (hl j zs)) (hH j (hl j zs)) ?_) (.refl _)) (ih λk hk=>hl k (by simp[hk]))
   rw[zu zs]
   exact .refl _
 exact this _ λj hj=>List.mem_range.1 hj
end
theorem JL {L n:Nat} (id zH k zY:Nat) {env:Env} {H:List zf} (hL:L≤H.length) (hid:H[id]? = some (.vec true zY 1 (List.replicate k [.sc (.slice none 0 0)]))) :
  St.leB L n env H env (H.set id (.vec true zY 1 ((List.range k).map λj=>[.own (j+H.length) 0 0 0]))++List.replicate k (.vec true 0 zH [])):=λJ F a w hr=>by
 have hidl:=ua hid
 have hfree:∀i,H.length≤i→J i=none:=λi hi=>by
  cases e:J i with
  | none=>rfl
  | some s=>have:=hr.dom i (by rw[e];simp);omega
 let J':yX:=λi=>if H.length≤i∧i<H.length+k then some ⟨false,0,none,zH,0,0⟩ else J i
 have hle:J.le J':=λi s hs=>⟨s,by
  have:¬(H.length≤i∧i<H.length+k):=λe=>by rw[hfree i e.1] at hs;cases hs
  simp only[J'];rw[if_neg this];exact hs,Nat.le_refl _,λ_=>rfl⟩
 have hlen:(H.set id (.vec true zY 1 ((List.range k).map λj=>[D.own (j+H.length) 0 0 0]))).length=H.length:=List.length_set
 have hget:∀i,¬(H.length≤i∧i<H.length+k)→i≠id→(H.set id (.vec true zY 1 ((List.range k).map λj=>[D.own (j+H.length) 0 0 0]))++List.replicate k (zf.vec true 0 zH []))[i]? = H[i]?:=λi hi hne=>by
  rcases Nat.lt_or_ge i H.length with q|q
  ·rw[List.getElem?_append_left (by rw[hlen];exact q),List.getElem?_set_ne (λe=>hne e.symm)]
  ·rw[List.getElem?_eq_none q,List.getElem?_eq_none (by rw[List.length_append,hlen,List.length_replicate];omega)]
 have hnew:∀i,H.length≤i∧i<H.length+k→(H.set id (.vec true zY 1 ((List.range k).map λj=>[D.own (j+H.length) 0 0 0]))++List.replicate k (zf.vec true 0 zH []))[i]? = some (.vec true 0 zH []):=λi hi=>by
  rw[List.getElem?_append_right (by rw[hlen];omega),hlen,List.getElem?_replicate,if_pos zo]
 have hgid:(H.set id (.vec true zY 1 ((List.range k).map λj=>[D.own (j+H.length) 0 0 0]))++List.replicate k (zf.vec true 0 zH []))[id]? = some (.vec true zY 1 ((List.range k).map λj=>[D.own (j+H.length) 0 0 0])):=by
  rw[List.getElem?_append_left (by rw[hlen];exact hidl),List.getElem?_set_self hidl]
 refine⟨J',F,⟨hr.defers,hr.size,λu=>yT hle (λ_ h=>h) (λ_ _=>rfl) _ _ (hr.tmps u),⟨λi s hs=>?_,λi i' s s' b g1 g2 g3 g4=>?_,λi s b o g1 g2 g3 g4=>?_,hr.ok.lt⟩,λi hi=>?_⟩,λi s hi hs=>?_,λb hb=>hb,λb ⟨i,s,hs,hb⟩=>?_,λb hb=>.inl hb⟩
 ·simp only[J'] at hs
  split at hs
  ·rename_i e
   cases hs
   exact⟨_,hnew i e,rfl,rfl,rfl,rfl,Nat.le_refl _,.inl rfl⟩
  ·rename_i e
   obtain⟨o,h1,h2⟩:=hr.ok.obj i s hs
   by_cases e2:i=id
   ·subst e2
    have h1':H[i]? = some o:=h1
    rw[hid] at h1'
    cases h1'
    obtain⟨k1,k2,k3,k4,k5,k6⟩:=h2
    refine⟨_,hgid,k1,k2,k3,by rw[k4];simp,k5,?_⟩
    rcases k6 with k6|⟨b,o,vals,te,t1,t2,t3,t4,t5⟩
    ·exact .inl k6
    ·refine .inr ⟨b,o,vals,te,t1,t2,t3,vr _ _ λj x hj=>?_,λq=>by cases q⟩
     have hjk:j<k:=by
      rcases Nat.lt_or_ge j k with q|q
      ·exact q
      ·rw[List.getElem?_eq_none (by simpa using q)] at hj;cases hj
     rw[List.getElem?_map,List.getElem?_range hjk] at hj
     simp only[Option.map_some,Option.some.injEq] at hj
     subst hj
     obtain⟨r1,r2⟩:=wM _ _ j [.sc (.slice none 0 0)] (by rw[List.getElem?_replicate,if_pos hjk]) t4
     refine⟨rfl,xw _ _ λq c hq=>?_⟩
     cases q with
     | zero =>
      simp at hq;subst hq
      obtain⟨u,p1,p2,p3⟩:=xC _ _ 0 (.sc (.slice none 0 0)) rfl r2
      simp only[rep] at p3
      refine⟨u,p1,p2,?_⟩
      simp only[rep]
      refine⟨⟨false,0,none,zH,0,0⟩,none,0,0,?_,p3,Nat.le_refl _,λ_=>⟨rfl,Nat.le_refl _,Nat.zero_le _,rfl,rfl,.inl rfl⟩⟩
      simp only[J']
      rw[if_pos zo]
     | succ q=>simp at hq
   ·exact⟨o,by rw[hget i e e2];exact h1,xX hle (λ_ h=>h) (λ_ _=>rfl) (λ_ _=>rfl) h2⟩
 ·simp only[J'] at g1 g2
  split at g1
  ·cases g1;simp[Site.u6] at g3
  ·split at g2
   ·cases g2;simp[Site.u6] at g4
   ·exact hr.ok.one i i' s s' b g1 g2 g3 g4
 ·simp only[J'] at g1
  split at g1
  ·cases g1;simp[Site.u6] at g2
  ·rename_i e
   by_cases e2:i=id
   ·subst e2
    exact hr.ok.apart i s b _ g1 g2 hid rfl
   ·exact hr.ok.apart i s b o g1 g2 (by rw[←hget i e e2];exact g3) g4
 ·simp only[J'] at hi
  rw[List.length_append,hlen,List.length_replicate]
  split at hi
  ·omega
  ·have:=hr.dom i hi;omega
 ·have:¬(H.length≤i∧i<H.length+k):=zo
  simp only[J'];rw[if_neg this];exact hs
 ·simp only[J'] at hs
  split at hs
  ·cases hs;simp[Site.u6] at hb
  ·exact⟨i,s,hs,hb⟩
theorem Wt {α:Type} (b k:Nat):((List.range k).map λj=>[D.own (j+b) 0 0 0])=vo b (List.replicate k ([]:List α)):=by
 unfold vo
 rw[List.length_replicate]
 refine List.map_congr_left λj hj=>?_
 have:=List.mem_range.1 hj
 rw[List.getD_eq_getElem?_getD,List.getElem?_replicate,if_pos this]
 rfl
theorem Wl {α:Type} (zH k:Nat) (c:α→List D):List.replicate k (zf.vec true 0 zH [])=y9 zH c (List.replicate k []):=by
 unfold y9
 rw[List.map_replicate]
 rfl
theorem y5 {m:Nat} {G:List zf}:∀(l t:List zf),(∀o∈l,o.under m)→Wy m G (l++t) l
 | [],t,_=>by cases t<;>exact trivial
 | o::r,t,h=>by
  refine⟨?_,y5 r t λo ho=>h o (by simp[ho])⟩
  have:=h o zs
  cases o with
  | row q cs=>exact⟨rfl,.refl _,this⟩
  | vec q v e xs=>exact⟨rfl,rfl,rfl,.refl _,this⟩
  | wc q I=>exact⟨rfl,rfl⟩
theorem Jo {m:Nat} {G:List zf}:∀l:List zf,Wy m G l []
 | []=>trivial
 | _::_=>trivial
structure ForH (P:Program) (n:Nat) (p:PC) (Q:qO) (env:Env) (H:List zf) {ι:Type} (Jy:ι→Env) (O:ι→List zf) (G:ι→Prop) (m:ι→Nat) (i:ι) (e:Env):Prop where
 vN:G i
 start:V3 env (Jy i)
 heap:H=O i
 round:∀j,G j→zr6 (Jy j) e λE=>PWp P n p (zl5 H.length n Q (λj=>Jy j++e) O G m (m j)) E (O j)
theorem z8 {P:Program} {n:Nat} {p:PC} {Q:qO} {env:Env} {H:List zf} {ι:Type} (kept:List Nat) (Jy:ι→Env) (O:ι→List zf) (G:ι→Prop) (m:ι→Nat) (i:ι)
  (h:zjv env kept λe=>ForH P n p Q env H Jy O G m i e):PWp P n (.loop p) Q env H:=by
 rw[zee] at h
 refine WM (λj=>Jy j++kept.map λt=>(t,xU t env)) O G m i h.vN (zD (za4 _ _ h.start (Jt _)) h.heap) λj hj=>?_
 have:=h.round j hj
 rwa [zg6] at this
theorem zdH {α:Type} {zH:Nat} {c:α→List D} {l:List α} {x:α}:zf.vec true (l.length+1) zH (List.drop 0 (List.take l.length (l.map c))++List.drop 0 (List.take 1 [c x]))=zf.vec true (l++[x]).length zH ((l++[x]).map c):=by
 rw[zu zs,List.length_append,List.length_singleton,List.map_append]
 rfl
def okK (b:Bool) (K K2:Prop):Prop:=match b with
 | true=>K
 | false=>K2
theorem zoT (x y:Nat) (r:List Nat):zaY x (y::r)=(decide (x=y)||zaY x r):=by
 have e:Nat.beq x y=decide (x=y):=by
  rw[Bool.eq_iff_iff,decide_eq_true_eq]
  exact⟨Nat.eq_of_beq_eq_true,λh=>h▸Nat.beq_refl x⟩
 simp only[zaY,e]
 cases decide (x=y)<;>rfl
theorem zqo (x:Nat):zaY x []=false:=rfl
theorem zlV (x:Nat) (r l:List Nat):meets (x::r) l=(zaY x l||meets r l):=by
 simp only[meets]
 cases zaY x l<;>rfl
theorem znX (l:List Nat):meets [] l=false:=rfl
theorem zxa (b c:Bool):(match b with|true=>c|false=>false)=(b&&c):=by cases b<;>rfl
theorem zzo {b:Bool} {K K2:Prop} (h:b=true) (k:K):okK b K K2:=by subst h;exact k
section
variable {α:Type} {zH:Nat} {c:α→List D} {L:List (List α)} {T:List zf} {K:zf→Prop} {K':List zf→Prop}
theorem zaE {i:Nat} (h:i<L.length) (k:K (.vec true (L.getD i []).length zH ((L.getD i []).map c))):vE (y9 zH c L++T) i K:=by
 rw[yM]
 exact⟨_,by rw[List.getElem?_append_left (by simpa using h)];exact Xo h,k⟩
theorem xQ (j:Nat) {i:Nat} (hi:i=L.length+j) (k:vE T j K):vE (y9 zH c L++T) i K:=by
 subst hi
 rw[yM] at k ⊢
 obtain⟨o,h1,h2⟩:=k
 exact⟨o,by rw[List.getElem?_append_right zs,XC,Nat.add_sub_cancel_left];exact h1,h2⟩
theorem zcT {i:Nat} {o:zf} (l:List α) (h:i<L.length) (ho:o=.vec true l.length zH (l.map c)) (k:K' (y9 zH c (L.set i l)++T)):XN (y9 zH c L++T) i o K':=by
 subst ho
 rw[uk]
 exact⟨by simp;omega,by rw[List.set_append_left _ _ (by simpa using h),zc3];exact k⟩
theorem xP (j:Nat) {i:Nat} {o:zf} (hi:i=L.length+j) (k:XN T j o λT'=>K' (y9 zH c L++T')):XN (y9 zH c L++T) i o K':=by
 subst hi
 rw[uk] at k ⊢
 exact⟨by rw[List.length_append,XC];omega,by
  rw[List.set_append_right _ _ zs,XC,Nat.add_sub_cancel_left];exact k.2⟩
theorem zaj {o:zf} {K:List zf→Nat→Prop} (k:K (y9 zH c L++[o]) L.length):YQ (y9 zH c L) o K:=by
 rw[vY,XC]
 exact k
theorem zqI {o:zf} {K:List zf→Nat→Prop} (k:K (y9 zH c L++(T++[o])) (L.length+T.length)):YQ (y9 zH c L++T) o K:=by
 rw[vY,List.length_append,XC,List.append_assoc]
 exact k
theorem Vl {m:Nat} {G:List zf} (hc:∀a,zl m (c a)):Wy m G (y9 zH c L++T) (y9 zH c L):=y5 _ _ (zhT hc)
end
def UT (n:Int):List D:=[.sc (.int .i64 n)]
@[simp] theorem zcf {m:Nat} (n:Int):zl m (UT n):=by simp[UT,zl,zt]
theorem vq (L:List (List Int)):yE (L.map λl=>[zB l]):=zC _ (λl=>by simp[ze,zi]) L
end
section
open Go.RowKit
def QA (g:List (List Int)):Int:=if 20000<g.length then 2 else if (g.any λl=>!(xH l g.length))=true then 1 else 0
theorem ZX {g:List (List Int)}:QA g=0↔g.length≤20000∧∀l∈g,xH l g.length=true:=by
 unfold QA
 split
 ·constructor
  ·intro h;exact absurd h zc
  ·intro h;omega
 ·split
  ·rename_i h
   rw[List.any_eq_true] at h
   obtain⟨l,h1,h2⟩:=h
   constructor
   ·intro h;exact absurd h zc
   ·intro h;rw[h.2 l h1] at h2;cases h2
  ·rename_i h1 h
   rw[Bool.not_eq_true,List.any_eq_false] at h
   exact⟨λ_=>⟨zo,λl hl=>by simpa using h l hl⟩,λ_=>rfl⟩
structure uU (g:List (List Int)):Prop where
 len:g.length≤17592186043904
 each:∀l∈g,l.length≤17592186043904
theorem uU.at {g:List (List Int)} (h:uU g) (i:Nat):(g.getD i []).length≤17592186043904:=by
 rw[List.getD_eq_getElem?_getD]
 cases e:g[i]? with
 | none=>simp
 | some l=>exact h.each l (List.mem_of_getElem? e)
theorem xS {g:List (List Int)} {z k:Nat} (hz:z=k) (h:k<g.length):(g.map λl=>[zB l])[z]? = some [zB (g.getD k [])]:=by
 subst hz
 rw[List.getElem?_map,Vv h];rfl
theorem yb {l:List Int} {z k:Nat} (hz:z=k) (h:k<l.length):(l.map λn=>[D.sc (.int .i64 n)])[z]? = some [.sc (.int .i64 (l.getD k 0))]:=by
 rw[ints_at hz h,List.getD_eq_getElem?_getD,List.getElem?_eq_getElem h];rfl
theorem zj1 {l:List Int} {n:Nat} (h:xH l n=true) {k:Nat} (hk:k<l.length):0≤l.getD k 0∧l.getD k 0<(n:Int):=by
 rw[List.getD_eq_getElem?_getD,List.getElem?_eq_getElem hk]
 exact zvl h hk
theorem y3 {g:List (List Int)} {n:Nat} (h:∀l∈g,xH l n=true) (k:Nat):xH (g.getD k []) n=true:=by
 rw[List.getD_eq_getElem?_getD]
 cases e:g[k]? with
 | none=>rfl
 | some l=>exact h l (List.mem_of_getElem? e)
def c219:PC:=.seq (OP [Mv 3 cF]) (.seq (OP [qm 4 0,Bi 5 .lss 4 (cI 0),qm 6 5,GF 7 6 (.move 0),GF 8 6 (.zg 1),GF 9 6 (.len 8),GF 10 6 (.bin .geq 7 9),Pk 11 6 cT 10,qm 3 11]) .ret)
theorem zvV:zy Tryz.prog 219 12 [.tmp 3] c219:=fK Tryz.func219
def c169:PC:=.seq (OP [Bx 2 0,Mv 4 cF]) (.seq (OP [qm 5 1,q 6 (.qj (.func 219) [] [2]),Ca 7 49 [5,6],qm 4 7]) .ret)
theorem ztU:zy Tryz.prog 169 8 [.tmp 4] c169:=fK Tryz.func169
def zzJ:PC:=.seq (OP [Bi 11 .lss 10 9]) (.seq (.cond 11 .skip (.exit 0)) (.seq (.block 1 (.seq (OP [Ia 12 1 8 10,Lo 13 12,qm 4 13]) (.seq (OP [qm 14 0,qm 15 4,Ca 16 169 [14,15]]) (.cond 16 (.seq (OP [Mv 2 (cI 1)]) .ret) .skip)))) (OP [Bi 17 .add 10 (cI 1),qm 10 17])))
def c113:PC:=.seq (OP [Mv 2 (cI 0)]) (.seq (.seq (OP [qm 5 0,Ln 6 5,Bi 7 .gtr 6 (cI 20000)]) (.cond 7 (.seq (OP [Mv 2 (cI 2)]) .ret) .skip)) (.seq (.seq (OP [qm 8 0,Ln 9 8,Mv 10 (cI 0)]) (.block 0 (.loop zzJ))) (.seq (OP [Mv 2 (cI 0)]) .ret)))
theorem zuB:zy Tryz.prog 113 18 [.tmp 2] c113:=fK Tryz.func113
theorem zrt (g:List (List Int)) (x:Int):zq Tryz.prog 219 [.sc (.int .i64 x),.y7 [ya g]] (.sc (.bool (decide (x<0)||decide (x≥(g.length:Int))))):=by
 refine za zvV zs (by simp[ze,Pure,z7]) ?_ (by simp[Pure])
 refine sR ?_
 refine sS (λh=>?_) λh=>?_
 ·exact yA zs
 ·rw[List.length_map]
  exact yA zs
theorem zmD (g:List (List Int)) (l:List Int) (hl:l.length≤9223372036854775807):zq Tryz.prog 169 [ya g,zB l] (.sc (.bool !(xH l g.length))):=by
 refine za ztU zs (by simp[ze,Pure,zi,z7]) ?_ (by simp[Pure])
 refine sR ?_
 refine sN (y4 (λn=>.sc (.int .i64 n)) (λa=>by simp[Pure]) l hl (λx=>decide (x<0)||decide (x≥(g.length:Int))) 219 [.y7 [ya g]] (by simp[ze,Pure,z7]) λa _=>zrt g a) ?_
 rw[zhv]
 exact .refl _
theorem zfJ (g:List (List Int)) (hg:uU g):zq Tryz.prog 113 [ya g] (.sc (.int .i64 (QA g))):=by
 have b1:=hg.len
 refine za zuB zs (by simp[ze,Pure,z7]) ?_ (by simp[Pure])
 unfold ya
 refine sR ?_
 rw[List.length_map]
 have fin:∀{H:List zf} {z:Int},z=QA g→Deep H (.sc (.int .i64 z)) (.sc (.int .i64 (QA g))):=λh=>h▸.refl _
 refine sS (λh1=>?_) λh1=>?_
 ·exact fin (by unfold QA;rw[if_pos (sO)])
 have h1:¬20000<g.length:=sO
 rw[List.length_map]
 refine zO [0,8,9] (λk:Nat=>[(10,.sc (.int .i64 k))]) (λ_=>[]) (λk=>k≤g.length∧∀j (hj:j<k) (hl:j<g.length),(!(xH g[j] g.length))=false) (λk=>g.length-k) 0 ?_
 refine sW ?_
 refine⟨⟨zo,λj hj=>zo⟩,by exact sK,rfl,?_⟩
 rintro k ⟨hk,hall⟩
 refine sW ?_
 refine sR ?_
 refine sS (λh2=>?_) λh2=>?_
 ·have hk':k<g.length:=sO
  refine sL (zif (k:=k) zo hk') ?_
  refine sC (zmD g g[k] (by have:=hg.each _ (List.getElem_mem hk');omega)) ?_
  refine sS (λh3=>?_) λh3=>?_
  ·exact fin (by unfold QA;rw[if_neg h1,if_pos (zia hk' h3)])
  ·refine sI ?_
   refine⟨k+1,⟨zo,λj hj hl=>?_⟩,zd,zD (by exact sK) rfl⟩
   by_cases e:j=k
   ·subst e;exact h3
   ·exact hall j zo hl
 ·have hk':¬k<g.length:=sO
  exact fin (by unfold QA;rw[if_neg h1,if_neg (by rw[zlh λj hj=>hall j zo hj];simp)])
end
section
open Go.RowKit
def Z8 (n:Nat) (g:Nat→Bool):List (List D):=(List.range n).map λi=>[.sc (.bool (g i))]
def uh (n:Nat) (g:Nat→Bool):D:=.xj 1 (Z8 n g)
@[simp] theorem zhf (n:Nat) (g:Nat→Bool):(Z8 n g).length=n:=by simp[Z8]
theorem zdu {n i:Nat} {g:Nat→Bool} (h:i<n):(Z8 n g)[i]? = some [.sc (.bool (g i))]:=by
 simp[Z8,List.getElem?_map,List.getElem?_range h]
theorem yd {n:Nat} {g:Nat→Bool} {z:Nat} (i:Nat) (hz:z=i) (h:i<n):(Z8 n g)[z]? = some [.sc (.bool (g i))]:=by
 subst hz
 exact zdu h
theorem xV {n:Nat} {g g':Nat→Bool} (h:∀i,i<n→g i=g' i):Z8 n g=Z8 n g':=by
 unfold Z8
 exact List.map_congr_left λi hi=>by rw[h i (List.mem_range.1 hi)]
theorem znx (n:Nat) (g:Nat→Bool) (k:Nat) (v:Bool):(Z8 n g).set k [.sc (.bool v)]=Z8 n (λi=>if i=k then v else g i):=by
 apply List.ext_getElem?
 intro i
 by_cases hi:i<n
 ·by_cases hk:i=k
  ·subst hk
   rw[List.getElem?_set_self (by simpa using hi),zdu hi]
   simp
  ·rw[List.getElem?_set_ne (λe=>hk e.symm),zdu hi,zdu hi]
   simp[hk]
 ·rw[List.getElem?_eq_none (by simp;omega),List.getElem?_eq_none (by simp;omega)]
theorem ZE (n:Nat):List.replicate n [D.sc (.bool false)]=Z8 n (λ_=>false):=by
 apply List.ext_getElem?
 intro i
 by_cases hi:i<n
 ·rw[zdu hi,List.getElem?_replicate,if_pos hi]
 ·rw[List.getElem?_eq_none (by simp;omega),List.getElem?_eq_none (by simp;omega)]
theorem XM (n:Nat) (g:Nat→Bool):yE (Z8 n g):=zC _ (λi=>by simp[ze,Pure]) _
theorem zV (n:Nat) (g:Nat→Bool):Pure (uh n g):=by simp only[uh,Pure];exact XM n g
theorem zcx (n:Nat) (g:Nat→Bool):List.drop 0 (List.take n (Z8 n g))=Z8 n g:=by rw[List.drop_zero,List.take_of_length_le zs]
theorem zo5 {n:Nat} {g g':Nat→Bool} (h:∀i,i<n→g i=g' i):uh n g=uh n g':=by unfold uh;rw[xV h]
theorem UH {H:List zf} {id v n:Nat} {q:Bool} {g:Nat→Bool} (h:H[id]? = some (.vec q v 1 (Z8 n g))):Deep H (.own id v 0 n) (uh n g):=.own _ _ _ _ _ _ _ _ h (by rw[zcx];exact z6 _)
@[simp] theorem zwC {m n:Nat} (g:Nat→Bool):zF m (Z8 n g)↔True:=⟨λ_=>trivial,λ_=>zh _ (XM n g)⟩
@[simp] theorem zAb {m n:Nat} (g:Nat→Bool):zt m (uh n g)↔True:=⟨λ_=>trivial,λ_=>zw _ (zV n g)⟩
theorem zmU (n:Nat) (g:Nat→Bool):Z8 n g=((List.range n).map g).map λa=>[D.sc (.bool a)]:=by simp[Z8]
theorem zdj (n:Nat) (g:Nat→Bool) (hn:n≤9223372036854775807) (b:Bool):zq Tryz.prog 99 [uh n g,.sc (.bool b)] (.sc (.bool (((List.range n).map g).contains b))):=by
 have:=zfe ((List.range n).map g) (by simpa using hn) b
 rwa [←zmU] at this
theorem XR {n:Nat} {g:Nat→Bool} {b:Bool}:((List.range n).map g).contains b=true↔∃i,i<n∧g i=b:=by
 simp[List.contains_iff_mem,List.mem_map]
end
section
open Go.RowKit
theorem Up {n z:Nat} {s:Nat→Bool} {v:Nat} (hz:z=v):(Z8 n s).set z [.sc (.bool true)]=Z8 n (mark s v):=by
 subst hz
 rw[znx]
 rfl
structure zcm (g:List (List Int)) (from_:List Int) (B:Nat) (s:Nat→Bool) (T:List Int):Prop where
 todo:xH T g.length=true
 comes:∀x∈T,Wx g from_ x.toNat
 seen:∀v,s v=true→Wx g from_ v
 start:∀x∈from_,s x.toNat=true∨x∈T
 closed:∀v,s v=true→∀x∈g.getD v [],s x.toNat=true∨x∈T
 room:T.length+zcv g s≤B
theorem zT {l:List Int} {n:Nat} (h:xH l n=true) {x:Int} (hx:x∈l):0≤x∧x<(n:Int):=by
 have:=List.all_eq_true.1 h x hx
 simpa using this
theorem wj {l:List Int} {n:Nat} (h:∀x∈l,0≤x∧x<(n:Int)):xH l n=true:=by
 unfold xH
 rw[List.all_eq_true]
 intro x hx
 simpa using h x hx
theorem zcm.pop {g:List (List Int)} {from_:List Int} {B:Nat} {s:Nat→Bool} {T:List Int} {x:Int} (h:zcm g from_ B s (T++[x])) (hs:s x.toNat=true):zcm g from_ B s T where
 todo:=wj λy hy=>zT h.todo (by simp[hy])
 comes y hy:=h.comes y (by simp[hy])
 seen:=h.seen
 start y hy:=by
  rcases h.start y hy with q|q
  ·exact .inl q
  ·rcases List.mem_append.1 q with q|q
   ·exact .inr q
   ·rw[List.mem_singleton] at q;subst q;exact .inl hs
 closed v hv y hy:=by
  rcases h.closed v hv y hy with q|q
  ·exact .inl q
  ·rcases List.mem_append.1 q with q|q
   ·exact .inr q
   ·rw[List.mem_singleton] at q;subst q;exact .inl hs
 room:=by have:=h.room;rw[List.length_append] at this;omega
theorem zcm.push {g:List (List Int)} {from_:List Int} {B:Nat} {s:Nat→Bool} {T:List Int} {x:Int} (hg:∀l∈g,xH l g.length=true) (h:zcm g from_ B s (T++[x])) (hs:s x.toNat=false):zcm g from_ B (mark s x.toNat) (T++g.getD x.toNat []) where
 todo:=wj λy hy=>by
  rcases List.mem_append.1 hy with q|q
  ·exact zT h.todo (by simp[q])
  ·exact zT (y3 hg _) q
 comes y hy:=by
  rcases List.mem_append.1 hy with q|q
  ·exact h.comes y (by simp[q])
  ·exact .step (h.comes x zs) q
 seen v hv:=by
  rcases Yv.1 hv with q|q
  ·subst q;exact h.comes x zs
  ·exact h.seen v q
 start y hy:=by
  rcases h.start y hy with q|q
  ·exact .inl (xD q)
  ·rcases List.mem_append.1 q with q|q
   ·exact .inr (by simp[q])
   ·rw[List.mem_singleton] at q;subst q;exact .inl (wS _ _)
 closed v hv y hy:=by
  rcases Yv.1 hv with q|q
  ·subst q;exact .inr (List.mem_append_right _ hy)
  ·rcases h.closed v q y hy with q|q
   ·exact .inl (xD q)
   ·rcases List.mem_append.1 q with q|q
    ·exact .inr (by simp[q])
    ·rw[List.mem_singleton] at q;subst q;exact .inl (wS _ _)
 room:=by
  have h1:=h.room
  have h2:=zT h.todo (x:=x) zs
  have h3:=zgF (g:=g) (v:=x.toNat) zo hs
  rw[List.length_append] at h1 ⊢
  simp only[List.length_cons,List.length_nil] at h1
  omega
theorem zcm.done {g:List (List Int)} {from_:List Int} {B:Nat} {s:Nat→Bool} (h:zcm g from_ B s []) (v:Nat):s v=zcq g from_ v:=ztE ⟨h.seen v,zlK (λx hx=>(h.start x hx).resolve_right zs) (λv hv x hx=>(h.closed v hv x hx).resolve_right zs) v⟩
theorem zcm.begin {g:List (List Int)} {from_:List Int} {B:Nat} (hf:xH from_ g.length=true) (hB:from_.length+zcv g (λ_=>false)≤B):zcm g from_ B (λ_=>false) from_ where
 todo:=hf
 comes _ hx:=.base hx
 seen v h:=by cases h
 start _ hx:=.inr hx
 closed v h:=by cases h
 room:=hB
def zL (l:List Int):List (List D):=l.map λn=>[.sc (.int .i64 n)]
@[simp] theorem zv0 {m:Nat} (l:List Int):zF m (zL l)↔True:=by simp[zL,zl,zt]
theorem zrz {Z l:List Int} {z h:Nat} (hz:z=h):List.drop (0+0) (List.take z (zL Z))++l.map (λn=>[D.sc (.int .i64 n)])=zL (Z.take h++l):=by
 subst hz
 unfold zL
 rw[Nat.zero_add,List.drop_zero,List.map_append,List.map_take]
theorem zo3 {l:List Int} {h:Nat} (h1:1≤h) (h2:h≤l.length):l.take h=l.take (h-1)++[l.getD (h-1) 0]:=by
 obtain⟨k,rfl⟩:∃k,h=k+1:=⟨h-1,zo⟩
 rw[List.take_add_one,List.getElem?_eq_getElem zo,Nat.add_sub_cancel,List.getD_eq_getElem?_getD,List.getElem?_eq_getElem zo]
 rfl
def zxj:PC:=.seq (.seq (OP [qm 13 6,Ln 14 13,Bi 15 .gtr 14 (cI 0)]) (.cond 15 .skip (.exit 0))) (.block 1 (.seq (OP [qm 16 6,qm 17 6,Ln 18 17,Bi 19 .sub 18 (cI 1),Ia 20 1 16 19,Lo 21 20,qm 7 21]) (.seq (OP [qm 22 6,qm 23 6,Ln 24 23,Bi 25 .sub 24 (cI 1),q 26 (.slc 1 22 none (some 25) none),qm 6 26]) (.seq (OP [qm 27 5,qm 28 7,Ia 29 1 27 28,Lo 30 29,Nt 31 30]) (.cond 31 (.seq (OP [qm 32 5,qm 33 7,Ia 34 1 32 33,So 1 34 cT]) (OP [qm 35 6,qm 36 0,qm 37 7,Ia 38 1 36 37,Lo 39 38,Ap 40 1 8 35 39,qm 6 40])) .skip)))))
def c170:PC:=.seq (OP [Mv 4 cN]) (.seq (OP [qm 8 0,Ln 9 8,q 10 (.wE 1 1 [(.bool false)] 9 9),qm 5 10]) (.seq (OP [qm 11 1,Ca 12 76 [11],qm 6 12]) (.seq (.block 0 (.loop zxj)) (.seq (OP [qm 41 5,qm 4 41]) .ret))))
theorem zvn:zy Tryz.prog 170 42 [.tmp 4] c170:=fK Tryz.func170
theorem zpT (g:List (List Int)) (hg:QA g=0) (hF:uU g) (from_:List Int) (hf:xH from_ g.length=true) (hB:from_.length+zcv g (λ_=>false)≤1000000000000) :
  zq Tryz.prog 170 [ya g,zB from_] (uh g.length (zcq g from_)):=by
 obtain⟨hn,xL⟩:=ZX.1 hg
 refine za zvn zs (by simp[ze,Pure,z7,zi]) ?_ (zV _ _)
 unfold ya
 refine sR ?_
 rw[List.length_map]
 refine⟨zo,zo,zo,?_⟩
 rw[Int.toNat_natCast]
 refine sW ?_
 refine sE (vP (Jw from_ zo) (by simp[ze,Pure]) [1] rfl rfl (by simp[zf.yI,yG,D.yI];rfl)) ?_
 refine zO [0,5] (λ((s,Z,h,zY):(Nat→Bool) × List Int × Nat × Nat)=>[(6,.own 1 zY 0 h)]) (λ(s,Z,h,zY)=>[(0,.vec true 0 1 (Z8 g.length s)),(1,.vec true zY 1 (zL Z))])
  (λ(s,Z,h,zY)=>h≤Z.length∧zcm g from_ 1000000000000 s (Z.take h)) (λ(s,Z,h,zY)=>h+zcv g s) ((λ_=>false),from_,from_.length,1) ?_
 refine sW ?_
 refine⟨⟨zs,by rw[List.take_length];exact zcm.begin hf hB⟩,by exact sK,by rw[ZE];rfl,?_⟩
 rintro⟨s,Z,h,zY⟩ ⟨hh,hI⟩
 refine sW ?_
 refine sR ?_
 refine sS (λh1=>?_) λh1=>?_
 ·have h1:1≤h:=sO
  rw[zo3 h1 hh] at hI
  have hx:=zT hI.todo (x:=Z.getD (h-1) 0) zs
  have room:=hI.room
  rw[List.length_append,List.length_take] at room
  refine sI ?_
  refine sB ?_
  refine⟨_,yb (l:=Z) (k:=h-1) zo zo,?_⟩
  refine sW ?_
  generalize hv:Z.getD (h-1) 0=x at hx hI
  refine sI ?_
  refine⟨zo,zo,zo,?_⟩
  refine sW ?_
  refine sB ?_
  refine⟨_,yd x.toNat zo zo,?_⟩
  refine sW ?_
  cases hs:s x.toNat
  ·refine sW ?_
   refine sB ?_
   refine⟨_,yd x.toNat zo zo,?_⟩
   refine sW ?_
   refine sL (xS (k:=x.toNat) zo zo) ?_
   have lx:=hF.at x.toNat
   have key:=zgF (g:=g) (s:=s) (v:=x.toNat) zo hs
   have hP:=hI.push xL hs
   refine sJ ?_
   refine⟨(mark s x.toNat,Z.take (h-1)++g.getD x.toNat [],(h-1)+(g.getD x.toNat []).length,zY+1),⟨by simp;omega,?_⟩,?_,?_⟩
   ·rw[List.take_of_length_le (by simp;omega)]
    exact hP
   ·dsimp only
    omega
   ·refine zD ⟨congrArg (D.own 1 (zY+1) 0) (by simp only[List.length_map];omega),by exact sK⟩ ?_
    rw[Up (v:=x.toNat) zo,zrz (h:=h-1) zo]
    rfl
  ·refine sW ?_
   refine⟨(s,Z,h-1,zY),⟨zo,hI.pop hs⟩,zd,?_⟩
   exact zD ⟨congrArg (D.own 1 zY 0) zo,by exact sK⟩ rfl
 ·have h0:h=0:=sO
  subst h0
  rw[List.take_zero] at hI
  rw[xV (g':=zcq g from_) λi _=>hI.done i]
  exact UH rfl
def c98:PC:=.seq (OP [Mv 4 cN,Mv 5 (cI 0)]) (.seq (.seq (OP [qm 7 0,Ca 8 113 [7],qm 6 8]) (.seq (OP [qm 9 6,Bi 10 .neq 9 (cI 0)]) (.cond 10 (.seq (OP [qm 11 6,Mv 4 cN,qm 5 11]) .ret) .skip))) (.seq (.seq (OP [qm 12 0,qm 13 1,Ca 14 169 [12,13]]) (.cond 14 (.seq (OP [Mv 4 cN,Mv 5 (cI 1)]) .ret) .skip)) (.seq (OP [qm 15 0,qm 16 1,Ca 17 170 [15,16],qm 4 17,Mv 5 (cI 0)]) .ret)))
theorem zw4:zy Tryz.prog 98 18 [.tmp 4,.tmp 5] c98:=fK Tryz.func98
theorem zgl (g:List (List Int)) (hg:QA g=0) (hF:uU g) (from_:List Int) (hf:xH from_ g.length=true) (hB:from_.length+zcv g (λ_=>false)≤1000000000000) :
  zq Tryz.prog 98 [ya g,zB from_] (.yO [uh g.length (zcq g from_),.sc (.int .i64 0)]):=by
 refine za zw4 zs (by simp[ze,Pure,z7,zi]) ?_ (by simp[Pure,ze,zV])
 refine sR ?_
 refine sC (zfJ g hF) ?_
 refine sS (λh1=>?_) λh1=>?_
 ·exfalso;exact sO
 refine sC (zmD g from_ zo) ?_
 rw[hf]
 refine sW ?_
 refine sC (zpT g hg hF from_ hf hB) ?_
 exact .refl _
end
end Go.Proofs.YtoehflejhaakpaaGreatDoor
