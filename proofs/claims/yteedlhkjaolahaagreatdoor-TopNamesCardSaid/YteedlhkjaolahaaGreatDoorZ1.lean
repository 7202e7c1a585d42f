/-
  Parts of a proof, joined. No statement is proved here.
-/
import Derived.Laws.Tables
import Derived.Orders
import Derived.Still
import Derived.Deep.LoopGhost
import Derived.LoopN
import Derived.Test.YteedlhkjaolahaaGreatDoorZ0
import Derived.WalkKit
import Derived.Laws.OwnMore
import Derived.Laws.Rows
import Derived.Deep.AppendLies
import Derived.Deep.Draws
import Derived.Lib.Hide
import Derived.ProofKit
import Derived.ChangeArms
import Derived.ChangeSame
import Derived.OpenShut
import Derived.ShutString
import Derived.Deep.Slices
import Derived.Deep.Fields
import Derived.Lib.SmallJoins
import Derived.Test.YteedlhkjaolahaaGreatDoorProg
namespace Go.Proofs.YteedlhkjaolahaaGreatDoor
set_option linter.unusedSimpArgs false
set_option linter.unusedVariables false
set_option maxRecDepth 100000
section
section
open Go.RowKit
section
variable {P:Program} {seq:Bool} {o:Oper} {env:Env} {H:List zf} {K:JF}
theorem ve {t:TypeId} {u v:Value} {w:World} {b:Bool} (h:(Op.equalIn (9999+1) t u v).run P w=.ok b w):(Op.equal t u v).run P w=.ok b w:=h
theorem zpu {t:TypeId} {y:Operand} {kind:Nat} (h:V6 P t y=some kind) :
  (kind=0∧(∃e,P.underlying t=some (.pointer e))∧y=.const (.pointer none))∨(kind=1∧(∃e,P.underlying t=some (.interface e))∧y=.const .nilIface) ∨
  (kind=2∧(∃a b c,P.underlying t=some (.func a b c))∧y=.const .nilFunc)∨(kind=3∧(∃e,P.underlying t=some (.slice e))∧y=.const (.slice none 0 0)):=by
 unfold V6 at h
 split at h
 all_goals (first|cases h|skip)
 ·rename_i h1;exact .inl ⟨rfl,⟨_,h1⟩,rfl⟩
 ·rename_i h1;exact .inr (.inl ⟨rfl,⟨_,h1⟩,rfl⟩)
 ·rename_i h1;exact .inr (.inr (.inl ⟨rfl,⟨_,_,_,h1⟩,rfl⟩))
 ·rename_i h1;exact .inr (.inr (.inr ⟨rfl,⟨_,h1⟩,rfl⟩))
def ztE:Operand→Option Value
 | .const v=>some v
 | _=>none
theorem zno {neq:Bool} {op:BinOp} {t yt:TypeId} {x y:Operand} {kind:Nat} (hop:op=if neq then .neq else .eql) (hk:V6 P t y=some kind) (ho:o.op=.binOp op t x y yt) (h:step P seq (.ziR kind neq x) env H K):Sound P o env H K∨(seq=true∧ZS P o env H K):=by
 simp only[step,yU] at h
 have fin:∀(b:Bool) (v:Value),ztE y=some v→K (.sc (.bool (if neq then !b else b))) H [] []→(∀(J:y4) (F:Nat→Prop) (w:World) (u:Value),rep J F w (xk env x) u→(∀z w,(Op.equal t u v).run P w=.ok b w∧(eqGuard op t x y u v).run P w=.ok z w∧z=())∧(∀k n,u≠.int k n)∧(∀s,u≠.string s)∧(∀k n,u≠.float k n)∧(∀k n m,u≠.complex k n m))→Sound P o env H K:=by
  intro b v hv hK hall
  refine zL hK λJ F w a G _ hops _=>⟨.bool (if neq then !b else b),?_,by simp only[rep]⟩
  obtain⟨h1,h4,h5,h6,h7⟩:=hall J F w _ (hops x (by simp[ho,Op.operands]))
  obtain⟨h1,h2,_⟩:=h1 () w
  have hy:a.eval y=v:=by
   cases y<;>simp[ztE] at hv
   subst hv;rfl
  have hb:(binOp op t (a.eval x) v).run P w=.ok (.bool (if neq then !b else b)) w:=by
   revert h1 h4 h5 h6 h7
   generalize a.eval x=u
   intro q1 q2 q3 q4 q5
   subst hop
   cases neq<;>cases u<;>simp_all [binOp,pure,Sem.run]
  simp only[execOp,ho,hy,Sem.run_bind,h2,Result.andThen_ok,hb,pure,Sem.run]
 have hold:=@fin
 clear fin
 have fin:=λb v h1 h2 h3=>Or.inl (b:=seq=true∧ZS P o env H K) (hold b v h1 h2 h3)
 have g1:∀(A:Option Addr) (w:World),(eqGuard op t x y (.pointer A) (.pointer none)).run P w=.ok () w:=by
  intro A w;subst hop;cases neq<;>simp[eqGuard,pure,Sem.run]
 have g2:∀(c:Value) (w:World),y=.const c→(eqGuard op t x y .nilIface .nilIface).run P w=.ok () w:=by
  intro c w hc;subst hop;subst hc;cases neq<;>simp[eqGuard,pure,Sem.run]
 have g3:∀(d:TypeId) (v:Value) (w:World),(eqGuard op t x y (.iface d v) .nilIface).run P w=.ok () w:=by
  intro d v w;subst hop;cases neq<;>simp[eqGuard,pure,Sem.run]
 have g4:∀(w:World),(eqGuard op t x y .nilFunc .nilFunc).run P w=.ok () w:=by
  intro w;subst hop;cases neq<;>simp[eqGuard,pure,Sem.run]
 have g5:∀(f:Fn) (a b:Array Value) (w:World),(eqGuard op t x y (.func f a b) .nilFunc).run P w=.ok () w:=by
  intro f a b w;subst hop;cases neq<;>simp[eqGuard,pure,Sem.run]
 have g6:∀(w:World),(eqGuard op t x y (.slice none 0 0) (.slice none 0 0)).run P w=.ok () w:=by
  intro w;subst hop;cases neq<;>simp[eqGuard,pure,Sem.run]
 rcases zpu hk with⟨rfl,⟨e,ht⟩,rfl⟩|⟨rfl,⟨e,ht⟩,rfl⟩|⟨rfl,⟨e1,e2,e3,ht⟩,rfl⟩|⟨rfl,⟨e,ht⟩,rfl⟩
 ·have eq1:∀(A:Option Addr) (w:World),(Op.equal t (.pointer A) (.pointer none)).run P w=.ok A.isNone w:=λA w=>by
   refine ve ?_
   unfold Op.equalIn
   cases A<;>simp[underlying,program,Sem.run,ht,pure]
  simp only[zd9] at h
  split at h
  ·rename_i ex
   refine fin true _ rfl (by cases neq<;>exact h) λJ F w u hu=>?_
   rw[ex] at hu;simp only[rep] at hu;subst hu
   exact⟨λ_ w=>⟨eq1 none w,g1 none w,rfl⟩,by simp,by simp,by simp,by simp⟩
  ·rename_i ex
   refine fin false _ rfl (by cases neq<;>exact h) λJ F w u hu=>?_
   rw[ex] at hu;simp only[rep] at hu;obtain⟨_,_,_,_,_,rfl⟩:=hu
   exact⟨λ_ w=>⟨eq1 (some _) w,g1 (some _) w,rfl⟩,by simp,by simp,by simp,by simp⟩
  ·rename_i ex
   refine fin false _ rfl (by cases neq<;>exact h) λJ F w u hu=>?_
   rw[ex] at hu;simp only[rep] at hu;obtain⟨_,_,rfl,_⟩:=hu
   exact⟨λ_ w=>⟨eq1 (some _) w,g1 (some _) w,rfl⟩,by simp,by simp,by simp,by simp⟩
  ·rename_i ex
   refine fin false _ rfl (by cases neq<;>exact h) λJ F w u hu=>?_
   rw[ex] at hu;simp only[rep] at hu;obtain⟨_,_,_,rfl,_⟩:=hu
   exact⟨λ_ w=>⟨eq1 (some _) w,g1 (some _) w,rfl⟩,by simp,by simp,by simp,by simp⟩
  ·exact h.elim
 ·have eq1:∀(w:World),(Op.equal t .nilIface .nilIface).run P w=.ok true w:=λw=>by
   refine ve ?_
   unfold Op.equalIn
   simp[underlying,program,Sem.run,ht,pure]
  have eq2:∀(d:TypeId) (v:Value) (w:World),(Op.equal t (.iface d v) .nilIface).run P w=.ok false w:=λd v w=>by
   refine ve ?_
   unfold Op.equalIn
   simp[underlying,program,Sem.run,ht,pure]
  simp only[zd9] at h
  split at h
  ·rename_i ex
   refine fin true _ rfl (by cases neq<;>exact h) λJ F w u hu=>?_
   rw[ex] at hu;simp only[rep] at hu;subst hu
   exact⟨λ_ w=>⟨eq1 w,g2 _ w rfl,rfl⟩,by simp,by simp,by simp,by simp⟩
  ·rename_i ex
   refine fin false _ rfl (by cases neq<;>exact h) λJ F w u hu=>?_
   rw[ex] at hu;simp only[rep] at hu;obtain⟨_,rfl,_⟩:=hu
   exact⟨λ_ w=>⟨eq2 _ _ w,g3 _ _ w,rfl⟩,by simp,by simp,by simp,by simp⟩
  ·exact h.elim
 ·have eq1:∀(w:World),(Op.equal t .nilFunc .nilFunc).run P w=.ok true w:=λw=>by
   refine ve ?_
   unfold Op.equalIn
   simp[underlying,program,Sem.run,ht,pure]
  have eq2:∀(f:Fn) (a b:Array Value) (w:World),(Op.equal t (.func f a b) .nilFunc).run P w=.ok false w:=λf a b w=>by
   refine ve ?_
   unfold Op.equalIn
   simp[underlying,program,Sem.run,ht,pure]
  simp only[zd9] at h
  split at h
  ·rename_i ex
   refine fin true _ rfl (by cases neq<;>exact h) λJ F w u hu=>?_
   rw[ex] at hu;simp only[rep] at hu;subst hu
   exact⟨λ_ w=>⟨eq1 w,g4 w,rfl⟩,by simp,by simp,by simp,by simp⟩
  ·rename_i ex
   refine fin false _ rfl (by cases neq<;>exact h) λJ F w u hu=>?_
   rw[ex] at hu;simp only[rep] at hu;obtain⟨_,_,rfl,_⟩:=hu
   exact⟨λ_ w=>⟨eq2 _ _ _ w,g5 _ _ _ w,rfl⟩,by simp,by simp,by simp,by simp⟩
  ·exact h.elim
 ·have eq1:∀(w:World),(Op.equal t (.slice none 0 0) (.slice none 0 0)).run P w=.ok true w:=λw=>by
   refine ve ?_
   unfold Op.equalIn
   simp[underlying,program,Sem.run,ht,pure]
  simp only[zd9] at h
  split at h
  ·rename_i ex
   refine fin true _ rfl (by cases neq<;>exact h) λJ F w u hu=>?_
   rw[ex] at hu;simp only[rep] at hu;subst hu
   exact⟨λ_ w=>⟨eq1 w,g6 w,rfl⟩,by simp,by simp,by simp,by simp⟩
  ·rename_i zK xs ex
   obtain⟨hs,h⟩:=h
   refine .inr ⟨hs,λJ F w a hok hdom hops K2 Q hK2=>?_⟩
   have hu:=hops x (by simp[ho,Op.operands])
   rw[ex] at hu
   simp only[rep] at hu
   obtain⟨A,n,c,hu,hn,hc,hx⟩:=hu
   have hb:A.isNone=true→xs=[]:=λhA=>by
    rcases hx with hx|⟨b,o',rfl,_⟩
    ·exact List.length_eq_zero_iff.1 (by omega)
    ·cases hA
   have eq2:(Op.equal t (.slice A n c) (.slice none 0 0)).run P w=.ok A.isNone w:=by
    refine ve ?_
    unfold Op.equalIn
    cases A<;>simp[underlying,program,Sem.run,ht,pure]
   have g7:(eqGuard op t x (.const (.slice none 0 0)) (.slice A n c) (.slice none 0 0)).run P w=.ok () w:=by
    subst hop;cases neq<;>simp[eqGuard,pure,Sem.run]
   have hrun:(execOp a.eval o).run P w=.ok (.value (.bool (Q9 neq A.isNone))) w:=by
    have hbo:(binOp op t (.slice A n c) (.slice none 0 0)).run P w=.ok (.bool (Q9 neq A.isNone)) w:=by
     clear hold fin h
     subst hop
     cases neq<;>simp_all [binOp,pure,Sem.run,Q9]
    have hy:a.eval (.const (.slice none 0 0))=.slice none 0 0:=rfl
    simp only[execOp,ho,hu,hy,Sem.run_bind,g7,Result.andThen_ok,hbo,pure,Sem.run]
   unfold Oper.wp
   rw[hrun,Oper.upon_value]
   exact hK2 _ H [] [] _ w J F (h A.isNone hb) (by simp only[rep]) hok (Ext.refl _ _ _) hdom
  ·exact h.elim
theorem zef (place:Nat→Option (Nat × Nat)):∀(l:List (Nat × Operand)) (l':List (Nat × Nat × Operand)) (cs:List D) (K':List D→Prop),uo place l=some l'→zin env l' cs K'→∃cs',K' cs' ∧
  ∀(J:y4) (F:Nat→Prop) (w:World) (a:Act) (cells:Array Value),(∀p∈l,rep J F w (xk env p.2) (a.eval p.2))→yi J F w cs cells.toList →
   ∃cells',Instr.fill place cells (l.map λp=>(p.1,a.eval p.2))=some cells'∧yi J F w cs' cells'.toList
 | [],l',cs,K',hl,h=>by
  simp[uo] at hl;subst hl
  exact⟨cs,h,λJ F w a cells _ hr=>⟨cells,rfl,hr⟩⟩
 | (i,x)::r,l',cs,K',hl,h=>by
  simp only[uo] at hl
  split at hl
  ·rename_i off n rl e1 e2
   cases hl
   simp only[zin,yU,VN,wm] at h
   obtain⟨h1,h2,h3⟩:=h
   obtain⟨h4,h5⟩:=(Vi _ _ _ _).1 h3
   obtain⟨cs',h6,h7⟩:=zef place r rl _ K' e2 h5
   refine⟨cs',h6,λJ F w a cells hops hr=>?_⟩
   obtain⟨k1,_⟩:=XJ h1 (hops (i,x) (by simp))
   have hl1:=xB _ _ k1
   have hl2:=xB _ _ hr
   have hsz:(a.eval x).cells.size=n:=by rw[h2,←hl1];simp
   obtain⟨c1,f1,f2,f3⟩:=WZ place cells i (a.eval x) (r.map λp=>(p.1,a.eval p.2)) off (by rw[hsz];exact e1) (by rw[hsz];simp at hl2;omega)
   have hc1:yi J F w (cs.take off++(xk env x).cells++cs.drop (off+(xk env x).cells.length)) c1.toList:=by
    have ec:c1.toList=cells.toList.take off++(a.eval x).cells.toList++cells.toList.drop (off+(a.eval x).cells.toList.length):=by
     apply List.ext_getElem?
     intro j
     have hsc:off+(a.eval x).cells.size≤cells.toList.length:=by rw[hsz,hl2];omega
     rw[Array.getElem?_toList,f3]
     by_cases q1:j<off
     ·rw[if_neg (by omega),List.append_assoc,List.getElem?_append_left (by simp at hsc ⊢;omega),List.getElem?_take,if_pos q1];simp
     ·by_cases q2:j<off+(a.eval x).cells.size
      ·rw[if_pos (by omega),List.append_assoc,List.getElem?_append_right (by simp at hsc ⊢;omega),List.getElem?_append_left (by simp at hsc ⊢;omega)]
       simp at hsc ⊢
       rw[show j-min off cells.size=j-off by omega]
      ·rw[if_neg (by omega),List.getElem?_append_right (by simp at hsc ⊢;omega),List.getElem?_drop]
       simp at hsc ⊢
       rw[show off+(a.eval x).cells.size+(j-(min off cells.size+(a.eval x).cells.size))=j by omega]
    rw[ec]
    have e3:(a.eval x).cells.toList.length=(xk env x).cells.length:=hl1
    rw[e3]
    exact YI (YI (zbO hr _) k1) (zbL hr _)
   obtain⟨c2,g1,g2⟩:=h7 J F w a c1 (λp hp=>hops p (by simp[hp])) hc1
   exact⟨c2,by simp only[List.map_cons];rw[f1];exact g1,g2⟩
  ·cases hl
theorem zdF {t:TypeId} {parts:Array (Nat × Operand)} {z:Value} {place:Nat→Option (Nat × Nat)} {l':List (Nat × Nat × Operand)} (hz:(P.info? t).bind (·.zero)=some z) (hb:∀l cells,Instr.fill place z.cells l=some cells→P.built t l=some cells) (hl:uo place parts.toList=some l')
  (ho:o.op=.build t parts) (h:step P seq (.build z.cells.toList l') env H K):Sound P o env H K:=by
 simp only[step,ziI] at h
 obtain⟨cs',h1,h2⟩:=zef place parts.toList l' _ _ hl h
 refine zL h1 λJ F w a G hok hops hrd=>?_
 obtain⟨c',h3,h4⟩:=h2 J F w a z.cells (λp hp=>hops p.2 (by
  simp only[ho,Op.operands,List.mem_toArray,List.mem_map]
  exact⟨p,hp,rfl⟩)) (QA z.cells.toList)
 refine⟨.agg c',?_,by simp only[rep];exact⟨c'.toList,by simp,h4⟩⟩
 have e1:(parts.map λ(i,x)=>(i,a.eval x)).toList=parts.toList.map λp=>(p.1,a.eval p.2):=by rw[Array.toList_map]
 have:=run_build (P:=P) w t (parts.map λ(i,x)=>(i,a.eval x)) c' (by rw[e1];exact hb _ _ h3)
 simp only[execOp,ho,Sem.run_bind,this,Result.andThen_ok,pure,Sem.run]
end
end
section
open Go.RowKit
section
variable {P:Program} {seq:Bool} {o:Oper} {env:Env} {H:List zf} {K:JF}
theorem JB {p:POp} (hc:cop P o=some p) (h:step P seq p env H K):Sound P o env H K∨(seq=true∧ZS P o env H K):=by
 unfold cop at hc
 split at hc
 ·rename_i x ho;cases hc;exact .inl (zrH (.inl ho) h)
 ·rename_i x ho;cases hc;exact .inl (zrH (.inr ho) h)
 ·rename_i c a b ho;cases hc;exact .inl (zBp ho h)
 ·rename_i t ho
  split at hc
  ·rename_i z hz
   split at hc
   ·rename_i hone;cases hc;exact .inl (zvo hz hone ho h)
   ·cases hc
  ·cases hc
 ·rename_i t x ho;cases hc;exact .inl (zCu ho h)
 ·rename_i t parts ho
  split at hc
  ·rename_i z fs hz hu
   split at hc
   ·rename_i places hp
    cases e:uo (places.toArray[·]?) parts.toList with
    | none=>rw[e] at hc;cases hc
    | some l' =>
     rw[e] at hc;cases hc
     refine .inl (zdF hz (λl cells hf=>?_) e ho h)
     unfold Program.built
     cases hi:P.info? t with
     | none=>rw[hi] at hz;cases hz
     | some it =>
      have hz':it.zero=some z:=by simpa [hi] using hz
      simp only[hu,hz',hp]
      exact hf
   ·cases hc
  ·rename_i z n e hz hu
   split at hc
   ·rename_i ie hie
    cases e':uo (λi=>some (i*ie.size,ie.size)) parts.toList with
    | none=>rw[e'] at hc;cases hc
    | some l' =>
     rw[e'] at hc;cases hc
     refine .inl (zdF hz (λl cells hf=>?_) e' ho h)
     unfold Program.built
     cases hi:P.info? t with
     | none=>rw[hi] at hz;cases hz
     | some it =>
      have hz':it.zero=some z:=by simpa [hi] using hz
      simp only[hu,hz',hie]
      exact hf
   ·cases hc
  ·cases hc
 ·rename_i t n parts ho
  split at hc
  ·rename_i e ht
   split at hc
   ·rename_i z hz
    split at hc
    ·rename_i hq
     cases e':Xr 0 parts.toList with
     | none =>
      rw[e'] at hc
      cases e2:wu z 0 n parts.toList with
      | none=>rw[e2] at hc;cases hc
      | some ys=>rw[e2] at hc;cases hc;exact .inl (zje ht hz hq.1 hq.2 (.inr e2) ho h)
     | some xs=>rw[e'] at hc;cases hc;exact .inl (zje ht hz hq.1 hq.2 (.inl e') ho h)
    ·cases hc
   ·cases hc
  ·cases hc
 ·rename_i t x ho
  split at hc
  ·rename_i ht;cases hc;exact .inl (zvz ht ho h)
  ·rename_i ht;cases hc;exact .inl (zuO ht ho h)
  ·cases hc
 ·rename_i t x y ho
  split at hc
  ·cases hc
  ·rename_i hz;cases hc;exact .inl (zw2 hz ho h)
 ·rename_i x ho;cases hc;exact .inl (zrg ho h)
 ·rename_i op t x y yt ho
  split at hc
  ·cases hc;exact .inl (zCd ho h)
  ·split at hc
   ·split at hc
    ·rename_i hb
     cases hc
     refine .inl (zyi (op:=.eql) rfl ?_ ho h)
     unfold zc0 at hb
     split at hb
     ·assumption
     ·cases hb
    ·split at hc
     ·rename_i ks hks
      cases hc
      exact .inl (zyg (op:=.eql) rfl hks ho h)
     ·cases e:V6 P t y with
      | none=>rw[e] at hc;cases hc
      | some k=>rw[e] at hc;cases hc;exact zno (op:=.eql) rfl e ho h
   ·split at hc
    ·rename_i hb
     cases hc
     refine .inl (zyi (op:=.neq) rfl ?_ ho h)
     unfold zc0 at hb
     split at hb
     ·assumption
     ·cases hb
    ·split at hc
     ·rename_i ks hks
      cases hc
      exact .inl (zyg (op:=.neq) rfl hks ho h)
     ·cases e:V6 P t y with
      | none=>rw[e] at hc;cases hc
      | some k=>rw[e] at hc;cases hc;exact zno (op:=.neq) rfl e ho h
   ·cases hc
 ·rename_i op t x ho;cases hc;exact .inl (s_un ho h)
 ·rename_i x i ho;cases hc;exact .inl (zCV ho h)
 ·rename_i s x f ho
  split at hc
  ·rename_i fs hs
   split at hc
   ·rename_i fd hf
    split at hc
    ·cases hc
    ·rename_i hz;cases hc;exact .inl (zxp hs hf hz ho h)
   ·cases hc
  ·cases hc
 ·rename_i s x f ho
  split at hc
  ·rename_i fs hs
   split at hc
   ·rename_i fd hf
    split at hc
    ·rename_i ag hag;cases hc;exact .inl (zup hs hf hag ho h)
    ·cases hc
   ·cases hc
  ·cases hc
 ·rename_i t x i ho
  split at hc
  ·rename_i e ht
   split at hc
   ·cases hc
   ·rename_i hz;cases hc;exact .inl (zxt ht hz ho h)
  ·rename_i n e ht
   split at hc
   ·cases hc
   ·rename_i hz;cases hc;exact .inl (zxO ht hz ho h)
  ·cases hc
 ·rename_i t x i ho
  split at hc
  ·rename_i ht;cases hc;exact .inl (zAI ht ho h)
  ·rename_i n e ht
   split at hc
   ·rename_i ag hag;cases hc;exact .inl (zA2 ht hag ho h)
   ·cases hc
  ·cases hc
 ·rename_i f first cap ho;cases hc;exact .inl (zBh ho h)
 ·rename_i t l c ho
  split at hc
  ·rename_i e ht
   split at hc
   ·rename_i z hz
    split at hc
    ·rename_i hq;cases hc;exact .inl (zs5 ht hz hq.1 hq.2.1 hq.2.2.1 hq.2.2.2 ho h)
    ·cases hc
   ·cases hc
  ·cases hc
 ·rename_i t x lo hi mx ho
  split at hc
  ·rename_i e ht
   split at hc
   ·rename_i hz;cases hc;exact .inl (zCB ht hz ho h)
   ·cases hc
  ·rename_i ht
   split at hc
   ·cases hc;exact .inl (zzB ht ho h)
   ·cases hc
  ·cases hc
 ·rename_i args ts ho
  split at hc
  ·rename_i x t ha hts
   split at hc
   ·rename_i e ht;cases hc;exact .inl (zCQ ha hts ht ho h)
   ·rename_i ht;cases hc;exact .inl (zAW ha hts ht ho h)
   ·cases hc
  ·cases hc
 ·rename_i args ts ho
  split at hc
  ·rename_i x y t u ha hts
   split at hc
   ·rename_i e e' ht hu
    split at hc
    ·rename_i z hz
     split at hc
     ·rename_i hq;cases hc;exact .inl (zsf ha hts ht hu hz hq.1 hq.2.1 hq.2.2 ho h)
     ·cases hc
    ·cases hc
   ·cases hc
  ·cases hc
 ·rename_i args ts ho
  split at hc
  ·rename_i x t ha hts
   split at hc
   ·rename_i e ht
    split at hc
    ·rename_i z hz
     split at hc
     ·rename_i u hu
      split at hc
      ·rename_i hq;cases hc;exact .inl (zCA ha hts ht hz hu hq ho h)
      ·cases hc
     ·cases hc
    ·cases hc
   ·cases hc
  ·cases hc
 ·rename_i args ts _ ho
  split at hc
  ·rename_i x y ha;cases hc;exact .inl (zC5 ha ho h)
  ·cases hc
 ·rename_i args ts _ ho
  split at hc
  ·rename_i x y ha;cases hc;exact .inl (zB8 ha ho h)
  ·cases hc
 ·rename_i f args ts ho
  split at hc
  ·split at hc
   ·cases hc
   ·cases hc;exact zzF ho h
  ·cases hc
 ·rename_i x args ts _ ho;cases hc;exact zvr ho h
 ·rename_i src dst x ho
  split at hc
  ·rename_i k0 k hs hd;cases hc;exact .inl (zzm hs hd ho h)
  ·rename_i e hs hd
   split at hc
   ·rename_i he;cases hc;exact .inl (zzw hs hd he ho h)
   ·cases hc
  ·cases hc
 ·rename_i t ho
  split at hc
  ·rename_i k e ht;cases hc;exact .inl (zuY ho h)
  ·cases hc
 ·rename_i t m x ho
  split at hc
  ·rename_i k e ht
   split at hc
   ·rename_i z hz
    split at hc
    ·rename_i h1;cases hc;exact .inl (zAg ht hz h1 ho h)
    ·cases hc
   ·cases hc
  ·cases hc
 ·rename_i t m x ho
  split at hc
  ·rename_i k e ht;cases hc;exact .inl (zuJ ht ho h)
  ·cases hc
 ·rename_i t m x v ho
  split at hc
  ·rename_i k e ht;cases hc;exact .inl (zzi ht ho h)
  ·cases hc
 ·rename_i t x ho
  split at hc
  ·cases hc
  ·rename_i d hd ht
   cases hc
   exact .inl (zAZ (λms e=>by rw[e] at ht;cases ht;exact hd _ rfl) (λe=>by rw[e] at ht;cases ht) ho h)
  ·cases hc
 ·cases hc
end
end
section
open Go.RowKit
theorem Zc (t k:Nat) (d:D) (env:Env):xW t ((k,d)::env)=if t=k then d else xW t env:=by
 simp only[xW]
 cases e:Nat.beq t k
 ·rw[if_neg];intro h;subst h;simp at e
 ·rw[if_pos (Nat.eq_of_beq_eq_true e)]
theorem zjU (a:Array Value) (t u:Nat) (v:Value) (ht:t<a.size):(a.setIfInBounds t v).getD u undef=if u=t then v else a.getD u undef:=by
 simp only[Array.getD_eq_getD_getElem?]
 by_cases h:u=t
 ·subst h;simp[Array.getElem?_setIfInBounds,ht]
 ·rw[if_neg h,Array.getElem?_setIfInBounds_ne (λe=>h e.symm)]
section
variable {P:Program} {n:Nat} {J J':y4} {F F':Nat→Prop} {env:Env} {H H':List zf} {a:Act} {w w':World}
theorem vc.zkJ (h:vc n J F env H a w) (hx:Ext J F w J' F' w'):∀t,rep J' F' w' (xW t env) (a.tmps.getD t undef):=λt=>zdi hx (h.tmps t)
theorem vc.put (h:vc n J F env H a w) (hx:Ext J F w J' F' w') {t:Nat} {d:D} {v:Value} (ht:t<n) (hv:rep J' F' w' d v) (hok:y5 J' F' w' (λi=>H'[i]?)) (hd:∀id,J' id≠none→id<H'.length):vc n J' F' ((t,d)::env) H' (a.put (some t) v) w' where
 defers:=h.defers
 size:=by simp[Act.put,h.size]
 tmps u:=by
  rw[Zc]
  simp only[Act.put]
  rw[zjU _ _ _ _ (by rw[h.size];exact ht)]
  split
  ·exact hv
  ·exact h.zkJ hx u
 ok:=hok
 dom:=hd
theorem vc.skip (h:vc n J F env H a w) (hx:Ext J F w J' F' w') (hok:y5 J' F' w' (λi=>H'[i]?)) (hd:∀id,J' id≠none→id<H'.length):vc n J' F' env H' a w' where
 defers:=h.defers
 size:=h.size
 tmps:=h.zkJ hx
 ok:=hok
 dom:=hd
theorem vc.eval (h:vc n J F env H a w) (x:Operand):rep J F w (xk env x) (a.eval x):=by
 cases x with
 | tmp t=>exact h.tmps t
 | const v =>
  cases v<;>simp only[xk,lift,Act.eval,rep]
  rename_i cs
  exact⟨cs.toList,by simp,QA cs.toList⟩
 | global g=>exact zkc h.ok.lt g
 | func f=>simp only[xk,Act.eval,rep];exact⟨[],[],rfl,by simp only[yi],by simp only[yi]⟩
theorem JJ {ops:Array Oper} {mask:Nat} {o:Oper} {p:yC} (h:zrQ P n ops mask o=some p) :
  cop P o=some p.op∧p.dst=o.dst∧(∀t,o.dst=some t→t<n)∧((o.guard=none∧p.guard=none)∨∃j b t,o.guard=some (j,b)∧(ops[j]?).bind (·.dst)=some t∧p.guard=some (t,b)) ∧
   p.mask=mask:=by
 unfold zrQ at h
 split at h
 ·rename_i q hd hq hg
  cases h
  exact⟨hq,rfl,λt ht=>by unfold zqT at hd;rw[ht] at hd;simpa using hd,.inl ⟨hg,rfl⟩,rfl⟩
 ·rename_i q j b hd hq hg
  split at h
  ·rename_i t ht
   cases h
   exact⟨hq,rfl,λt ht=>by unfold zqT at hd;rw[ht] at hd;simpa using hd,.inr ⟨j,b,t,hg,ht,rfl⟩,rfl⟩
  ·cases h
 ·cases h
def zzI (b:Bool):Value→Bool
 | .bool c=>c != b
 | .tuple _=>true
 | _=>false
theorem zox {ops:Array Oper} {o:Oper} {tmps:Array Value} {j:Nat} {b:Bool} {t:Nat} (h1:o.guard=some (j,b)) (h2:(ops[j]?).bind (·.dst)=some t) (h:tmps.getD t undef=.bool b):Region.wanted o (yielded ops tmps)=true:=by
 have h4:tmps[t]? = some (.bool b):=by
  rw[Array.getD_eq_getD_getElem?] at h
  cases e:tmps[t]? with
  | none=>rw[e] at h;simp[undef] at h
  | some v=>rw[e] at h;simp at h;rw[h]
 simp only[Region.wanted,h1,yielded,h2,Option.bind_some,h4]
 cases b<;>rfl
theorem zeM {ops:Array Oper} {o:Oper} {tmps:Array Value} {j:Nat} {b:Bool} {t:Nat} (h1:o.guard=some (j,b)) (h2:(ops[j]?).bind (·.dst)=some t) (h:zzI b (tmps.getD t undef)=true):Region.wanted o (yielded ops tmps)=false:=by
 rw[Array.getD_eq_getD_getElem?] at h
 cases e:tmps[t]? with
 | none=>simp only[Region.wanted,h1,yielded,h2,Option.bind_some,e];cases b<;>rfl
 | some v =>
  rw[e] at h
  simp only[Option.getD_some] at h
  simp only[Region.wanted,h1,yielded,h2,Option.bind_some,e]
  cases v<;>simp[zzI] at h ⊢
  exact h
theorem zot {ops:Array Oper} {o:Oper} (h:vc n J F env H a w) {j:Nat} {b c:Bool} {t:Nat} (h1:o.guard=some (j,b)) (h2:(ops[j]?).bind (·.dst)=some t) (hc:xW t env=.sc (.bool c)) :
  Region.wanted o (yielded ops a.tmps)=(c==b):=by
 have h3:=h.tmps t
 rw[hc] at h3
 simp only[rep] at h3
 have h4:a.tmps[t]? = some (.bool c):=by
  rw[Array.getD_eq_getD_getElem?] at h3
  cases e:a.tmps[t]? with
  | none=>rw[e] at h3;simp[undef] at h3
  | some v=>rw[e] at h3;simp at h3;rw[h3]
 simp only[Region.wanted,h1,yielded,h2,Option.bind_some,h4]
 cases b<;>cases c<;>rfl
end
section
variable {P:Program} {n:Nat} {ops:Array Oper} {K':Env→List zf→Prop} {Q:Exit→Act→World→Prop}
theorem za9 {c:Bool} {A B:Prop}:ifK c A B↔(c=true→A)∧(c=false→B):=by
 cases c<;>simp[ifK]
theorem zkL {o:Oper} {p:POp} {env:Env} {H:List zf} {K:JF} (hc:cop P o=some p) (h:step P true p env H K):ZS P o env H K :=
 (JB hc h).elim zpt (·.2)
theorem zag:∀(l:List Oper) (i:Nat) (ms:List Nat) (pl:List yC),(∀j,l[j]? = ops[i+j]?)→Za P n ops ms l=some pl→∀(env:Env) (H:List zf) (J:y4) (F:Nat→Prop) (a:Act) (w:World),vw P pl env H K'→vc n J F env H a w →
  (∀env' H' J' F' a' w',K' env' H'→vc n J' F' env' H' a' w'→Ext J F w J' F' w'→Q .normal a' w')→wpOps P ops Q (List.range' i l.length) a w
 | [],i,ms,pl,hl,hc,env,H,J,F,a,w,h,hr,hQ=>by
  simp[Za] at hc;subst hc
  simp only[List.length_nil,List.range'_zero,wpOps]
  exact hQ env H J F a w h hr (Ext.refl _ _ _)
 | o::l,i,ms,pl,hl,hc,env,H,J,F,a,w,h,hr,hQ=>by
  simp only[Za] at hc
  split at hc
  ·rename_i p pr h1 h2
   cases hc
   have ho:ops[i]? = some o:=by simpa using (hl 0).symm
   have hl':∀j,l[j]? = ops[i+1+j]?:=λj=>by have:=hl (j+1);simpa [Nat.add_assoc,Nat.add_comm 1 j] using this
   obtain⟨k1,k2,k3,k4,_⟩:=JJ h1
   have go:∀env' H' J' F' a' w',Ext J F w J' F' w'→vw P pr env' H' K'→vc n J' F' env' H' a' w'→wpOps P ops Q (List.range' (i+1) l.length) a' w':=λenv' H' J' F' a' w' hx h' hr' =>
    zag l (i+1) ms.tail pr hl' h2 env' H' J' F' a' w' h' hr' λenv'' H'' J'' F'' a'' w'' q1 q2 q3=>hQ env'' H'' J'' F'' a'' w'' q1 q2 (hx.trans q3)
   have exec:(step P true p.op env H λd H' _ _=>match p.dst with
     | some t=>vw P pr ((t,d)::env) H' K'
     | none=>vw P pr env H' K')→o.wp P a w (wpOps P ops Q (List.range' (i+1) l.length)) Q:=λhs=>by
    refine zkL k1 hs J F w a hr.ok hr.dom (λx _=>hr.eval x) _ _ λd H2 rd wr v w' J' F' hK q1 q2 q3 q4=>?_
    rw[k2] at hK
    cases hd:o.dst with
    | none =>
     rw[hd] at hK
     exact go env H2 J' F' _ w' q3 hK (hr.skip q3 q2 q4)
    | some t =>
     rw[hd] at hK
     exact go _ H2 J' F' _ w' q3 hK (hr.put q3 (k3 t hd) q1 q2 q4)
   have skip:(match p.dst with
     | some t=>vw P pr ((t,.sc undef)::env) H K'
     | none=>vw P pr env H K')→wpOps P ops Q (List.range' (i+1) l.length) (a.put o.dst undef) w:=λhs=>by
    rw[k2] at hs
    cases hd:o.dst with
    | none =>
     rw[hd] at hs
     exact go env H J F _ w (Ext.refl _ _ _) hs hr
    | some t =>
     rw[hd] at hs
     exact go _ H J F _ w (Ext.refl _ _ _) hs (hr.put (Ext.refl _ _ _) (k3 t hd) (by simp only[rep]) hr.ok hr.dom)
   simp only[List.length_cons,List.range'_succ,wpOps,ho]
   simp only[vw] at h
   rcases k4 with⟨g1,g2⟩|⟨j,b,t,g1,g2,g3⟩
   ·rw[g2] at h
    rw[if_pos (by simp[Region.wanted,g1])]
    exact .inl (exec h)
   ·rw[g3] at h
    simp only[YU] at h
    split at h
    ·rename_i c hcc
     have hw:=zot hr g1 g2 hcc
     cases b with
     | true =>
      obtain⟨hA,hB⟩:=za9.1 h
      cases c with
      | true=>rw[if_pos (by rw[hw];rfl)];exact .inl (exec (hA rfl))
      | false=>rw[if_neg (by rw[hw];simp)];exact skip (hB rfl)
     | false =>
      obtain⟨hA,hB⟩:=za9.1 h
      cases c with
      | true=>rw[if_neg (by rw[hw];simp)];exact skip (hA rfl)
      | false=>rw[if_pos (by rw[hw];rfl)];exact .inl (exec (hB rfl))
    ·rename_i xs hcc
     have h3:=hr.tmps t
     rw[hcc] at h3
     simp only[rep] at h3
     rw[if_neg (by rw[zeM g1 g2 (by rw[h3];rfl)];simp)]
     exact skip h
    ·exact h.elim
  ·cases hc
end
end
section
open Go.RowKit
theorem zd8 {ms:List Nat} {i:Nat}:∀(l:List Nat),(UI ms l).testBit i=true→∃a∈l,a=i∨(ms.getD a 0).testBit i=true
 | [],h=>by simp[UI] at h
 | a::r,h=>by
  simp only[UI,Nat.testBit_or,Bool.or_eq_true] at h
  rcases h with(h|h)|h
  ·rw[Nat.testBit_two_pow] at h
   exact⟨a,by simp,.inl (by simpa using h)⟩
  ·exact⟨a,by simp,.inr h⟩
  ·obtain⟨b,hb,k⟩:=zd8 r h
   exact⟨b,by simp[hb],k⟩
theorem zaU:∀(l:List Oper) (acc:List Nat),(∀k,k<acc.length→(qb acc l).getD k 0=acc.getD k 0)∧(qb acc l).length=acc.length+l.length ∧
  ∀k o,l[k]? = some o→∃acc',(∀a,a<acc.length+k→acc'.getD a 0=(qb acc l).getD a 0)∧(∀a,acc.length+k≤a→acc'.getD a 0=0)∧(qb acc l).getD (acc.length+k) 0=UI acc' (uH o)
 | [],acc=>⟨λ_ _=>rfl,by simp[qb],λk o h=>by simp at h⟩
 | x::r,acc=>by
  obtain⟨h1,h2,h3⟩:=zaU r (acc++[UI acc (uH x)])
  simp only[qb]
  simp only[List.length_append,List.length_singleton] at h1 h2 h3
  have hacc:∀k,k<acc.length→(acc++[UI acc (uH x)]).getD k 0=acc.getD k 0:=λk hk=>by
   simp[List.getD,List.getElem?_append_left hk]
  refine⟨λk hk=>by rw[h1 k (by omega),hacc k hk],by rw[h2];simp;omega,λk o hk=>?_⟩
  cases k with
  | zero =>
   simp at hk;subst hk
   refine⟨acc,λa ha=>by rw[h1 a (by omega),hacc a (by omega)],λa ha=>by simp[List.getD,List.getElem?_eq_none (by omega:acc.length≤a)],?_⟩
   rw[Nat.add_zero,h1 _ (by omega)]
   simp[List.getD]
  | succ k =>
   obtain⟨acc',k1,k2,k3⟩:=h3 k o (by simpa using hk)
   rw[show acc.length+1+k=acc.length+(k+1) by omega] at k1 k2 k3
   exact⟨acc',k1,k2,k3⟩
theorem Un {ops:Array Oper} {m:Nat} {o:Oper}:∀(l:List Oper) (i:Nat),Qh ops m o i l=true→∀k x,l[k]? = some x→m.testBit (i+k)=true∨x.apart ops o=true
 | [],i,_,k,x,h=>by simp at h
 | y::r,i,h,k,x,hk=>by
  simp only[Qh,Bool.and_eq_true,Bool.or_eq_true] at h
  cases k with
  | zero=>simp at hk;subst hk;exact h.1
  | succ k =>
   have:=Un r (i+1) h.2 k x (by simpa using hk)
   rwa [show i+1+k=i+(k+1) by omega] at this
theorem XN {ops:Array Oper} {ms:List Nat}:∀(l pre:List Oper),zez ops ms pre l=true→∀k o,l[k]? = some o→(∀a∈uH o,a<pre.length+k) ∧
  ∀i x,i<pre.length+k→(pre++l)[i]? = some x→(ms.getD (pre.length+k) 0).testBit i=true∨x.apart ops o=true
 | [],pre,_,k,o,h=>by simp at h
 | y::r,pre,h,k,o,hk=>by
  simp only[zez,Bool.and_eq_true] at h
  obtain⟨⟨h1,h2⟩,h3⟩:=h
  cases k with
  | zero =>
   simp at hk;subst hk
   refine⟨λa ha=>by simpa using List.all_eq_true.1 h1 a ha,λi x hi hx=>?_⟩
   rw[List.getElem?_append_left (by omega)] at hx
   have:=Un pre 0 h2 i x hx
   simpa using this
  | succ k =>
   have:=XN r (pre++[y]) h3 k o (by simpa using hk)
   simp only[List.length_append,List.length_singleton,List.append_assoc,List.singleton_append] at this
   rw[show pre.length+1+k=pre.length+(k+1) by omega] at this
   exact this
section
variable {ops:Array Oper}
def Bef (ops:Array Oper) (i j:Nat):Prop:=((qb [] ops.toList).getD j 0).testBit i=true
def VJ (ops:Array Oper) (S:Nat→Bool):Prop:=∀j o,ops[j]? = some o→S j=true→∀a∈uH o,S a=true
theorem zeH (hreg:zez ops (qb [] ops.toList) [] ops.toList=true):∀(j:Nat) (o:Oper),ops[j]? = some o→∀i,Bef ops i j→i<j∧∀S:Nat→Bool,VJ ops S→(∀a∈uH o,S a=true)→S i=true:=by
 intro j
 induction j using Nat.strongRecOn with
 | _ j ih =>
  intro o ho i hb
  obtain⟨acc,h1,h2,h3⟩:=(zaU ops.toList []).2.2 j o (by simpa using ho)
  simp only[List.length_nil,Nat.zero_add] at h1 h2 h3
  unfold Bef at hb
  rw[h3] at hb
  have hlt:=(XN ops.toList [] hreg j o (by simpa using ho)).1
  simp only[List.length_nil,Nat.zero_add] at hlt
  obtain⟨a,ha,rfl|hbit⟩:=zd8 _ hb
  ·exact⟨hlt _ ha,λS _ hS=>hS _ ha⟩
  ·have haj:=hlt a ha
   rw[h1 a haj] at hbit
   have hj:j<ops.size:=by
    rcases Nat.lt_or_ge j ops.size with h|h
    ·exact h
    ·rw[Array.getElem?_eq_none h] at ho;cases ho
   have hao:ops[a]? = some ops[a]:=Array.getElem?_eq_getElem (by omega)
   obtain⟨q1,q2⟩:=ih a haj _ hao i hbit
   exact⟨by omega,λS hC hS=>q2 S hC (hC a _ hao (hS a ha))⟩
end
structure Rec where
 d:D
 rd:List Nat
 wr:List Nat
 H2:List zf
 lt:Option (Nat × Nat)
instance:Inhabited Rec:=⟨⟨.xP,[],[],[],none⟩⟩
def Rec.entry (r:Rec):(List Nat × List Nat) × (Option (Nat × Nat) × D × List zf):=((r.rd,r.wr),(r.lt,r.d,r.H2))
def Ug (x:(List Nat × List Nat) × (Option (Nat × Nat) × D × List zf)):List Nat × List Nat:=match x.2.1 with
 | some _=>([],x.1.2)
 | none=>x.1
section
variable {P:Program} {n:Nat} {ops:Array Oper}
def ziC (P:Program) (o:Oper) (env:Env) (H:List zf) (r:Rec):Prop:=∀id k,r.lt=some (id,k)→r.rd=[id]∧r.wr=[]∧r.H2=H∧(∃m cs,H[id]? = some (.row m cs)∧cs[k]? = some r.d) ∧
 ∀(H':List zf) m' cs',H'[id]? = some (.row m' cs')→cs'[k]? = some r.d→OpS P o env [id] [] H' r.d H'
theorem zmR {o:Oper} {p:POp} (k1:cop P o=some p) {env:Env} {H:List zf} {K:D→List zf→List Nat→List Nat→Prop} (h:step P false p env H K) {id k:Nat} (hl:V4 p env=some (id,k)) :
  ∃c,K c H [id] []∧(∃m cs,H[id]? = some (.row m cs)∧cs[k]? = some c)∧∀(H':List zf) m' cs',H'[id]? = some (.row m' cs')→cs'[k]? = some c→OpS P o env [id] [] H' c H':=by
 unfold V4 at hl
 split at hl
 ·rename_i a
  split at hl
  ·rename_i id' k' e
   cases hl
   simp only[step,yU] at h
   rw[e] at h
   obtain⟨ob,h1,h2⟩:=(yQ _ _ _).1 h
   split at h2
   ·rename_i m cs
    obtain⟨c,h3,h4⟩:=(YB _ _ _).1 h2
    refine⟨c,h4,⟨m,cs,h1,h3⟩,λH' m' cs' g1 g2=>?_⟩
    have hs:step P false (.zg a) env H' λd h rd wr=>d=c∧h=H'∧rd=[id]∧wr=[]:=by
     simp only[step,yU]
     rw[e]
     exact(yQ _ _ _).2 ⟨_,g1,(YB _ _ _).2 ⟨c,g2,by simp⟩⟩
    rcases JB k1 hs with⟨d,H2,rd,wr,q,rfl,rfl,rfl,rfl⟩|⟨q,_⟩
    ·exact q
    ·cases q
   ·exact h2.elim
  ·cases hl
 ·cases hl
def zfd (P:Program) (n:Nat) (ops:Array Oper) (o:Oper) (env:Env) (H:List zf) (r:Rec):Prop :=
 (∀t,o.dst=some t→t<n)∧(∀cs b,o.op≠.select cs b)∧ziC P o env H r ∧
 ((o.guard=none∧OpS P o env r.rd r.wr H r.d r.H2) ∨
  ∃j b t c,o.guard=some (j,b)∧(ops[j]?).bind (·.dst)=some t∧xW t env=.sc c ∧
   ((c=.bool b∧OpS P o env r.rd r.wr H r.d r.H2)∨(zzI b c=true∧r=⟨.sc undef,[],[],H,none⟩)))
def Ql (o:Oper) (r:Rec) (env:Env):Env:=match o.dst with
 | some t=>(t,r.d)::env
 | none=>env
inductive Run (P:Program) (n:Nat) (ops:Array Oper):List Oper→Env→List zf→List Rec→Env→List zf→Prop
 | nil (env:Env) (H:List zf):Run P n ops [] env H [] env H
 | cons (o:Oper) (l:List Oper) (env:Env) (H:List zf) (r:Rec) (rs:List Rec) (env':Env) (H':List zf) (h:zfd P n ops o env H r) (k:Run P n ops l (Ql o r env) r.H2 rs env' H'):Run P n ops (o::l) env H (r::rs) env' H'
theorem qZ {o:Oper} {p:POp} (h:cop P o=some p):∀cs b,o.op≠.select cs b:=λcs b e=>by
 unfold cop at h
 rw[e] at h
 simp at h
theorem ziC.none {o:Oper} {env:Env} {H:List zf} {d:D} {rd wr:List Nat} {H2:List zf}:ziC P o env H ⟨d,rd,wr,H2,.none⟩:=λ_ _ h=>by cases h
theorem zg2:∀(l:List Oper) (ms:List Nat) (pl:List yC),Za P n ops ms l=some pl→∀(env:Env) (H:List zf) (K:Env→List zf→Trace→Prop),VW P pl env H K →
  ∃rs env' H',Run P n ops l env H rs env' H'∧K env' H' (rs.map Rec.entry)∧rs.length=l.length
 | [],ms,pl,hc,env,H,K,h=>by
  simp[Za] at hc;subst hc
  exact⟨[],env,H,.nil env H,h,rfl⟩
 | o::l,ms,pl,hc,env,H,K,h=>by
  simp only[Za] at hc
  split at hc
  ·rename_i p pr h1 h2
   cases hc
   obtain⟨k1,k2,k3,k4,_⟩:=JJ h1
   have fin:∀(r:Rec),zfd P n ops o env H r→(match p.dst with
     | some t=>VW P pr ((t,r.d)::env) r.H2 λe h tr=>K e h (((r.rd,r.wr),(r.lt,r.d,r.H2))::tr)
     | none=>VW P pr env r.H2 λe h tr=>K e h (((r.rd,r.wr),(r.lt,r.d,r.H2))::tr))→∃rs env' H',Run P n ops (o::l) env H rs env' H'∧K env' H' (rs.map Rec.entry)∧rs.length=(o::l).length:=λr hr hs=>by
    have hs':VW P pr (Ql o r env) r.H2 λe h tr=>K e h (((r.rd,r.wr),(r.lt,r.d,r.H2))::tr):=by
     unfold Ql
     rw[k2] at hs
     cases hd:o.dst with
     | none=>rw[hd] at hs;exact hs
     | some t=>rw[hd] at hs;exact hs
    obtain⟨rs,env',H',q1,q2,q3⟩:=zg2 l ms.tail pr h2 _ _ _ hs'
    exact⟨r::rs,env',H',.cons o l env H r rs env' H' hr q1,q2,by simp[q3]⟩
   have exec:∀{K':D→List zf→List Nat→List Nat→Prop},step P false p.op env H K'→∃d H2 rd wr,OpS P o env rd wr H d H2∧K' d H2 rd wr:=λhs=>by
    rcases JB k1 hs with q|⟨q,_⟩
    ·exact q
    ·cases q
   simp only[VW] at h
   rcases k4 with⟨g1,g2⟩|⟨j,b,t,g1,g2,g3⟩
   ·rw[g2] at h
    cases hl:V4 p.op env with
    | none =>
     simp only[hl] at h
     obtain⟨d,H2,rd,wr,q1,q2⟩:=exec h
     exact fin ⟨d,rd,wr,H2,none⟩ ⟨k3,qZ k1,.none,.inl ⟨g1,q1⟩⟩ q2
    | some q =>
     obtain⟨id,k⟩:=q
     simp only[hl] at h
     obtain⟨c,q1,⟨m,cs,q2,q3⟩,q4⟩:=zmR k1 h hl
     refine fin ⟨c,[id],[],H,some (id,k)⟩ ⟨k3,qZ k1,λid' k' e=>?_,.inl ⟨g1,q4 H m cs q2 q3⟩⟩ q1
     cases e
     exact⟨rfl,rfl,rfl,⟨m,cs,q2,q3⟩,q4⟩
   ·rw[g3] at h
    simp only[YU] at h
    split at h
    ·rename_i c hcc
     cases b with
     | true =>
      obtain⟨hA,hB⟩:=za9.1 h
      cases c with
      | true =>
       obtain⟨d,H2,rd,wr,q1,q2⟩:=exec (hA rfl)
       exact fin ⟨d,rd,wr,H2,none⟩ ⟨k3,qZ k1,.none,.inr ⟨j,true,t,.bool true,g1,g2,hcc,.inl ⟨rfl,q1⟩⟩⟩ q2
      | false=>exact fin ⟨.sc undef,[],[],H,none⟩ ⟨k3,qZ k1,.none,.inr ⟨j,true,t,.bool false,g1,g2,hcc,.inr ⟨rfl,rfl⟩⟩⟩ (hB rfl)
     | false =>
      obtain⟨hA,hB⟩:=za9.1 h
      cases c with
      | true=>exact fin ⟨.sc undef,[],[],H,none⟩ ⟨k3,qZ k1,.none,.inr ⟨j,false,t,.bool true,g1,g2,hcc,.inr ⟨rfl,rfl⟩⟩⟩ (hA rfl)
      | false =>
       obtain⟨d,H2,rd,wr,q1,q2⟩:=exec (hB rfl)
       exact fin ⟨d,rd,wr,H2,none⟩ ⟨k3,qZ k1,.none,.inr ⟨j,false,t,.bool false,g1,g2,hcc,.inl ⟨rfl,q1⟩⟩⟩ q2
    ·rename_i xs hcc
     exact fin ⟨.sc undef,[],[],H,none⟩ ⟨k3,qZ k1,.none,.inr ⟨j,b,t,.tuple xs,g1,g2,hcc,.inr ⟨rfl,rfl⟩⟩⟩ h
    ·exact h.elim
  ·cases hc
def XR (l:List Oper) (k:Nat):Option Tmp:=(l[k]?).bind (·.dst)
def recAt (rs:List Rec) (k:Nat):Rec:=(rs[k]?).getD default
def Et (l:List Oper) (rs:List Rec) (env:Env) (S:Nat→Bool):Nat→Nat→D
 | 0,t=>xW t env
 | k+1,t=>if S k=true∧XR l k=some t then (recAt rs k).d else Et l rs env S k t
def Gt (rs:List Rec) (H:List zf) (S:Nat→Bool):Nat→Nat→Option zf
 | 0,id=>H[id]?
 | k+1,id=>if S k=true∧id∈(recAt rs k).wr then (recAt rs k).H2[id]? else Gt rs H S k id
theorem Uz {l:List Oper} {rs:List Rec} {env:Env} {S S':Nat→Bool} {t:Nat}:∀(k:Nat),(∀i,i<k→XR l i=some t→S i=S' i)→Et l rs env S k t=Et l rs env S' k t
 | 0,_=>rfl
 | k+1,h=>by
  simp only[Et]
  by_cases hd:XR l k=some t
  ·rw[h k (by omega) hd,Uz k λi hi hd=>h i (by omega) hd]
  ·rw[if_neg (λq=>hd q.2),if_neg (λq=>hd q.2),Uz k λi hi hd=>h i (by omega) hd]
theorem W9 {rs:List Rec} {H:List zf} {S S':Nat→Bool} {id:Nat}:∀(k:Nat),(∀i,i<k→id∈(recAt rs i).wr→S i=S' i)→Gt rs H S k id=Gt rs H S' k id
 | 0,_=>rfl
 | k+1,h=>by
  simp only[Gt]
  by_cases hd:id∈(recAt rs k).wr
  ·rw[h k (by omega) hd,W9 k λi hi hd=>h i (by omega) hd]
  ·rw[if_neg (λq=>hd q.2),if_neg (λq=>hd q.2),W9 k λi hi hd=>h i (by omega) hd]
def upto (j:Nat):Nat→Bool:=λi=>decide (i<j)
theorem znM {l:List Oper} {rs:List Rec} {env:Env} {j t:Nat}:∀(k:Nat),j≤k→Et l rs env (upto j) k t=Et l rs env (λ_=>true) j t
 | 0,h=>by have:j=0:=by omega
           subst this;rfl
 | k+1,h=>by
  by_cases e:j=k+1
  ·subst e
   exact Uz (k+1) λi hi _=>by simp[upto,hi]
  ·simp only[Et]
   rw[if_neg (by simp[upto];omega),znM k (by omega)]
theorem ziD {rs:List Rec} {H:List zf} {j id:Nat}:∀(k:Nat),j≤k→Gt rs H (upto j) k id=Gt rs H (λ_=>true) j id
 | 0,h=>by have:j=0:=by omega
           subst this;rfl
 | k+1,h=>by
  by_cases e:j=k+1
  ·subst e
   exact W9 (k+1) λi hi _=>by simp[upto,hi]
  ·simp only[Gt]
   rw[if_neg (by simp[upto];omega),ziD k (by omega)]
def za0 (l:List Oper) (rs:List Rec) (env:Env):Nat→Env
 | 0=>env
 | k+1=>match l[k]?,rs[k]? with
  | some o,some r=>Ql o r (za0 l rs env k)
  | _,_=>za0 l rs env k
def uK (rs:List Rec) (H:List zf):Nat→List zf
 | 0=>H
 | k+1=>match rs[k]? with
  | some r=>r.H2
  | none=>uK rs H k
theorem zbm {o:Oper} {l:List Oper} {r:Rec} {rs:List Rec} {env:Env}:∀k,za0 (o::l) (r::rs) env (k+1)=za0 l rs (Ql o r env) k
 | 0=>rfl
 | k+1=>by
  rw[za0]
  rw[zbm k]
  rfl
theorem Jy {r:Rec} {rs:List Rec} {H:List zf}:∀k,uK (r::rs) H (k+1)=uK rs r.H2 k
 | 0=>rfl
 | k+1=>by
  rw[uK]
  rw[Jy k]
  rfl
theorem Run.at {l:List Oper} {env env':Env} {H H':List zf} {rs:List Rec} (h:Run P n ops l env H rs env' H'):rs.length=l.length∧za0 l rs env l.length=env'∧uK rs H l.length=H' ∧
  ∀k o,l[k]? = some o→∃r,rs[k]? = some r∧zfd P n ops o (za0 l rs env k) (uK rs H k) r:=by
 induction h with
 | nil env H=>exact⟨rfl,rfl,rfl,λk o h=>by simp at h⟩
 | cons o l env H r rs env' H' h k ih =>
  obtain⟨i1,i2,i3,i4⟩:=ih
  refine⟨by simp[i1],by rw[List.length_cons,zbm];exact i2,by rw[List.length_cons,Jy];exact i3,λm x hx=>?_⟩
  cases m with
  | zero=>simp at hx;subst hx;exact⟨r,rfl,h⟩
  | succ m =>
   obtain⟨r',q1,q2⟩:=i4 m x (by simpa using hx)
   exact⟨r',by simpa using q1,by rw[zbm,Jy];exact q2⟩
theorem W8 {rs:List Rec} {k:Nat} {r:Rec} (h:rs[k]? = some r):recAt rs k=r:=by simp[recAt,h]
theorem zaK {l:List Oper} {k:Nat} {o:Oper} (h:l[k]? = some o):XR l k=o.dst:=by simp[XR,h]
theorem zfd.frame {o:Oper} {env:Env} {H:List zf} {r:Rec} (h:zfd P n ops o env H r):(∀id,id ∉ r.wr→r.H2[id]? = H[id]?)∧H.length≤r.H2.length∧∀id∈r.wr,id<r.H2.length:=by
 rcases h.2.2.2 with⟨_,q⟩|⟨j,b,t,c,_,_,_,⟨_,q⟩|⟨_,rfl⟩⟩
 ·exact⟨q.frame,q.len,q.lt⟩
 ·exact⟨q.frame,q.len,q.lt⟩
 ·exact⟨λ_ _=>rfl,Nat.le_refl _,λ_ h=>by cases h⟩
section
variable {l:List Oper} {rs:List Rec} {env:Env} {H:List zf}
variable (hA:∀k o,l[k]? = some o→∃r,rs[k]? = some r∧zfd P n ops o (za0 l rs env k) (uK rs H k) r)
include hA
theorem zhH:∀k,k≤l.length→∀t,Et l rs env (λ_=>true) k t=xW t (za0 l rs env k)
 | 0,_,t=>rfl
 | k+1,hk,t=>by
  have hl:l[k]? = some l[k]:=List.getElem?_eq_getElem (by omega)
  obtain⟨r,h1,_⟩:=hA k _ hl
  simp only[Et,za0,hl,h1,W8 h1,zaK hl,true_and,Ql]
  cases hd:l[k].dst with
  | none=>simp;exact zhH k (by omega) t
  | some u =>
   simp only[Option.some.injEq]
   rw[Zc]
   by_cases e:t=u
   ·rw[if_pos e.symm,if_pos e]
   ·rw[if_neg (λq=>e q.symm),if_neg e];exact zhH k (by omega) t
theorem zil:∀k,k≤l.length→∀id,Gt rs H (λ_=>true) k id=(uK rs H k)[id]?
 | 0,_,id=>rfl
 | k+1,hk,id=>by
  have hl:l[k]? = some l[k]:=List.getElem?_eq_getElem (by omega)
  obtain⟨r,h1,h2⟩:=hA k _ hl
  simp only[Gt,uK,h1,W8 h1,true_and]
  split
  ·rfl
  ·rename_i hn;rw[zil k (by omega) id];exact(h2.frame.1 id hn).symm
theorem J8:∀k j,j≤k→k≤l.length→(uK rs H j).length≤(uK rs H k).length
 | 0,j,hj,_=>by have:j=0:=by omega
                subst this;exact Nat.le_refl _
 | k+1,j,hj,hk=>by
  have hl:l[k]? = some l[k]:=List.getElem?_eq_getElem (by omega)
  obtain⟨r,h1,h2⟩:=hA k _ hl
  by_cases e:j=k+1
  ·rw[e];exact Nat.le_refl _
  ·refine Nat.le_trans (J8 k j (by omega) (by omega)) ?_
   simp only[uK,h1]
   exact h2.frame.2.1
theorem zyl {i k:Nat} (hik:i<k) (hk:k≤l.length) {id:Nat} (h:id∈(recAt rs i).wr):id<(uK rs H k).length:=by
 have hl:l[i]? = some l[i]:=List.getElem?_eq_getElem (by omega)
 obtain⟨r,h1,h2⟩:=hA i _ hl
 rw[W8 h1] at h
 have h3:=h2.frame.2.2 id h
 have h4:=J8 hA k (i+1) (by omega) hk
 simp only[uK,h1] at h4
 omega
end
theorem zac (x:Nat):∀l:List Nat,zbP x l=true↔x∈l
 | []=>by simp[zbP]
 | y::r=>by
  simp only[zbP]
  cases e:Nat.beq x y with
  | true=>simp[Nat.eq_of_beq_eq_true e]
  | false =>
   have:x≠y:=λh=>by subst h;simp at e
   simp[zac x r,this]
theorem zgb:∀(a b:List Nat),meets a b=true↔∃x∈a,x∈b
 | [],b=>by simp[meets]
 | x::r,b=>by
  simp only[meets]
  cases e:zbP x b with
  | true=>simp[(zac x b).1 e]
  | false =>
   have:x ∉ b:=λh=>by rw[(zac x b).2 h] at e;cases e
   simp[zgb r b,this]
theorem VG {m:Nat} {b:List Nat × List Nat}:∀(tr:List (List Nat × List Nat)) (i:Nat),Qy m b i tr=true→∀k a,tr[k]? = some a→UM a b=true→Jb m (i+k)=true
 | [],i,_,k,a,h,_=>by simp at h
 | x::r,i,h,k,a,hk,hc=>by
  simp only[Qy] at h
  split at h
  ·rename_i h1
   cases k with
   | zero =>
    simp at hk;subst hk
    simpa [hc] using h1
   | succ k =>
    have:=VG r (i+1) h k a (by simpa using hk) hc
    rwa [show i+1+k=i+(k+1) by omega] at this
  ·cases h
theorem zem:∀(pl:List yC) (pre:List (List Nat × List Nat)) (tr:Trace),zgQ pre pl tr=true→∀k o b,pl[k]? = some o→tr[k]? = some b→∀i a,i<pre.length+k→(pre++tr.map (·.1))[i]? = some a→UM a b.1=true→Jb o.mask i=true
 | [],pre,tr,_,k,o,b,h,_,_,_,_,_,_=>by simp at h
 | p::pl,pre,[],_,k,o,b,_,h,_,_,_,_,_=>by simp at h
 | p::pl,pre,(t,y)::tr,h,k,o,b,hk,hb,i,a,hi,ha,hc=>by
  simp only[zgQ] at h
  split at h
  ·rename_i h1
   cases k with
   | zero =>
    simp at hk hb;subst hk;subst hb
    rw[List.getElem?_append_left (by omega)] at ha
    have:=VG pre 0 h1 i a ha hc
    simpa using this
   | succ k =>
    refine zem pl (pre++[t]) tr h k o b (by simpa using hk) (by simpa using hb) i a (by simp;omega) ?_ hc
    simpa using ha
  ·cases h
theorem UW:∀(pl:List yC) (pre:List (List Nat × List Nat)) (tr:Trace),zbU pre pl tr=true→∀k o b,pl[k]? = some o→tr[k]? = some b→∀i a,i<pre.length+k→(pre++tr.map Ug)[i]? = some a→UM a b.1=true→Jb o.mask i=true
 | [],pre,tr,_,k,o,b,h,_,_,_,_,_,_=>by simp at h
 | p::pl,pre,[],_,k,o,b,_,h,_,_,_,_,_=>by simp at h
 | p::pl,pre,(t,q,y)::tr,h,k,o,b,hk,hb,i,a,hi,ha,hc=>by
  simp only[zbU] at h
  split at h
  ·rename_i h1
   cases k with
   | zero =>
    simp at hk hb;subst hk;subst hb
    rw[List.getElem?_append_left (by omega)] at ha
    have:=VG pre 0 h1 i a ha hc
    simpa using this
   | succ k =>
    have e:pre++((t,q,y)::tr).map Ug=(pre++[Ug (t,q,y)])++tr.map Ug:=by simp
    rw[e] at ha
    cases q with
    | none=>exact UW pl (pre++[t]) tr h k o b (by simpa using hk) (by simpa using hb) i a (by simp;omega) ha hc
    | some q=>exact UW pl (pre++[([],t.2)]) tr h k o b (by simpa using hk) (by simpa using hb) i a (by simp;omega) ha hc
  ·cases h
def zig (m:Nat) (wr:List Nat) (H:List zf) (w:Nat × (Nat × Nat) × D):Prop:=Jb m w.1=true∨w.2.1.1 ∉ wr∨∃mm cs,H[w.2.1.1]? = some (.row mm cs)∧cs[w.2.1.2]? = some w.2.2
theorem Up {m:Nat} {wr:List Nat} {H:List zf} {K:Prop}:∀ws,zeV m wr H K ws→K∧∀w∈ws,zig m wr H w
 | [],h=>⟨h,λw hw=>by cases hw⟩
 | (i,(id,k),d)::r,h=>by
  simp only[zeV] at h
  split at h
  ·rename_i e
   obtain⟨q1,q2⟩:=Up r h
   refine⟨q1,λw hw=>?_⟩
   rcases List.mem_cons.1 hw with rfl|hw
   ·rw[Bool.or_eq_true,Bool.not_eq_true'] at e
    rcases e with e|e
    ·exact .inl e
    ·refine .inr (.inl λz=>?_)
     rw[(zac _ _).2 z] at e;cases e
   ·exact q2 w hw
  ·unfold zx8 at h
   obtain⟨ob,h1,h2⟩:=(yQ _ _ _).1 h
   split at h2
   ·rename_i mm cs
    obtain⟨c,h3,rfl,h4⟩:=(YB _ _ _).1 h2
    obtain⟨q1,q2⟩:=Up r h4
    refine⟨q1,λw hw=>?_⟩
    rcases List.mem_cons.1 hw with rfl|hw
    ·exact .inr (.inr ⟨mm,cs,h1,h3⟩)
    ·exact q2 w hw
   ·exact h2.elim
theorem UU {K:Prop}:∀(l:List yC) (tr:Trace) (i0:Nat) (ws:List (Nat × (Nat × Nat) × D)),zbV K i0 ws l tr→l.length=tr.length→K∧∀j o b q d H,l[j]? = some o→tr[j]? = some (b,(q,d,H)) →
   (∀w∈ws,zig o.mask b.2 H w)∧∀i b' lt d' H',i<j→tr[i]? = some (b',(some lt,d',H'))→zig o.mask b.2 H (i0+i,lt,d')
 | [],[],i0,ws,h,_=>⟨h,λj o b q d H hj=>by simp at hj⟩
 | [],_::_,_,_,_,hl=>by simp at hl
 | _::_,[],_,_,_,hl=>by simp at hl
 | p::l,(b0,(q0,d0,H0))::tr,i0,ws,h,hl=>by
  simp only[zbV] at h
  obtain⟨h1,h2⟩:=Up ws h
  cases q0 with
  | none =>
   obtain⟨k1,k2⟩:=UU l tr (i0+1) ws h1 (by simpa using hl)
   refine⟨k1,λj o b q d H hj hb=>?_⟩
   cases j with
   | zero=>simp at hj hb;obtain⟨rfl,rfl,rfl,rfl⟩:=hb;subst hj;exact⟨h2,λi _ _ _ _ hi=>by omega⟩
   | succ j =>
    obtain⟨m1,m2⟩:=k2 j o b q d H (by simpa using hj) (by simpa using hb)
    refine⟨m1,λi b' lt d' H' hi hb'=>?_⟩
    cases i with
    | zero=>simp at hb'
    | succ i =>
     have:=m2 i b' lt d' H' (by omega) (by simpa using hb')
     rwa [show i0+1+i=i0+(i+1) by omega] at this
  | some q0 =>
   obtain⟨k1,k2⟩:=UU l tr (i0+1) (ws++[(i0,q0,d0)]) h1 (by simpa using hl)
   refine⟨k1,λj o b q d H hj hb=>?_⟩
   cases j with
   | zero=>simp at hj hb;obtain⟨rfl,rfl,rfl,rfl⟩:=hb;subst hj;exact⟨h2,λi _ _ _ _ hi=>by omega⟩
   | succ j =>
    obtain⟨m1,m2⟩:=k2 j o b q d H (by simpa using hj) (by simpa using hb)
    refine⟨λw hw=>m1 w (List.mem_append_left _ hw),λi b' lt d' H' hi hb'=>?_⟩
    cases i with
    | zero =>
     simp at hb'
     obtain⟨rfl,rfl,rfl,rfl⟩:=hb'
     exact m1 (i0,q0,d0) (by simp)
    | succ i =>
     have:=m2 i b' lt d' H' (by omega) (by simpa using hb')
     rwa [show i0+1+i=i0+(i+1) by omega] at this
theorem zmG {m i:Nat} (h:Jb m i=true):m.testBit i=true:=by
 unfold Jb at h
 split at h
 ·rename_i e
  rw[Nat.testBit_eq_decide_div_mod_eq]
  simpa using Nat.eq_of_beq_eq_true e
 ·cases h
theorem zcG:∀(l:List Oper) (ms:List Nat) (pl:List yC),Za P n ops ms l=some pl→∀k p,pl[k]? = some p→p.mask=ms.getD k 0
 | [],ms,pl,h,k,p,hk=>by simp[Za] at h;subst h;simp at hk
 | o::l,ms,pl,h,k,p,hk=>by
  simp only[Za] at h
  split at h
  ·rename_i q pr h1 h2
   cases h
   cases k with
   | zero =>
    simp at hk;subst hk
    rw[(JJ h1).2.2.2.2]
    cases ms<;>rfl
   | succ k =>
    rw[zcG l ms.tail pr h2 k p (by simpa using hk)]
    cases ms<;>simp[List.getD]
  ·cases h
theorem zfj:∀(l:List Oper) (ms:List Nat) (pl:List yC),Za P n ops ms l=some pl→pl.length=l.length
 | [],ms,pl,h=>by simp[Za] at h;subst h;rfl
 | o::l,ms,pl,h=>by
  simp only[Za] at h
  split at h
  ·rename_i q pr h1 h2
   cases h
   simp[zfj l ms.tail pr h2]
  ·cases h
end
end
section
open Go.RowKit
structure Uj (P:Program) (n:Nat) (ops:Array Oper) (env:Env) (H:List zf) (rs:List Rec):Prop where
 at_:∀k o,ops.toList[k]? = some o→∃r,rs[k]? = some r∧zfd P n ops o (za0 ops.toList rs env k) (uK rs H k) r
 len:rs.length=ops.size
 reg:zez ops (qb [] ops.toList) [] ops.toList=true
 mem:∀i j,i<j→j<ops.size→UM (Ug (recAt rs i).entry) ((recAt rs j).rd,(recAt rs j).wr)=true→Bef ops i j
 lite:∀i id k,(recAt rs i).lt=some (id,k)→∀j,i<j→j<ops.size→id∈(recAt rs j).wr→Bef ops i j∨∃m cs,(recAt rs j).H2[id]? = some (.row m cs)∧cs[k]? = some (recAt rs i).d
section
variable {P:Program} {n:Nat} {ops:Array Oper} {env:Env} {H:List zf} {rs:List Rec}
structure Inv (P:Program) (n:Nat) (ops:Array Oper) (env:Env) (H:List zf) (rs:List Rec) (J0:y4) (F0:Nat→Prop) (w0:World) (S:Nat→Bool) (J:y4) (F:Nat→Prop) (a:Act) (w:World):Prop where
 closed:VJ ops S
 defers:a.defers=[]
 size:a.tmps.size=n
 tmps:∀t,rep J F w (Et ops.toList rs env S ops.size t) (a.tmps.getD t undef)
 ok:y5 J F w (Gt rs H S ops.size)
 ext:Ext J0 F0 w0 J F w
 dom:∀id,J id≠none→id<H.length∨∃i,i<ops.size∧S i=true∧id∈(recAt rs i).wr
theorem Uj.before (hp:Uj P n ops env H rs) {S:Nat→Bool} (hC:VJ ops S) {j:Nat} {o:Oper} (ho:ops[j]? = some o) (hj:S j=false) (hr:∀a∈uH o,S a=true) {i:Nat} (hi:i<ops.size) (hne:i≠j) (hcmp:Bef ops i j∨Bef ops j i):S i=upto j i:=by
 have hio:ops[i]? = some ops[i]:=Array.getElem?_eq_getElem hi
 rcases hcmp with h|h
 ·obtain⟨q1,q2⟩:=zeH hp.reg j o ho i h
  rw[q2 S hC hr]
  simp[upto,q1]
 ·obtain⟨q1,q2⟩:=zeH hp.reg i _ hio j h
  have:S i=false:=by
   cases e:S i with
   | false=>rfl
   | true =>
    have:=q2 S hC (hC i _ hio e)
    rw[hj] at this;cases this
  rw[this]
  simp[upto];omega
theorem Uj.cmp (hp:Uj P n ops env H rs) {i j:Nat} {x y:Oper} (hi:ops[i]? = some x) (hj:ops[j]? = some y) (hne:i≠j):(Bef ops i j∨Bef ops j i)∨(x.apart ops y=true∧i<j)∨(y.apart ops x=true∧j<i):=by
 rcases Nat.lt_or_gt_of_ne hne with h|h
 ·have:=(XN ops.toList [] hp.reg j y (by simpa using hj)).2 i x (by simpa using h) (by simpa using hi)
  simp only[List.length_nil,Nat.zero_add] at this
  rcases this with q|q
  ·exact .inl (.inl q)
  ·exact .inr (.inl ⟨q,h⟩)
 ·have:=(XN ops.toList [] hp.reg i x (by simpa using hi)).2 j y (by simpa using h) (by simpa using hj)
  simp only[List.length_nil,Nat.zero_add] at this
  rcases this with q|q
  ·exact .inl (.inr q)
  ·exact .inr (.inr ⟨q,h⟩)
theorem Uj.tmp (hp:Uj P n ops env H rs) {S:Nat→Bool} (hC:VJ ops S) {j:Nat} {o:Oper} (ho:ops[j]? = some o) (hj:S j=false) (hr:∀a∈uH o,S a=true) {t:Nat} (ht:t∈o.looksAt ops):Et ops.toList rs env S ops.size t=xW t (za0 ops.toList rs env j):=by
 have hjs:j<ops.size:=by
  rcases Nat.lt_or_ge j ops.size with h|h
  ·exact h
  ·rw[Array.getElem?_eq_none h] at ho;cases ho
 rw[←zhH hp.at_ j (by simp;omega),←znM ops.size (by omega)]
 refine Uz _ λi hi hd=>?_
 have hio:ops[i]? = some ops[i]:=Array.getElem?_eq_getElem hi
 have hil:ops.toList[i]? = some ops[i]:=by rw[Array.getElem?_toList];exact hio
 rw[zaK hil] at hd
 by_cases e:i=j
 ·subst e;rw[hj];simp[upto]
 ·rcases hp.cmp hio ho e with h|⟨h,_⟩|⟨h,_⟩
  ·exact hp.before hC ho hj hr hi e h
  ·exact absurd ht ((Oper.apart_spec h).1 t hd)
  ·exact absurd ht ((Oper.apart_spec h).2.2 t hd)
theorem Qo (a b:List Nat × List Nat):UM a b=true↔(∃x∈a.2,x∈b.1)∨(∃x∈a.2,x∈b.2)∨∃x∈b.2,x∈a.1:=by
 simp only[UM,Bool.or_eq_true,zgb,or_assoc]
theorem za6 (r:Rec):(Ug r.entry).2=r.wr:=by unfold Ug Rec.entry;split<;>rfl
theorem zrx {r:Rec} (h:r.lt=none):(Ug r.entry).1=r.rd:=by unfold Ug Rec.entry;dsimp only;rw[h]
theorem Uj.objB (hp:Uj P n ops env H rs) {S:Nat→Bool} (hC:VJ ops S) {j:Nat} {o:Oper} (ho:ops[j]? = some o) (hj:S j=false) (hr:∀a∈uH o,S a=true) {id:Nat} (hid:id∈(recAt rs j).rd∨id∈(recAt rs j).wr) {i:Nat} (h:i<j) (hw:id∈(recAt rs i).wr):S i=upto j i:=by
 have hjs:j<ops.size:=by
  rcases Nat.lt_or_ge j ops.size with h|h
  ·exact h
  ·rw[Array.getElem?_eq_none h] at ho;cases ho
 refine hp.before hC ho hj hr (by omega) (by omega) (.inl (hp.mem i j h hjs ((Qo _ _).2 ?_)))
 rcases hid with q|q
 ·exact .inl ⟨id,by rw[za6];exact hw,q⟩
 ·exact .inr (.inl ⟨id,by rw[za6];exact hw,q⟩)
theorem Uj.obj (hp:Uj P n ops env H rs) {S:Nat→Bool} (hC:VJ ops S) {j:Nat} {o:Oper} (ho:ops[j]? = some o) (hj:S j=false) (hr:∀a∈uH o,S a=true) {id:Nat} (hid:(id∈(recAt rs j).rd∧(recAt rs j).lt=none)∨id∈(recAt rs j).wr) {i:Nat} (hi:i<ops.size) (hw:id∈(recAt rs i).wr):S i=upto j i:=by
 by_cases e:i=j
 ·subst e;rw[hj];simp[upto]
 rcases Nat.lt_or_gt_of_ne e with h|h
 ·exact hp.objB hC ho hj hr (hid.imp_left And.left) h hw
 ·refine hp.before hC ho hj hr hi e (.inr (hp.mem j i h hi ((Qo _ _).2 ?_)))
  rcases hid with⟨q,ql⟩|q
  ·exact .inr (.inr ⟨id,hw,by rw[zrx ql];exact q⟩)
  ·exact .inr (.inl ⟨id,by rw[za6];exact q,hw⟩)
theorem Uj.objs (hp:Uj P n ops env H rs) {S:Nat→Bool} (hC:VJ ops S) {j:Nat} {o:Oper} (ho:ops[j]? = some o) (hj:S j=false) (hr:∀a∈uH o,S a=true) {id:Nat} (hid:(id∈(recAt rs j).rd∧(recAt rs j).lt=none)∨id∈(recAt rs j).wr):Gt rs H S ops.size id=(uK rs H j)[id]?:=by
 have hjs:j<ops.size:=by
  rcases Nat.lt_or_ge j ops.size with h|h
  ·exact h
  ·rw[Array.getElem?_eq_none h] at ho;cases ho
 rw[←zil hp.at_ j (by simp;omega),←ziD ops.size (by omega)]
 exact W9 _ λi hi hw=>hp.obj hC ho hj hr hid hi hw
theorem Uj.cell (hp:Uj P n ops env H rs) {S:Nat→Bool} (hC:VJ ops S) {j:Nat} {o:Oper} (ho:ops[j]? = some o) (hj:S j=false) (hr:∀a∈uH o,S a=true) {id k:Nat} (hl:(recAt rs j).lt=some (id,k)) (hrd:(recAt rs j).rd=[id])
  (h0:∃m cs,(uK rs H j)[id]? = some (.row m cs)∧cs[k]? = some (recAt rs j).d):∃m cs,Gt rs H S ops.size id=some (.row m cs)∧cs[k]? = some (recAt rs j).d:=by
 have hjs:j<ops.size:=by
  rcases Nat.lt_or_ge j ops.size with h|h
  ·exact h
  ·rw[Array.getElem?_eq_none h] at ho;cases ho
 have key:∀x,j+x≤ops.size→∃m cs,Gt rs H S (j+x) id=some (.row m cs)∧cs[k]? = some (recAt rs j).d:=λx=>by
  induction x with
  | zero =>
   intro _
   have:Gt rs H S j id=(uK rs H j)[id]?:=by
    rw[←zil hp.at_ j (by simp;omega),←ziD j (Nat.le_refl _)]
    exact W9 _ λi hi hw=>hp.objB hC ho hj hr (.inl (by rw[hrd];simp)) hi hw
   rw[Nat.add_zero,this]
   exact h0
  | succ x ih =>
   intro hx
   rw[←Nat.add_assoc]
   simp only[Gt]
   split
   ·rename_i q
    by_cases e:x=0
    ·subst e;rw[Nat.add_zero] at q;rw[hj] at q;exact absurd q.1 (by simp)
    ·rcases hp.lite j id k hl (j+x) (by omega) (by omega) q.2 with r|r
     ·exfalso
      have hio:ops[j+x]? = some ops[j+x]:=Array.getElem?_eq_getElem (by omega)
      obtain⟨_,q2⟩:=zeH hp.reg (j+x) _ hio j r
      have:=q2 S hC (hC (j+x) _ hio q.1)
      rw[hj] at this;cases this
     ·exact r
   ·exact ih (by omega)
 have:=key (ops.size-j) (by omega)
 rwa [show j+(ops.size-j)=ops.size by omega] at this
def plus (S:Nat→Bool) (j:Nat):Nat→Bool:=λi=>S i||decide (i=j)
theorem znW {l:List Oper} {S:Nat→Bool} {j t:Nat} (hj:S j=false) (hlater:∀i,j<i→S i=true→XR l i=some t→XR l j≠some t):∀k,Et l rs env (plus S j) k t=if j<k∧XR l j=some t then (recAt rs j).d else Et l rs env S k t
 | 0=>rfl
 | k+1=>by
  simp only[Et]
  rw[znW hj hlater k]
  by_cases e:k=j
  ·subst e
   by_cases hd:XR l k=some t
   ·rw[if_pos ⟨by simp[plus],hd⟩,if_pos ⟨by omega,hd⟩]
   ·rw[if_neg (λq=>hd q.2),if_neg (λq=>hd q.2),if_neg (λq=>hd q.2),if_neg (λq=>hd q.2)]
  ·have hS:plus S j k=S k:=by simp[plus,e]
   rw[hS]
   by_cases hk:S k=true∧XR l k=some t
   ·rw[if_pos hk,if_pos hk]
    rw[if_neg]
    rintro⟨q1,q2⟩
    exact hlater k (by omega) hk.1 hk.2 q2
   ·rw[if_neg hk,if_neg hk]
    by_cases hd:j<k∧XR l j=some t
    ·rw[if_pos hd,if_pos ⟨by omega,hd.2⟩]
    ·rw[if_neg hd,if_neg (λq=>hd ⟨by omega,q.2⟩)]
theorem znK {S:Nat→Bool} {j id:Nat} (hj:S j=false) (hlater:∀i,j<i→S i=true→id∈(recAt rs i).wr→id ∉ (recAt rs j).wr):∀k,Gt rs H (plus S j) k id=if j<k∧id∈(recAt rs j).wr then (recAt rs j).H2[id]? else Gt rs H S k id
 | 0=>rfl
 | k+1=>by
  simp only[Gt]
  rw[znK hj hlater k]
  by_cases e:k=j
  ·subst e
   by_cases hd:id∈(recAt rs k).wr
   ·rw[if_pos ⟨by simp[plus],hd⟩,if_pos ⟨by omega,hd⟩]
   ·rw[if_neg (λq=>hd q.2),if_neg (λq=>hd q.2),if_neg (λq=>hd q.2),if_neg (λq=>hd q.2)]
  ·have hS:plus S j k=S k:=by simp[plus,e]
   rw[hS]
   by_cases hk:S k=true∧id∈(recAt rs k).wr
   ·rw[if_pos hk,if_pos hk]
    rw[if_neg]
    rintro⟨q1,q2⟩
    exact hlater k (by omega) hk.1 hk.2 q2
   ·rw[if_neg hk,if_neg hk]
    by_cases hd:j<k∧id∈(recAt rs j).wr
    ·rw[if_pos hd,if_pos ⟨by omega,hd.2⟩]
    ·rw[if_neg hd,if_neg (λq=>hd ⟨by omega,q.2⟩)]
theorem Uj.step (hp:Uj P n ops env H rs) {J0:y4} {F0:Nat→Prop} {w0:World} {S:Nat→Bool} {J:y4} {F:Nat→Prop} {a:Act} {w:World} (hv:Inv P n ops env H rs J0 F0 w0 S J F a w) {j:Nat} {o:Oper} (ho:ops[j]? = some o) (hj:S j=false) (hr:∀a∈uH o,S a=true)
  {K:Act→World→Prop} {Q:Exit→Act→World→Prop} (hK:∀J' F' a' w',Inv P n ops env H rs J0 F0 w0 (plus S j) J' F' a' w'→K a' w') :
  if Region.wanted o (yielded ops a.tmps) then o.wp P a w K Q else K (a.put o.dst undef) w:=by
 have hjs:j<ops.size:=by
  rcases Nat.lt_or_ge j ops.size with h|h
  ·exact h
  ·rw[Array.getElem?_eq_none h] at ho;cases ho
 have hjl:ops.toList[j]? = some o:=by simpa using ho
 obtain⟨r,hr1,hr2⟩:=hp.at_ j o hjl
 have hrec:recAt rs j=r:=W8 hr1
 have hdst:XR ops.toList j=o.dst:=zaK hjl
 have hclosed:VJ ops (plus S j):=λi x hx hi b hb=>by
  simp only[plus,Bool.or_eq_true,decide_eq_true_eq] at hi ⊢
  rcases hi with hi|rfl
  ·exact .inl (hv.closed i x hx hi b hb)
  ·rw[ho] at hx;cases hx
   exact .inl (hr b hb)
 have hlaterT:∀t i,j<i→S i=true→XR ops.toList i=some t→XR ops.toList j≠some t:=λt i hi hS hd hd'=>by
  have his:i<ops.size:=by
   rcases Nat.lt_or_ge i ops.size with h|h
   ·exact h
   ·rw[XR,List.getElem?_eq_none (by simpa using h)] at hd;cases hd
  have hio:ops[i]? = some ops[i]:=Array.getElem?_eq_getElem his
  have hil:ops.toList[i]? = some ops[i]:=by rw[Array.getElem?_toList];exact hio
  rw[zaK hil] at hd
  rw[hdst] at hd'
  rcases hp.cmp hio ho (by omega) with h|⟨h,h'⟩|⟨h,_⟩
  ·have:=hp.before hv.closed ho hj hr his (by omega) h
   rw[hS] at this
   simp[upto] at this
   omega
  ·omega
  ·exact(Oper.apart_spec h).2.1 t hd' hd
 have hlaterG:∀id i,j<i→S i=true→id∈(recAt rs i).wr→id ∉ (recAt rs j).wr:=λid i hi hS hw hw'=>by
  by_cases his:i<ops.size
  ·have:=hp.obj hv.closed ho hj hr (.inr hw') his hw
   rw[hS] at this
   simp[upto] at this
   omega
  ·have e:rs[i]? = none:=List.getElem?_eq_none (by rw[hp.len];omega)
   simp[recAt,e] at hw
   cases hw
 -- the new state
 have mk:∀(v:Value) (J':y4) (F':Nat→Prop) (w':World),rep J' F' w' r.d v→y5 J' F' w' (J5 (Gt rs H S ops.size) r.wr r.H2)→Ext J F w J' F' w'→(∀id,J id=none→id ∉ r.wr→J' id=none)→Inv P n ops env H rs J0 F0 w0 (plus S j) J' F' (a.put o.dst v) w':=λv J' F' w' q1 q2 q3 q4=>by
  refine⟨hclosed,?_,?_,λt=>?_,?_,hv.ext.trans q3,λid hid=>?_⟩
  ·cases o.dst<;>exact hv.defers
  ·cases o.dst<;>simp[Act.put,hv.size]
  ·rw[znW hj (hlaterT t)]
   rw[hdst,hrec]
   cases hd:o.dst with
   | none=>rw[if_neg (by simp)];exact zdi q3 (hv.tmps t)
   | some u =>
    simp only[hjs,true_and,Option.some.injEq,Act.put]
    rw[zjU _ _ _ _ (by rw[hv.size];exact hr2.1 u hd)]
    by_cases e:t=u
    ·rw[if_pos e.symm,if_pos e];exact q1
    ·rw[if_neg (λq=>e q.symm),if_neg e];exact zdi q3 (hv.tmps t)
  ·have:Gt rs H (plus S j) ops.size=J5 (Gt rs H S ops.size) r.wr r.H2:=by
    funext id
    rw[znK hj (hlaterG id)]
    simp only[hjs,true_and,hrec,J5]
   rw[this];exact q2
  ·by_cases h1:J id=none
   ·by_cases h2:id∈r.wr
    ·exact .inr ⟨j,hjs,by simp[plus],by rw[hrec];exact h2⟩
    ·exact absurd (q4 id h1 h2) hid
   ·rcases hv.dom id h1 with q|⟨i,i1,i2,i3⟩
    ·exact .inl q
    ·exact .inr ⟨i,i1,by simp[plus,i2],i3⟩
 have opnd:∀x∈o.op.operands,rep J F w (xk (za0 ops.toList rs env j) x) (a.eval x):=λx hx=>by
  ·cases x with
   | tmp t =>
    have ht:t∈o.looksAt ops:=by
     unfold Oper.looksAt
     refine List.mem_append.2 (.inl (List.mem_filterMap.2 ⟨.tmp t,by simpa using hx,rfl⟩))
    have:=hv.tmps t
    rw[hp.tmp hv.closed ho hj hr ht] at this
    exact this
   | const v =>
    cases v<;>simp only[xk,lift,Act.eval,rep]
    rename_i cs
    exact⟨cs.toList,by simp,QA cs.toList⟩
   | global g=>exact zkc hv.ok.lt g
   | func f=>simp only[xk,Act.eval,rep];exact⟨[],[],rfl,by simp only[yi],by simp only[yi]⟩
 have exec:OpS P o (za0 ops.toList rs env j) r.rd r.wr (uK rs H j) r.d r.H2→o.wp P a w K Q:=λhs=>by
  cases hlt:r.lt with
  | some q =>
   obtain⟨id,k⟩:=q
   obtain⟨e1,e2,e3,e4,e5⟩:=hr2.2.2.1 id k hlt
   obtain⟨m,cs,c1,c2⟩:=hp.cell hv.closed ho hj hr (by rw[hrec];exact hlt) (by rw[hrec];exact e1) (by rw[hrec];exact e4)
   rw[hrec] at c2
   obtain⟨m0,cs0,c3,_⟩:=e4
   have hidl:id<(uK rs H j).length:=by
    rcases Nat.lt_or_ge id (uK rs H j).length with h|h
    ·exact h
    ·rw[List.getElem?_eq_none h] at c3;cases c3
   have hset:((uK rs H j).set id (.row m cs))[id]? = some (.row m cs):=by rw[List.getElem?_set];simp[hidl]
   refine(e5 _ m cs hset c2).run J F w a _ hv.ok opnd (λi hi=>?_) (λi hi hw=>by cases hw) K Q λv w' J' F' q1 q2 q3 q4=>hK _ _ _ _ (mk v J' F' w' q1 (by rw[VP] at q2;rw[e2,VP];exact q2) q3 λi h1 _=>q4 i h1 (by simp))
   rcases hi with hi|hi
   ·rw[List.mem_singleton] at hi;subst hi;rw[c1,hset]
   ·cases hi
  | none =>
   refine hs.run J F w a _ hv.ok opnd (λid hid=>by rw[←hrec] at hid;exact hp.objs hv.closed ho hj hr (hid.imp_left λh=>⟨h,by rw[hrec];exact hlt⟩)) (λid hid hw=>?_) K Q λv w' J' F' q1 q2 q3 q4=>hK _ _ _ _ (mk v J' F' w' q1 q2 q3 q4)
   ·cases e:J id with
    | none=>rfl
    | some s =>
     rcases hv.dom id (by rw[e];simp) with q|⟨i,i1,i2,i3⟩
     ·have:=J8 hp.at_ j 0 (by omega) (by simp;omega)
      simp only[uK] at this
      omega
     ·have h1:=hp.obj hv.closed ho hj hr (.inr (by rw[hrec];exact hw)) i1 i3
      rw[i2] at h1
      have hij:i<j:=by simpa [upto] using h1.symm
      have:=zyl hp.at_ hij (by simp;omega) i3
      omega
 rcases hr2.2.2.2 with⟨g1,g2⟩|⟨g,b,t,c,g1,g2,g3,g4⟩
 ·rw[if_pos (by simp[Region.wanted,g1])]
  exact exec g2
 ·have ht:t∈o.looksAt ops:=by
   unfold Oper.looksAt
   refine List.mem_append.2 (.inr ?_)
   rw[g1]
   simp only[g2,Option.toList_some,List.mem_singleton]
  have h3:=hv.tmps t
  rw[hp.tmp hv.closed ho hj hr ht,g3] at h3
  simp only[rep] at h3
  rcases g4 with⟨rfl,g4⟩|⟨hne,rfl⟩
  ·rw[if_pos (zox g1 g2 h3)]
   exact exec g4
  ·rw[if_neg (by rw[zeM g1 g2 (by rw[h3];exact hne)];simp)]
   exact hK _ _ _ _ (mk undef J F w (by simp only[rep]) (by rw[VP];exact hv.ok) (Ext.refl _ _ _) λ_ h _=>h)
theorem zdu {listed:Array Bool} {j:Nat} (h:j∈Region.ready .any ops listed):∃o,ops[j]? = some o∧listed.getD j true=false∧∀a∈uH o,listed.getD a false=true:=by
 obtain⟨h1,o,h2,h3⟩:=mem_ready.1 h
 refine⟨o,h2,h1,λa ha=>?_⟩
 unfold uH at ha
 obtain⟨e,he,rfl⟩:=List.mem_map.1 ha
 obtain⟨he1,he2⟩:=List.mem_filter.1 he
 exact h3 e (by simpa using he1) he2
def ZW (listed:Array Bool):Nat→Bool:=λi=>listed.getD i false
theorem zkw {listed:Array Bool} {j:Nat} (hj:j<listed.size):ZW (listed.setIfInBounds j true)=plus (ZW listed) j:=by
 funext i
 simp only[ZW,plus,Array.getD_eq_getD_getElem?]
 by_cases e:i=j
 ·subst e;simp[Array.getElem?_setIfInBounds,hj]
 ·rw[Array.getElem?_setIfInBounds_ne (λq=>e q.symm)];simp[e]
def missing (listed:Array Bool):Nat:=(List.range listed.size).countP λi=>!listed.getD i false
theorem zl9 {listed:Array Bool} (hreg:zez ops (qb [] ops.toList) [] ops.toList=true) (hs:listed.size=ops.size) (h:Region.ready .any ops listed=[]):∀i,i<ops.size→listed.getD i false=true:=by
 intro i
 induction i using Nat.strongRecOn with
 | _ i ih =>
  intro hi
  cases e:listed.getD i false with
  | true=>rfl
  | false =>
   have hio:ops[i]? = some ops[i]:=Array.getElem?_eq_getElem hi
   have hil:ops.toList[i]? = some ops[i]:=by rw[Array.getElem?_toList];exact hio
   have hlt:=(XN ops.toList [] hreg i _ hil).1
   simp only[List.length_nil,Nat.zero_add] at hlt
   have:i∈Region.ready .any ops listed:=by
    refine mem_ready.2 ⟨?_,_,hio,λed hed hb=>?_⟩
    ·have:i<listed.size:=by omega
     simp only[Array.getD_eq_getD_getElem?,Array.getElem?_eq_getElem this,Option.getD_some] at e ⊢
     exact e
    ·have ha:ed.on∈uH ops[i]:=List.mem_map.2 ⟨ed,List.mem_filter.2 ⟨by simpa using hed,hb⟩,rfl⟩
     exact ih _ (hlt _ ha) (by have:=hlt _ ha;omega)
   rw[h] at this;cases this
theorem ztw (hp:Uj P n ops env H rs) {J0:y4} {F0:Nat→Prop} {w0:World} {Q:Exit→Act→World→Prop}
  (hQ:∀J F a w,Inv P n ops env H rs J0 F0 w0 (λ_=>true) J F a w→Q .normal a w):∀(fuel:Nat) (listed:Array Bool) (J:y4) (F:Nat→Prop) (a:Act) (w:World),listed.size=ops.size→missing listed≤fuel→Inv P n ops env H rs J0 F0 w0 (ZW listed) J F a w→wpAny P .any ops Q fuel listed a w:=by
 have done:∀(listed:Array Bool) (J:y4) (F:Nat→Prop) (a:Act) (w:World),listed.size=ops.size→(∀i,i<ops.size→listed.getD i false=true)→Inv P n ops env H rs J0 F0 w0 (ZW listed) J F a w→Q .normal a w:=λlisted J F a w hs hall hv=>by
  refine hQ J F a w ⟨λ_ _ _ _ _ _=>rfl,hv.defers,hv.size,λt=>?_,?_,hv.ext,λid hid=>(hv.dom id hid).imp_right λ⟨i,i1,_,i3⟩=>⟨i,i1,rfl,i3⟩⟩
  ·have:=hv.tmps t
   have e:Et ops.toList rs env (ZW listed) ops.size t=Et ops.toList rs env (λ_=>true) ops.size t:=Uz ops.size λi hi _=>hall i hi
   rwa [e] at this
  ·have e:Gt rs H (ZW listed) ops.size=Gt rs H (λ_=>true) ops.size:=funext λid=>W9 ops.size λi hi _=>hall i hi
   have:=hv.ok
   rwa [e] at this
 have key:∀(listed:Array Bool) (j:Nat),listed.size=ops.size→j∈Region.ready .any ops listed→j<ops.size∧listed.getD j false=false:=λlisted j hs hj=>by
  obtain⟨o,h1,h2,_⟩:=zdu hj
  have hjs:j<ops.size:=by
   rcases Nat.lt_or_ge j ops.size with h|h
   ·exact h
   ·rw[Array.getElem?_eq_none h] at h1;cases h1
  refine⟨hjs,?_⟩
  have:j<listed.size:=by omega
  simp only[Array.getD_eq_getD_getElem?,Array.getElem?_eq_getElem this,Option.getD_some] at h2 ⊢
  exact h2
 intro fuel
 induction fuel with
 | zero =>
  intro listed J F a w hs hm hv
  have hall:∀i,i<ops.size→listed.getD i false=true:=λi hi=>by
   have h0:missing listed=0:=by omega
   unfold missing at h0
   rw[List.countP_eq_zero] at h0
   have:=h0 i (by simp;omega)
   simpa using this
  refine⟨?_,done listed J F a w hs hall hv⟩
  cases e:Region.ready .any ops listed with
  | nil=>rfl
  | cons j r =>
   obtain⟨q1,q2⟩:=key listed j hs (by rw[e];simp)
   rw[hall j q1] at q2;cases q2
 | succ fuel ih =>
  intro listed J F a w hs hm hv
  refine⟨λh=>done listed J F a w hs (zl9 hp.reg hs h) hv,λj hj=>?_⟩
  obtain⟨o,h1,h2,h3⟩:=zdu hj
  obtain⟨q1,q2⟩:=key listed j hs hj
  have hm':missing (listed.setIfInBounds j true)≤fuel:=by
   have hlt:missing (listed.setIfInBounds j true)<missing listed:=by
    unfold missing
    rw[Array.size_setIfInBounds]
    have hmem:j∈List.range listed.size:=by simp;omega
    obtain⟨l1,l2,hl⟩:=List.append_of_mem hmem
    have hnd:(List.range listed.size).Nodup:=List.nodup_range
    rw[hl] at hnd ⊢
    have hne1:∀x∈l1,x≠j:=λx hx e=>by
     subst e
     rw[List.nodup_append] at hnd
     exact hnd.2.2 x hx x (by simp) rfl
    have hne2:∀x∈l2,x≠j:=λx hx e=>by
     subst e
     rw[List.nodup_append] at hnd
     have:=hnd.2.1
     simp at this
     exact this.1 hx
    have hset:∀x,x≠j→(listed.setIfInBounds j true).getD x false=listed.getD x false:=λx hx=>by
     simp only[Array.getD_eq_getD_getElem?]
     rw[Array.getElem?_setIfInBounds_ne (λq=>hx q.symm)]
    rw[List.countP_append,List.countP_append,List.countP_cons,List.countP_cons]
    have c1:l1.countP (λi=>!(listed.setIfInBounds j true).getD i false)=l1.countP (λi=>!listed.getD i false):=List.countP_congr λx hx=>by rw[hset x (hne1 x hx)]
    have c2:l2.countP (λi=>!(listed.setIfInBounds j true).getD i false)=l2.countP (λi=>!listed.getD i false):=List.countP_congr λx hx=>by rw[hset x (hne2 x hx)]
    rw[c1,c2,q2]
    have:(listed.setIfInBounds j true).getD j false=true:=by
     simp only[Array.getD_eq_getD_getElem?]
     simp[Array.getElem?_setIfInBounds,show j<listed.size by omega]
    rw[this]
    simp
   omega
  have st:=hp.step hv h1 (by simpa [ZW] using q2) (by simpa [ZW] using h3) (K:=wpAny P .any ops Q fuel (listed.setIfInBounds j true)) (Q:=Q) λJ' F' a' w' hv'=>ih _ J' F' a' w' (by simp[hs]) hm' (by rw[zkw (by omega)];exact hv')
  unfold wpOp
  simp only[h1]
  split
  ·rename_i hw;rw[if_pos hw] at st;exact .inl st
  ·rename_i hw;rw[if_neg hw] at st;exact st
theorem zkR {l:List yC} {Q:Exit→Act→World→Prop} {K':Env→List zf→Prop} (h:zda P l env H K') {id:Nat} (hc:zal P n ops true=some l) {J:y4} {F:Nat→Prop} {a:Act} {w:World} (hr:vc n J F env H a w)
  (hQ:∀env' H' J' F' a' w',K' env' H'→vc n J' F' env' H' a' w'→Ext J F w J' F' w'→Q .normal a' w'):(Code.region id ops true).wp P Q a w:=by
 simp only[zal] at hc
 split at hc
 ·rename_i hb
  rw[Bool.and_eq_true] at hb
  unfold zda at h
  obtain⟨rs,env',H',h1,h2,h3⟩:=zg2 ops.toList _ l hc env H _ h
  obtain⟨r1,r2,r3,r4⟩:=h1.at
  have hlen:rs.length=ops.size:=by simpa using r1
  have hllen:l.length=ops.size:=by rw[zfj _ _ _ hc];simp
  have ent:∀i,i<ops.size→(rs.map Rec.entry)[i]? = some (recAt rs i).entry:=λi hi=>by
   have e1:=List.getElem?_eq_getElem (show i<rs.length by omega)
   rw[List.getElem?_map,e1,W8 e1];rfl
  have bit:∀j (hj:j<l.length) i,Jb l[j].mask i=true→Bef ops i j:=λj hj i h=>by
   have hm:=zcG _ _ _ hc j _ (List.getElem?_eq_getElem hj)
   rw[hm] at h
   exact zmG h
  have hsub:∀r:Rec,∀b,UM (Ug r.entry) b=true→UM (r.rd,r.wr) b=true:=λr b h=>by
   rw[Qo] at h ⊢
   rw[za6] at h
   refine h.imp_right λh=>h.imp_right λ⟨x,q1,q2⟩=>⟨x,q1,?_⟩
   unfold Ug at q2
   split at q2
   ·cases q2
   ·exact q2
  have hK:K' env' H'∧Uj P n ops env H rs:=by
   split at h2
   ·rename_i hmem
    have strict:∀i j,i<j→j<ops.size→UM ((recAt rs i).rd,(recAt rs i).wr) ((recAt rs j).rd,(recAt rs j).wr)=true→Bef ops i j:=λi j hij hj hcl=>by
     have hpl:j<l.length:=by omega
     refine bit j hpl i (zem l [] _ hmem j l[j] (recAt rs j).entry (List.getElem?_eq_getElem hpl) (ent j hj) i ((recAt rs i).rd,(recAt rs i).wr) (by simpa using hij) ?_ hcl)
     rw[List.nil_append,List.getElem?_map,ent i (by omega)];rfl
    exact⟨h2,r4,hlen,hb.2,λi j hij hj hcl=>strict i j hij hj (hsub _ _ hcl),λi id k hl j hij hj hw=>.inl (strict i j hij hj ((Qo _ _).2 (.inr (.inr ⟨id,hw,by
     obtain⟨r,q1,q2⟩:=r4 i _ (List.getElem?_eq_getElem (show i<ops.toList.length by simp;omega))
     rw[W8 q1] at hl ⊢
     rw[(q2.2.2.1 id k hl).1];simp⟩))))⟩
   ·split at h2
    ·rename_i hmem
     obtain⟨hk,hw⟩:=UU l _ 0 [] h2 (by simp;omega)
     refine⟨hk,r4,hlen,hb.2,λi j hij hj hcl=>?_,λi id k hl j hij hj hwr=>?_⟩
     ·have hpl:j<l.length:=by omega
      refine bit j hpl i (UW l [] _ hmem j l[j] (recAt rs j).entry (List.getElem?_eq_getElem hpl) (ent j hj) i (Ug (recAt rs i).entry) (by simpa using hij) ?_ hcl)
      rw[List.nil_append,List.getElem?_map,ent i (by omega)];rfl
     ·have hpl:j<l.length:=by omega
      have:=(hw j l[j] _ _ _ _ (List.getElem?_eq_getElem hpl) (ent j hj)).2 i ((recAt rs i).rd,(recAt rs i).wr) (id,k) (recAt rs i).d (recAt rs i).H2 hij (by rw[ent i (by omega),←hl];rfl)
      rw[Nat.zero_add] at this
      rcases this with q|q|q
      ·exact .inl (bit j hpl i q)
      ·exact absurd hwr q
      ·exact .inr q
    ·exact h2.elim
  obtain⟨h2,hp⟩:=hK
  ·skip
   refine wp_region_any hb.1 (ztw hp (J0:=J) (F0:=F) (w0:=w) (λJ' F' a' w' hv=>?_) _ _ J F a _ (by simp) ?_ ?_)
   ·refine hQ env' H' J' F' a' w' h2 ⟨hv.defers,hv.size,λt=>?_,?_,λi hi=>?_⟩ hv.ext
    ·have:=hv.tmps t
     rw[zhH hp.at_ _ (by simp)] at this
     rw[←r2]
     simpa using this
    ·have:=hv.ok
     have e:Gt rs H (λ_=>true) ops.size=λi=>H'[i]?:=funext λi=>by
      rw[zil hp.at_ _ (by simp),←r3];simp
     rwa [e] at this
    ·rcases hv.dom i hi with q|⟨k,k1,_,k3⟩
     ·have:=J8 hp.at_ ops.size 0 (by omega) (by simp)
      simp only[uK] at this
      rw[←r3];simp;omega
     ·have:=zyl hp.at_ k1 (by simp) k3
      rw[←r3];simpa using this
   ·unfold missing
    refine Nat.le_trans List.countP_le_length ?_
    simp
   ·have hf:ZW (Array.replicate ops.size false)=λ_=>false:=by
     funext i
     simp only[ZW,Array.getD_eq_getD_getElem?,Array.getElem?_replicate]
     split<;>rfl
    rw[hf]
    have e1:∀k t,Et ops.toList rs env (λ_=>false) k t=xW t env:=λk t=>by
     induction k with
     | zero=>rfl
     | succ k ih=>simp only[Et];rw[if_neg (by simp)];exact ih
    have e2:∀k i,Gt rs H (λ_=>false) k i=H[i]?:=λk i=>by
     induction k with
     | zero=>rfl
     | succ k ih=>simp only[Gt];rw[if_neg (by simp)];exact ih
    have hd:Ext J F w J F { w with drawn:=w.drawn+1 }:=Ext.drew
    refine⟨(λ_ _ _ h=>by cases h),hr.defers,hr.size,λt=>?_,?_,hd,λi hi=>.inl (hr.dom i hi)⟩
    ·rw[e1];exact zdi hd (hr.tmps t)
    ·have:Gt rs H (λ_=>false) ops.size=λi=>H[i]?:=funext (e2 _)
     rw[this]
     exact hr.ok.drew
 ·cases hc
end
end
section
open Go.RowKit
def zo3 (n:Nat) (J:y4) (F:Nat→Prop) (w:World) (Q:qE):Exit→Act→World→Prop:=λe a' w'=>∃env' H' J' F',Q e env' H'∧vc n J' F' env' H' a' w'∧Ext J F w J' F' w'
section
variable {P:Program} {n:Nat}
theorem qx {p:PC} {Q:qE} {env:Env} {H:List zf} (h:PWp P n p Q env H) {c:Code} (hc:comp P n c=some p.bare) {J:y4} {F:Nat→Prop} {a:Act} {w:World} (hr:vc n J F env H a w):c.wp P (zo3 n J F w Q) a w:=by
 unfold PWp at h
 exact h c hc J F a w hr
theorem Xa {p:PC} {Q:qE} {env:Env} {H:List zf} (h:∀(c:Code),comp P n c=some p.bare→∀(J:y4) (F:Nat→Prop) (a:Act) (w:World),vc n J F env H a w→c.wp P (zo3 n J F w Q) a w):PWp P n p Q env H:=by
 unfold PWp
 exact h
theorem zdE {J J':y4} {F F':Nat→Prop} {w w':World} {Q:qE} {e:Exit} {a:Act} {w'':World} (hx:Ext J F w J' F' w') (h:zo3 n J' F' w' Q e a w''):zo3 n J F w Q e a w'' :=
 let⟨env',H',J'',F'',q1,q2,q3⟩:=h
 ⟨env',H',J'',F'',q1,q2,hx.trans q3⟩
theorem JX {env:Env}:∀(env':Env),V9 env env'→∀t,xW t env'=xW t env∨xW t env'=.xP
 | [],_,t=>.inr rfl
 | (k,d)::r,h,t=>by
  simp only[V9] at h
  rw[Zc]
  split
  ·rename_i e;rw[e];exact .inl h.1.symm
  ·exact JX r h.2 t
theorem zbH {env env':Env} {H:List zf} (h:V9 env env'):St.le n env H env' H:=λJ F a w hr =>
 ⟨J,F,⟨hr.defers,hr.size,λt=>by
  rcases JX env' h t with e|e
  ·rw[e];exact hr.tmps t
  ·rw[e];simp only[rep],hr.ok,hr.dom⟩,Ext.refl _ _ _⟩
theorem zoJ {c:Code} (h:comp P n c=some .skip):c=.skip:=by
 cases c<;>simp[comp] at h
 ·rfl
 all_goals first|(obtain⟨_,_,h⟩:=h;cases h)|(split at h<;>simp at h)|skip
theorem ztW {c:Code} {x y:PC} (h:comp P n c=some (.seq x y)):∃a b,c=.seq a b∧comp P n a=some x∧comp P n b=some y:=by
 cases c<;>simp[comp] at h
 case seq a b =>
  split at h
  ·rename_i e1 e2;simp at h;obtain⟨rfl,rfl⟩:=h;exact⟨a,b,rfl,e1,e2⟩
  ·cases h
 all_goals first|(obtain⟨_,_,h⟩:=h;cases h)|(split at h<;>simp at h)
theorem zpB {c:Code} {z:Operand} {x y:PC} (h:comp P n c=some (.cond z x y)):∃a b,c=.cond z a b∧comp P n a=some x∧comp P n b=some y:=by
 cases c<;>simp[comp] at h
 case cond z' a b =>
  split at h
  ·rename_i e1 e2;simp at h;obtain⟨rfl,rfl,rfl⟩:=h;exact⟨a,b,rfl,e1,e2⟩
  ·cases h
 all_goals first|(obtain⟨_,_,h⟩:=h;cases h)|(split at h<;>simp at h)
theorem zmg {c:Code} {id:Nat} {x:PC} (h:comp P n c=some (.block id x)):∃a,c=.block id a∧comp P n a=some x:=by
 cases c<;>simp[comp] at h
 case block id' a=>obtain⟨h1,rfl⟩:=h;exact⟨a,rfl,h1⟩
 all_goals first|(split at h<;>simp at h)
theorem zgI {c:Code} {x:PC} (h:comp P n c=some (.loop x)):∃a,c=.loop a∧comp P n a=some x:=by
 cases c<;>simp[comp] at h
 case loop a=>exact⟨a,rfl,h⟩
 all_goals first|(split at h<;>simp at h)
theorem zqA {c:Code} {id:Nat} (h:comp P n c=some (.exit id)):c=.exit id:=by
 cases c<;>simp[comp] at h
 case exit id'=>rw[h]
 all_goals first|(split at h<;>simp at h)
theorem ztu {c:Code} (h:comp P n c=some .ret):c=.ret:=by
 cases c<;>simp[comp] at h
 ·first|rfl|(split at h<;>simp at h)
 all_goals first|rfl|(split at h<;>simp at h)
theorem zrS {c:Code} {l:List yC} {d:Bool} (h:comp P n c=some (.ops l d)):∃id ops,c=.region id ops d∧zal P n ops d=some l:=by
 cases c<;>simp[comp] at h
 case region id ops d'=>obtain⟨l',h1,rfl,rfl⟩:=h;exact⟨id,ops,rfl,h1⟩
 all_goals first|(split at h<;>simp at h)
theorem zmm {l:List yC} {Q:qE} {env:Env} {H:List zf} (h:zda P l env H λenv H=>Q .normal env H) {id:Nat} {ops:Array Oper} (hc:zal P n ops true=some l) {J:y4} {F:Nat→Prop} {a:Act} {w:World} (hr:vc n J F env H a w) :
  (Code.region id ops true).wp P (zo3 n J F w Q) a w:=zkR h hc hr λenv' H' J' F' a' w' q1 q2 q3=>⟨env',H',J',F',q1,q2,q3⟩
theorem WY:∀(p:PC) (Q:qE) (env:Env) (H:List zf),pw P n p Q env H→PWp P n p Q env H
 | .skip,Q,env,H,h=>Xa λc hc J F a w hr=>by
  rw[zoJ hc]
  exact wp_skip ⟨env,H,J,F,h,hr,Ext.refl _ _ _⟩
 | .ops l d,Q,env,H,h=>Xa λc hc J F a w hr=>by
  obtain⟨id,ops,rfl,h1⟩:=zrS hc
  cases d with
  | false =>
   refine wp_region ?_
   rw[List.range_eq_range']
   have:=zag (P:=P) (ops:=ops) (Q:=zo3 n J F w Q) ops.toList 0 [] l (λj=>by simp) h1 env H J F a w h hr λenv' H' J' F' a' w' q1 q2 q3=>⟨env',H',J',F',q1,q2,q3⟩
   simpa using this
  | true=>exact zmm h h1 hr
 | .seq x y,Q,env,H,h=>Xa λc hc J F a w hr=>by
  obtain⟨a',b',rfl,h1,h2⟩:=ztW hc
  refine wp_seq (wp_mono (qx (WY x _ env H h) h1 hr) λe a1 w1 ⟨env',H',J',F',q1,q2,q3⟩=>?_)
  cases e with
  | normal=>exact wp_mono (qx (WY y Q env' H' q1) h2 q2) λe a2 w2 q=>zdE q3 q
  | _=>exact⟨env',H',J',F',q1,q2,q3⟩
 | .cond z x y,Q,env,H,h=>Xa λc hc J F a w hr=>by
  obtain⟨a',b',rfl,h1,h2⟩:=zpB hc
  simp only[pw,yU] at h
  split at h
  ·rename_i t e
   have hz:=hr.eval z
   rw[e] at hz
   simp only[rep] at hz
   obtain⟨k1,k2⟩:=za9.1 h
   refine wp_cond hz ?_
   cases t with
   | true=>exact qx (WY x Q env H (k1 rfl)) h1 hr
   | false=>exact qx (WY y Q env H (k2 rfl)) h2 hr
  ·exact h.elim
 | .block id x,Q,env,H,h=>Xa λc hc J F a w hr=>by
  obtain⟨a',rfl,h1⟩:=zmg hc
  refine wp_block (wp_mono (qx (WY x _ env H h) h1 hr) λe a1 w1 ⟨env',H',J',F',q1,q2,q3⟩=>?_)
  cases e with
  | exit id' =>
   simp only[Exit.inBlock]
   by_cases e:id'=id
   ·subst e
    rw[if_pos rfl]
    have hb:Nat.beq id' id'=true:=by simp
    simp only[hb] at q1
    exact⟨env',H',J',F',q1,q2,q3⟩
   ·rw[if_neg e]
    have hb:Nat.beq id' id=false:=by
     cases h:Nat.beq id' id
     ·rfl
     ·exact absurd (Nat.eq_of_beq_eq_true h) e
    simp only[hb] at q1
    exact⟨env',H',J',F',q1,q2,q3⟩
  | _=>exact⟨env',H',J',F',q1,q2,q3⟩
 | .loop x,Q,env,H,h=>h
 | .exit id,Q,env,H,h=>Xa λc hc J F a w hr=>by
  rw[zqA hc]
  exact wp_exit ⟨env,H,J,F,h,hr,Ext.refl _ _ _⟩
 | .ret,Q,env,H,h=>Xa λc hc J F a w hr=>by
  rw[ztu hc]
  exact wp_ret ⟨env,H,J,F,h,hr,Ext.refl _ _ _⟩
 | .stop x,Q,env,H,h=>Xa λc hc J F a w hr=>qx h hc hr
theorem zet {p:PC} {Q:qE} {env:Env} {H:List zf} {ι:Type} (E:ι→Env) (O:ι→List zf) (G:ι→Prop) (m:ι→Nat) (i:ι) (h0:G i) (h1:St.le n env H (E i) (O i))
  (round:∀j,G j→PWp P n p (zDo n Q E O G m (m j)) (E j) (O j)):PWp P n (.loop p) Q env H:=Xa λc hc J F a w hr=>by
 obtain⟨c',rfl,hc'⟩:=zgI hc
 obtain⟨J0,F0,k1,k2⟩:=h1 J F a w hr
 refine wp_loop_ghost (λk a' w'=>∃j J' F',G j∧m j=k∧vc n J' F' (E j) (O j) a' w'∧Ext J F w J' F' w') (m i) ⟨i,J0,F0,h0,rfl,k1,k2⟩ λk a1 w1 ⟨j,J1,F1,g1,g2,g3,g4⟩=>?_
 refine wp_mono (qx (round j g1) hc' g3) λe a2 w2 ⟨env',H',J',F',q1,q2,q3⟩=>?_
 cases e with
 | normal =>
  obtain⟨j',r1,r2,r3⟩:=q1
  obtain⟨J2,F2,t1,t2⟩:=r3 J' F' a2 w2 q2
  exact⟨m j',by omega,j',J2,F2,r1,rfl,t1,(g4.trans q3).trans t2⟩
 | _=>exact⟨env',H',J',F',q1,q2,g4.trans q3⟩
theorem zb9:∀(args:List D) (k t:Nat),xW t (params k args)=if k≤t then (args[t-k]?).getD .xP else .xP
 | [],k,t=>by simp[params,xW]
 | d::r,k,t=>by
  simp only[params]
  rw[Zc,zb9 r (k+1) t]
  by_cases h1:t=k
  ·subst h1;simp
  ·rw[if_neg h1]
   by_cases h2:k+1≤t
   ·rw[if_pos h2,if_pos (by omega),show t-k=t-(k+1)+1 by omega,List.getElem?_cons_succ]
   ·rw[if_neg h2,if_neg (by omega)]
section
variable {J J':y4} {F:Nat→Prop} {w:World}
mutual
theorem J7:∀(d:D) (v:Value),Pure d→rep J F w d v→rep J' F w d v
 | .xP,v,_,_=>by simp only[rep]
 | .sc u,v,_,h=>by simpa only[rep] using h
 | .gv u,v,_,h=>by simpa only[rep] using h
 | .loc ..,v,hp,_=>by simp only[Pure] at hp
 | .elt ..,v,hp,_=>by simp only[Pure] at hp
 | .own ..,v,hp,_=>by simp only[Pure] at hp
 | .yO cs,v,hp,h=>by
  simp only[Pure] at hp
  simp only[rep] at h ⊢
  obtain⟨b,o,h1,h2,h3⟩:=h
  exact⟨b,o,h1,h2,JK b cs o hp h3⟩
 | .xl zK xs,v,hp,h=>by
  simp only[Pure] at hp
  simp only[rep] at h ⊢
  obtain⟨A,n,c,h1,h2,hc,h3⟩:=h
  exact⟨A,n,c,h1,h2,hc,h3.imp_right λ⟨b,o,h4,h5,h6⟩=>⟨b,o,h4,h5,zgN b zK xs o hp h6⟩⟩
 | .fn f a b,v,hp,h=>by
  simp only[Pure] at hp
  simp only[rep] at h ⊢
  obtain⟨vs,us,h1,h2,h3⟩:=h
  exact⟨vs,us,h1,Xz a vs hp.1 h2,Xz b us hp.2 h3⟩
 | .ifc t d,v,hp,h=>by
  simp only[Pure] at hp
  simp only[rep] at h ⊢
  obtain⟨u,h1,h2⟩:=h
  exact⟨u,h1,J7 d u hp h2⟩
 | .agg cs,v,hp,h=>by
  simp only[Pure] at hp
  simp only[rep] at h ⊢
  obtain⟨vs,h1,h2⟩:=h
  exact⟨vs,h1,Xz cs vs hp h2⟩
 | .yP cs,v,hp,h=>by
  simp only[Pure] at hp
  simp only[rep] at h ⊢
  obtain⟨vs,h1,h2⟩:=h
  exact⟨vs,h1,Xz cs vs hp h2⟩
theorem Xz:∀(d:List D) (v:List Value),zb d→yi J F w d v→yi J' F w d v
 | [],v,_,h=>by simpa only[yi] using h
 | d::r,v,hp,h=>by
  simp only[zb] at hp
  simp only[yi] at h ⊢
  obtain⟨u,us,h1,h2,h3⟩:=h
  exact⟨u,us,h1,J7 d u hp.1 h2,Xz r us hp.2 h3⟩
theorem JK (b:Nat):∀(d:List D) (o:Nat),zb d→zV J F w b d o→zV J' F w b d o
 | [],o,_,h=>by simp only[zV]
 | d::r,o,hp,h=>by
  simp only[zb] at hp
  simp only[zV] at h ⊢
  obtain⟨⟨u,h1,h2,h3⟩,h4⟩:=h
  exact⟨⟨u,h1,h2,J7 d u hp.1 h3⟩,JK b r (o+1) hp.2 h4⟩
theorem zgN (b zK:Nat):∀(d:List (List D)) (o:Nat),yJ d→yn J F w b zK d o→yn J' F w b zK d o
 | [],o,_,h=>by simp only[yn]
 | d::r,o,hp,h=>by
  simp only[yJ] at hp
  simp only[yn] at h ⊢
  exact⟨h.1,JK b d o hp.1 h.2.1,zgN b zK r (o+zK) hp.2 h.2.2⟩
end
end
def Y2 (tmps:Array Value):ResultVar→Sem Value
 | .tmp t=>pure (tmps.getD t undef)
 | .cell a t=>do loadVar t (←asAddr (tmps.getD a undef))
theorem zcg {t:TypeId} {a:Addr} {w:World} {v:Value} (h:(Instr.loadAt t (.pointer (some a))).run P w=.ok v w):(loadVar t a).run P w=.ok v w:=by
 simpa [Instr.loadAt,Instr.sureAddr] using h
theorem zb5 {J:y4} {F:Nat→Prop} {env:Env} {H:List zf} {a:Act} {w:World} (hr:vc n J F env H a w):∀(l:List ResultVar) (rs:List RV) (K':List D→Prop),zmM P l=some rs→qH env H rs K' →
  ∃ds vs,K' ds∧(l.mapM (Y2 a.tmps)).run P w=.ok vs w∧yi J F w ds vs
 | [],rs,K',hc,h=>by
  simp[zmM] at hc;subst hc
  exact⟨[],[],h,by simp[pure,Sem.run],by simp only[yi]⟩
 | r::l,rs,K',hc,h=>by
  simp only[zmM] at hc
  split at hc
  ·rename_i x y e1 e2
   cases hc
   have step:∀(d:D) (v:Value),(Y2 a.tmps r).run P w=.ok v w→rep J F w d v→qH env H y (λds=>K' (d::ds))→∃ds vs,K' ds∧((r::l).mapM (Y2 a.tmps)).run P w=.ok vs w∧yi J F w ds vs:=λd v q1 q2 q3=>by
    obtain⟨ds,vs,k1,k2,k3⟩:=zb5 hr l y _ e2 q3
    refine⟨d::ds,v::vs,k1,?_,by simp only[yi];exact⟨v,vs,rfl,q2,k3⟩⟩
    rw[List.mapM_cons]
    simp only[Sem.run_bind,q1,Result.andThen_ok,k2,pure,Sem.run]
   cases r with
   | tmp t =>
    simp[crv] at e1;subst e1
    simp only[qH,YU] at h
    exact step _ _ (by simp[Y2,pure,Sem.run]) (hr.tmps t) h
   | cell t ty =>
    simp only[crv] at e1
    have ptr:∀id off m cs,xW t env=.loc id off→H[id]? = some (.row m cs)→∃b o,a.tmps.getD t undef=.pointer (some ⟨b,o,none⟩)∧zV J F w b (cs.drop off) o:=λid off m cs q1 q2=>by
     have q3:=hr.tmps t
     rw[q1] at q3
     exact JI (P:=P) (env:=env) q2 J F w _ _ hr.ok (λ_ _=>rfl) q3
    split at e1
    ·rename_i hag
     cases e1
     simp only[qH,YU] at h
     split at h
     ·rename_i id off e3
      obtain⟨ob,h1,h2⟩:=(yQ _ _ _).1 h
      split at h2
      ·rename_i m cs
       obtain⟨h3,h4⟩:=(Yp _ _ _).1 h2
       obtain⟨h5,h6⟩:=(Ym _ _ _).1 h4
       obtain⟨b,o,p1,p2⟩:=ptr id off m cs e3 h1
       have p3:=WI p2 0 (P.cellsOf ty)
       simp only[List.drop_zero,Nat.add_zero] at p3
       obtain⟨vs,p4,p5,_⟩:=YA _ _ p3
       have hl:vs.length=P.cellsOf ty:=by rw[xB _ _ p4,List.length_take];omega
       refine step _ (.agg vs.toArray) ?_ (by simp only[rep];exact⟨vs,rfl,p4⟩) h6
       simp only[Y2,p1,asAddr,pure,Sem.run_bind,Sem.run,Result.andThen_ok]
       exact zcg (zax hag hl p5)
      ·exact h2.elim
     ·exact h.elim
    ·rename_i hag
     cases e1
     simp only[qH,YU] at h
     split at h
     ·rename_i id off e3
      obtain⟨ob,h1,h2⟩:=(yQ _ _ _).1 h
      split at h2
      ·rename_i m cs
       obtain⟨c,h3,h4⟩:=(YB _ _ _).1 h2
       obtain⟨b,o,p1,p2⟩:=ptr id off m cs e3 h1
       obtain⟨u,p3,_,p4⟩:=xE _ o 0 c (by rw[List.getElem?_drop];exact h3) p2
       refine step _ u ?_ p4 h4
       simp only[Y2,p1,asAddr,pure,Sem.run_bind,Sem.run,Result.andThen_ok]
       exact zcg (zaL hag (by simpa using p3))
      ·exact h2.elim
     ·exact h.elim
    ·cases e1
  ·cases hc
theorem Qf {fn:Func} {rs:List RV} (hrs:zmM P fn.results.toList=some rs) {J:y4} {F:Nat→Prop} {env:Env} {H:List zf} {a:Act} {w:World} (hr:vc n J F env H a w) {R:D→List zf→Prop} {e:Exit} (he:e=.normal∨e=.ret) (h:zwe rs R e env H) :
  ∃d v,R d H∧(results fn a.tmps).run P w=.ok v w∧rep J F w d v:=by
 have h':qH env H rs (λds=>match ds with
  | [d]=>R d H
  | ds=>R (.yP ds) H):=by rcases he with rfl|rfl<;>exact h
 obtain⟨ds,vs,k1,k2,k3⟩:=zb5 hr fn.results.toList rs _ hrs h'
 have run:(results fn a.tmps).run P w=.ok (if h:vs.length=1 then vs[0] else .tuple vs.toArray) w:=by
  have e1:(fn.results.mapM (Y2 a.tmps)).run P w=.ok vs.toArray w:=by
   rw[Array.mapM_eq_mapM_toList]
   simp[k2]
  have e3:results fn a.tmps=fn.results.mapM (Y2 a.tmps) >>= λvs=>pure (if h:vs.size=1 then vs[0] else .tuple vs):=by
   unfold results
   congr 1
  rw[e3,Sem.run_bind,e1]
  simp[pure,Sem.run]
 have hl:=xB _ _ k3
 match ds,k1,k3,hl with
 | [d],k1,k3,hl =>
  simp only[yi] at k3
  obtain⟨v,us,rfl,q1,rfl⟩:=k3
  exact⟨d,v,k1,by rw[run];simp,q1⟩
 | [],k1,k3,hl =>
  refine⟨.yP [],_,k1,run,?_⟩
  have:vs=[]:=List.length_eq_zero_iff.1 hl
  subst this
  simp only[rep]
  exact⟨[],by simp,k3⟩
 | d::d'::r,k1,k3,hl =>
  refine⟨.yP (d::d'::r),_,k1,run,?_⟩
  simp only[List.length_cons] at hl
  rw[dif_neg (by omega)]
  simp only[rep]
  exact⟨vs,rfl,k3⟩
theorem zbs {J:y4} {F:Nat→Prop} {w:World} {args:List D} {vs:List Value} {H:List zf} (hn:args.length≤n) (h:yi J F w args vs) (hok:y5 J F w (λi=>H[i]?)) (hd:∀id,J id≠none→id<H.length) :
  vc n J F (params 0 args) H ⟨vs.toArray++Array.replicate (n-vs.toArray.size) undef,[]⟩ w where
 defers:=rfl
 size:=by simp[xB _ _ h];omega
 tmps t:=by
  rw[zb9]
  simp only[Nat.zero_le,if_true,Nat.sub_zero]
  have hl:=xB _ _ h
  cases e:args[t]? with
  | none=>simp only[Option.getD_none,rep]
  | some d =>
   obtain⟨v,h1,h2⟩:=vO _ _ _ _ e h
   have ht:t<vs.length:=by
    rcases Nat.lt_or_ge t vs.length with h|h
    ·exact h
    ·rw[List.getElem?_eq_none h] at h1;cases h1
   simp only[Option.getD_some,Array.getD_eq_getD_getElem?]
   rw[Array.getElem?_append_left (by simpa using ht)]
   simp[h1,h2]
 ok:=hok
 dom:=hd
theorem zfp {f:FuncId} {rs:List RV} {p:PC} (hf:zv P f n rs p):zd5 P f:=by
 obtain⟨fn,h1,_,h3,_,h5⟩:=hf.out
 refine⟨fn,h1,h3,?_⟩
 cases e:fn.body with
 | none=>rw[e] at h5;cases h5
 | some c=>rfl
theorem zqg {F:Nat→Prop} {w:World} (h:FOK F w) (G:Nat→Option zf):y5 ua F w G:=⟨(λ_ _ h=>by cases h),(λ_ _ _ _ _ h=>by cases h),(λ_ _ _ _ h=>by cases h),h⟩
theorem za {f:FuncId} {rs:List RV} {p:PC} {args:List D} {d:D} (hf:zv P f n rs p) (hn:args.length≤n) (hp:zb args)
  (h:PWp P n p (zwe rs λr H=>Deep H r d) (params 0 args) []) (hd:Pure d):zn P f args d:=by
 refine⟨zfp hf,λJ F w vs hF hargs=>?_⟩
 obtain⟨fn,h1,h2,h3,h4,h5⟩:=hf.out
 have hargs':yi ua F w args vs:=Xz args vs hp hargs
 cases e:fn.body with
 | none=>rw[e] at h5;cases h5
 | some c =>
  rw[e] at h5
  simp only[Option.bind_some] at h5
  refine calls_of_wp h1 e ?_
  rw[h2]
  refine wp_mono (qx h h5 (zbs hn hargs' (zqg hF _) (λid hid=>absurd rfl hid))) λe' a' w' ⟨env',H',J',F',q1,q2,q3⟩=>?_
  have fin:e'=.normal∨e'=.ret→a'.defers=[]∧∃v,(results fn a'.tmps).run P w'=.ok v w'∧∃v' F'',Ending.returned v=Ending.returned v'∧(∀b,F'' b→b<w'.heap.size)∧rep ua F'' w' d v'∧Ext ua F w ua F'' w':=λhe=>by
   obtain⟨r,v,k1,k2,k3⟩:=Qf h4 q2 he q1
   refine⟨q2.defers,v,k2,v,λb=>F' b∨ZG J' b,rfl,λb hb=>hb.elim (q2.ok.lt b) λ⟨i,s,hi,hs⟩=>q2.ok.xx hi hs,J7 d v hd (VM q2.ok (λ_ _ h=>h) _ _ _ k1 k3),?_⟩
   exact⟨q3.os,q3.tape,q3.output,q3.size,q3.block,q3.frozen,y4.le_refl _,λb hb=>.inl (q3.grow b hb),λb hb=>absurd hb (ZR b),λb hb=>by
    rcases hb with hb|hb
    ·exact q3.wG b hb
    ·exact .inr ((q3.wh b hb).imp_left λq=>absurd q (ZR b))⟩
  cases e' with
  | normal=>exact fin (.inl rfl)
  | ret=>exact fin (.inr rfl)
  | exit id=>exact q1.elim
  | goto l=>exact q1.elim
  | panic ch=>exact q1.elim
  | outgrown=>exact q1.elim
end
end
section
open Go.RowKit
section
variable {P:Program} {n:Nat}
theorem zS {f:FuncId} {rs:List RV} {p:PC} {args:List D} {H:List zf} {d:D} {H2:List zf} (hf:zv P f n rs p) (hn:args.length≤n) (hlen:H.length≤H2.length)
  (h:PWp P n p (zwe rs λr Hf=>r=d∧Hf.take H2.length=H2∧H2.length≤Hf.length) (params 0 args) H) (hd:zt H2.length d) (hH:∀o∈H2,o.under H2.length):yr P f args H d H2:=by
 refine⟨zfp hf,hlen,λJ F w vs hok hdom hargs=>?_⟩
 obtain⟨fn,h1,h2,h3,h4,h5⟩:=hf.out
 cases e:fn.body with
 | none=>rw[e] at h5;cases h5
 | some c =>
  rw[e] at h5
  simp only[Option.bind_some] at h5
  refine calls_of_wp h1 e ?_
  rw[h2]
  refine wp_mono (qx h h5 (zbs hn hargs hok hdom)) λe' a' w' ⟨env',H',J',F',q1,q2,q3⟩=>?_
  have fin:e'=.normal∨e'=.ret→a'.defers=[]∧∃v,(results fn a'.tmps).run P w'=.ok v w'∧∃v' J'' F'',Ending.returned v=Ending.returned v'∧y5 J'' F'' w' (λi=>H2[i]?)∧(∀id,J'' id≠none→id<H2.length)∧rep J'' F'' w' d v'∧Ext J F w J'' F'' w':=λhe=>by
   obtain⟨r,v,⟨rfl,k1,k1'⟩,k2,k3⟩:=Qf h4 q2 he q1
   have hget:∀i,i<H2.length→H2[i]? = H'[i]?:=λi hi=>by
    conv=>lhs;rw[←k1]
    rw[List.getElem?_take,if_pos hi]
   have kle:(yv H2.length J').le J':=λi s hs=>by
    unfold yv at hs
    split at hs
    ·exact⟨s,hs,Nat.le_refl _,λ_=>rfl⟩
    ·cases hs
   refine⟨q2.defers,v,k2,v,yv H2.length J',F',rfl,⟨λi s hs=>?_,λi i' s s' b g1 g2 g3 g4=>?_,λi s b o g1 g2 g3 g4=>?_,q2.ok.lt⟩,λi hi=>?_,WN _ _ hd k3,?_⟩
   ·unfold yv at hs
    split at hs
    ·rename_i hi
     obtain⟨o,g1,g2⟩:=q2.ok.obj i s hs
     have g1':H2[i]? = some o:=by rw[hget i hi];exact g1
     exact⟨o,g1',JS (hH o (List.mem_of_getElem? g1')) g2⟩
    ·cases hs
   ·unfold yv at g1 g2
    split at g1<;>split at g2
    ·exact q2.ok.one i i' s s' b g1 g2 g3 g4
    all_goals first|cases g1|cases g2
   ·unfold yv at g1
    split at g1
    ·rename_i hi
     exact q2.ok.apart i s b o g1 g2 (by rw[←hget i hi];exact g3) g4
    ·cases g1
   ·unfold yv at hi
    split at hi
    ·assumption
    ·exact absurd rfl hi
   ·refine⟨q3.os,q3.tape,q3.output,q3.size,q3.block,q3.frozen,λi s hs=>?_,q3.grow,λb ⟨i,s,hs,hb⟩=>?_,q3.wG⟩
    ·obtain⟨s',g1,g2,g3⟩:=q3.le i s hs
     have hi:i<H2.length:=by have:=hdom i (by rw[hs];simp);omega
     exact⟨s',by simp[yv,hi,g1],g2,g3⟩
    ·obtain⟨s',g1,_⟩:=kle i s hs
     unfold yv at hs
     split at hs
     ·exact q3.wh b ⟨i,s,hs,hb⟩
     ·cases hs
  cases e' with
  | normal=>exact fin (.inl rfl)
  | ret=>exact fin (.inr rfl)
  | exit id=>exact q1.elim
  | goto l=>exact q1.elim
  | panic ch=>exact q1.elim
  | outgrown=>exact q1.elim
end
end
section
open Go.RowKit
mutual
inductive ym (S:Nat→Bool) (H:List zf):D→D→Prop
 | refl (d:D):ym S H d d
 | xP (d:D):ym S H d .xP
 | none (zK:Nat):ym S H (.sc (.slice none 0 0)) (.xl zK [])
 | loc (id off:Nat) (q:Bool) (cs ds:List D) (hm:S id=true) (h:H[id]? = some (.row q cs)) (k:zX S H (cs.drop off) ds):ym S H (.loc id off) (.yO ds)
 | own (id z7 lo hi zK:Nat) (q:Bool) (xs ys:List (List D)) (hm:S id=true) (h:H[id]? = some (.vec q z7 zK xs)) (k:zN S H ((xs.take hi).drop lo) ys):ym S H (.own id z7 lo hi) (.xl zK ys)
 | fn (f:Fn) (a b c e:List D) (h:zX S H a b) (k:zX S H c e):ym S H (.fn f a c) (.fn f b e)
 | ifc (t:TypeId) (d e:D) (h:ym S H d e):ym S H (.ifc t d) (.ifc t e)
 | agg (a b:List D) (h:zX S H a b):ym S H (.agg a) (.agg b)
 | yP (a b:List D) (h:zX S H a b):ym S H (.yP a) (.yP b)
inductive zX (S:Nat→Bool) (H:List zf):List D→List D→Prop
 | refl (l:List D):zX S H l l
 | cons (d e:D) (a b:List D) (h:ym S H d e) (k:zX S H a b):zX S H (d::a) (e::b)
inductive zN (S:Nat→Bool) (H:List zf):List (List D)→List (List D)→Prop
 | refl (l:List (List D)):zN S H l l
 | cons (x y:List D) (a b:List (List D)) (h:zX S H x y) (k:zN S H a b):zN S H (x::a) (y::b)
 | append (x y a b:List (List D)) (h:zN S H x y) (k:zN S H a b):zN S H (x++a) (y++b)
end
def YT (S:Nat→Bool) (J:y4) (b:Nat):Prop:=∃id s,S id=true∧J id=some s∧s.qa=some b
section
variable {J:y4} {F:Nat→Prop} {w:World} {H:List zf} {S:Nat→Bool}
mutual
theorem VF:∀(d e:List D),zX S H d e→d.length=e.length
 | _,_,.refl _=>rfl
 | _,_,.cons d e a b _ k=>by simp[VF a b k]
theorem uU:∀(d e:List (List D)),zN S H d e→d.length=e.length
 | _,_,.refl _=>rfl
 | _,_,.cons d e a b _ k=>by simp[uU a b k]
 | _,_,.append x y a b h k=>by simp[uU x y h,uU a b k]
end
theorem zcc {b zK:Nat}:∀(xs ys:List (List D)) (o:Nat),yn J F w b zK (xs++ys) o↔yn J F w b zK xs o∧yn J F w b zK ys (o+xs.length*zK)
 | [],ys,o=>by simp[yn]
 | x::r,ys,o=>by
  simp only[List.cons_append,yn,zcc r ys,List.length_cons,and_assoc]
  rw[show o+zK+r.length*zK=o+(r.length+1)*zK by rw[Nat.add_mul];omega]
mutual
theorem Zw (hok:y5 J F w (λi=>H[i]?)):∀(d e:D) (v:Value),ym S H d e→rep J F w d v→rep J (λb=>F b∨YT S J b) w e v
 | d,_,v,.refl _,h=>yX (y4.le_refl J) (λ_ h=>.inl h) (λ_ _=>rfl) d v h
 | _,_,v,.xP _,_=>by simp only[rep]
 | _,_,v,.none zK,h=>by
  simp only[rep] at h ⊢
  exact⟨none,0,0,h,rfl,Nat.le_refl _,.inl rfl⟩
 | _,_,v,.loc id off q cs ds hm h k,hv=>by
  simp only[rep] at hv ⊢
  obtain⟨s,b,h1,h2,h3,rfl⟩:=hv
  have hc:=qN (ztj hok h1 h3 h) off
  refine⟨b,off,rfl,.inr ⟨id,s,hm,h1,by simp[Site.qa,h2,h3]⟩,?_⟩
  rw[Nat.zero_add] at hc
  exact vL hok _ _ b off k hc
 | _,_,v,.own id z7 lo hi zK q xs ys hm h k,hv=>by
  simp only[rep] at hv ⊢
  obtain⟨s,A,n,c,h1,rfl,h2,h3⟩:=hv
  obtain⟨p1,p2,p3,p4,p5,p6⟩:=Q5 hok h1 h
  obtain⟨t1,t2,t3,rfl,rfl,t6⟩:=h3 p2.symm
  have hl:ys.length=hi-lo:=by
   rw[←uU _ _ k];simp;omega
  refine⟨A,_,_,rfl,hl.symm,by omega,?_⟩
  rcases t6 with t6|⟨b,o,t6,rfl⟩
  ·exact .inl (by omega)
  ·rcases p6 with p6|⟨b',o',vals,te,e,q1,q2,q3,q4⟩
   ·exact .inl (by omega)
   ·rw[t6] at e;cases e
    by_cases hz:s.cap=0
    ·exact .inl (by omega)
    ·refine .inr ⟨b,_,rfl,.inr ⟨id,s,hm,h1,by simp[Site.qa,hz,t6]⟩,?_⟩
     rw[p3]
     exact vh hok _ _ b zK _ k (uh q3 lo hi)
 | _,_,v,.fn f a b c e h k,hv=>by
  simp only[rep] at hv ⊢
  obtain⟨vs,us,rfl,h2,h3⟩:=hv
  exact⟨vs,us,rfl,ZY hok _ _ vs h h2,ZY hok _ _ us k h3⟩
 | _,_,v,.ifc t d e h,hv=>by
  simp only[rep] at hv ⊢
  obtain⟨u,rfl,h2⟩:=hv
  exact⟨u,rfl,Zw hok _ _ u h h2⟩
 | _,_,v,.agg a b h,hv=>by
  simp only[rep] at hv ⊢
  obtain⟨vs,rfl,h2⟩:=hv
  exact⟨vs,rfl,ZY hok _ _ vs h h2⟩
 | _,_,v,.yP a b h,hv=>by
  simp only[rep] at hv ⊢
  obtain⟨vs,rfl,h2⟩:=hv
  exact⟨vs,rfl,ZY hok _ _ vs h h2⟩
theorem ZY (hok:y5 J F w (λi=>H[i]?)):∀(d e:List D) (v:List Value),zX S H d e→yi J F w d v→yi J (λb=>F b∨YT S J b) w e v
 | d,_,v,.refl _,h=>Yf (y4.le_refl J) (λ_ h=>.inl h) (λ_ _=>rfl) d v h
 | _,_,v,.cons d e a b h k,hv=>by
  simp only[yi] at hv ⊢
  obtain⟨u,us,rfl,h2,h3⟩:=hv
  exact⟨u,us,rfl,Zw hok _ _ u h h2,ZY hok _ _ us k h3⟩
theorem vL (hok:y5 J F w (λi=>H[i]?)):∀(d e:List D) (b o:Nat),zX S H d e→zV J F w b d o→zV J (λb=>F b∨YT S J b) w b e o
 | d,_,b,o,.refl _,h=>qL (y4.le_refl J) (λ_ h=>.inl h) (λ_ _=>rfl) b (λ_=>rfl) d o h
 | _,_,b,o,.cons d e x y h k,hv=>by
  simp only[zV] at hv ⊢
  obtain⟨⟨u,h1,h2,h3⟩,h4⟩:=hv
  exact⟨⟨u,h1,h2,Zw hok _ _ u h h3⟩,vL hok _ _ b (o+1) k h4⟩
theorem vh (hok:y5 J F w (λi=>H[i]?)):∀(d e:List (List D)) (b zK o:Nat),zN S H d e→yn J F w b zK d o→yn J (λb=>F b∨YT S J b) w b zK e o
 | d,_,b,zK,o,.refl _,h=>Xm (y4.le_refl J) (λ_ h=>.inl h) (λ_ _=>rfl) b zK (λ_=>rfl) d o h
 | _,_,b,zK,o,.cons d e x y h k,hv=>by
  simp only[yn] at hv ⊢
  obtain⟨h1,h2,h3⟩:=hv
  exact⟨by rw[←VF _ _ h];exact h1,vL hok _ _ b o h h2,vh hok _ _ b zK (o+zK) k h3⟩
 | _,_,b,zK,o,.append x y a c h k,hv=>by
  rw[zcc] at hv ⊢
  refine⟨vh hok _ _ b zK o h hv.1,?_⟩
  rw[←uU _ _ h]
  exact vh hok _ _ b zK _ k hv.2
end
end
def X8 (m:Nat):Nat→Bool:=λi=>Nat.ble m i
theorem zhm {m i:Nat}:X8 m i=true↔m≤i:=by simp[X8]
def St.leB (L n:Nat) (env:Env) (H:List zf) (env':Env) (H':List zf):Prop:=∀J F a w,vc n J F env H a w→∃J' F',vc n J' F' env' H' a w∧(∀i s,i<L→J i=some s→J' i=some s)∧(∀b,F b→F' b)∧(∀b,ZG J' b→ZG J b)∧∀b,F' b→F b∨ZG J b
theorem za1 {L n:Nat} {env env':Env} {H:List zf} (h:V9 env env'):St.leB L n env H env' H:=λJ F a w hr =>
 ⟨J,F,⟨hr.defers,hr.size,λt=>by
  rcases JX env' h t with e|e
  ·rw[e];exact hr.tmps t
  ·rw[e];simp only[rep],hr.ok,hr.dom⟩,λ_ _ _ h=>h,λ_ h=>h,λ_ h=>h,λ_ h=>.inl h⟩
theorem wZ {L n:Nat} {env env' env'':Env} {H H' H'':List zf} (h:St.leB L n env H env' H') (k:St.leB L n env' H' env'' H''):St.leB L n env H env'' H'':=λJ F a w hr=>by
 obtain⟨J',F',h1,h2,h3,h4,h5⟩:=h J F a w hr
 obtain⟨J'',F'',k1,k2,k3,k4,k5⟩:=k J' F' a w h1
 exact⟨J'',F'',k1,λi s q1 q2=>k2 i s q1 (h2 i s q1 q2),λb hb=>k3 b (h3 b hb),λb hb=>h4 b (k4 b hb),λb hb=>(k5 b hb).elim (h5 b) λq=>.inr (h4 b q)⟩
def ziB (m:Nat) (H:List zf) (env:Env):Env→Prop
 | []=>True
 | (t,d)::r=>ym (X8 m) H (xW t env) d∧zt m d∧ziB m H env r
def zlD (m:Nat) (H:List zf):zf→zf→Prop
 | .row q cs,.row q' cs'=>q=q'∧zX (X8 m) H cs cs'∧zl m cs'
 | .vec q v e xs,.vec q' v' e' xs'=>q=q'∧v=v'∧e=e'∧zN (X8 m) H xs xs'∧zF m xs'
 | .wg q I,.wg q' I'=>q=q'∧I=I'
 | _,_=>False
def WL (m:Nat) (H:List zf):List zf→List zf→Prop
 | _,[]=>True
 | o::r,o'::r'=>zlD m H o o'∧WL m H r r'
 | [],_::_=>False
theorem zb8 {m:Nat} {H:List zf} {env:Env}:∀(env':Env),ziB m H env env'→∀t,(ym (X8 m) H (xW t env) (xW t env')∧zt m (xW t env'))∨xW t env'=.xP
 | [],_,t=>.inr rfl
 | (k,d)::r,h,t=>by
  simp only[ziB] at h
  rw[Zc]
  split
  ·rename_i e;subst e;exact .inl ⟨h.1,h.2.1⟩
  ·exact zb8 r h.2.2 t
theorem XM {m:Nat} {H:List zf}:∀(l l':List zf),WL m H l l'→∀i (o:zf),i<l'.length→l[i]? = some o→∃o',l'[i]? = some o'∧zlD m H o o'
 | _,[],_,i,o,hi,_=>by simp at hi
 | [],_::_,h,i,o,hi,_=>by simp only[WL] at h
 | o::r,o'::r',h,0,x,_,hx=>by
  simp at hx;subst hx
  exact⟨o',rfl,h.1⟩
 | o::r,o'::r',h,i+1,x,hi,hx=>by
  simpa using XM r r' h.2 i x (by simpa using hi) (by simpa using hx)
theorem QU {J:y4} {F:Nat→Prop} {w:World} {H:List zf} {m:Nat} (hok:y5 J F w (λi=>H[i]?)) {s:Site} {o o':zf} (h:zlD m H o o') (k:YV J F w s o):YV (yv m J) (λb=>F b∨YT (X8 m) J b) w s o'∧o'.mut=o.mut:=by
 cases o with
 | row q cs =>
  cases o' with
  | vec=>exact h.elim
  | wg=>exact h.elim
  | row q' cs' =>
   obtain⟨rfl,h1,h2⟩:=h
   obtain⟨k1,k2,k3,k4,k5,b,vals,te,t1,t2,t3,t4,t5⟩:=k
   have hl:=VF _ _ h1
   exact⟨⟨k1,k2,k3,by rw[←hl];exact k4,by rw[←hl];exact k5,b,vals,te,t1,t2,by rw[←hl];exact t3,qK b cs' 0 h2 (vL hok _ _ b 0 h1 t4),λe=>.inl (t5 e)⟩,rfl⟩
 | vec q v e xs =>
  cases o' with
  | row=>exact h.elim
  | wg=>exact h.elim
  | vec q' v' e' xs' =>
   obtain⟨rfl,rfl,rfl,h1,h2⟩:=h
   obtain⟨k1,k2,k3,k4,k5,k6⟩:=k
   have hl:=uU _ _ h1
   exact⟨⟨k1,k2,k3,by rw[←hl];exact k4,k5,k6.imp_right λ⟨b,o,vals,te,t1,t2,t3,t4,t5⟩=>⟨b,o,vals,te,t1,t2,t3,Xp b e xs' o h2 (vh hok _ _ b e o h1 t4),λe=>.inl (t5 e)⟩⟩,rfl⟩
 | wg q I =>
  cases o' with
  | row=>exact h.elim
  | vec=>exact h.elim
  | wg q' I' =>
   obtain⟨rfl,rfl⟩:=h
   exact⟨k,rfl⟩
theorem zm {L n:Nat} (m:Nat) {env env':Env} {H H':List zf} (hL:L≤m) (hm:H'.length=m) (hE:ziB m H env env') (hH:WL m H H H'):St.leB L n env H env' H':=λJ F a w hr=>by
 refine⟨yv m J,λb=>F b∨YT (X8 m) J b,⟨hr.defers,hr.size,λt=>?_,⟨λi s hs=>?_,λi i' s s' b g1 g2 g3 g4=>?_,λi s b o g1 g2 g3 g4=>?_,hr.ok.lt.mono (λ_ h=>.inl h) (λ_ _=>rfl) λb hb=>?_⟩,λi hi=>?_⟩,λi s hi hs=>?_,λb hb=>.inl hb,λb ⟨i,s,hs,hb⟩=>?_,λb hb=>hb.imp_right λ⟨i,s,_,h1,h2⟩=>⟨i,s,h1,h2⟩⟩
 ·rcases zb8 env' hE t with⟨h1,h2⟩|e
  ·exact WN _ _ h2 (Zw hr.ok _ _ _ h1 (hr.tmps t))
  ·rw[e];simp only[rep]
 ·unfold yv at hs
  split at hs
  ·rename_i hi
   obtain⟨o,h1,h2⟩:=hr.ok.obj i s hs
   obtain⟨o',h3,h4⟩:=XM H H' hH i o (by omega) h1
   exact⟨o',h3,(QU hr.ok h4 h2).1⟩
  ·cases hs
 ·unfold yv at g1 g2
  split at g1<;>split at g2
  ·exact hr.ok.one i i' s s' b g1 g2 g3 g4
  all_goals first|cases g1|cases g2
 ·unfold yv at g1
  split at g1
  ·rename_i hi
   obtain⟨o1,h1,h2⟩:=hr.ok.obj i s g1
   obtain⟨o',h3,h4⟩:=XM H H' hH i o1 (by omega) h1
   have h3':H'[i]? = some o:=g3
   rw[h3'] at h3
   cases h3
   have hmut:=(QU hr.ok h4 h2).2
   rintro(hx|⟨i',s',p1,p2,p3⟩)
   ·exact hr.ok.apart i s b o1 g1 g2 h1 (by rw[←hmut];exact g4) hx
   ·have p1:=zhm.1 p1
    have:=hr.ok.one i i' s s' b g1 p2 g2 p3
    omega
  ·cases g1
 ·exact hb.elim (hr.ok.lt b) λ⟨i,s,_,h1,h2⟩=>hr.ok.xx h1 h2
 ·unfold yv at hi
  split at hi
  ·omega
  ·exact absurd rfl hi
 ·unfold yv;rw[if_pos (by omega)];exact hs
 ·unfold yv at hs
  split at hs
  ·exact⟨i,s,hs,hb⟩
  ·cases hs
theorem ziP {L n:Nat} (t zK z7:Nat) {env:Env} {H:List zf} (hL:L≤H.length) (h:xW t env=.sc (.slice none 0 0)):St.leB L n env H ((t,.own H.length z7 0 0)::env) (H++[.vec true z7 zK []]):=λJ F a w hr=>by
 have hfree:J H.length=none:=by
  cases e:J H.length with
  | none=>rfl
  | some s=>have:=hr.dom H.length (by rw[e];simp);omega
 let J':y4:=λi=>if i=H.length then some ⟨false,z7,none,zK,0,0⟩ else J i
 have hle:J.le J':=λi s hs=>⟨s,by
  have:i≠H.length:=λe=>by subst e;rw[hfree] at hs;cases hs
  simp[J',this,hs],Nat.le_refl _,λ_=>rfl⟩
 have hget:∀i,i≠H.length→(H++[zf.vec true z7 zK []])[i]? = H[i]?:=λi hi=>by
  rcases Nat.lt_or_ge i H.length with q|q
  ·rw[List.getElem?_append_left q]
  ·rw[List.getElem?_eq_none q,List.getElem?_eq_none (by simp;omega)]
 refine⟨J',F,⟨hr.defers,hr.size,λu=>?_,⟨λi s hs=>?_,λi i' s s' b g1 g2 g3 g4=>?_,λi s b o g1 g2 g3 g4=>?_,hr.ok.lt⟩,λi hi=>?_⟩,λi s hi hs=>?_,λb hb=>hb,λb ⟨i,s,hs,hb⟩=>?_,λb hb=>.inl hb⟩
 ·rw[Zc]
  split
  ·rename_i e;subst e
   have:=hr.tmps u
   rw[h] at this
   simp only[rep] at this ⊢
   exact⟨_,none,0,0,by simp[J'];rfl,this,Nat.le_refl _,λ_=>⟨rfl,Nat.le_refl _,Nat.zero_le _,rfl,rfl,.inl rfl⟩⟩
  ·exact yX hle (λ_ h=>h) (λ_ _=>rfl) _ _ (hr.tmps u)
 ·simp only[J'] at hs
  split at hs
  ·rename_i e;subst e
   cases hs
   exact⟨.vec true z7 zK [],by simp,rfl,rfl,rfl,rfl,Nat.le_refl _,.inl rfl⟩
  ·rename_i e
   obtain⟨o,h1,h2⟩:=hr.ok.obj i s hs
   exact⟨o,by rw[hget i e];exact h1,xZ hle (λ_ h=>h) (λ_ _=>rfl) (λ_ _=>rfl) h2⟩
 ·simp only[J'] at g1 g2
  split at g1
  ·cases g1;simp[Site.qa] at g3
  ·split at g2
   ·cases g2;simp[Site.qa] at g4
   ·exact hr.ok.one i i' s s' b g1 g2 g3 g4
 ·simp only[J'] at g1
  split at g1
  ·cases g1;simp[Site.qa] at g2
  ·rename_i e
   exact hr.ok.apart i s b o g1 g2 (by rw[←hget i e];exact g3) g4
 ·simp only[J'] at hi
  rw[List.length_append,List.length_singleton]
  split at hi
  ·omega
  ·have:=hr.dom i hi;omega
 ·have:i≠H.length:=by omega
  simp[J',this,hs]
 ·simp only[J'] at hs
  split at hs
  ·cases hs;simp[Site.qa] at hb
  ·exact⟨i,s,hs,hb⟩
theorem xw {L n:Nat} (t zK:Nat) {env:Env} {H:List zf} (hL:L≤H.length) (h:xW t env=.sc (.slice none 0 0)):St.leB L n env H ((t,.own H.length 0 0 0)::env) (H++[.vec true 0 zK []]):=ziP t zK 0 hL h
section
variable {P:Program} {n:Nat}
def zlp {ι:Type} (L n:Nat) (Q:qE) (E:ι→Env) (O:ι→List zf) (G:ι→Prop) (m:ι→Nat) (k:Nat):qE
 | .normal,env,H=>∃j,G j∧m j<k∧St.leB L n env H (E j) (O j)
 | e,env,H=>Q e env H
theorem zcU {L:Nat} {J J1 J2:y4} {F F1 F2:Nat→Prop} {w w1:World} (hd:∀id,J id≠none→id<L) (h:Ext J F w J1 F1 w1) (k1:∀i s,i<L→J1 i=some s→J2 i=some s) (k2:∀b,F1 b→F2 b) (k3:∀b,ZG J2 b→ZG J1 b) (k4:∀b,F2 b→F1 b∨ZG J1 b):Ext J F w J2 F2 w1 :=
 ⟨h.os,h.tape,h.output,h.size,h.block,h.frozen,λi s hs=>by
  obtain⟨s',g1,g2⟩:=h.le i s hs
  exact⟨s',k1 i s' (hd i (by rw[hs];simp)) g1,g2⟩,λb hb=>k2 b (h.grow b hb),λb hb=>h.wh b (k3 b hb),λb hb=>by
  rcases k4 b hb with q|q
  ·exact h.wG b q
  ·rcases h.wh b q with q|q
   ·exact .inr (.inl q)
   ·exact .inr (.inr q)⟩
theorem Ve {p:PC} {Q:qE} {env:Env} {H:List zf} {ι:Type} (E:ι→Env) (O:ι→List zf) (G:ι→Prop) (m:ι→Nat) (i:ι) (h0:G i) (h1:St.leB H.length n env H (E i) (O i))
  (round:∀j,G j→PWp P n p (zlp H.length n Q E O G m (m j)) (E j) (O j)):PWp P n (.loop p) Q env H:=Xa λc hc J F a w hr=>by
 obtain⟨c',rfl,hc'⟩:=zgI hc
 obtain⟨J0,F0,k1,k2,k3,k4,k5⟩:=h1 J F a w hr
 have k6:Ext J F w J0 F0 w:=zcU hr.dom (Ext.refl J F w) k2 k3 k4 k5
 refine wp_loop_ghost (λk a' w'=>∃j J' F',G j∧m j=k∧vc n J' F' (E j) (O j) a' w'∧Ext J F w J' F' w') (m i) ⟨i,J0,F0,h0,rfl,k1,k6⟩ λk a1 w1 ⟨j,J1,F1,g1,g2,g3,g4⟩=>?_
 refine wp_mono (qx (round j g1) hc' g3) λe a2 w2 ⟨env',H',J',F',q1,q2,q3⟩=>?_
 cases e with
 | normal =>
  obtain⟨j',r1,r2,r3⟩:=q1
  obtain⟨J2,F2,t1,t2,t3,t4,t5⟩:=r3 J' F' a2 w2 q2
  exact⟨m j',by omega,j',J2,F2,r1,rfl,t1,zcU hr.dom (g4.trans q3) t2 t3 t4 t5⟩
 | _=>exact⟨env',H',J',F',q1,q2,g4.trans q3⟩
def zug (P:Program) (n:Nat) (c:PC) (Q:qE):Nat→qE
 | 0,e,env,H=>match e with
  | .normal=>False
  | e=>Q e env H
 | k+1,e,env,H=>match e with
  | .normal=>PWp P n c (zug P n c Q k) env H
  | e=>Q e env H
theorem zH {p:PC} {Q:qE} {env env':Env} {H H':List zf} (h:St.leB H.length n env H env' H') (k:PWp P n p Q env' H'):PWp P n p Q env H :=
 Xa λc hc J F a w hr=>by
  obtain⟨J',F',h1,h2,h3,h4,h5⟩:=h J F a w hr
  exact wp_mono (qx k hc h1) λe a' w' q=>zdE (zcU hr.dom (Ext.refl J F w) h2 h3 h4 h5) q
end
section
variable {P:Program}
end
end
section
open Go.RowKit
section
variable {P:Program} {f:FuncId}
theorem zck {args:List D} {H0 H0' H H':List zf} {d:D} (ρ:Nat→Nat) (hA:yr P f args H0 d H0') (inj:∀i j,i<H0'.length→j<H0'.length→ρ i=ρ j→i=j) (hold:∀i o,H0[i]? = some o→H[ρ i]? = some (o.yG ρ))
  (hnew:∀i,H0.length≤i→i<H0'.length→H.length≤ρ i) (hlen:H.length≤H'.length) (h1:∀i o,H0'[i]? = some o→H'[ρ i]? = some (o.yG ρ)) (h2:∀j,j<H.length→(∀i,i<H0.length→ρ i≠j)→H'[j]? = H[j]?)
  (hargs:zl H0.length args) (hobj:∀o∈H0,o.under H0.length):yr P f (yE ρ args) H (D.yG ρ d) H':=by
 obtain⟨hok,hl0,hrun⟩:=hA
 refine⟨hok,hlen,λJ F w vs hst hdom hrep=>?_⟩
 have h0get:∀i,i<H0.length→H0[i]? = some (H0[i]!):=λi hi=>by rw[List.getElem!_eq_getElem?_getD,List.getElem?_eq_getElem hi];rfl
 have hst0:y5 (yv H0.length λi=>J (ρ i)) F w (λi=>H0[i]?):=by
  refine⟨λi s hs=>?_,λi i' s s' b g1 g2 g3 g4=>?_,λi s b o g1 g2 g3 g4=>?_,hst.lt⟩
  ·unfold yv at hs
   split at hs
   ·rename_i hi
    have ho:=h0get i hi
    refine⟨_,ho,JS (hobj _ (List.mem_of_getElem? ho)) (Qz.2 ?_)⟩
    obtain⟨o',q1,q2⟩:=hst.obj (ρ i) s hs
    have q1':H[ρ i]? = some o':=q1
    rw[hold i _ ho] at q1'
    cases q1'
    exact q2
   ·cases hs
  ·unfold yv at g1 g2
   split at g1<;>split at g2
   ·exact inj i i' (by omega) (by omega) (hst.one (ρ i) (ρ i') s s' b g1 g2 g3 g4)
   all_goals first|cases g1|cases g2
  ·unfold yv at g1
   split at g1
   ·exact hst.apart (ρ i) s b (o.yG ρ) g1 g2 (hold i o g3) (by rw[zcT];exact g4)
   ·cases g1
 have hd0:∀id,yv H0.length (λi=>J (ρ i)) id≠none→id<H0.length:=λid hid=>by
  unfold yv at hid
  split at hid
  ·assumption
  ·exact absurd rfl hid
 have hr0:yi (yv H0.length λi=>J (ρ i)) F w args vs:=Yz _ _ hargs ((uv args vs).2 hrep)
 have own0:∀b,ZG (yv H0.length λi=>J (ρ i)) b→∃i s,i<H0.length∧J (ρ i)=some s∧s.qa=some b:=λb ⟨i,s,hs,hb⟩=>by
  unfold yv at hs
  split at hs
  ·exact⟨i,s,by assumption,hs,hb⟩
  ·cases hs
 have main:=hrun _ F w vs hst0 hd0 hr0
 refine Calls.mono main λe w' ⟨v,J0',F',he,st',dom',rp',ex⟩=>?_
 let J':y4:=λid=>match back ρ H0'.length id with|some i=>J0' i|none=>J id
 have jat:∀i,i<H0'.length→J' (ρ i)=J0' i:=λi hi=>by simp only[J',zn1 inj hi]
 have jno:∀id,back ρ H0'.length id=none→J' id=J id:=λid h=>by simp only[J',h]
 have hle:J.le J':=λid s hs=>by
  cases e:back ρ H0'.length id with
  | none=>exact⟨s,by rw[jno id e];exact hs,Nat.le_refl _,λ_=>rfl⟩
  | some i =>
   obtain⟨k1,rfl⟩:=xA e
   have hi:i<H0.length:=by
    rcases Nat.lt_or_ge i H0.length with q|q
    ·exact q
    ·have:=hnew i q k1
     have:=hdom (ρ i) (by rw[hs];simp)
     omega
   obtain⟨s',g1,g2⟩:=ex.le i s (by simp only[yv,if_pos hi];exact hs)
   exact⟨s',by rw[jat i k1];exact g1,g2⟩
 have hleρ:J0'.le (λi=>J' (ρ i)):=λi s hs=>⟨s,by
  dsimp only
  rw[jat i (dom' i (by rw[hs];simp))];exact hs,Nat.le_refl _,λ_=>rfl⟩
 have nown:∀id s b,back ρ H0'.length id=none→J id=some s→s.qa=some b→¬ZG (yv H0.length λi=>J (ρ i)) b:=λid s b hb hs hblk ho=>by
  obtain⟨i,s',k1,k2,k3⟩:=own0 b ho
  exact Yq hb i (by omega) (hst.one (ρ i) id s' s b k2 hs k3 hblk)
 refine⟨v,J',F',he,⟨λid s hs=>?_,λid id' s s' b g1 g2 g3 g4=>?_,λid s b o g1 g2 g3 g4=>?_,st'.lt⟩,λid hid=>?_,(Ws d v).1 (yX hleρ (λ_ h=>h) (λ_ _=>rfl) _ _ rp'),?_⟩
 ·cases e:back ρ H0'.length id with
  | some i =>
   obtain⟨k1,rfl⟩:=xA e
   rw[jat i k1] at hs
   obtain⟨o,q1,q2⟩:=st'.obj i s hs
   exact⟨o.yG ρ,h1 i o q1,Qz.1 (xZ hleρ (λ_ h=>h) (λ_ _=>rfl) (λ_ _=>rfl) q2)⟩
  | none =>
   rw[jno id e] at hs
   obtain⟨o,q1,q2⟩:=hst.obj id s hs
   refine⟨o,?_,xZ hle ex.grow ex.frozen (λb hb=>ex.block b (hst.xx hs hb) (nown id s b e hs hb)) q2⟩
   show H'[id]? = some o
   rw[h2 id (hdom id (by rw[hs];simp)) λi hi=>Yq e i (by omega)]
   exact q1
 ·cases e:back ρ H0'.length id with
  | some i =>
   obtain⟨k1,rfl⟩:=xA e
   rw[jat i k1] at g1
   cases e':back ρ H0'.length id' with
   | some i' =>
    obtain⟨k1',rfl⟩:=xA e'
    rw[jat i' k1'] at g2
    rw[st'.one i i' s s' b g1 g2 g3 g4]
   | none =>
    rw[jno id' e'] at g2
    rcases ex.wh b ⟨i,s,g1,g3⟩ with q|q
    ·exact absurd q (nown id' s' b e' g2 g4)
    ·have:=hst.xx g2 g4;omega
  | none =>
   rw[jno id e] at g1
   cases e':back ρ H0'.length id' with
   | some i' =>
    obtain⟨k1',rfl⟩:=xA e'
    rw[jat i' k1'] at g2
    rcases ex.wh b ⟨i',s',g2,g4⟩ with q|q
    ·exact absurd q (nown id s b e g1 g3)
    ·have:=hst.xx g1 g3;omega
   | none =>
    rw[jno id' e'] at g2
    exact hst.one id id' s s' b g1 g2 g3 g4
 ·have g3':H'[id]? = some o:=g3
  cases e:back ρ H0'.length id with
  | some i =>
   obtain⟨k1,rfl⟩:=xA e
   rw[jat i k1] at g1
   obtain⟨o0,q1,_⟩:=st'.obj i s g1
   rw[h1 i o0 q1] at g3'
   cases g3'
   exact st'.apart i s b o0 g1 g2 q1 (by rw[zcT] at g4;exact g4)
  | none =>
   rw[jno id e] at g1
   rw[h2 id (hdom id (by rw[g1];simp)) λi hi=>Yq e i (by omega)] at g3'
   intro hx
   rcases ex.wG b hx with q|q|q
   ·exact hst.apart id s b o g1 g2 g3' g4 q
   ·exact nown id s b e g1 g2 q
   ·have:=hst.xx g1 g2;omega
 ·cases e:back ρ H0'.length id with
  | some i =>
   obtain⟨k1,rfl⟩:=xA e
   have:=h1 i _ (List.getElem?_eq_getElem k1)
   exact uj this
  | none =>
   rw[jno id e] at hid
   have:=hdom id hid
   omega
 ·refine⟨ex.os,ex.tape,ex.output,ex.size,λb hb hn=>ex.block b hb λho=>?_,ex.frozen,hle,ex.grow,λb ⟨id,s,hs,hb⟩=>?_,λb hb=>?_⟩
  ·obtain⟨i,s,_,k2,k3⟩:=own0 b ho
   exact hn ⟨ρ i,s,k2,k3⟩
  ·cases e:back ρ H0'.length id with
   | some i =>
    obtain⟨k1,rfl⟩:=xA e
    rw[jat i k1] at hs
    refine(ex.wh b ⟨i,s,hs,hb⟩).imp_left λq=>?_
    obtain⟨k,s',_,k2,k3⟩:=own0 b q
    exact⟨ρ k,s',k2,k3⟩
   | none =>
    rw[jno id e] at hs
    exact .inl ⟨id,s,hs,hb⟩
  ·rcases ex.wG b hb with q|q|q
   ·exact .inl q
   ·obtain⟨k,s',_,k2,k3⟩:=own0 b q
    exact .inr (.inl ⟨ρ k,s',k2,k3⟩)
   ·exact .inr (.inr q)
theorem w8 {pre post:List D} {cs cs':List D} {d:D} (h:yr P f (pre++.loc 0 0::post) [.row true cs] d [.row true cs']) (hpre:zb pre) (hpost:zb post) (hcs:zb cs) (hcs':zb cs') (hd:Pure d)
  {H:List zf} {id:Nat} (hid:H[id]? = some (.row true cs)):yr P f (pre++.loc id 0::post) H d (H.set id (.row true cs')):=by
 have hap:∀(a b:List D) (ρ:Nat→Nat),yE ρ (a++b)=yE ρ a++yE ρ b:=λa b ρ=>by
  induction a with
  | nil=>simp only[yE,List.nil_append]
  | cons x r ih=>simp only[List.cons_append,yE,ih]
 have hua:∀(a b:List D),zl 1 a→zl 1 b→zl 1 (a++b):=λa b ha hb=>by
  induction a with
  | nil=>exact hb
  | cons x r ih=>simp only[zl,List.cons_append] at ha ⊢;exact⟨ha.1,ih ha.2⟩
 have one:∀(i:Nat) (x y:zf),[x][i]? = some y→i=0∧y=x:=λi x y h=>by
  cases i with
  | zero=>simp at h;exact⟨rfl,h.symm⟩
  | succ i=>simp at h
 have:=zck (H:=H) (H':=H.set id (.row true cs')) (λ_=>id) h (λi j hi hj _=>by simp at hi hj;omega) (λi o ho=>by
   obtain⟨_,rfl⟩:=one i _ o ho
   simp only[zf.yG,xe cs hcs];exact hid) (λi h1 h2=>by simp at h1 h2;omega) (by simp) (λi o ho=>by
   obtain⟨_,rfl⟩:=one i _ o ho
   simp only[zf.yG,xe cs' hcs']
   rw[List.getElem?_set_self (uj hid)]) (λj hj hne=>by
   rw[List.getElem?_set_ne (hne 0 (by simp))]) (by
   refine hua _ _ (zr _ hpre) ?_
   simp only[zl,zt]
   exact⟨by simp,zr _ hpost⟩) (λo ho=>by
   simp at ho;subst ho
   exact zr _ hcs)
 rw[hap,xe _ hpre,yM _ hd] at this
 simpa only[yE,D.yG,xe _ hpost] using this
def WK:List zf→List Nat→List zf→List zf
 | H,i::L,o::r=>WK (H.set i o) L r
 | H,_,_=>H
theorem YP:∀(L:List Nat) (os H:List zf),(WK H L os).length=H.length
 | [],os,H=>by cases os<;>rfl
 | i::L,[],H=>rfl
 | i::L,o::r,H=>by simp only[WK];rw[YP L r];simp
theorem zaI:∀(L:List Nat) (os H:List zf) (j:Nat),j ∉ L→(WK H L os)[j]? = H[j]?
 | [],os,H,j,_=>by cases os<;>rfl
 | i::L,[],H,j,_=>rfl
 | i::L,o::r,H,j,h=>by
  simp only[WK]
  rw[zaI L r _ j (λq=>h (by simp[q])),List.getElem?_set_ne (λe=>h (by simp[e]))]
theorem zc9:∀(L:List Nat) (os H:List zf) (k:Nat) (o:zf),L.Nodup→(∀i∈L,i<H.length)→k<L.length→os[k]? = some o→(WK H L os)[L.getD k 0]? = some o
 | [],os,H,k,o,_,_,h,_=>by simp at h
 | i::L,[],H,k,o,_,_,_,h=>by simp at h
 | i::L,x::r,H,0,o,hn,hl,_,h=>by
  simp only[WK,List.getD_cons_zero]
  rw[zaI L r _ i (List.nodup_cons.1 hn).1,List.getElem?_set_self (hl i (by simp))]
  simpa using h
 | i::L,x::r,H,k+1,o,hn,hl,hk,h=>by
  simp only[WK,List.getD_cons_succ]
  exact zc9 L r _ k o (List.nodup_cons.1 hn).2 (λj hj=>by simpa using hl j (by simp[hj])) (by simpa using hk) (by simpa using h)
theorem JY {args0:List D} {H0 H0':List zf} {d0:D} (hA:yr P f args0 H0 d0 H0') (hl:H0'.length=H0.length) (L:List Nat) (hL:L.length=H0.length) (hnd:L.Nodup)
  (hargs:zl H0.length args0) (hobj:wJ H0.length H0) {args:List D} {d:D} {H:List zf} (e1:yE (λi=>L.getD i 0) args0=args) (e2:D.yG (λi=>L.getD i 0) d0=d)
  (h1:∀i o,H0[i]? = some o→H[L.getD i 0]? = some (o.yG λi=>L.getD i 0)):qs P f args H d (WK H L (H0'.map (zf.yG λi=>L.getD i 0))) L:=by
 subst e1 e2
 have mem:∀{j},j∈L↔∃i,i<H0.length∧L.getD i 0=j:=λ{j}=>by
  rw[List.mem_iff_getElem]
  constructor
  ·rintro⟨i,hi,rfl⟩
   exact⟨i,by omega,by rw[List.getD_eq_getElem?_getD,List.getElem?_eq_getElem hi];rfl⟩
  ·rintro⟨i,hi,rfl⟩
   exact⟨i,by omega,by rw[List.getD_eq_getElem?_getD,List.getElem?_eq_getElem (by omega)];rfl⟩
 have v7:∀id∈L,id<H.length:=λid hid=>by
  obtain⟨i,hi,rfl⟩:=mem.1 hid
  exact uj (h1 i _ (List.getElem?_eq_getElem hi))
 have inj:∀i j,i<H0'.length→j<H0'.length→L.getD i 0=L.getD j 0→i=j:=λi j hi hj e=>by
  rw[List.getD_eq_getElem?_getD,List.getD_eq_getElem?_getD,List.getElem?_eq_getElem (by omega),List.getElem?_eq_getElem (by omega)] at e
  exact(List.getElem_inj hnd).1 e
 refine⟨hA.ok,by rw[YP];exact Nat.le_refl _,λid hid=>zaI _ _ _ _ hid,λid hid=>by rw[YP];exact v7 id hid,λJ F w vs G hst hG _ hrep=>?_⟩
 have core:=JR (G:=G) (G':=λid=>if id∈L then (WK H L (H0'.map (zf.yG λi=>L.getD i 0)))[id]? else G id) (λi=>L.getD i 0) hA inj hst (λi o ho=>by
   rw[hG _ (mem.2 ⟨i,uj ho,rfl⟩)];exact h1 i o ho) (λi h1 h2=>by omega) hrep (λi o ho=>by
   have hi:=uj ho
   rw[if_pos (mem.2 ⟨i,by omega,rfl⟩)]
   exact zc9 L _ H i _ hnd v7 (by omega) (by rw[List.getElem?_map,ho];rfl)) (λj hj=>by
   rw[if_neg λh=>by obtain⟨i,hi,e⟩:=mem.1 h;exact hj i (by omega) e]) hargs (Zd hobj)
 refine core.mono λe w' ⟨v,J',F',q1,q2,q3,q4,q5⟩=>⟨v,J',F',q1,q2,λid hid=>(q3 id hid).imp_right λ⟨i,hi,e⟩=>mem.2 ⟨i,by omega,e⟩,q4,q5⟩
theorem zj7 {args0:List D} {H0:List zf} {d0:D} (hA:yr P f args0 H0 d0 H0) (L:List Nat) (hL:L.length=H0.length) (hnd:L.Nodup)
  (hargs:zl H0.length args0) (hobj:wJ H0.length H0) {args:List D} {d:D} {H:List zf} (e1:yE (λi=>L.getD i 0) args0=args) (e2:D.yG (λi=>L.getD i 0) d0=d)
  (h1:∀i o,H0[i]? = some o→H[L.getD i 0]? = some (o.yG λi=>L.getD i 0)) (m:Nat) {q:Bool} {cs:List D} (hm:D.loc m 0∈args) (hrow:H[m]? = some (.row q cs)) (hmL:m∈L) (xR:∀id∈L,id=m∨∃v lo hi,D.own id v lo hi∈cs):zf5 P f args H d L:=by
 have hAt:=JY hA rfl L hL hnd hargs hobj e1 e2 h1
 have v7:∀id∈L,id<H.length∧(WK H L (H0.map (zf.yG λi=>L.getD i 0)))[id]? = H[id]?:=λid hid=>by
  obtain⟨i,hi,rfl⟩:=List.mem_iff_getElem.1 hid
  have e:L.getD i 0=L[i]:=by rw[List.getD_eq_getElem?_getD,List.getElem?_eq_getElem hi];rfl
  have hk:=h1 i _ (List.getElem?_eq_getElem (by omega))
  rw[←e]
  refine⟨uj hk,?_⟩
  rw[hk]
  refine zc9 L _ H i _ hnd (λj hj=>?_) hi (by rw[List.getElem?_map,List.getElem?_eq_getElem (by omega)];rfl)
  obtain⟨i',hi',rfl⟩:=List.mem_iff_getElem.1 hj
  have:=uj (h1 i' _ (List.getElem?_eq_getElem (by omega)))
  rwa [List.getD_eq_getElem?_getD,List.getElem?_eq_getElem hi'] at this
 refine⟨hA.ok,λJ F w vs G hok hG hrep=>?_⟩
 have hJm:∃s,J m=some s:=by
  have:∀(ds:List D) (us:List Value),D.loc m 0∈ds→yi J F w ds us→∃s,J m=some s:=λds=>by
   induction ds with
   | nil=>intro us h;simp at h
   | cons x r ih =>
    intro us h k
    simp only[yi] at k
    obtain⟨v,us,rfl,k1,k2⟩:=k
    rcases List.mem_cons.1 h with rfl|h
    ·simp only[rep] at k1
     obtain⟨s,b,k1,_⟩:=k1
     exact⟨s,k1⟩
    ·exact ih us h k2
  exact this _ _ hm hrep
 have hJ:∀id∈L,J id≠none:=λid hid=>by
  obtain⟨s,hs⟩:=hJm
  rcases xR id hid with rfl|⟨v,lo,hi,hc⟩
  ·rw[hs];simp
  ·obtain⟨o,k1,k2⟩:=hok.obj m s hs
   rw[hG m hmL,hrow] at k1
   cases k1
   obtain⟨_,_,_,_,_,b,vals,te,_,_,_,k3,_⟩:=k2
   have:∀(ds:List D) (n:Nat),D.own id v lo hi∈ds→zV J F w b ds n→J id≠none:=λds=>by
    induction ds with
    | nil=>intro n h;simp at h
    | cons x r ih =>
     intro n h k
     simp only[zV] at k
     obtain⟨⟨u,_,_,k1⟩,k2⟩:=k
     rcases List.mem_cons.1 h with rfl|h
     ·simp only[rep] at k1
      obtain⟨s',_,_,_,k1,_⟩:=k1
      rw[k1];simp
     ·exact ih _ h k2
   exact this _ _ hc k3
 refine(hAt.run J F w vs G hok hG (λid hid hge=>by have:=(v7 id hid).1;omega) hrep).mono λe w' hR=>?_
 obtain⟨v,J',F',rfl,k1,k2,k3,k4⟩:=hR
 refine⟨v,J',F',rfl,?_,λid h=>(k2 id h).elim (λh=>h) (hJ id),k3,k4⟩
 have e:(λid=>if id∈L then (WK H L (H0.map (zf.yG λi=>L.getD i 0)))[id]? else G id)=G:=by
  funext id
  split
  ·rename_i hid
   rw[(v7 id hid).2,hG id hid]
  ·rfl
 rw[e] at k1
 exact k1
def VC (L:List Nat) (h n:Nat):List Nat:=L++List.range' h n
theorem zca {args0:List D} {H0 H0':List zf} {d0:D} (hA:yr P f args0 H0 d0 H0') (L:List Nat) (hL:L.length=H0.length) (hnd:L.Nodup)
  (hargs:zl H0.length args0) (hobj:wJ H0.length H0) {args:List D} {d:D} {H:List zf} (W:List Nat) (hW:W=VC L H.length (H0'.length-H0.length)) (e1:yE (λi=>W.getD i 0) args0=args) (e2:D.yG (λi=>W.getD i 0) d0=d)
  (h1:∀i o,H0[i]? = some o→H[L.getD i 0]? = some (o.yG λi=>W.getD i 0)) {H2:List zf} (e3:WK H L ((H0'.take H0.length).map (zf.yG λi=>W.getD i 0))++(H0'.drop H0.length).map (zf.yG λi=>W.getD i 0)=H2):qs P f args H d H2 W:=by
 subst e1 e2 e3
 have hl0:=hA.len
 have v7:∀id∈L,id<H.length:=λid hid=>by
  obtain⟨i,hi,rfl⟩:=List.mem_iff_getElem.1 hid
  have:=uj (h1 i _ (List.getElem?_eq_getElem (by omega)))
  rwa [List.getD_eq_getElem?_getD,List.getElem?_eq_getElem hi] at this
 have hWl:W.length=H0'.length:=by rw[hW,VC,List.length_append,List.length_range'];omega
 have hWn:W.Nodup:=by
  rw[hW,VC,List.nodup_append]
  refine⟨hnd,List.nodup_range',λa ha b hb e=>?_⟩
  have:=v7 a ha
  have:=(List.mem_range'_1.1 hb).1
  omega
 have mem:∀{j},j∈W↔∃i,i<H0'.length∧W.getD i 0=j:=λ{j}=>by
  rw[List.mem_iff_getElem]
  constructor
  ·rintro⟨i,hi,rfl⟩
   exact⟨i,by omega,by rw[List.getD_eq_getElem?_getD,List.getElem?_eq_getElem hi];rfl⟩
  ·rintro⟨i,hi,rfl⟩
   exact⟨i,by omega,by rw[List.getD_eq_getElem?_getD,List.getElem?_eq_getElem (by omega)];rfl⟩
 have inj:∀i j,i<H0'.length→j<H0'.length→W.getD i 0=W.getD j 0→i=j:=λi j hi hj e=>by
  rw[List.getD_eq_getElem?_getD,List.getD_eq_getElem?_getD,List.getElem?_eq_getElem (by omega),List.getElem?_eq_getElem (by omega)] at e
  exact(List.getElem_inj hWn).1 e
 have wold:∀i,i<L.length→W.getD i 0=L.getD i 0:=λi hi=>by
  rw[hW,VC,List.getD_eq_getElem?_getD,List.getElem?_append_left hi,List.getD_eq_getElem?_getD]
 have wnew:∀i,L.length≤i→i<H0'.length→W.getD i 0=H.length+(i-L.length):=λi h1 h2=>by
  rw[hW,VC,List.getD_eq_getElem?_getD,List.getElem?_append_right h1,List.getElem?_range' (by omega)]
  simp
 have hN:(WK H L ((H0'.take H0.length).map (zf.yG λi=>W.getD i 0))++(H0'.drop H0.length).map (zf.yG λi=>W.getD i 0)).length=H.length+(H0'.length-H0.length):=by
  rw[List.length_append,YP,List.length_map,List.length_drop]
 have at2:∀i o,H0'[i]? = some o→(WK H L ((H0'.take H0.length).map (zf.yG λi=>W.getD i 0))++(H0'.drop H0.length).map (zf.yG λi=>W.getD i 0))[W.getD i 0]? = some (o.yG λi=>W.getD i 0):=λi o ho=>by
  have hi:=uj ho
  rcases Nat.lt_or_ge i L.length with q|q
  ·rw[wold i q,List.getElem?_append_left (by rw[YP];exact v7 _ (by rw[List.getD_eq_getElem?_getD,List.getElem?_eq_getElem q];exact List.getElem_mem q))]
   refine zc9 L _ H i _ hnd v7 q ?_
   rw[List.getElem?_map,List.getElem?_take_of_lt (by omega),ho]
   rfl
  ·rw[wnew i q hi,List.getElem?_append_right (by rw[YP];omega),YP,List.getElem?_map,List.getElem?_drop,show H0.length+(H.length+(i-L.length)-H.length)=i by omega,ho]
   rfl
 refine⟨hA.ok,by rw[hN];omega,λid hid=>?_,λid hid=>?_,λJ F w vs G hst hG hnone hrep=>?_⟩
 ·have h2:id ∉ L:=λh=>hid (by rw[hW,VC];exact List.mem_append_left _ h)
  rcases Nat.lt_or_ge id H.length with q|q
  ·rw[List.getElem?_append_left (by rw[YP];exact q),zaI _ _ _ _ h2]
  ·rcases Nat.lt_or_ge id (H.length+(H0'.length-H0.length)) with q2|q2
   ·exact absurd (by rw[hW,VC];exact List.mem_append_right _ (List.mem_range'_1.2 ⟨q,q2⟩)) hid
   ·rw[List.getElem?_eq_none q,List.getElem?_eq_none (by rw[hN];exact q2)]
 ·obtain⟨i,hi,rfl⟩:=mem.1 hid
  exact uj (at2 i _ (List.getElem?_eq_getElem hi))
 ·have core:=JR (G:=G) (G':=λid=>if id∈W then (WK H L ((H0'.take H0.length).map (zf.yG λi=>W.getD i 0))++(H0'.drop H0.length).map (zf.yG λi=>W.getD i 0))[id]? else G id) (λi=>W.getD i 0) hA inj hst (λi o ho=>by
    have hi:=uj ho
    rw[hG _ (mem.2 ⟨i,by omega,rfl⟩),wold i (by omega)];exact h1 i o ho) (λi q1 q2=>by
    refine hnone _ (mem.2 ⟨i,q2,rfl⟩) ?_
    rw[wnew i (by omega) q2];omega) hrep (λi o ho=>by
    rw[if_pos (mem.2 ⟨i,uj ho,rfl⟩)]
    exact at2 i o ho) (λj hj=>by
    rw[if_neg λh=>by obtain⟨i,hi,e⟩:=mem.1 h;exact hj i hi e]) hargs (Zd hobj)
  exact core.mono λe w' ⟨v,J',F',q1,q2,q3,q4,q5⟩=>⟨v,J',F',q1,q2,λid hid=>(q3 id hid).imp_right λ⟨i,hi,e⟩=>mem.2 ⟨i,hi,e⟩,q4,q5⟩
theorem xo {args:List D} {H0':List zf} {d0:D} (hA:yr P f args [] d0 H0') (hp:zb args) {d:D} {H H2:List zf} (W:List Nat) (hW:W=List.range' H.length H0'.length) (e2:D.yG (λi=>W.getD i 0) d0=d)
  (e3:H++H0'.map (zf.yG λi=>W.getD i 0)=H2):qs P f args H d H2 W :=
 zca hA [] rfl .nil (zr _ hp) trivial W (by rw[hW];rfl) (xe _ hp) e2 (λi o h=>by simp at h) (by rw[←e3];rfl)
theorem x9 {pre post:List D} {cs cs':List D} {d:D} (h:yr P f (pre++.loc 0 0::post) [.row true cs] d [.row true cs']) (hpre:zb pre) (hpost:zb post) (hcs:zb cs) (hcs':zb cs') (hd:Pure d)
  {H:List zf} {id:Nat} (hid:H[id]? = some (.row true cs)):qs P f (pre++.loc id 0::post) H d (H.set id (.row true cs')) [id]:=by
 have hap:∀(a b:List D) (ρ:Nat→Nat),yE ρ (a++b)=yE ρ a++yE ρ b:=λa b ρ=>by
  induction a with
  | nil=>simp only[yE,List.nil_append]
  | cons x r ih=>simp only[List.cons_append,yE,ih]
 have hua:∀(a b:List D),zl 1 a→zl 1 b→zl 1 (a++b):=λa b ha hb=>by
  induction a with
  | nil=>exact hb
  | cons x r ih=>simp only[zl,List.cons_append] at ha ⊢;exact⟨ha.1,ih ha.2⟩
 have:=JY h rfl [id] rfl (by simp) (hua _ _ (zr _ hpre) ⟨by simp[zt],zr _ hpost⟩) ⟨zr _ hcs,trivial⟩ (H:=H) (args:=pre++.loc id 0::post) (d:=d)
  (by rw[hap,xe _ hpre];simp only[yE,D.yG,xe _ hpost];rfl) (yM _ hd) (λi o ho=>by
   cases i with
   | zero=>simp at ho;subst ho;simp only[zf.yG,xe cs hcs];exact hid
   | succ i=>simp at ho)
 simpa only[List.map_cons,List.map_nil,WK,zf.yG,xe cs' hcs'] using this
end
end
section
open Go.RowKit
section
variable {P:Program} {n:Nat}
def endD (d:D) (H2:List zf) (r:D) (Hf:List zf):Prop:=ym (X8 H2.length) Hf r d∧WL H2.length Hf Hf H2
theorem wR {f:FuncId} {rs:List RV} {p:PC} {args:List D} {H:List zf} {d:D} {H2:List zf} (hf:zv P f n rs p) (hn:args.length≤n) (hlen:H.length≤H2.length)
  (h:PWp P n p (zwe rs λr Hf=>endD d H2 r Hf) (params 0 args) H) (hd:zt H2.length d):yr P f args H d H2:=by
 refine⟨zfp hf,hlen,λJ F w vs hok hdom hargs=>?_⟩
 obtain⟨fn,h1,h2,h3,h4,h5⟩:=hf.out
 cases e:fn.body with
 | none=>rw[e] at h5;cases h5
 | some c =>
  rw[e] at h5
  simp only[Option.bind_some] at h5
  refine calls_of_wp h1 e ?_
  rw[h2]
  refine wp_mono (qx h h5 (zbs hn hargs hok hdom)) λe' a' w' ⟨env',H',J',F',q1,q2,q3⟩=>?_
  have fin:e'=.normal∨e'=.ret→a'.defers=[]∧∃v,(results fn a'.tmps).run P w'=.ok v w'∧∃v' J'' F'',Ending.returned v=Ending.returned v'∧y5 J'' F'' w' (λi=>H2[i]?)∧(∀id,J'' id≠none→id<H2.length)∧rep J'' F'' w' d v'∧Ext J F w J'' F'' w':=λhe=>by
   obtain⟨r,v,⟨hdm,hcl⟩,k2,k3⟩:=Qf h4 q2 he q1
   have hok':=q2.ok
   have kle:(yv H2.length J').le J':=λi s hs=>by
    unfold yv at hs
    split at hs
    ·exact⟨s,hs,Nat.le_refl _,λ_=>rfl⟩
    ·cases hs
   refine⟨q2.defers,v,k2,v,yv H2.length J',λb=>F' b∨YT (X8 H2.length) J' b,rfl,⟨λi s hs=>?_,λi i' s s' b g1 g2 g3 g4=>?_,λi s b o g1 g2 g3 g4=>?_,hok'.lt.mono (λ_ h=>.inl h) (λ_ _=>rfl) λb hb=>?_⟩,λi hi=>?_,WN _ _ hd (Zw hok' _ _ _ hdm k3),?_⟩
   ·unfold yv at hs
    split at hs
    ·rename_i hi
     obtain⟨o,g1,g2⟩:=hok'.obj i s hs
     obtain⟨o',g3,g4⟩:=XM H' H2 hcl i o hi g1
     exact⟨o',g3,(QU hok' g4 g2).1⟩
    ·cases hs
   ·unfold yv at g1 g2
    split at g1<;>split at g2
    ·exact hok'.one i i' s s' b g1 g2 g3 g4
    all_goals first|cases g1|cases g2
   ·unfold yv at g1
    split at g1
    ·rename_i hi
     obtain⟨o1,t1,t2⟩:=hok'.obj i s g1
     obtain⟨o',t3,t4⟩:=XM H' H2 hcl i o1 hi t1
     have g3':H2[i]? = some o:=g3
     rw[g3'] at t3
     cases t3
     have hmut:=(QU hok' t4 t2).2
     rintro(hx|⟨i',s',p1,p2,p3⟩)
     ·exact hok'.apart i s b o1 g1 g2 t1 (by rw[←hmut];exact g4) hx
     ·have p1:=zhm.1 p1
      have:=hok'.one i i' s s' b g1 p2 g2 p3
      omega
    ·cases g1
   ·exact hb.elim (hok'.lt b) λ⟨i,s,_,t1,t2⟩=>hok'.xx t1 t2
   ·unfold yv at hi
    split at hi
    ·assumption
    ·exact absurd rfl hi
   ·refine⟨q3.os,q3.tape,q3.output,q3.size,q3.block,q3.frozen,λi s hs=>?_,λb hb=>.inl (q3.grow b hb),λb ⟨i,s,hs,hb⟩=>?_,λb hb=>?_⟩
    ·obtain⟨s',g1,g2,g3⟩:=q3.le i s hs
     have hi:i<H2.length:=by have:=hdom i (by rw[hs];simp);omega
     exact⟨s',by simp[yv,hi,g1],g2,g3⟩
    ·obtain⟨s',g1,_⟩:=kle i s hs
     unfold yv at hs
     split at hs
     ·exact q3.wh b ⟨i,s,hs,hb⟩
     ·cases hs
    ·rcases hb with hb|⟨i,s,_,t1,t2⟩
     ·exact q3.wG b hb
     ·rcases q3.wh b ⟨i,s,t1,t2⟩ with q|q
      ·exact .inr (.inl q)
      ·exact .inr (.inr q)
  cases e' with
  | normal=>exact fin (.inl rfl)
  | ret=>exact fin (.inr rfl)
  | exit id=>exact q1.elim
  | goto l=>exact q1.elim
  | panic ch=>exact q1.elim
  | outgrown=>exact q1.elim
end
end
section
open Go.RowKit
abbrev WP:=qE→Env→List zf→Prop
def zyk:WP:=λQ env H=>Q .normal env H
def seqQ (g:WP) (Q:qE):qE:=λe env H=>match e with
 | .normal=>g Q env H
 | e=>Q e env H
def seqW (f g:WP):WP:=λQ env H=>f (seqQ g Q) env H
def zx4 (c:Operand) (f g:WP):WP:=λQ env H=>Z1 env c λd=>match d with
 | .sc (.bool t)=>ifK t (f Q env H) (g Q env H)
 | _=>False
def zzq (id:Nat) (Q:qE):qE:=λe env H=>match e with
 | .exit id'=>match Nat.beq id' id with
  | true=>Q .normal env H
  | false=>Q (.exit id') env H
 | e=>Q e env H
def zsz (id:Nat) (f:WP):WP:=λQ env H=>f (zzq id Q) env H
def zxS (P:Program) (n:Nat) (c:PC):WP:=λQ env H=>PWp P n (.loop c) Q env H
def zyb (P:Program) (n:Nat) (c:PC):WP:=λQ env H=>PWp P n c Q env H
def zxZ (id:Nat):WP:=λQ env H=>Q (.exit id) env H
def retW:WP:=λQ env H=>Q .ret env H
abbrev WO:=Env→List zf→(Env→List zf→Prop)→Prop
def nilO:WO:=λenv H K=>K env H
def opO (P:Program) (o:yC) (g:WO):WO:=λenv H K =>
 match o.guard with
 | none=>step P true o.op env H λd H' _ _=>match o.dst with
  | some t=>g ((t,d)::env) H' K
  | none=>g env H' K
 | some (t,b)=>Ua t (λq=>match q with
  | .sc (.bool c)=>match b with
   | true=>ifK c
    (step P true o.op env H λd H' _ _=>match o.dst with
     | some u=>g ((u,d)::env) H' K
     | none=>g env H' K)
    (match o.dst with
     | some u=>g ((u,.sc undef)::env) H K
     | none=>g env H K)
   | false=>ifK c
    (match o.dst with
     | some u=>g ((u,.sc undef)::env) H K
     | none=>g env H K)
    (step P true o.op env H λd H' _ _=>match o.dst with
     | some u=>g ((u,d)::env) H' K
     | none=>g env H' K)
  | .sc (.tuple _)=>match o.dst with
   | some u=>g ((u,.sc undef)::env) H K
   | none=>g env H K
  | _=>False) env
def opsW (f:WO):WP:=λQ env H=>f env H λenv H=>Q .normal env H
abbrev WD:=Env→List zf→(Env→List zf→Trace→Prop)→Prop
def nilD:WD:=λenv H K=>K env H []
def opD (P:Program) (o:yC) (g:WD):WD:=λenv H K =>
 match o.guard with
 | none=>step P false o.op env H λd H' rd wr=>match o.dst with
  | some t=>g ((t,d)::env) H' λe h tr=>K e h (((rd,wr),(V4 o.op env,d,H'))::tr)
  | none=>g env H' λe h tr=>K e h (((rd,wr),(V4 o.op env,d,H'))::tr)
 | some (t,b)=>Ua t (λq=>match q with
  | .sc (.bool c)=>match b with
   | true=>ifK c
    (step P false o.op env H λd H' rd wr=>match o.dst with
     | some u=>g ((u,d)::env) H' λe h tr=>K e h (((rd,wr),(none,d,H'))::tr)
     | none=>g env H' λe h tr=>K e h (((rd,wr),(none,d,H'))::tr))
    (match o.dst with
     | some u=>g ((u,.sc undef)::env) H λe h tr=>K e h ((([],[]),(none,.sc undef,H))::tr)
     | none=>g env H λe h tr=>K e h ((([],[]),(none,.sc undef,H))::tr))
   | false=>ifK c
    (match o.dst with
     | some u=>g ((u,.sc undef)::env) H λe h tr=>K e h ((([],[]),(none,.sc undef,H))::tr)
     | none=>g env H λe h tr=>K e h ((([],[]),(none,.sc undef,H))::tr))
    (step P false o.op env H λd H' rd wr=>match o.dst with
     | some u=>g ((u,d)::env) H' λe h tr=>K e h (((rd,wr),(none,d,H'))::tr)
     | none=>g env H' λe h tr=>K e h (((rd,wr),(none,d,H'))::tr))
  | .sc (.tuple _)=>match o.dst with
   | some u=>g ((u,.sc undef)::env) H λe h tr=>K e h ((([],[]),(none,.sc undef,H))::tr)
   | none=>g env H λe h tr=>K e h ((([],[]),(none,.sc undef,H))::tr)
  | _=>False) env
def zyc (l:List yC) (f:WD):WP:=λQ env H=>f env H λe h tr=>match zgQ [] l tr with
 | true=>Q .normal e h
 | false=>match zbU [] l tr with
  | true=>zbV (Q .normal e h) 0 [] l tr
  | false=>False
section
variable {P:Program} {n:Nat}
def zhs (P:Program) (l:List yC) (f:WO):Prop:=f=vw P l
def zht (P:Program) (l:List yC) (f:WD):Prop:=f=VW P l
def JD (P:Program) (n:Nat) (p:PC) (f:WP):Prop:=f=pw P n p
theorem zhs.nil:zhs P [] nilO:=rfl
theorem zhs.cons (o:yC) {l:List yC} {g:WO} (h:zhs P l g):zhs P (o::l) (opO P o g):=by
 unfold zhs at h ⊢
 subst h
 funext env H K
 rfl
theorem zht.nil:zht P [] nilD:=rfl
theorem zht.cons (o:yC) {l:List yC} {g:WD} (h:zht P l g):zht P (o::l) (opD P o g):=by
 unfold zht at h ⊢
 subst h
 funext env H K
 rfl
theorem JD.skip:JD P n .skip zyk:=rfl
theorem JD.ops {l:List yC} {f:WO} (h:zhs P l f):JD P n (.ops l false) (opsW f):=by
 unfold zhs at h;subst h;rfl
theorem JD.draw {l:List yC} {f:WD} (h:zht P l f):JD P n (.ops l true) (zyc l f):=by
 unfold zht at h;subst h;rfl
theorem JD.seq {a b:PC} {f g:WP} (h:JD P n a f) (k:JD P n b g):JD P n (.seq a b) (seqW f g):=by
 unfold JD at h k;subst h;subst k;rfl
theorem JD.cond (c:Operand) {a b:PC} {f g:WP} (h:JD P n a f) (k:JD P n b g):JD P n (.cond c a b) (zx4 c f g):=by
 unfold JD at h k;subst h;subst k;rfl
theorem JD.block (id:Nat) {a:PC} {f:WP} (h:JD P n a f):JD P n (.block id a) (zsz id f):=by
 unfold JD at h;subst h;rfl
theorem JD.loop (c:PC):JD P n (.loop c) (zxS P n c):=rfl
theorem JD.stop (c:PC):JD P n (.stop c) (zyb P n c):=rfl
theorem JD.exit (id:Nat):JD P n (.exit id) (zxZ id):=rfl
theorem JD.ret:JD P n .ret retW:=rfl
theorem zoO {p:PC} {f:WP} {Q:qE} {env:Env} {H:List zf} (h:JD P n p f) (k:f Q env H):PWp P n p Q env H :=
 WY _ _ _ _ (by unfold JD at h;subst h;exact k)
inductive RdO (P:Program):List yC→WO→Prop
 | nil:RdO P [] nilO
 | cons {o:yC} {l:List yC} {g:WO} (h:RdO P l g):RdO P (o::l) (opO P o g)
inductive RdD (P:Program):List yC→WD→Prop
 | nil:RdD P [] nilD
 | cons {o:yC} {l:List yC} {g:WD} (h:RdD P l g):RdD P (o::l) (opD P o g)
inductive Rd (P:Program) (n:Nat):PC→WP→Prop
 | skip:Rd P n .skip zyk
 | ret:Rd P n .ret retW
 | exit {id:Nat}:Rd P n (.exit id) (zxZ id)
 | loop {c:PC}:Rd P n (.loop c) (zxS P n c)
 | stop {c:PC}:Rd P n (.stop c) (zyb P n c)
 | ops {l:List yC} {f:WO} (h:RdO P l f):Rd P n (.ops l false) (opsW f)
 | draw {l:List yC} {f:WD} (h:RdD P l f):Rd P n (.ops l true) (zyc l f)
 | seq {a b:PC} {f g:WP} (h:Rd P n a f) (k:Rd P n b g):Rd P n (.seq a b) (seqW f g)
 | cond {c:Operand} {a b:PC} {f g:WP} (h:Rd P n a f) (k:Rd P n b g):Rd P n (.cond c a b) (zx4 c f g)
 | block {id:Nat} {a:PC} {f:WP} (h:Rd P n a f):Rd P n (.block id a) (zsz id f)
theorem RdO.red {l:List yC} {f:WO} (h:RdO P l f):zhs P l f:=by
 induction h with
 | nil=>exact .nil
 | cons _ ih=>exact .cons _ ih
theorem RdD.red {l:List yC} {f:WD} (h:RdD P l f):zht P l f:=by
 induction h with
 | nil=>exact .nil
 | cons _ ih=>exact .cons _ ih
theorem Rd.red {p:PC} {f:WP} (h:Rd P n p f):JD P n p f:=by
 induction h with
 | skip=>exact .skip
 | ret=>exact .ret
 | exit=>exact .exit _
 | loop=>exact .loop _
 | stop=>exact .stop _
 | ops h=>exact .ops h.red
 | draw h=>exact .draw h.red
 | seq _ _ ih ik=>exact .seq ih ik
 | cond _ _ ih ik=>exact .cond _ ih ik
 | block _ ih=>exact .block _ ih
theorem zi8 {p:PC} {f:WP} {Q:qE} {env:Env} {H:List zf} (h:Rd P n p f) (k:f Q env H):PWp P n p Q env H:=zoO h.red k
end
end
section
open Go.RowKit
theorem yZ {L n:Nat} (id j zK:Nat) {env:Env} {H:List zf} {cs:List D} (hL:L≤H.length) (hid:H[id]? = some (.row true cs)) (hj:cs[j]? = some (.sc (.slice none 0 0))) :
  St.leB L n env H env (H.set id (.row true (cs.set j (.own H.length 0 0 0)))++[.vec true 0 zK []]):=λJ F a w hr=>by
 have hfree:J H.length=none:=by
  cases e:J H.length with
  | none=>rfl
  | some s=>have:=hr.dom H.length (by rw[e];simp);omega
 have hidl:=uj hid
 let J':y4:=λi=>if i=H.length then some ⟨false,0,none,zK,0,0⟩ else J i
 have hle:J.le J':=λi s hs=>⟨s,by
  have:i≠H.length:=λe=>by subst e;rw[hfree] at hs;cases hs
  simp[J',this,hs],Nat.le_refl _,λ_=>rfl⟩
 have hget:∀i,i≠H.length→i≠id→(H.set id (.row true (cs.set j (.own H.length 0 0 0)))++[zf.vec true 0 zK []])[i]? = H[i]?:=λi hi hne=>by
  rcases Nat.lt_or_ge i H.length with q|q
  ·rw[List.getElem?_append_left (by simpa using q),List.getElem?_set_ne (λe=>hne e.symm)]
  ·rw[List.getElem?_eq_none q,List.getElem?_eq_none (by simp;omega)]
 have hgid:(H.set id (.row true (cs.set j (.own H.length 0 0 0)))++[zf.vec true 0 zK []])[id]? = some (.row true (cs.set j (.own H.length 0 0 0))):=by
  rw[List.getElem?_append_left (by simpa using hidl),List.getElem?_set_self hidl]
 have hnew:∀v,v=Value.slice none 0 0→rep J' F w (.own H.length 0 0 0) v:=λv hv=>by
  simp only[rep]
  exact⟨_,none,0,0,by simp[J'];rfl,hv,Nat.le_refl _,λ_=>⟨rfl,Nat.le_refl _,Nat.zero_le _,rfl,rfl,.inl rfl⟩⟩
 refine⟨J',F,⟨hr.defers,hr.size,λu=>yX hle (λ_ h=>h) (λ_ _=>rfl) _ _ (hr.tmps u),⟨λi s hs=>?_,λi i' s s' b g1 g2 g3 g4=>?_,λi s b o g1 g2 g3 g4=>?_,hr.ok.lt⟩,λi hi=>?_⟩,λi s hi hs=>?_,λb hb=>hb,λb ⟨i,s,hs,hb⟩=>?_,λb hb=>.inl hb⟩
 ·simp only[J'] at hs
  split at hs
  ·rename_i e;subst e
   cases hs
   exact⟨.vec true 0 zK [],by simp,rfl,rfl,rfl,rfl,Nat.le_refl _,.inl rfl⟩
  ·rename_i e
   obtain⟨o,h1,h2⟩:=hr.ok.obj i s hs
   by_cases e2:i=id
   ·subst e2
    have h1':H[i]? = some o:=h1
    rw[hid] at h1'
    cases h1'
    obtain⟨k1,k2,k3,k4,k5,b,vals,te,t1,t2,t3,t4,t5⟩:=h2
    refine⟨_,hgid,k1,k2,k3,by rw[List.length_set];exact k4,by rw[List.length_set];exact k5,b,vals,te,t1,t2,by rw[List.length_set];exact t3,xz _ _ λq c hq=>?_,t5⟩
    by_cases e3:q=j
    ·subst e3
     rw[List.getElem?_set_self (uj hj)] at hq
     cases hq
     obtain⟨u,p1,p2,p3⟩:=xE _ _ _ _ hj t4
     simp only[rep] at p3
     exact⟨u,p1,p2,hnew u p3⟩
    ·rw[List.getElem?_set_ne (λe=>e3 e.symm)] at hq
     obtain⟨u,p1,p2,p3⟩:=xE _ _ _ _ hq t4
     exact⟨u,p1,p2,yX hle (λ_ h=>h) (λ_ _=>rfl) _ _ p3⟩
   ·exact⟨o,by rw[hget i e e2];exact h1,xZ hle (λ_ h=>h) (λ_ _=>rfl) (λ_ _=>rfl) h2⟩
 ·simp only[J'] at g1 g2
  split at g1
  ·cases g1;simp[Site.qa] at g3
  ·split at g2
   ·cases g2;simp[Site.qa] at g4
   ·exact hr.ok.one i i' s s' b g1 g2 g3 g4
 ·simp only[J'] at g1
  split at g1
  ·cases g1;simp[Site.qa] at g2
  ·rename_i e
   by_cases e2:i=id
   ·subst e2
    exact hr.ok.apart i s b _ g1 g2 hid rfl
   ·exact hr.ok.apart i s b o g1 g2 (by rw[←hget i e e2];exact g3) g4
 ·simp only[J'] at hi
  rw[List.length_append,List.length_singleton,List.length_set]
  split at hi
  ·omega
  ·have:=hr.dom i hi;omega
 ·have:i≠H.length:=by omega
  simp[J',this,hs]
 ·simp only[J'] at hs
  split at hs
  ·cases hs;simp[Site.qa] at hb
  ·exact⟨i,s,hs,hb⟩
end
section
open Go.RowKit
def zcV (S:Nat→Bool) (H:List zf) (env:Env):Env→Prop
 | []=>True
 | (t,d)::r=>ym S H (xW t env) d∧zcV S H env r
def zoi (S:Nat→Bool) (H:List zf) (i:Nat):zf→zf→Prop
 | .row q cs,.row q' cs'=>(q'=q∨(S i=true∧q'=false))∧(S i=true→q'=false)∧zX S H cs cs'
 | .vec q v e xs,.vec q' v' e' xs'=>(q'=q∨(S i=true∧q'=false))∧(S i=true→q'=false)∧v=v'∧e=e'∧zN S H xs xs'
 | .wg q I,.wg q' I'=>(q'=q∨(S i=true∧q'=false))∧(S i=true→q'=false)∧I=I'
 | _,_=>False
def Qr (S:Nat→Bool) (H:List zf):Nat→List zf→List zf→Prop
 | _,[],[]=>True
 | i,o::r,o'::r'=>zoi S H i o o'∧Qr S H (i+1) r r'
 | _,_,_=>False
theorem zan {S:Nat→Bool} {H:List zf} {env:Env}:∀(env':Env),zcV S H env env'→∀t,ym S H (xW t env) (xW t env')∨xW t env'=.xP
 | [],_,t=>.inr rfl
 | (k,d)::r,h,t=>by
  simp only[zcV] at h
  rw[Zc]
  split
  ·rename_i e;subst e;exact .inl h.1
  ·exact zan r h.2 t
theorem zcp {S:Nat→Bool} {H:List zf}:∀(l l':List zf) (k:Nat),Qr S H k l l'→l.length=l'.length∧∀i (o:zf),l[i]? = some o→∃o',l'[i]? = some o'∧zoi S H (k+i) o o'
 | [],[],k,_=>⟨rfl,λi o h=>by simp at h⟩
 | [],_::_,k,h=>by simp only[Qr] at h
 | _::_,[],k,h=>by simp only[Qr] at h
 | o::r,o'::r',k,h=>by
  simp only[Qr] at h
  obtain⟨h1,h2⟩:=zcp r r' (k+1) h.2
  refine⟨by simp[h1],λi x hx=>?_⟩
  cases i with
  | zero=>simp at hx;subst hx;exact⟨o',rfl,h.1⟩
  | succ i =>
   obtain⟨y,q1,q2⟩:=h2 i x (by simpa using hx)
   exact⟨y,by simpa using q1,by rw[show k+(i+1)=k+1+i by omega];exact q2⟩
theorem Yj {L n:Nat} (S:Nat→Bool) {env env':Env} {H H':List zf} (hE:zcV S H env env') (hH:Qr S H 0 H H'):St.leB L n env H env' H':=λJ F a w hr=>by
 obtain⟨hlen,hget⟩:=zcp H H' 0 hH
 have hok:=hr.ok
 refine⟨J,λb=>F b∨YT S J b,⟨hr.defers,hr.size,λt=>?_,⟨λi s hs=>?_,hok.one,λi s b o g1 g2 g3 g4=>?_,hok.lt.mono (λ_ h=>.inl h) (λ_ _=>rfl) λb hb=>hb.elim (hok.lt b) λ⟨i,s,_,h1,h2⟩=>hok.xx h1 h2⟩,λi hi=>by rw[←hlen];exact hr.dom i hi⟩,λi s hi hs=>hs,λb hb=>.inl hb,λb hb=>hb,λb hb=>hb.imp_right λ⟨i,s,_,h1,h2⟩=>⟨i,s,h1,h2⟩⟩
 ·rcases zan env' hE t with h1|e
  ·exact Zw hok _ _ _ h1 (hr.tmps t)
  ·rw[e];simp only[rep]
 ·obtain⟨o,h1,h2⟩:=hok.obj i s hs
  obtain⟨o',h3,h4⟩:=hget i o h1
  rw[Nat.zero_add] at h4
  refine⟨o',h3,?_⟩
  cases o with
  | row q cs =>
   cases o' with
   | vec=>exact h4.elim
   | wg=>exact h4.elim
   | row q' cs' =>
    obtain⟨p1,_,p2⟩:=h4
    obtain⟨k1,k2,k3,k4,k5,b,vals,te,t1,t2,t3,t4,t5⟩:=h2
    have hl:=VF _ _ p2
    refine⟨k1,k2,k3,by rw[←hl];exact k4,by rw[←hl];exact k5,b,vals,te,t1,t2,by rw[←hl];exact t3,vL hok _ _ b 0 p2 t4,λe=>?_⟩
    rcases p1 with rfl|⟨p1,_⟩
    ·exact .inl (t5 e)
    ·exact .inr ⟨i,s,p1,hs,by simp[Site.qa,k1,t1]⟩
  | vec q v e xs =>
   cases o' with
   | row=>exact h4.elim
   | wg=>exact h4.elim
   | vec q' v' e' xs' =>
    obtain⟨p1,_,rfl,rfl,p2⟩:=h4
    obtain⟨k1,k2,k3,k4,k5,k6⟩:=h2
    have hl:=uU _ _ p2
    refine⟨k1,k2,k3,by rw[←hl];exact k4,k5,?_⟩
    by_cases hz:s.cap=0
    ·exact .inl hz
    rcases k6 with k6|⟨b,o,vals,te,t1,t2,t3,t4,t5⟩
    ·exact .inl k6
    ·refine .inr ⟨b,o,vals,te,t1,t2,t3,vh hok _ _ b e o p2 t4,λe=>?_⟩
     rcases p1 with rfl|⟨p1,_⟩
     ·exact .inl (t5 e)
     ·exact .inr ⟨i,s,p1,hs,by simp[Site.qa,k1,hz,t1]⟩
  | wg q I =>
   cases o' with
   | row=>exact h4.elim
   | vec=>exact h4.elim
   | wg q' I' =>
    obtain⟨_,_,rfl⟩:=h4
    exact h2
 ·obtain⟨o0,h1,h2⟩:=hok.obj i s g1
  obtain⟨o',h3,h4⟩:=hget i o0 h1
  rw[Nat.zero_add] at h4
  have g3':H'[i]? = some o:=g3
  rw[h3] at g3'
  cases g3'
  have hm:¬S i=true∧o0.mut=true:=by
   cases o0 with
   | row q cs =>
    cases o with
    | vec=>exact h4.elim
    | wg=>exact h4.elim
    | row q' cs' =>
     obtain⟨p1,p2,_⟩:=h4
     simp only[zf.mut] at g4 ⊢
     refine⟨λh=>?_,?_⟩
     ·rw[p2 h] at g4;cases g4
     ·rcases p1 with rfl|⟨_,rfl⟩
      ·exact g4
      ·cases g4
   | vec q v e xs =>
    cases o with
    | row=>exact h4.elim
    | wg=>exact h4.elim
    | vec q' v' e' xs' =>
     obtain⟨p1,p2,_⟩:=h4
     simp only[zf.mut] at g4 ⊢
     refine⟨λh=>?_,?_⟩
     ·rw[p2 h] at g4;cases g4
     ·rcases p1 with rfl|⟨_,rfl⟩
      ·exact g4
      ·cases g4
   | wg q I =>
    cases o with
    | row=>exact h4.elim
    | vec=>exact h4.elim
    | wg q' I' =>
     obtain⟨p1,p2,_⟩:=h4
     simp only[zf.mut] at g4 ⊢
     refine⟨λh=>?_,?_⟩
     ·rw[p2 h] at g4;cases g4
     ·rcases p1 with rfl|⟨_,rfl⟩
      ·exact g4
      ·cases g4
  rintro(hx|⟨i',s',p1,p2,p3⟩)
  ·exact hok.apart i s b o0 g1 g2 h1 hm.2 hx
  ·have:=hok.one i i' s s' b g1 p2 g2 p3
   subst this
   exact hm.1 p1
end
end
section
open Go.RowKit
def zjs (env:Env):List Nat→(Env→Prop)→Prop
 | [],K=>K []
 | t::ts,K=>Ua t (λd=>zjs env ts λe=>K ((t,d)::e)) env
def zsN:Env→Env→(Env→Prop)→Prop
 | [],e,K=>K e
 | p::r,e,K=>zsN r e λE=>K (p::E)
def zpI:List (Nat × zf)→List zf→List zf
 | [],H=>H
 | (i,o)::r,H=>zpI r (H.set i o)
def znh:List (Nat × zf)→List zf→(List zf→Prop)→Prop
 | [],H,K=>K H
 | (i,o)::r,H,K=>XY H i o λH'=>znh r H' K
theorem zdH (env:Env):∀(ts:List Nat) (K:Env→Prop),zjs env ts K=K (ts.map λt=>(t,xW t env))
 | [],K=>rfl
 | t::ts,K=>by simp only[zjs,YU,zdH env ts,List.map_cons]
theorem ziE:∀(a e:Env) (K:Env→Prop),zsN a e K=K (a++e)
 | [],e,K=>rfl
 | p::r,e,K=>by simp only[zsN,ziE r e,List.cons_append]
theorem zgD:∀(l:List (Nat × zf)) (H:List zf) (K:List zf→Prop),znh l H K→K (zpI l H)
 | [],H,K,h=>h
 | (i,o)::r,H,K,h=>by
  simp only[znh,uE] at h
  simp only[zpI]
  exact zgD r _ K h.2
theorem zby {env:Env}:∀(a e:Env),V9 env a→V9 env e→V9 env (a++e)
 | [],e,_,k=>k
 | (t,d)::r,e,h,k=>⟨h.1,zby r e h.2 k⟩
theorem Jt {env:Env}:∀ts:List Nat,V9 env (ts.map λt=>(t,xW t env))
 | []=>trivial
 | t::ts=>⟨rfl,Jt ts⟩
theorem zD {L n:Nat} {env env':Env} {H H':List zf} (h:V9 env env') (e:H=H'):St.leB L n env H env' H':=e▸za1 h
structure ForK (P:Program) (n:Nat) (p:PC) (Q:qE) (env:Env) (H:List zf) {ι:Type} (J5:ι→Env) (hup:ι→List (Nat × zf)) (G:ι→Prop) (m:ι→Nat) (i:ι) (e:Env):Prop where
 vZ:G i
 start:V9 env (J5 i)
 heap:H=zpI (hup i) H
 round:∀j,G j→zsN (J5 j) e λE=>znh (hup j) H λO=>PWp P n p (zlp H.length n Q (λj=>J5 j++e) (λj=>zpI (hup j) H) G m (m j)) E O
theorem zP {P:Program} {n:Nat} {p:PC} {Q:qE} {env:Env} {H:List zf} {ι:Type} (kept:List Nat) (J5:ι→Env) (hup:ι→List (Nat × zf)) (G:ι→Prop) (m:ι→Nat) (i:ι)
  (h:zjs env kept λe=>ForK P n p Q env H J5 hup G m i e):PWp P n (.loop p) Q env H:=by
 rw[zdH] at h
 refine Ve (λj=>J5 j++kept.map λt=>(t,xW t env)) (λj=>zpI (hup j) H) G m i h.vZ (zD (zby _ _ h.start (Jt _)) h.heap) λj hj=>?_
 have:=h.round j hj
 rw[ziE] at this
 exact zgD _ _ _ this
end
section
open Go.RowKit
section
variable {w w':World} {B B' size n:Nat} {A:Option Addr} {xs:List Value}
end
end
section
open Go.RowKit
section
variable {w w':World} {g:Nat} {t:TypeId} {cs:Array Value}
end
inductive Tree where
 | node (kind n:Int) (kids:List Tree)
namespace Tree
instance:Inhabited Tree:=⟨.node 0 0 []⟩
def kind:Tree→Int|.node k _ _=>k
def num:Tree→Int|.node _ n _=>n
def kids:Tree→List Tree|.node _ _ ks=>ks
def yK (t:Tree) (j:Nat):Tree:=t.kids.getD j default
def width (t:Tree):Nat:=t.kids.length
theorem vF {t:Tree} {j:Nat} (h:j<t.kids.length):t.yK j=t.kids[j]:=by simp[yK,List.getD,List.getElem?_eq_getElem h]
theorem eta (t:Tree):Tree.node t.kind t.num t.kids=t:=by cases t;rfl
theorem ind {p:Tree→Prop} (h:∀t:Tree,(∀j,j<t.width→p (t.yK j))→p t):∀t,p t:=by
 intro t
 refine Tree.rec (motive_1:=p) (motive_2:=λks=>∀t∈ks,p t) ?_ ?_ ?_ t
 ·intro k n ks ih
  refine h _ λj hj=>?_
  rw[vF (t:=.node k n ks) hj]
  exact ih _ (List.getElem_mem hj)
 ·intro t ht;cases ht
 ·intro t ts h1 h2 u hu
  rcases List.mem_cons.1 hu with rfl|hu
  ·exact h1
  ·exact h2 u hu
end Tree
def zU (k:Int):Int:=if k=1∨k=2∨k=3 then 0 else if k=4∨k=7∨k=10∨k=11 then 1 else if k=5∨k=6∨k=8∨k=9 then 2 else -1
def xN (k:Int):Int:=if k=1∨k=2∨k=3 then 0 else if k=4∨k=7∨k=8∨k=9∨k=11∨k=12∨k=13 then 1 else if k=5∨k=6∨k=10∨k=14 then 2 else -1
def yI (kd:Int→Int) (t:Tree):Prop:=kd t.kind≠(t.width:Int)∨t.num<0∨63<t.num∨(t.kind≠3∧t.num≠0)
instance (kd:Int→Int) (t:Tree):Decidable (yI kd t):=by unfold yI;infer_instance
mutual
def vA (kd:Int→Int):Tree→Int→Int→Int × Int
 | .node k x ks,d,n =>
  if 60<n+1 then (2,n+1) else if 20<d then (5,n+1) else if yI kd (.node k x ks) then (1,n+1) else Yx kd ks (d+1) (n+1)
def Yx (kd:Int→Int):List Tree→Int→Int→Int × Int
 | [],_,n=>(0,n)
 | t::ts,d,n=>if (vA kd t d n).1=0 then Yx kd ts d (vA kd t d n).2 else vA kd t d n
end
theorem znp (kd:Int→Int) (t:Tree) (d n:Int) :
  vA kd t d n=if 60<n+1 then (2,n+1) else if 20<d then (5,n+1) else if yI kd t then (1,n+1) else Yx kd t.kids (d+1) (n+1):=by
 cases t;rw[vA];rfl
theorem zg3 (kd:Int→Int) {t:Tree} {j:Nat} (hj:j<t.width) (d n:Int) :
  Yx kd (t.kids.drop j) d n=if (vA kd (t.yK j) d n).1=0 then Yx kd (t.kids.drop (j+1)) d (vA kd (t.yK j) d n).2 else vA kd (t.yK j) d n:=by
 rw[List.drop_eq_getElem_cons hj,Yx,Tree.vF hj]
theorem zhe (kd:Int→Int) (t:Tree) (d n:Int):Yx kd (t.kids.drop t.width) d n=(0,n):=by
 rw[Tree.width,List.drop_length,Yx]
def yF (kd:Int→Int) (t:Tree):Int:=(vA kd t 1 0).1
mutual
theorem zbd (kd:Int→Int):∀(t:Tree) (d n:Int),n+1≤(vA kd t d n).2∧(n≤60→(vA kd t d n).2≤61)
 | .node k x ks,d,n=>by
  have:=zhn kd ks (d+1) (n+1)
  rw[vA]
  split
  ·simp;omega
  ·split
   ·simp;omega
   ·split
    ·simp;omega
    ·omega
theorem zhn (kd:Int→Int):∀(ts:List Tree) (d n:Int),n≤(Yx kd ts d n).2∧(n≤60→(Yx kd ts d n).2≤61)
 | [],_,n=>by rw[Yx];simp;omega
 | t::ts,d,n=>by
  have h1:=zbd kd t d n
  have h2:=zhn kd ts d (vA kd t d n).2
  have h3:=zc3 kd t d n
  rw[Yx]
  split
  ·rename_i h
   have:=h3 h
   omega
  ·omega
theorem zc3 (kd:Int→Int):∀(t:Tree) (d n:Int),(vA kd t d n).1=0→(vA kd t d n).2≤60
 | .node k x ks,d,n=>by
  have:=znG kd ks (d+1) (n+1)
  rw[vA]
  split
  ·simp
  ·split
   ·simp
   ·split
    ·simp
    ·intro h;exact this (by omega) h
theorem znG (kd:Int→Int):∀(ts:List Tree) (d n:Int),n≤60→(Yx kd ts d n).1=0→(Yx kd ts d n).2≤60
 | [],_,n=>by rw[Yx];simp
 | t::ts,d,n=>by
  have h1:=zc3 kd t d n
  have h2:=znG kd ts d (vA kd t d n).2
  intro hn
  rw[Yx]
  split
  ·rename_i h
   exact h2 (h1 h)
  ·intro h;contradiction
end
end
section
theorem Tree.ztL {a b:Tree} (h1:a.kind=b.kind) (h2:a.num=b.num) (h3:a.width=b.width) (h4:∀j,j<a.width→a.yK j=b.yK j):a=b:=by
 rw[←Tree.eta a,←Tree.eta b,h1,h2]
 congr 1
 refine List.ext_getElem h3 λi hi hi'=>?_
 have:=h4 i hi
 rwa [Tree.vF hi,Tree.vF hi'] at this
open Classical in
noncomputable def Jc (a b:Tree):Bool:=decide (a=b)
theorem zq9 {a b:Tree} (h:a=b):true=Jc a b:=by simp[Jc,h]
theorem zgE {a b:Tree} (h:a≠b):false=Jc a b:=by simp[Jc,h]
theorem zdj {a b:Tree}:Jc a b=true↔a=b:=by simp[Jc]
mutual
def Tree.size:Tree→Nat
 | .node _ _ ks=>1+Tree.ZK ks
def Tree.ZK:List Tree→Nat
 | []=>0
 | t::ts=>t.size+Tree.ZK ts
end
mutual
def Tree.depth:Tree→Nat
 | .node _ _ ks=>1+Tree.zbM ks
def Tree.zbM:List Tree→Nat
 | []=>0
 | t::ts=>max t.depth (Tree.zbM ts)
end
mutual
def Tree.wf (kd:Int→Int):Tree→Prop
 | .node k n ks=>¬yI kd (.node k n ks)∧Tree.wfs kd ks
def Tree.wfs (kd:Int→Int):List Tree→Prop
 | []=>True
 | t::ts=>t.wf kd∧Tree.wfs kd ts
end
theorem Tree.zoQ:∀t:Tree,1≤t.depth:=λt=>by cases t;rw[Tree.depth];omega
mutual
theorem zha (kd:Int→Int):∀(t:Tree) (d n:Int),(vA kd t d n).1=0↔(n+t.size≤60∧d+t.depth≤21∧t.wf kd)
 | .node k x ks,d,n=>by
  have h1:=zgm kd ks (d+1) (n+1)
  rw[vA,Tree.size,Tree.depth,Tree.wf]
  by_cases c1:60<n+1
  ·rw[if_pos c1];simp;omega
  ·rw[if_neg c1]
   by_cases c2:20<d
   ·rw[if_pos c2];simp;omega
   ·rw[if_neg c2]
    by_cases c3:yI kd (.node k x ks)
    ·rw[if_pos c3];simp[c3]
    ·rw[if_neg c3,h1]
     constructor
     ·rintro⟨a,b,c⟩
      cases ks with
      | nil=>rw[Tree.ZK,Tree.zbM] at *;exact⟨by omega,by omega,c3,c⟩
      | cons t ts=>have:=a (by simp);have:=b (by simp);exact⟨by omega,by omega,c3,c⟩
     ·rintro⟨a,b,_,c⟩
      exact⟨by omega,λ_=>by omega,c⟩
theorem zgm (kd:Int→Int):∀(ts:List Tree) (d n:Int),(Yx kd ts d n).1=0↔((ts≠[]→n+Tree.ZK ts≤60)∧(ts≠[]→d+Tree.zbM ts≤21)∧Tree.wfs kd ts)
 | [],_,n=>by rw[Yx,Tree.wfs];simp
 | t::ts,d,n=>by
  have h1:=zha kd t d n
  have h3:=zkC kd t d n
  have h2:=zgm kd ts d (vA kd t d n).2
  rw[Yx,Tree.ZK,Tree.zbM,Tree.wfs]
  have hd:=Tree.zoQ t
  by_cases c:(vA kd t d n).1=0
  ·rw[if_pos c,h2,h3 c]
   rw[h1] at c
   obtain⟨c1,c2,c3⟩:=c
   cases ts with
   | nil=>rw[Tree.ZK,Tree.zbM,Tree.wfs];simp[c3];omega
   | cons u us =>
    simp only[ne_eq,reduceCtorEq,not_false_eq_true,true_implies,c3,true_and]
    constructor
    ·rintro⟨a,b,e⟩;exact⟨by omega,by omega,e⟩
    ·rintro⟨a,b,e⟩;exact⟨by omega,by omega,e⟩
  ·rw[if_neg c]
   constructor
   ·intro h;exact absurd h c
   ·rintro⟨a,b,e⟩
    refine absurd (h1.2 ⟨?_,?_,e.1⟩) c
    ·have:=a (by simp);omega
    ·have:=b (by simp);omega
theorem zkC (kd:Int→Int):∀(t:Tree) (d n:Int),(vA kd t d n).1=0→(vA kd t d n).2=n+t.size
 | .node k x ks,d,n=>by
  have h1:=zjk kd ks (d+1) (n+1)
  rw[vA,Tree.size]
  split
  ·simp
  ·split
   ·simp
   ·split
    ·simp
    ·intro h;rw[h1 h];omega
theorem zjk (kd:Int→Int):∀(ts:List Tree) (d n:Int),(Yx kd ts d n).1=0→(Yx kd ts d n).2=n+Tree.ZK ts
 | [],_,n=>by rw[Yx,Tree.ZK];simp
 | t::ts,d,n=>by
  have h1:=zkC kd t d n
  have h2:=zjk kd ts d (vA kd t d n).2
  rw[Yx,Tree.ZK]
  split
  ·rename_i h;intro h';rw[h2 h',h1 h];omega
  ·intro h;contradiction
end
theorem ZU (kd:Int→Int) (t:Tree):yF kd t=0↔(t.size≤60∧t.depth≤20∧t.wf kd):=by
 unfold yF;rw[zha]
 constructor
 ·rintro⟨a,b,c⟩;exact⟨by omega,by omega,c⟩
 ·rintro⟨a,b,c⟩;exact⟨by omega,by omega,c⟩
theorem zob (kd:Int→Int):∀ts:List Tree,Tree.wfs kd ts↔∀t∈ts,t.wf kd
 | []=>by simp[Tree.wfs]
 | t::ts=>by rw[Tree.wfs,zob kd ts];simp
theorem xO (kd:Int→Int) (t:Tree):t.wf kd↔¬yI kd t∧∀u∈t.kids,u.wf kd:=by
 cases t;rw[Tree.wf,zob];rfl
theorem xG {kd:Int→Int} {t:Tree} (h:t.wf kd) {j:Nat} (hj:j<t.width):(t.yK j).wf kd:=by
 rw[Tree.vF hj];exact((xO kd t).1 h).2 _ (List.getElem_mem hj)
def vE (k n:Int):Tree:=.node k n []
def x6 (k:Int) (a:Tree):Tree:=.node k 0 [a]
def u9 (k:Int) (a b:Tree):Tree:=.node k 0 [a,b]
def zhW (k:Int):Int:=if k=1 then 2 else if k=2 then 1 else if k=5 then 6 else if k=6 then 5 else if k=8 then 9 else if k=9 then 8 else if k=10 then 11 else if k=11 then 10 else k
theorem uk {t:Tree} (h:¬yI zU t):(t.kind=1∨t.kind=2∨t.kind=3)∧t.width=0∨(t.kind=4∨t.kind=7∨t.kind=10∨t.kind=11)∧t.width=1∨(t.kind=5∨t.kind=6∨t.kind=8∨t.kind=9)∧t.width=2:=by
 unfold yI zU at h
 (repeat' split at h)<;>omega
end
section
open Go.RowKit
def zfn (b:Bool):D:=.sc (.bool b)
def zB (l:List Int):D:=.xl 1 (l.map λn=>[.sc (.int .i64 n)])
def yd (g:List (List Int)):D:=.xl 1 (g.map λl=>[zB l])
theorem zC {α:Type} (f:α→List D) (h:∀a,zb (f a)):∀l:List α,yJ (l.map f)
 | []=>by simp only[List.map_nil,yJ]
 | a::l=>by simp only[List.map_cons,yJ];exact⟨h a,zC f h l⟩
theorem zj (l:List Int):Pure (zB l):=by
 simp only[zB,Pure];exact zC _ (λn=>by simp[zb,Pure]) l
theorem yf (g:List (List Int)):Pure (yd g):=by
 simp only[yd,Pure];exact zC _ (λl=>by simp[zb,zj]) g
mutual
def y6:Tree→List D
 | .node k n ks=>[.sc (.int .i64 k),.sc (.int .i64 n),.xl 3 (zb7 ks)]
def zb7:List Tree→List (List D)
 | []=>[]
 | t::r=>y6 t::zb7 r
end
def yy (t:Tree):List D:=[.sc (.int .i64 t.kind),.sc (.int .i64 t.num),.xl 3 (t.kids.map y6)]
def zQ (t:Tree):D:=.agg (yy t)
theorem zgJ:∀l,zb7 l=l.map y6
 | []=>by simp only[zb7,List.map_nil]
 | t::r=>by simp only[zb7,List.map_cons,zgJ r]
theorem qp (t:Tree):y6 t=yy t:=by
 cases t;simp only[y6,zgJ];rfl
mutual
theorem YR:∀t:Tree,zb (y6 t)
 | .node k n ks=>by simp only[y6,zb,Pure,true_and,and_true];exact zdS ks
theorem zdS:∀l:List Tree,yJ (zb7 l)
 | []=>by simp only[zb7,yJ]
 | t::r=>by simp only[zb7,yJ];exact⟨YR t,zdS r⟩
end
theorem zh (t:Tree):Pure (zQ t):=by simp only[zQ,Pure];rw[←qp];exact YR t
theorem xy {H:List zf}:∀l:List D,wX H l l
 | []=>.nil
 | d::r=>.cons _ _ _ _ (.refl d) (xy r)
theorem z8 {H:List zf}:∀l:List (List D),vH H l l
 | []=>.nil
 | d::r=>.cons _ _ _ _ (xy d) (z8 r)
theorem zeh {H:List zf} (t:Tree):wX H (yy t) (y6 t):=by rw[qp];exact xy _
inductive Small:Tree→Prop where
 | mk (t:Tree) (h:t.width≤9223372036854775807) (k:∀j,j<t.width→Small (t.yK j)):Small t
theorem Small.width {t:Tree} (h:Small t):t.kids.length≤9223372036854775807:=by cases h;assumption
theorem Small.yK {t:Tree} (h:Small t) {j:Nat} (hj:j<t.width):Small (t.yK j):=by cases h with|mk _ _ k=>exact k j hj
theorem W5:∀t:Tree,t.wf zU→Small t:=by
 intro t
 induction t using Tree.ind with
 | h t ih =>
  intro hw
  refine .mk t ?_ λj hj=>ih j hj (xG hw hj)
  have:=uk ((xO _ _).1 hw).1
  omega
theorem zp {m:Nat→Bool} {H:List zf} {xs ys:List (List D)} (h:xs=ys):zN m H xs ys:=h▸.refl xs
theorem yq (t:Tree):zb (yy t):=by rw[←qp];exact YR t
theorem xI (t:Tree):yJ (t.kids.map y6):=zC _ YR _
theorem zg6 {α:Type} {β:Type} (f:α→β) {l:List α} {k:Nat} {a:α} (h:l[k]? = some a):List.drop 0 (List.take k ((l.take k).map f))++[f a]=(l.take (k+1)).map f:=by
 rw[List.drop_zero,List.take_of_length_le (by simp;omega),List.take_add_one,h]
 simp
theorem kid_get? {t:Tree} {j:Nat} (h:j<t.width):t.kids[j]? = some (t.yK j):=by rw[Tree.vF h,List.getElem?_eq_getElem h]
theorem xb {t:Tree} {j:Nat} (h:j<t.width):(t.kids.map y6)[j]? = some (yy (t.yK j)):=by
 rw[List.getElem?_map,Tree.vF h,List.getElem?_eq_getElem h,←qp];rfl
theorem zR {H:List zf} {d e:D} (h:d=e):Deep H d e:=h▸.refl d
theorem qq {H:List zf} {d:D} {t u:Tree} (h:t=u) (k:Deep H d (zQ u)):Deep H d (zQ t):=h▸k
end
section
open Go.RowKit
section
variable {P:Program} {f:FuncId}
theorem vI {args:List D} {H0 H0':List zf} {d:D} (hA:yr P f args H0 d H0') (L R:List zf) (hlen:H0'.length=H0.length) (hargs:zl H0.length args) (hobj:wJ H0.length H0)
  {args2:List D} {d2:D} {H H2:List zf} (e1:yE (λi=>L.length+i) args=args2) (e2:D.yG (λi=>L.length+i) d=d2) (e3:L++(H0.map (zf.yG λi=>L.length+i)++R)=H) (e4:L++(H0'.map (zf.yG λi=>L.length+i)++R)=H2) :
  yr P f args2 H d2 H2:=by
 subst e1 e2 e3 e4
 refine zck (λi=>L.length+i) hA (λi j _ _ h=>by omega) (λi o h=>?_) (λi h1 h2=>by omega) (by simp[hlen]) (λi o h=>?_) (λj hj hne=>?_) hargs (Zd hobj)
 ·rw[List.getElem?_append_right (by omega),Nat.add_sub_cancel_left,List.getElem?_append_left (by simpa using uj h),List.getElem?_map,h];rfl
 ·rw[List.getElem?_append_right (by omega),Nat.add_sub_cancel_left,List.getElem?_append_left (by simpa using uj h),List.getElem?_map,h];rfl
 ·rcases Nat.lt_or_ge j L.length with h|h
  ·rw[List.getElem?_append_left h,List.getElem?_append_left h]
  ·have:H0.length≤j-L.length:=by
    rcases Nat.lt_or_ge (j-L.length) H0.length with q|q
    ·exact absurd (by omega) (hne (j-L.length) q)
    ·exact q
   rw[List.getElem?_append_right h,List.getElem?_append_right h,List.getElem?_append_right (by simp;omega),List.getElem?_append_right (by simp;omega)]
   simp[hlen]
theorem vT {args:List D} {H0 H0':List zf} {d:D} (hA:yr P f args H0 d H0') (R:List zf) (hlen:H0'.length=H0.length) (hargs:zl H0.length args) (hobj:wJ H0.length H0):yr P f args (H0++R) d (H0'++R):=by
 have h:(λi=>([]:List zf).length+i)=λi=>i:=by funext i;simp
 refine vI hA [] R hlen hargs hobj ?_ ?_ ?_ ?_<;>rw[h]
 ·exact YF _
 ·exact zih _
 ·rw[show(zf.yG λi=>i)=id from funext zc7];simp
 ·rw[show(zf.yG λi=>i)=id from funext zc7];simp
end
theorem znl {c:Bool} {A B:Prop} (h:c=true) (k:A):ifK c A B:=by subst h;exact k
theorem zle {c:Bool} {A B:Prop} (h:c=false) (k:B):ifK c A B:=by subst h;exact k
def cutQ {ι:Type} (L n:Nat) (Q:qE) (E:ι→Env) (O:ι→List zf) (G:ι→Prop):qE
 | .normal,env,H=>∃i,G i∧St.leB L n env H (E i) (O i)
 | e,env,H=>Q e env H
theorem zde {P:Program} {n:Nat} {p:PC} {Q:qE} {env:Env} {H:List zf} {ι:Type} (E:ι→Env) (O:ι→List zf) (G:ι→Prop) (h1:PWp P n p (cutQ H.length n Q E O G) env H)
  (h2:∀i,G i→Q .normal (E i) (O i)):PWp P n p Q env H:=Xa λc hc J F a w hr=>by
 refine wp_mono (qx h1 hc hr) λe a2 w2 ⟨env',H',J',F',q1,q2,q3⟩=>?_
 cases e with
 | normal =>
  obtain⟨i,r1,r2⟩:=q1
  obtain⟨J2,F2,t1,t2,t3,t4,t5⟩:=r2 J' F' a2 w2 q2
  exact⟨E i,O i,J2,F2,h2 i r1,t1,zcU hr.dom q3 t2 t3 t4 t5⟩
 | _=>exact⟨env',H',J',F',q1,q2,q3⟩
@[simp] theorem zuc {m:Nat} (t:Tree):zl m (y6 t)↔True:=⟨λ_=>trivial,λ_=>zr _ (YR t)⟩
@[simp] theorem zBO {ρ:Nat→Nat} (t:Tree):D.yG ρ (zQ t)=zQ t:=yM _ (zh t)
end
section
open Go.RowKit
instance (n:Nat):OfNat Operand n:=⟨.tmp n⟩
def cI (n:Int):Operand:=.const (.int .i64 n)
def cS (l:Array UInt8):Operand:=.const (.string ⟨l⟩)
def cT:Operand:=.const (.bool true)
def cF:Operand:=.const (.bool false)
def cN:Operand:=.const (.slice none 0 0)
def GT (d g:Nat) (o:POp):yC:=⟨some d,o,some (g,true),0⟩
def GF (d g:Nat) (o:POp):yC:=⟨some d,o,some (g,false),0⟩
def Fa (d k:Nat) (x:Operand):yC:=q d (.zy k x)
def Lo (d:Nat) (x:Operand):yC:=q d (.zg x)
def LA (d n:Nat) (x:Operand):yC:=q d (.vC n x)
def Xt (d k:Nat) (x:Operand):yC:=q d (.ext k x)
def Bx (d:Nat) (x:Operand):yC:=q d (.box x)
def Nt (d:Nat) (x:Operand):yC:=q d (.un .not x)
def Ln (d:Nat) (x:Operand):yC:=q d (.len x)
def Mv (d:Nat) (x:Operand):yC:=q d (.move x)
def Bi (d:Nat) (o:BinOp) (x y:Operand):yC:=q d (.bin o x y)
def Ia (d e:Nat) (x y:Operand):yC:=q d (.zM e x y)
def Ap (d e b:Nat) (x y:Operand):yC:=q d (.append e b x y)
def Pk (d:Nat) (c x y:Operand):yC:=q d (.pick c x y)
def Ca (d:Nat) (f:FuncId) (l:List Operand):yC:=q d (.call f l)
def Bs (d e n:Nat) (l:List Operand):yC:=q d (.wz e n l)
def So (n:Nat) (x y:Operand):yC:=qn (.store n x y)
abbrev OP (l:List yC):PC:=.ops l false
theorem fK {P : Program} {f : FuncId} {n : Nat} {rs : List RV} {p : PC} {fn : Func} (h : P.funcs[f]? = some fn) (a : fn.ntmps = n := by rfl) (b : (fn.name == "runtime.NumGoroutine") = false := by kernel_rfl) (c : zmM P fn.results.toList = some rs := by rfl) (d : fn.body.bind (comp P n) = some p.bare := by kernel_rfl) : zv P f n rs p := ⟨⟨fn, h, a, b, c, d⟩⟩
theorem sO {A:Prop} (h:A:=by((try simp only[oo,reduceCtorEq]at*)<;>omega)):A:=h
theorem zo {A:Prop} (h:A:=by omega):A:=h
theorem zs {A:Prop} (h:A:=by simp):A:=h
theorem zd {A:Prop} (h:A:=by(dsimp only;omega)):A:=h
theorem zc {A:Prop} (h:A:=by decide):A:=h
theorem sW {A B:Prop} (b:B) (e:B→A:=by(intro h;((conv=>whnf);repeat(refine⟨rfl,?_⟩;conv=>whnf));exact h)):A:=e b
theorem sR {P:Program} {n:Nat} {p:PC} {Q:qE} {env:Env} {H:List zf} {f:WP} {B:Prop} (b:B) (h:Rd P n p f:=by(focus (repeat' constructor))) (e:B→f Q env H:=by(intro h;((conv=>whnf);repeat(refine⟨rfl,?_⟩;conv=>whnf));exact h)):PWp P n p Q env H:=zi8 h (e b)
theorem sS {c:Bool} {A A' B B':Prop} (a:c=true→A') (b:c=false→B') (e:c=true→A'→A:=by(intro h k;rw[h];((conv=>whnf);repeat(refine⟨rfl,?_⟩;conv=>whnf));exact k)) (g:c=false→B'→B:=by(intro h k;rw[h];((conv=>whnf);repeat(refine⟨rfl,?_⟩;conv=>whnf));exact k)):ifK c A B:=QO (λh=>e h (a h)) λh=>g h (b h)
theorem sC {P:Program} {f:FuncId} {args:List D} {d:D} {K:D→Prop} {R B:Prop} (t:zn P f args d) (b:B) (e:B→K d:=by(intro h;((conv=>whnf);repeat(refine⟨rfl,?_⟩;conv=>whnf));exact h)):(∃d,zn P f args d∧K d)∨R:=.inl ⟨d,t,e b⟩
theorem sA {P:Program} {f:FuncId} {args:List D} {H H2:List zf} {d:D} {K:D→List zf→Prop} {X Y R B:Prop} (t:yr P f args H d H2) (b:B) (e:B→K d H2:=by(intro h;((conv=>whnf);repeat(refine⟨rfl,?_⟩;conv=>whnf));exact h)):X∨Y∨(true=true∧∃d H2,yr P f args H d H2∧K d H2)∨R:=.inr (.inr (.inl ⟨rfl,d,H2,t,e b⟩))
theorem sE {P:Program} {f:FuncId} {args:List D} {H H2:List zf} {d:D} {L:List Nat} {K:D→List zf→List Nat→Prop} {X Y Z U R B:Prop} (t:qs P f args H d H2 L) (b:B) (e:B→K d H2 L:=by(intro h;((conv=>whnf);repeat(refine⟨rfl,?_⟩;conv=>whnf));exact h)):X∨Y∨Z∨U∨(∃d H2 L,qs P f args H d H2 L∧K d H2 L)∨R:=.inr (.inr (.inr (.inr (.inl ⟨d,H2,L,t,e b⟩))))
theorem sX {P:Program} {f:FuncId} {args:List D} {H:List zf} {d:D} {L:List Nat} {K:D→List Nat→Prop} {X Y Z U V W B:Prop} (t:zf5 P f args H d L) (b:B) (e:B→K d L:=by(intro h;((conv=>whnf);repeat(refine⟨rfl,?_⟩;conv=>whnf));exact h)):X∨Y∨Z∨U∨V∨W∨(∃d L,zf5 P f args H d L∧K d L):=.inr (.inr (.inr (.inr (.inr (.inr ⟨d,L,t,e b⟩)))))
theorem zdp {H:List zf} {n:Nat} {l:List (List D)} (h:l.length≤n):vH H (List.drop 0 (List.take n l)) l:=by rw[List.drop_zero,List.take_of_length_le h];exact z8 _
theorem sN {P:Program} {f:FuncId} {args args':List D} {H:List zf} {d:D} {K:D→Prop} {X R B:Prop} (t:zn P f args' d) (b:B) (h:wX H args args':=by(repeat' (first|exact Deep.refl _|exact Deep.none _|exact zeh _|exact wX.nil|exact vH.nil|refine Deep.agg _ _ ?_|refine Deep.yP _ _ ?_|refine Deep.own _ _ _ _ _ _ _ _ rfl ?_|refine Deep.loc _ _ _ _ _ rfl ?_|refine Deep.ifc _ _ _ ?_|refine Deep.fn _ _ _ _ _ ?_ ?_|refine wX.cons _ _ _ _ ?_ ?_|refine vH.cons _ _ _ _ ?_ ?_|exact z8 _|exact zdp (by first|(simp;done)|(simp[zI];done))))) (r:zkA d=true:=by rfl) (e:B→K d:=by(intro h;((conv=>whnf);repeat(refine⟨rfl,?_⟩;conv=>whnf));exact h)):X∨(∃args' d,wX H args args'∧zn P f args' d∧zkA d=true∧K d)∨R:=.inr (.inl ⟨args',d,h,t,r,e b⟩)
theorem sV {P:Program} {f:FuncId} {args args':List D} {H:List zf} {d:D} {K:D→Prop} {X Y Z U V R B:Prop} (t:zn P f args' d) (b:B) (h:wX H args args':=by(repeat' (first|exact Deep.refl _|exact Deep.none _|exact zeh _|exact wX.nil|exact vH.nil|refine Deep.agg _ _ ?_|refine Deep.yP _ _ ?_|refine Deep.own _ _ _ _ _ _ _ _ rfl ?_|refine Deep.loc _ _ _ _ _ rfl ?_|refine Deep.ifc _ _ _ ?_|refine Deep.fn _ _ _ _ _ ?_ ?_|refine wX.cons _ _ _ _ ?_ ?_|refine vH.cons _ _ _ _ ?_ ?_|exact z8 _|exact zdp (by first|(simp;done)|(simp[zI];done))))) (e:B→K d:=by(intro h;((conv=>whnf);repeat(refine⟨rfl,?_⟩;conv=>whnf));exact h)):X∨Y∨Z∨U∨V∨(true=true∧∃args' d,wX H args args'∧zn P f args' d∧K d)∨R:=.inr (.inr (.inr (.inr (.inr (.inl ⟨rfl,args',d,h,t,e b⟩)))))
theorem sL {X:Prop} {α:Type} {o:Option α} {a:α} {K:α→Prop} {B:Prop} (t:o=some a) (b:B) (h:X:=by omega) (e:B→K a:=by(intro h;((conv=>whnf);repeat(refine⟨rfl,?_⟩;conv=>whnf));exact h)):X∧∃a,o=some a∧K a:=⟨h,a,t,e b⟩
theorem sJ {A K B:Prop} (b:B) (h:A:=by(unfold xg;simp only[ll];omega)) (e:B→K:=by(intro h;((conv=>whnf);repeat(refine⟨rfl,?_⟩;conv=>whnf));exact h)):A∧K:=⟨h,e b⟩
theorem sI {k:IntKind} {z:Int} {K:Prop} {R B:Prop} (b:B) (h:JL k z:=by(unfold JL;rw[IntKind.wrap_i64];omega)) (e:B→K:=by(intro h;((conv=>whnf);repeat(refine⟨rfl,?_⟩;conv=>whnf));exact h)):(JL k z∧K)∨R:=.inl ⟨h,e b⟩
theorem sB {X Y K B:Prop} (b:B) (h:X:=by omega) (g:Y:=by(first|omega|(simp;done)|(simp;omega)|(simp only[ll];omega))) (e:B→K:=by(intro h;((conv=>whnf);repeat(refine⟨rfl,?_⟩;conv=>whnf));exact h)):X∧Y∧K:=⟨h,g,e b⟩
theorem sP {A:Prop} (h:A:=by(repeat' (first|exact Deep.refl _|exact Deep.none _|exact zeh _|exact wX.nil|exact vH.nil|refine Deep.agg _ _ ?_|refine Deep.yP _ _ ?_|refine Deep.own _ _ _ _ _ _ _ _ rfl ?_|refine Deep.loc _ _ _ _ _ rfl ?_|refine Deep.ifc _ _ _ ?_|refine Deep.fn _ _ _ _ _ ?_ ?_|refine wX.cons _ _ _ _ ?_ ?_|refine vH.cons _ _ _ _ ?_ ?_|exact z8 _))):A:=h
theorem sD {A:Prop} (h:A:=by(repeat' (first|exact trivial|exact ym.none _|refine And.intro ?_ ?_|exact Or.inl rfl|exact Or.inr ⟨rfl,rfl⟩|exact λ_=>rfl|exact(λh=>by cases h)|refine ym.loc _ _ _ _ _ rfl rfl ?_|refine ym.own _ _ _ _ _ _ _ _ rfl rfl ?_|refine ym.fn _ _ _ _ _ ?_ ?_|refine ym.agg _ _ ?_|refine ym.yP _ _ ?_|refine ym.ifc _ _ _ ?_|exact ym.refl _|refine zX.cons _ _ _ _ ?_ ?_|exact zX.refl _|refine zN.cons _ _ _ _ ?_ ?_|exact zN.refl _|exact rfl))):A:=h
theorem sQ {A:Prop} (h:A:=by(repeat' (first|exact trivial|exact rfl|exact ym.refl _|exact zX.refl _|exact zN.refl _|refine And.intro ?_ ?_|(simp[zt,zl,zF,-List.map_take,-List.map_drop];done)))):A:=h
theorem sU {A B:Prop} (b:B) (e:B→A:=by(intro h;(repeat' (first|exact trivial|exact rfl|exact ym.refl _|exact zX.refl _|exact zN.refl _|refine And.intro ?_ ?_|(simp[zt,zl,zF,-List.map_take,-List.map_drop];done)|exact h)))):A:=e b
theorem sK {A:Prop} (h:A:=by(repeat' (first|exact trivial|refine And.intro rfl ?_))):A:=h
end
section
section
open Go.RowKit
mutual
def lens {H:Type} (L:Nat):DataW H→Prop
 | .lit (.string b)=>b.length≤L
 | .lit _=>True
 | .slice elems _=>elems.length≤L∧Wz L elems
 | .agg parts=>Wz L parts
 | _=>True
def Wz {H:Type} (L:Nat):List (DataW H)→Prop
 | []=>True
 | d::r=>lens L d∧Wz L r
end
theorem UN {H:Type} {L:Nat}:∀{l:List (DataW H)},Wz L l→∀d∈l,lens L d
 | [],_,_,h=>by cases h
 | x::r,h,d,hd=>by
  simp only[Wz] at h
  rcases List.mem_cons.1 hd with rfl|hd
  ·exact h.1
  ·exact UN h.2 d hd
mutual
inductive YJ (P:Program) (L:Nat):TypeId→List D→Prop
 | bool (t:TypeId) (b:Bool) (ht:P.underlying t=some .bool):YJ P L t [.sc (.bool b)]
 | int (t:TypeId) (k:IntKind) (n:Int) (ht:P.underlying t=some (.int k)) (h:k.min≤n∧n≤k.max):YJ P L t [.sc (.int k n)]
 | str (t:TypeId) (s:ByteArray) (ht:P.underlying t=some .string) (h:s.size≤140737488351232) (hL:L=0∨s.size≤L):YJ P L t [.sc (.string s)]
 | slice (t e:TypeId) (xs:List (List D)) (ht:P.underlying t=some (.slice e)) (hn:xs.length≤9223372036854775807∧xs.length*P.bytesOf e≤140737488351232) (hL:L=0∨xs.length≤L) (h:UA P L e xs):YJ P L t [.xl (P.cellsOf e) xs]
 | struct (t:TypeId) (fs:Array Field) (cs:List D) (ht:P.underlying t=some (.struct fs)) (h:YN P L (fs.toList.map (·.type)) cs):YJ P L t cs
inductive YN (P:Program) (L:Nat):List TypeId→List D→Prop
 | nil:YN P L [] []
 | cons (t:TypeId) (ts:List TypeId) (a b:List D) (h:YJ P L t a) (k:YN P L ts b):YN P L (t::ts) (a++b)
inductive UA (P:Program) (L:Nat):TypeId→List (List D)→Prop
 | nil (e:TypeId):UA P L e []
 | cons (e:TypeId) (x:List D) (r:List (List D)) (h:YJ P L e x) (k:UA P L e r):UA P L e (x::r)
end
abbrev OfT (P:Program):=YJ P 0
abbrev OfTL (P:Program):=UA P 0
section
variable {P:Program} {L:Nat} {t:TypeId} {cs:List D}
theorem of_int {k:IntKind} (ht:P.underlying t=some (.int k)) (h:YJ P L t cs):∃n,cs=[.sc (.int k n)]∧k.min≤n∧n≤k.max:=by
 cases h<;>simp_all
theorem zvE (ht:P.underlying t=some .string) (h:YJ P L t cs):∃s:ByteArray,cs=[.sc (.string s)]∧s.size≤140737488351232:=by
 cases h<;>simp_all
theorem zzZ (ht:P.underlying t=some .string) (h:YJ P L t cs):∃s:ByteArray,cs=[.sc (.string s)]∧s.size≤9223372036854775807:=by
 obtain⟨s,e,h⟩:=zvE ht h
 exact⟨s,e,by omega⟩
theorem zgj {e:TypeId} (ht:P.underlying t=some (.slice e)) (h:YJ P L t cs):∃xs,cs=[.xl (P.cellsOf e) xs]∧(xs.length≤9223372036854775807∧xs.length*P.bytesOf e≤140737488351232)∧UA P L e xs:=by
 cases h<;>simp_all
theorem of_slice {e:TypeId} (ht:P.underlying t=some (.slice e)) (h:YJ P L t cs):∃xs,cs=[.xl (P.cellsOf e) xs]∧xs.length≤9223372036854775807∧UA P L e xs:=by
 obtain⟨xs,e,h,k⟩:=zgj ht h
 exact⟨xs,e,h.1,k⟩
theorem of_struct {fs:Array Field} (ht:P.underlying t=some (.struct fs)) (h:YJ P L t cs):YN P L (fs.toList.map (·.type)) cs:=by
 cases h<;>simp_all
theorem XU (h:YN P L [] cs):cs=[]:=by cases h;rfl
theorem vQ {ts:List TypeId} (h:YN P L (t::ts) cs):∃a b,cs=a++b∧YJ P L t a∧YN P L ts b:=by
 cases h with
 | cons t ts a b h k=>exact⟨a,b,rfl,h,k⟩
theorem w9 {k:IntKind} {ts:List TypeId} (ht:P.underlying t=some (.int k)) (h:YN P L (t::ts) cs):∃n b,cs=.sc (.int k n)::b∧(k.min≤n∧n≤k.max)∧YN P L ts b:=by
 obtain⟨a,b,rfl,ha,hb⟩:=vQ h
 obtain⟨n,rfl,hn⟩:=of_int ht ha
 exact⟨n,b,rfl,hn,hb⟩
theorem zkq {ts:List TypeId} (ht:P.underlying t=some .string) (h:YN P L (t::ts) cs):∃(s:ByteArray) (b:List D),cs=.sc (.string s)::b∧s.size≤9223372036854775807∧YN P L ts b:=by
 obtain⟨a,b,rfl,ha,hb⟩:=vQ h
 obtain⟨n,rfl,hn⟩:=zzZ ht ha
 exact⟨n,b,rfl,hn,hb⟩
theorem zeG {e:TypeId} {ts:List TypeId} (ht:P.underlying t=some (.slice e)) (h:YN P L (t::ts) cs):∃xs b,cs=.xl (P.cellsOf e) xs::b∧xs.length≤9223372036854775807∧UA P L e xs∧YN P L ts b:=by
 obtain⟨a,b,rfl,ha,hb⟩:=vQ h
 obtain⟨n,rfl,h1,h2⟩:=of_slice ht ha
 exact⟨n,b,rfl,h1,h2,hb⟩
theorem zjV {e:TypeId} {ts:List TypeId} (ht:P.underlying t=some (.slice e)) (h:YN P L (t::ts) cs):∃xs b,cs=.xl (P.cellsOf e) xs::b∧(xs.length≤9223372036854775807∧xs.length*P.bytesOf e≤140737488351232)∧UA P L e xs∧YN P L ts b:=by
 obtain⟨a,b,rfl,ha,hb⟩:=vQ h
 obtain⟨n,rfl,h1,h2⟩:=zgj ht ha
 exact⟨n,b,rfl,h1,h2,hb⟩
end
def zeL (P:Program):List Field→Nat→Nat→Bool
 | [],o,n=>o==n
 | f::r,o,n=>f.offset==o&&zeL P r (o+P.cellsOf f.type) n
def zam (P:Program) (S:List TypeId):Bool:=S.all λt=>match P.underlying t with
 | some .bool|some .string=>true
 | some (.int _)=>true
 | some (.slice e)=>S.contains e&&decide (0<P.cellsOf e)
 | some (.struct fs)=>zeL P fs.toList 0 (P.cellsOf t)&&fs.toList.all λf=>S.contains f.type
 | _=>false
section
variable {P:Program}
theorem zi7 {L:Nat} {e:TypeId}:∀{xs:List (List D)},(∀x∈xs,YJ P L e x)→UA P L e xs
 | [],_=>.nil e
 | x::r,h=>.cons e x r (h x (by simp)) (zi7 λy hy=>h y (by simp[hy]))
theorem zjG {L:Nat} {e:TypeId}:∀{xs:List (List D)},UA P L e xs→∀x∈xs,YJ P L e x
 | _,.nil _,x,h=>by cases h
 | _,.cons _ y r h k,x,hx=>by
  rcases List.mem_cons.1 hx with rfl|hx
  ·exact h
  ·exact zjG k x hx
variable {H:Type} {enc:TypeId × Value→H} {W:World} {spare:Nat→Bool} {held:Bool}
def Wv (W:World):Nat→Prop:=λb=>b<W.heap.size
theorem zdN {L:Nat} {cs:List Value} {N:Nat} (hl:cs.length=N):∀(l:List Field) (o:Nat),zeL P l o N=true →
  (∀f∈l,∃ds,YJ P L f.type ds∧yi ua (Wv W) W ds ((cs.drop f.offset).take (P.cellsOf f.type))∧(∀v∈(cs.drop f.offset).take (P.cellsOf f.type),yB v=true)) →
  ∃ds,YN P L (l.map (·.type)) ds∧yi ua (Wv W) W ds (cs.drop o)∧∀v∈cs.drop o,yB v=true
 | [],o,ho,_=>by
  simp only[zeL,beq_iff_eq] at ho
  refine⟨[],.nil,?_,?_⟩
  ·simp only[yi];exact List.drop_eq_nil_of_le (by omega)
  ·rw[List.drop_eq_nil_of_le (by omega)];intro v hv;cases hv
 | f::r,o,ho,h=>by
  simp only[zeL,Bool.and_eq_true,beq_iff_eq] at ho
  obtain⟨ho1,ho2⟩:=ho
  obtain⟨a,h1,h2,h3⟩:=h f (by simp)
  obtain⟨b,k1,k2,k3⟩:=zdN hl r (o+P.cellsOf f.type) ho2 λg hg=>h g (by simp[hg])
  rw[ho1] at h2 h3
  have e:cs.drop o=(cs.drop o).take (P.cellsOf f.type)++cs.drop (o+P.cellsOf f.type):=by
   rw[←List.drop_drop,List.take_append_drop]
  refine⟨a++b,.cons _ _ _ _ h1 k1,?_,?_⟩
  ·rw[e];exact YI h2 k2
  ·intro v hv
   rw[e] at hv
   rcases List.mem_append.1 hv with hv|hv
   ·exact h3 v hv
   ·exact k3 v hv
theorem Uv {e:TypeId}:∀{ds:List (DataW H)} {d:DataW H},d∈ds→∀n∈d.weights P e,n∈DataW.weightsAll P e ds
 | d0::ds,d,hd,n,hn=>by
  simp only[DataW.weightsAll,List.mem_append]
  rcases List.mem_cons.1 hd with rfl|hd
  ·exact .inl hn
  ·exact .inr (Uv hd n hn)
 | [],_,hd,_,_=>by cases hd
theorem zp0 {L:Nat} {S:List TypeId} (hS:zam P S=true):∀(fuel:Nat) (t:TypeId) (cs:List Value) (x:DataW H × List MemPlace),t∈S→DataW.trod enc P W 0 spare held fuel t cs=some x→(∀n∈x.1.weights P t,n≤reachBytes)→(L=0∨lens L x.1) →
  ∃ds,YJ P L t ds∧yi ua (Wv W) W ds cs∧∀v∈cs,yB v=true:=by
 intro fuel
 induction fuel using Nat.strongRecOn with
 | ind fuel ih =>
  intro t cs x ht h hz hL
  have hT:=List.all_eq_true.1 hS t ht
  split at hT
  ·rename_i hu
   obtain⟨b,rfl,_⟩:=DataW.trod_bool hu h
   exact⟨_,.bool t b hu,by simp[yi,rep],by simp[yB]⟩
  ·rename_i hu
   obtain⟨s,rfl,hx,hs⟩:=DataW.trod_string hu h
   subst hx
   have hw:=hz s.size (by simp[DataW.weights])
   exact⟨_,.str t s hu (by unfold reachBytes at hw;omega) (hL.imp_right λq=>by
    simp only[lens] at q
    have e:s.data.toList.length=s.size:=by rw[Array.length_toList];rfl
    omega),by simp[yi,rep],by simp[yB]⟩
  ·rename_i k hu
   obtain⟨n,rfl,_,hw⟩:=DataW.trod_int hu h
   simp only[Lit.wf,Bool.and_eq_true,decide_eq_true_eq] at hw
   exact⟨_,.int t k n hu hw,by simp[yi,rep],by simp[yB]⟩
  ·rename_i e hu
   simp only[Bool.and_eq_true,List.contains_iff_mem,decide_eq_true_eq] at hT
   obtain⟨he,hpos⟩:=hT
   rcases DataW.trod_slice hu h with⟨rfl,_⟩|⟨a,len,cap,elems,rest,n',hn',rfl,hx,_,hl,hm,hel,hat,_,_⟩
   ·refine⟨_,.slice t e [] hu (by simp) (.inr (Nat.zero_le _)) (.nil e),?_,by simp[yB]⟩
    simp only[yi,rep]
    exact⟨_,_,rfl,⟨none,0,0,rfl,rfl,Nat.le_refl _,.inl rfl⟩,rfl⟩
   ·have hx1:x.1=.slice (elems.map (·.1)) (rest.map (·.1)):=by rw[hx]
    rw[hx1] at hz hL
    have hLe:L=0∨(elems.length≤L∧∀d∈elems.map (·.1),lens L d):=hL.imp_right λq=>by
     simp only[lens,List.length_map] at q
     exact⟨q.1,UN q.2⟩
    have hw:=hz ((elems.length+rest.length)*P.bytesOf e) (by simp[DataW.weights,hu])
    have hwe:∀d∈elems.map (·.1),∀n∈d.weights P e,n≤reachBytes:=λd hd n hn=>hz n (by
     have:=Uv hd n hn
     simp[DataW.weights,hu,this])
    have each:∀i,i<len→∃ds,YJ P L e ds∧ds.length=P.cellsOf e∧(∀j c,ds[j]? = some c→∃u,W.cell? ((a.add (i*P.cellsOf e)).add j)=some u∧yB u=true∧rep ua (Wv W) W c u):=λi hi=>by
     have hi':=hat i hi
     rw[List.getElem?_eq_getElem (by omega)] at hi'
     obtain⟨cs',hc1,hc2⟩:=Option.bind_eq_some_iff.1 hi'
     obtain⟨ds,q1,q2,q3⟩:=ih n' (by omega) e cs' _ he hc2 (hwe _ (List.mem_map_of_mem (List.getElem_mem _))) (hLe.imp_right λq=>q.2 _ (List.mem_map_of_mem (List.getElem_mem _)))
     obtain⟨_,hcl,hc⟩:=World.cells?_some hc1
     have hlen:=xB _ _ q2
     refine⟨ds,q1,by omega,λj c hj=>?_⟩
     have hjl:j<ds.length:=by
      rcases Nat.lt_or_ge j ds.length with q|q
      ·exact q
      ·rw[List.getElem?_eq_none q] at hj;cases hj
     obtain⟨v,k1,k2⟩:=vO _ _ j c hj q2
     exact⟨v,by rw[hc j (by omega)];exact k1,q3 v (List.mem_of_getElem? k1),k2⟩
    obtain⟨R,hR⟩:∃R:Nat→List D,∀i,i<len→YJ P L e (R i)∧(R i).length=P.cellsOf e∧(∀j c,(R i)[j]? = some c→∃u,W.cell? ((a.add (i*P.cellsOf e)).add j)=some u∧yB u=true∧rep ua (Wv W) W c u):=by
     refine⟨λi=>if h:i<len then Classical.choose (each i h) else [],λi hi=>?_⟩
     simp only[dif_pos hi]
     exact Classical.choose_spec (each i hi)
    refine⟨_,.slice t e ((List.range len).map R) hu (by
     rw[List.length_map,List.length_range]
     refine⟨by unfold maxLen at hm;omega,Nat.le_trans (Nat.mul_le_mul_right _ ?_) hw⟩
     omega) (hLe.imp_right λq=>by
      rw[List.length_map,List.length_range]
      omega) (zi7 λx hx=>?_),?_,by simp[yB]⟩
    ·obtain⟨i,hi,rfl⟩:=List.mem_map.1 hx
     exact(hR i (List.mem_range.1 hi)).1
    ·simp only[yi,rep]
     refine⟨_,_,rfl,⟨some a,len,cap,rfl,by simp,hl,?_⟩,rfl⟩
     rcases Nat.eq_zero_or_pos len with h0|h0
     ·exact .inl h0
     ·refine .inr ?_
      obtain⟨_,g2,g3⟩:=hR 0 h0
      obtain⟨u,hu,_⟩:=g3 0 _ (List.getElem?_eq_getElem (by omega))
      obtain⟨b,o,sp⟩:=a
      have hsp:sp=none:=by
       simp only[Addr.add,World.cell?] at hu
       split at hu
       ·cases sp with
        | none=>rfl
        | some q=>simp at hu
       ·cases hu
      subst hsp
      rw[uF,uF] at hu
      have hb:b<W.heap.size:=World.block_lt_of_cell? _ _ hu
      refine⟨b,o,rfl,hb,vz _ o λi x hx=>?_⟩
      have hi:i<len:=by
       rcases Nat.lt_or_ge i len with q|q
       ·exact q
       ·rw[List.getElem?_eq_none (by simpa using q)] at hx;cases hx
      rw[List.getElem?_map,List.getElem?_range hi] at hx
      simp at hx
      subst hx
      obtain⟨_,w2,w3⟩:=hR i hi
      exact⟨w2,xz _ _ λj c hc=>by
       have:=w3 j c hc
       rwa [uF,uF] at this⟩
  ·rename_i fs hu
   simp only[Bool.and_eq_true] at hT
   obtain⟨ho,hf⟩:=hT
   obtain⟨ys,n,hn,hx,hlen,hyl,hget⟩:=DataW.trod_struct hu h
   have hx1:x.1=.agg (ys.map (·.1)):=by rw[hx]
   rw[hx1] at hz hL
   obtain⟨ds,k1,k2,k3⟩:=zdN (P:=P) (W:=W) (L:=L) hlen fs.toList 0 ho λf hmem=>by
    obtain⟨i,hi,rfl⟩:=List.mem_iff_getElem.1 hmem
    have hi':i<fs.size:=by simpa using hi
    have hg:=hget i _ (Array.getElem?_eq_getElem hi')
    rw[List.getElem?_eq_getElem (by omega)] at hg
    have xR:(fs[i]).type∈S:=by
     have:=List.all_eq_true.1 hf _ hmem
     simpa using this
    have e:fs.toList[i]=fs[i]:=by simp
    rw[e]
    refine ih n (by omega) _ _ _ xR hg (λm hm=>hz m ?_) (hL.imp_right λq=>by
     simp only[lens] at q
     exact UN q _ (List.mem_map_of_mem (List.getElem_mem _)))
    have hwm:=DataW.weights_mem_each (P:=P) (ts:=fs.toList.map (·.type)) (ds:=ys.map (·.1)) (j:=i) (t:=(fs[i]).type) (d:=(ys[i]'(by omega)).1) (by rw[List.getElem?_map,Array.getElem?_toList,Array.getElem?_eq_getElem hi'];rfl) (by rw[List.getElem?_map,List.getElem?_eq_getElem (by omega)];rfl) m hm
    simpa [DataW.weights,hu] using hwm
   rw[List.drop_zero] at k2 k3
   exact⟨ds,.struct t fs ds hu k1,k2,k3⟩
  ·cases hT
theorem zvy {L:Nat} {S:List TypeId} (hS:zam P S=true) {t:TypeId} (ht:t∈S) {v:Value} {d:DataW H} {ps:List MemPlace} (h:DataW.Trod enc P W 0 spare held t v d ps) (hz:∀n∈d.weights P t,n≤reachBytes) (hL:L=0∨lens L d):∃ds,YJ P L t ds∧yi ua (Wv W) W ds v.cells.toList∧∀u∈v.cells.toList,yB u=true:=by
 obtain⟨fuel,hf⟩:=h
 exact zp0 hS fuel t _ _ ht hf hz hL
theorem zwm {cs:List D} {xs:Array Value} (h:yi ua (Wv W) W cs (Value.agg xs).cells.toList):rep ua (Wv W) W (.agg cs) (.agg xs):=by
 simp only[rep]
 exact⟨xs.toList,by simp,h⟩
end
end
section
open Go.ChangeShapes Go.WideShapes Go.ChangeAt Go.RowKit Go.Deep
def zjD (P:Program) (L:Nat) (t:TypeId) (d:D):Prop:=match P.underlying t with
 | some (.struct _)=>∃cs,d=.agg cs∧YJ P L t cs
 | _=>YJ P L t [d]
def zsF (P:Program) (L:Nat):List TypeId→List D→Prop
 | [],[]=>True
 | t::ts,d::ds=>zjD P L t d∧zsF P L ts ds
 | _,_=>False
abbrev OfA (P:Program):=zjD P 0
abbrev OfAs (P:Program):=zsF P 0
section
variable {H:Type} {enc:TypeId × Value→H} {P:Program} {W:World}
theorem zvH {L:Nat} {t:TypeId} {ds:List D} (hu:∀fs,P.underlying t≠some (.struct fs)) (h:YJ P L t ds):∃d,ds=[d]:=by
 cases h with
 | struct=>rename_i ht _;exact absurd ht (hu _)
 | _=>exact⟨_,rfl⟩
theorem zhl {L:Nat} {S:List TypeId} (hS:zam P S=true) {base:Nat}:∀(ts:List TypeId) (vs:List Value) (ds:List (DataW H)) (ps:List MemPlace),(∀t∈ts,t∈S)→(∀(j:Nat) (t:TypeId) (v:Value),ts[j]? = some t→vs[j]? = some v→Value.okWide P W .any base t v) →
  DataW.TrodAll enc P W 0 (λ_=>true) true ts vs ds ps→(∀n∈DataW.weightsEach P ts ds,n≤reachBytes)→(L=0∨Wz L ds)→∃Ds,zsF P L ts Ds∧yi ua (Wv W) W Ds vs
 | [],[],[],_,_,_,_,_,_=>⟨[],trivial,by simp only[yi]⟩
 | t::ts,v::vs,d::ds,ps,hts,hval,h,hz,hL=>by
  obtain⟨p,q,h1,h2,_⟩:=h
  obtain⟨cs,k1,k2,k3⟩:=zvy hS (hts t (by simp)) h1 (λn hn=>hz n (by simp[DataW.weightsEach,hn])) (hL.imp_right λq=>by simp only[Wz] at q;exact q.1)
  obtain⟨Ds,g1,g2⟩:=zhl hS ts vs ds q (λu hu=>hts u (by simp[hu])) (λj u x hj hx=>hval (j+1) u x (by simpa using hj) (by simpa using hx)) h2 (λn hn=>hz n (by simp[DataW.weightsEach,hn])) (hL.imp_right λq=>by simp only[Wz] at q;exact q.2)
  have hv:=hval 0 t v rfl rfl
  have one:∃c,zjD P L t c∧rep ua (Wv W) W c v:=by
   unfold zjD
   split
   ·rename_i fs hu
    obtain⟨xs,rfl,_⟩:=okWide_struct hu hv
    exact⟨_,⟨cs,rfl,k1⟩,zwm k2⟩
   ·rename_i hu
    obtain⟨c,rfl⟩:=zvH hu k1
    have h1v:v.cells.toList=[v]:=by
     have hlen:=xB _ _ k2
     cases v with
     | agg xs =>
      exfalso
      have hT:=List.all_eq_true.1 hS t (hts t (by simp))
      unfold Value.okWide at hv
      split at hT
      ·rename_i e;rw[e] at hv;simp[Cell.okWide,Cell.ok,e] at hv
      ·rename_i e;rw[e] at hv;simp[Cell.okWide,Cell.ok,e] at hv
      ·rename_i e;rw[e] at hv;simp[Cell.okWide,Cell.ok,e] at hv
      ·rename_i e;rw[e] at hv;simp[Cell.okWide,Cell.ok,e] at hv
      ·rename_i fs e;exact hu fs e
      ·cases hT
     | _=>rfl
    refine⟨c,k1,?_⟩
    rw[h1v] at k2
    simp only[yi] at k2
    obtain⟨u,us,e,k,_⟩:=k2
    simp at e
    rw[e.1];exact k
  obtain⟨c,c1,c2⟩:=one
  exact⟨c::Ds,⟨c1,g1⟩,by simp only[yi];exact⟨v,vs,rfl,c2,g2⟩⟩
 | [],_::_,_,_,_,_,h,_,_=>by simp[DataW.TrodAll] at h
 | [],[],_::_,_,_,_,h,_,_=>by simp[DataW.TrodAll] at h
 | _::_,[],_,_,_,_,h,_,_=>by simp[DataW.TrodAll] at h
 | _::_,_::_,[],_,_,_,h,_,_=>by simp[DataW.TrodAll] at h
theorem zti {S:List TypeId} (hS:zam P S=true) {base:Nat} (ts:List TypeId) (vs:List Value) (ds:List (DataW H)) (ps:List MemPlace) (h1:∀t∈ts,t∈S) (h2:∀(j:Nat) (t:TypeId) (v:Value),ts[j]? = some t→vs[j]? = some v→Value.okWide P W .any base t v)
  (h3:DataW.TrodAll enc P W 0 (λ_=>true) true ts vs ds ps) (h4:∀n∈DataW.weightsEach P ts ds,n≤reachBytes):∃Ds,OfAs P ts Ds∧yi ua (Wv W) W Ds vs:=zhl hS ts vs ds ps h1 h2 h3 h4 (.inl rfl)
theorem Ub:∀(ts ts':List TypeId) (ds ds':List (DataW H)),ts.length=ds.length→∀n∈DataW.weightsEach P ts ds,n∈DataW.weightsEach P (ts++ts') (ds++ds')
 | [],_,[],_,_,n,hn=>by simp[DataW.weightsEach] at hn
 | t::ts,ts',d::ds,ds',hl,n,hn=>by
  simp only[List.cons_append,DataW.weightsEach,List.mem_append] at hn ⊢
  exact hn.imp_right (Ub ts ts' ds ds' (by simpa using hl) n)
theorem zkn (hl:laidOutB P=true) {W':World} {sp:Nat→Bool} (hb:Below W.heap.size W W'):∀(ts:List TypeId) (vs:List Value) (ds:List (DataW H)) (ps:List MemPlace),(∀t∈ts,P.readableRec t=true∧t<P.types.size) →
  (∀x∈ps,x.block<W.heap.size)→(∀x∈ps,sp x.block=true)→DataW.TrodAll enc P W 0 (λ_=>true) true ts vs ds ps→DataW.TrodAll enc P W' 0 sp true ts vs ds ps
 | [],[],[],_,_,_,_,h=>h
 | t::ts,v::vs,d::ds,ps,hts,hlt,hsp,h=>by
  obtain⟨p,q,h1,h2,rfl⟩:=h
  refine⟨p,q,WideElems.Trod_stays hl (hts t (by simp)).1 (hts t (by simp)).2 h1 (λx hx=>hb.same (hlt x (by simp[hx]))) λx hx=>hsp x (by simp[hx]),zkn hl hb ts vs ds q (λu hu=>hts u (by simp[hu])) (λx hx=>hlt x (by simp[hx])) (λx hx=>hsp x (by simp[hx])) h2,rfl⟩
 | [],_::_,_,_,_,_,_,h=>by simp[DataW.TrodAll] at h
 | [],[],_::_,_,_,_,_,h=>by simp[DataW.TrodAll] at h
 | _::_,[],_,_,_,_,_,h=>by simp[DataW.TrodAll] at h
 | _::_,_::_,[],_,_,_,_,h=>by simp[DataW.TrodAll] at h
theorem UO {sp:Nat→Bool} {hd:Bool} {b:Nat}:∀(ts:List TypeId) (vs:List Value) (ds:List (DataW H)) (ps:List MemPlace),DataW.TrodAll enc P W b sp hd ts vs ds ps→ds.length=ts.length
 | [],[],[],_,_=>rfl
 | t::ts,v::vs,d::ds,ps,h=>by
  obtain⟨p,q,_,h2,_⟩:=h
  simp[UO ts vs ds q h2]
 | [],_::_,_,_,h=>by simp[DataW.TrodAll] at h
 | [],[],_::_,_,h=>by simp[DataW.TrodAll] at h
 | _::_,[],_,_,h=>by simp[DataW.TrodAll] at h
 | _::_,_::_,[],_,h=>by simp[DataW.TrodAll] at h
theorem zhY {F':Nat→Prop} {W':World} (h:Ext ua (Wv W) W ua F' W'):Below W.heap.size W W':=⟨h.os,h.tape,h.output,h.size,λk hk=>h.block k hk (ZR k)⟩
theorem zqQ {f:Func} {s:ChangeSpec} {apart fresh handsOn again:Bool} {W':World} {args:Array Value} {ds gs:List (DataW H)} {before:List MemPlace} {tb:TypeId}
  (hW:DataW.Whole enc P f.params.toList s.vars apart W args.toList ds gs before) (hvars:s.vars=[]) (hrt:f.resultTypes=#[tb]) (htb:P.underlying tb=some .bool)
  (hl:laidOutB P=true) (hr:∀t∈f.params.toList,P.readableRec t=true∧t<P.types.size)
  (hs:∀ds:List (DataW H),ds.length=f.params.toList.length→s.fn H ds={ results:=[.lit (.bool true)],args:=ds })
  (hb:Below W.heap.size W W') (hok:∀(j:Nat) (t:TypeId) (r:Value),f.resultTypes[j]? = some t→((Value.bool true).resultList f.resultTypes.size)[j]? = some r→Value.okWide P W' .any 0 t r) :
  s.post enc P f apart fresh handsOn again W args (.bool true) W':=by
 have hlt:∀p∈before,p.block<W.heap.size:=λp hp=>hW.lt p hp
 have hold:∀p∈before,(λb=>decide (b<W.heap.size)) p.block=true:=λp hp=>by simpa using hlt p hp
 obtain⟨pa,pv,hA,hV,hps,hz,hn⟩:=id hW
 rw[hvars] at hV
 have hV':gs=[]∧pv=[]:=by
  cases gs with
  | nil=>exact⟨rfl,hV⟩
  | cons _ _=>simp[DataW.TrodVars] at hV
 obtain⟨rfl,rfl⟩:=hV'
 simp only[List.append_nil] at hps
 subst hps
 have hfn:=hs ds (UO _ _ _ _ hA)
 have hresL:((Value.bool true).resultList f.resultTypes.size)=[.bool true]:=by rw[hrt];rfl
 have hres:∀(b:Nat) (sp:Nat→Bool) (hd:Bool),DataW.TrodAll enc P W' b sp hd f.resultTypes.toList ((Value.bool true).resultList f.resultTypes.size) (s.fn H (ds++[])).results []:=λb sp hd=>by
  rw[List.append_nil,hfn,hrt]
  exact trodAll_cons_mk (shut_bool htb _) trodAll_mk0
 have hargs:∀sp:Nat→Bool,(∀p∈before,sp p.block=true)→DataW.TrodAll enc P W' 0 sp true f.params.toList args.toList (s.fn H (ds++[])).args before:=λsp hsp=>by
  rw[List.append_nil,hfn]
  exact zkn hl hb _ _ _ _ hr hlt hsp hA
 have hvars':∀sp:Nat→Bool,DataW.TrodVars enc P W' sp s.vars (s.fn H (ds++[])).vars []:=λsp=>by
  rw[List.append_nil,hfn,hvars]
  rfl
 refine⟨ds,[],before,[],before,[],hW,hres _ _ _,hargs _ hold,hvars' _,World.keptBut_mono (λp hp=>⟨hp,Or.inr (Or.inl hp)⟩) (hb.frame (·∈before)),λ_=>?_⟩
 ·refine⟨hok,_,_,([]++before)++[],⟨[]++before,[],trodAll_append (hargs _ (λ_ _=>rfl)) (hres _ _ _),hvars' _,rfl,?_,?_⟩,?_⟩
  ·intro b off hp
   have xR:MemPlace.cell b off∈before:=by simpa using hp
   rw[hb.frozen (hlt _ xR)]
   exact hz b off xR
  ·intro ha
   have:=hn ha
   simpa using this
  ·intro p hp _
   simpa using hp
end
end
end
section
abbrev Pr:=Int × Int
def ZP (L:List Pr) (p:Pr):List Pr:=if p∈L then L else L++[p]
def vt (L:List Pr) (p:Pr):Nat:=L.idxOf p
theorem ztg (L:List Pr) (p:Pr):L.length≤(ZP L p).length∧(ZP L p).length≤L.length+1:=by unfold ZP;split<;>simp
theorem zeb {L:List Pr} (h:L.Nodup) (p:Pr):(ZP L p).Nodup:=by
 unfold ZP
 split
 ·exact h
 ·rename_i q
  rw[List.nodup_append]
  exact⟨h,by simp,λa ha b hb=>by rw[List.mem_singleton] at hb;subst hb;exact λe=>q (e▸ha)⟩
theorem zfw {L:List Pr} {p q:Pr}:q∈ZP L p↔q∈L∨q=p:=by
 unfold ZP
 split
 ·rename_i h
  exact⟨λk=>.inl k,λk=>k.elim id λe=>e▸h⟩
 ·simp
theorem zsD (L:List Pr) (p:Pr):vt (ZP L p) p=if p∈L then vt L p else L.length:=by
 unfold ZP vt
 split
 ·rfl
 ·rename_i h
  rw[List.idxOf_append,if_neg h];simp
theorem UG {L:List Pr} {p:Pr} (h:p∈L):vt L p<L.length:=List.idxOf_lt_length_of_mem h
end
section
def vp (f:Nat→Nat):Nat→Nat
 | 0=>0
 | n+1=>vp f n+f n
theorem zcI {f f':Nat→Nat}:∀n,(∀j,j<n→f j=f' j)→vp f n=vp f' n
 | 0,_=>rfl
 | n+1,h=>by simp only[vp];rw[zcI n λj hj=>h j (by omega),h n (by omega)]
theorem QN {f f':Nat→Nat} {i:Nat}:∀n,i<n→(∀j,j<n→j≠i→f' j=f j)→vp f' n+f i=vp f n+f' i
 | 0,h,_=>by omega
 | n+1,h,k=>by
  simp only[vp]
  by_cases e:i=n
  ·subst e
   rw[zcI i λj hj=>k j (by omega) (by omega)]
   omega
  ·have:=QN n (by omega) λj hj hne=>k j (by omega) hne
   rw[k n (by omega) (λq=>e q.symm)]
   omega
theorem zjX {f f':Nat→Nat}:∀n,(∀j,j<n→f j≤f' j)→vp f n≤vp f' n
 | 0,_=>Nat.le_refl _
 | n+1,h=>by simp only[vp];have:=zjX n λj hj=>h j (by omega);have:=h n (by omega);omega
theorem zj4 {f f':Nat→Nat} {i:Nat}:∀n,i<n→(∀j,j<n→f j≤f' j)→f i<f' i→vp f n<vp f' n
 | 0,h,_,_=>by omega
 | n+1,h,k,q=>by
  simp only[vp]
  have:=k n (by omega)
  by_cases e:i=n
  ·subst e;have:=zjX i λj hj=>k j (by omega);omega
  ·have:=zj4 n (by omega) (λj hj=>k j (by omega)) q;omega
def xv (s:Nat→Bool) (n:Nat):Nat:=vp (λi=>if s i then 0 else 1) n
theorem zbe (s:Nat→Bool):∀n,xv s n≤n
 | 0=>Nat.le_refl _
 | n+1=>by unfold xv;simp only[vp];have:=zbe s n;unfold xv at this;split<;>omega
theorem QC {s s':Nat→Bool} {n i:Nat} (hi:i<n) (h:∀j,j<n→s j=true→s' j=true) (h1:s i=false) (h2:s' i=true):xv s' n<xv s n:=zj4 n hi (λj hj=>by
 cases e:s j with
 | true=>simp[h j hj e]
 | false=>split<;>simp) (by simp[h1,h2])
def mark (s:Nat→Bool) (v:Nat):Nat→Bool:=λi=>if i=v then true else s i
@[simp] theorem wo (s:Nat→Bool) (v:Nat):mark s v v=true:=by simp[mark]
theorem zwf {s:Nat→Bool} {v i:Nat} (h:i≠v):mark s v i=s i:=by simp[mark,h]
theorem xC {s:Nat→Bool} {v i:Nat} (h:s i=true):mark s v i=true:=by unfold mark;split<;>simp[h]
theorem qM {s:Nat→Bool} {v i:Nat}:mark s v i=true↔i=v∨s i=true:=by
 unfold mark
 split
 ·rename_i h;simp[h]
 ·rename_i h;simp[h]
inductive WJ (g:List (List Int)) (from_:List Int):Nat→Prop
 | base {x:Int} (h:x∈from_):WJ g from_ x.toNat
 | step {u:Nat} {x:Int} (h:WJ g from_ u) (k:x∈g.getD u []):WJ g from_ x.toNat
theorem zl4 {g:List (List Int)} {from_:List Int} {s:Nat→Bool} (h0:∀x∈from_,s x.toNat=true) (h1:∀v,s v=true→∀x∈g.getD v [],s x.toNat=true):∀v,WJ g from_ v→s v=true:=by
 intro v h
 induction h with
 | base h=>exact h0 _ h
 | step _ k ih=>exact h1 _ ih _ k
open Classical in
noncomputable def zcM (g:List (List Int)) (from_:List Int) (v:Nat):Bool:=decide (WJ g from_ v)
theorem Va {g:List (List Int)} {from_:List Int} {v:Nat}:zcM g from_ v=true↔WJ g from_ v:=by unfold zcM;simp
theorem zvI {g:List (List Int)} {from_:List Int} {s:Nat→Bool} {v:Nat} (h:s v=true↔WJ g from_ v):s v=zcM g from_ v:=by
 rw[Bool.eq_iff_iff,h,Va]
theorem yz {l:List Int} {k:Nat} (h:k<l.length):l.getD k 0∈l:=by
 rw[List.getD_eq_getElem?_getD,List.getElem?_eq_getElem h];exact List.getElem_mem h
theorem XQ {l:List Int} {x:Int} (h:x∈l):∃k,k<l.length∧l.getD k 0=x:=by
 obtain⟨k,hk,rfl⟩:=List.mem_iff_getElem.1 h
 exact⟨k,hk,by rw[List.getD_eq_getElem?_getD,List.getElem?_eq_getElem hk];rfl⟩
def zcP (g:List (List Int)) (s:Nat→Bool):Nat:=vp (λv=>if s v then 0 else (g.getD v []).length) g.length
theorem zgR {g:List (List Int)} {s:Nat→Bool} {v:Nat} (hv:v<g.length) (h:s v=false):zcP g (mark s v)+(g.getD v []).length=zcP g s:=by
 have:=QN (f:=λv=>if s v then 0 else (g.getD v []).length) (f':=λw=>if mark s v w then 0 else (g.getD w []).length) g.length hv λj _ hne=>by rw[zwf hne]
 unfold zcP
 simp only[wo,h,if_true,Bool.false_eq_true,if_false] at this
 omega
end
section
abbrev To (g:List (List Int)) (u v:Nat):Prop:=WJ g [(u:Int)] v
theorem YC (g:List (List Int)) (v:Nat):To g v v:=by
 have:=WJ.base (g:=g) (from_:=[(v:Int)]) (x:=(v:Int)) (by simp)
 simpa using this
theorem uq {g:List (List Int)} {a b c:Nat} (h:To g a b) (k:To g b c):To g a c:=by
 unfold To at k
 generalize hb:[(b:Int)]=fr at k
 induction k with
 | base m=>subst hb;simp only[List.mem_singleton] at m;subst m;simpa using h
 | step _ m ih=>exact .step ih m
theorem VH {g:List (List Int)} {a:Nat} {x:Int} (h:x∈g.getD a []):To g a x.toNat:=.step (YC g a) h
theorem Qt {g:List (List Int)} {s:Nat→Prop} (h:∀v,s v→∀x∈g.getD v [],s x.toNat) {u v:Nat} (k:To g u v) (hu:s u):s v:=by
 unfold To at k
 generalize hb:[(u:Int)]=fr at k
 induction k with
 | base m=>subst hb;simp only[List.mem_singleton] at m;subst m;simpa using hu
 | step _ m ih=>exact h _ ih _ m
structure TJ where
 num:Nat→Nat
 low:Nat→Nat
 part:Nat→Int
 stack:List Nat
 path:List (Nat × Nat)
 count:Nat
 YD:Nat
def up {α:Type} (f:Nat→α) (k:Nat) (v:α):Nat→α:=λi=>if i=k then v else f i
@[simp] theorem wN {α:Type} (f:Nat→α) (k:Nat) (v:α):up f k v k=v:=by simp[up]
theorem v8 {α:Type} {f:Nat→α} {k i:Nat} {v:α} (h:i≠k):up f k v i=f i:=by simp[up,h]
def WX (g:List (List Int)) (S:TJ):Nat→Bool→List (Nat × Nat)→Prop
 | U,_,[]=>∀v,v∈S.stack→U≤S.num v
 | U,top,(p,i)::r =>
  p∈S.stack∧S.num p<U ∧
  (∀v,v∈S.stack→S.num p≤S.num v→S.num v<U→To g p v∧(v≠p→(∃w,w∈S.stack∧S.num w<S.num v∧To g v w)∧∀x∈g.getD v [],S.num x.toNat≠0∧(S.part x.toNat<0→S.low p≤S.num x.toNat))) ∧
  (∀k,k<(g.getD p []).length→(if top=true then k<i else k+1<i)→S.num ((g.getD p []).getD k 0).toNat≠0∧(S.part ((g.getD p []).getD k 0).toNat<0→S.low p≤S.num ((g.getD p []).getD k 0).toNat)) ∧
  S.low p≤S.num p∧(∃w,w∈S.stack∧S.num w=S.low p∧To g p w) ∧
  (top=false→1≤i∧i≤(g.getD p []).length) ∧
  (match r with
   | []=>True
   | (q,j)::_=>1≤j∧j≤(g.getD q []).length∧((g.getD q []).getD (j-1) 0).toNat=p) ∧
  WX g S (S.num p) false r
theorem WX.zbQ {g:List (List Int)} {S S':TJ} (h3:∀x,S.num x≠0→S'.num x≠0∧(S'.part x<0→S.part x<0∧S'.num x=S.num x)) :
  ∀(r:List (Nat × Nat)) {U:Nat} {top:Bool},(∀v,v∈S'.stack→S'.num v<U→v∈S.stack∧S.num v=S'.num v)→(∀v,v∈S.stack→S.num v<U→v∈S'.stack∧S'.num v=S.num v∧S'.low v=S.low v)→WX g S U top r→WX g S' U top r
 | [],U,top,h1,h2,h=>λv hv=>by
  rcases Nat.lt_or_ge (S'.num v) U with q|q
  ·obtain⟨a,b⟩:=h1 v hv q
   have:=h v a
   omega
  ·exact q
 | (p,i)::r,U,top,h1,h2,h=>by
  obtain⟨g1,g2,g3,g4,g5,⟨w,w1,w2,w3⟩,g7,g8,g9⟩:=h
  obtain⟨p1,p2,p3⟩:=h2 p g1 g2
  refine⟨p1,by omega,λv hv a b=>?_,λk hk ht=>?_,by omega,?_,g7,g8,?_⟩
  ·obtain⟨c1,c2⟩:=h1 v hv b
   obtain⟨d1,d2⟩:=g3 v c1 (by omega) (by omega)
   refine⟨d1,λhne=>?_⟩
   obtain⟨⟨w,e1,e2,e3⟩,e4⟩:=d2 hne
   obtain⟨f1,f2,f3⟩:=h2 w e1 (by omega)
   refine⟨⟨w,f1,by omega,e3⟩,λx hx=>?_⟩
   obtain⟨n1,n2⟩:=e4 x hx
   obtain⟨m1,m2⟩:=h3 _ n1
   refine⟨m1,λq=>?_⟩
   obtain⟨o1,o2⟩:=m2 q
   have:=n2 o1
   omega
  ·obtain⟨n1,n2⟩:=g4 k hk ht
   obtain⟨m1,m2⟩:=h3 _ n1
   refine⟨m1,λq=>?_⟩
   obtain⟨o1,o2⟩:=m2 q
   have:=n2 o1
   omega
  ·obtain⟨f1,f2,f3⟩:=h2 w w1 (by omega)
   exact⟨w,f1,by omega,w3⟩
  ·rw[p2]
   exact WX.zbQ h3 r (λv hv q=>h1 v hv (by omega)) (λv hv q=>h2 v hv (by omega)) g9
structure TjI (g:List (List Int)) (S:TJ):Prop where
 stk:∀v,v∈S.stack↔S.num v≠0∧S.part v<0
 srt:S.stack.Pairwise λa b=>S.num b<S.num a
 cnt:∀v,S.num v≤S.count
 node:∀v,S.num v≠0→v<g.length
 par:∀v,0≤S.part v→S.part v<(S.YD:Int)∧S.num v≠0
 cls:∀v,0≤S.part v→∀x∈g.getD v [],0≤S.part x.toNat
 same:∀u v,0≤S.part u→0≤S.part v→(S.part u=S.part v↔To g u v∧To g v u)
 seg:WX g S (S.count+1) true S.path
 size:S.YD+S.stack.length≤S.count
 seen:xv (λv=>decide (S.num v≠0)) g.length+S.count=g.length
 deep:S.path.length+xv (λv=>decide (S.num v≠0)) g.length≤g.length
 zrB:∀u v,S.num u=S.num v→S.num u≠0→u=v
def TJ.open (S:TJ) (v:Nat) (path:List (Nat × Nat)):TJ:=⟨up S.num v (S.count+1),up S.low v (S.count+1),S.part,v::S.stack,(v,0)::path,S.count+1,S.YD⟩
theorem zkK {S:TJ} {n v:Nat} (hv:v<n) (h:S.num v=0):xv (λw=>decide (up S.num v (S.count+1) w≠0)) n+1=xv (λw=>decide (S.num w≠0)) n:=by
 have:=QN (f:=λw=>if decide (S.num w≠0)=true then 0 else 1) (f':=λw=>if decide (up S.num v (S.count+1) w≠0)=true then 0 else 1) n hv λj _ hne=>by rw[v8 hne]
 unfold xv
 rw[wN] at this
 simp only[h] at this
 simp at this
 simp
 omega
theorem TjI.opened {g:List (List Int)} {S:TJ} (h:TjI g S) {v:Nat} (hv:v<g.length) (h0:S.num v=0) {path:List (Nat × Nat)} (hp:path.length≤S.path.length)
  (hs:WX g S (S.count+1) false path) (hl:match path with|[]=>True|(q,j)::_=>1≤j∧j≤(g.getD q []).length∧((g.getD q []).getD (j-1) 0).toNat=v):TjI g (S.open v path):=by
 have hvs:v ∉ S.stack:=λq=>((h.stk v).1 q).1 h0
 have hpv:S.part v<0:=by
  rcases Int.lt_or_le (S.part v) 0 with q|q
  ·exact q
  ·exact absurd h0 (h.par v q).2
 have hne:∀w,w∈S.stack→w≠v:=λw hw e=>hvs (e▸hw)
 have hn0:∀w,S.num w≠0→w≠v:=λw hw e=>hw (e▸h0)
 have hun:=zkK hv h0
 refine⟨λw=>?_,?_,λw=>?_,λw hw=>?_,λw hw=>?_,h.cls,h.same,?_,?_,?_,?_,?_⟩
 ·show w∈v::S.stack↔up S.num v (S.count+1) w≠0∧S.part w<0
  by_cases e:w=v
  ·subst e;simp[hpv]
  ·rw[v8 e,←h.stk w];simp[e]
 ·show(v::S.stack).Pairwise λa b=>up S.num v (S.count+1) b<up S.num v (S.count+1) a
  refine List.pairwise_cons.2 ⟨λw hw=>?_,h.srt.imp_of_mem λ{a b} ha hb q=>?_⟩
  ·rw[wN,v8 (hne w hw)];have:=h.cnt w;omega
  ·rw[v8 (hne a ha),v8 (hne b hb)];exact q
 ·show up S.num v (S.count+1) w≤S.count+1
  by_cases e:w=v
  ·subst e;rw[wN];omega
  ·rw[v8 e];have:=h.cnt w;omega
 ·by_cases e:w=v
  ·subst e;exact hv
  ·exact h.node w (by
    have:up S.num v (S.count+1) w≠0:=hw
    rw[v8 e] at this;exact this)
 ·obtain⟨a,b⟩:=h.par w hw
  refine⟨a,?_⟩
  show up S.num v (S.count+1) w≠0
  rw[v8 (hn0 w b)];exact b
 ·show WX g (S.open v path) (S.count+1+1) true ((v,0)::path)
  refine⟨List.mem_cons_self ..,?_,λw hw a b=>?_,λk _ hk=>?_,?_,⟨v,List.mem_cons_self ..,?_,YC g v⟩,λq=>(by cases q),hl,?_⟩
  ·show up S.num v (S.count+1) v<_;rw[wN];omega
  ·have e:w=v:=by
    rcases List.mem_cons.1 hw with e|e
    ·exact e
    ·have a:up S.num v (S.count+1) v≤up S.num v (S.count+1) w:=a
     rw[wN,v8 (hne w e)] at a
     have:=h.cnt w
     omega
   subst e
   exact⟨YC g w,λq=>absurd rfl q⟩
  ·rw[if_pos rfl] at hk;omega
  ·show up S.low v (S.count+1) v≤up S.num v (S.count+1) v;rw[wN,wN];exact Nat.le_refl _
  ·show up S.num v (S.count+1) v=up S.low v (S.count+1) v;rw[wN,wN]
  ·have e:(S.open v path).num v=S.count+1:=wN ..
   rw[e]
   refine WX.zbQ (S:=S) (S':=S.open v path) (λx hx=>⟨?_,λq=>⟨q,?_⟩⟩) path (λw hw q=>?_) (λw hw q=>?_) hs
   ·show up S.num v (S.count+1) x≠0;rw[v8 (hn0 x hx)];exact hx
   ·show up S.num v (S.count+1) x=_;rw[v8 (hn0 x hx)]
   ·have q:up S.num v (S.count+1) w<S.count+1:=q
    by_cases e:w=v
    ·subst e;rw[wN] at q;omega
    ·refine⟨(List.mem_cons.1 hw).resolve_left e,?_⟩
     show _=up S.num v (S.count+1) w;rw[v8 e]
   ·have e:=hne w hw
    refine⟨List.mem_cons_of_mem _ hw,?_,?_⟩
    ·show up S.num v (S.count+1) w=_;rw[v8 e]
    ·show up S.low v (S.count+1) w=_;rw[v8 e]
 ·have:=h.size
  show S.YD+(v::S.stack).length≤S.count+1
  rw[List.length_cons];omega
 ·have:=h.seen
  show xv (λw=>decide (up S.num v (S.count+1) w≠0)) g.length+(S.count+1)=g.length
  omega
 ·have:=h.deep
  show((v,0)::path).length+xv (λw=>decide (up S.num v (S.count+1) w≠0)) g.length≤g.length
  rw[List.length_cons];omega
 ·intro a b e ha
  have e:up S.num v (S.count+1) a=up S.num v (S.count+1) b:=e
  have ha:up S.num v (S.count+1) a≠0:=ha
  have ca:=h.cnt a
  have cb:=h.cnt b
  by_cases e1:a=v<;>by_cases e2:b=v
  ·omega
  ·subst e1;rw[wN,v8 e2] at e;omega
  ·subst e2;rw[wN,v8 e1] at e;omega
  ·rw[v8 e1,v8 e2] at e;rw[v8 e1] at ha;exact h.zrB a b e ha
theorem WX.next {g:List (List Int)} {S:TJ} {U p i:Nat} {r:List (Nat × Nat)} (h:WX g S U true ((p,i)::r)) (hi:i<(g.getD p []).length):WX g S U false ((p,i+1)::r):=by
 obtain⟨g1,g2,g3,g4,g5,g6,g7,g8,g9⟩:=h
 exact⟨g1,g2,g3,λk hk ht=>g4 k hk (by
  rw[if_neg (by decide)] at ht
  rw[if_pos rfl];omega),g5,g6,λ_=>⟨by omega,by omega⟩,g8,g9⟩
theorem TjI.push {g:List (List Int)} {S:TJ} (h:TjI g S) {p i:Nat} {r:List (Nat × Nat)} (hp:S.path=(p,i)::r) (hi:i<(g.getD p []).length) (hv:((g.getD p []).getD i 0).toNat<g.length) (h0:S.num ((g.getD p []).getD i 0).toNat=0) :
  TjI g (S.open ((g.getD p []).getD i 0).toNat ((p,i+1)::r)):=by
 refine h.opened hv h0 (by rw[hp];simp) (WX.next (by rw[←hp];exact h.seg) hi) ⟨by omega,by omega,?_⟩
 rw[Nat.add_sub_cancel]
def TJ.skip (S:TJ) (p i:Nat) (r:List (Nat × Nat)) (x:Nat):TJ:=⟨S.num,if S.part x<0 then up S.low p (min (S.low p) (S.num x)) else S.low,S.part,S.stack,(p,i+1)::r,S.count,S.YD⟩
theorem TjI.skip {g:List (List Int)} {S:TJ} (h:TjI g S) {p i:Nat} {r:List (Nat × Nat)} (hp:S.path=(p,i)::r) (hi:i<(g.getD p []).length) (h0:S.num ((g.getD p []).getD i 0).toNat≠0) :
  TjI g (S.skip p i r ((g.getD p []).getD i 0).toNat):=by
 have hx:(g.getD p []).getD i 0∈g.getD p []:=yz hi
 generalize hxe:(g.getD p []).getD i 0=x at *
 have hseg:=h.seg
 rw[hp] at hseg
 obtain⟨g1,g2,g3,g4,g5,⟨w,w1,w2,w3⟩,g7,g8,g9⟩:=hseg
 have hlow:∀v,S.num v<S.num p→(S.skip p i r x.toNat).low v=S.low v:=λv hv=>by
  show(if S.part x.toNat<0 then up S.low p (min (S.low p) (S.num x.toNat)) else S.low) v=_
  split
  ·rw[v8 (λe=>by subst e;omega)]
  ·rfl
 have hlp:(S.skip p i r x.toNat).low p=if S.part x.toNat<0 then min (S.low p) (S.num x.toNat) else S.low p:=by
  show(if S.part x.toNat<0 then up S.low p (min (S.low p) (S.num x.toNat)) else S.low) p=_
  split
  ·rw[wN]
  ·rfl
 have hle:(S.skip p i r x.toNat).low p≤S.low p:=by rw[hlp];split<;>omega
 refine⟨h.stk,h.srt,h.cnt,h.node,h.par,h.cls,h.same,?_,h.size,h.seen,?_,h.zrB⟩
 ·show WX g (S.skip p i r x.toNat) (S.count+1) true ((p,i+1)::r)
  refine⟨g1,g2,λv hv a b=>?_,λk hk ht=>?_,?_,?_,λq=>(by cases q),g8,?_⟩
  ·obtain⟨d1,d2⟩:=g3 v hv a b
   refine⟨d1,λhne=>⟨(d2 hne).1,λy hy=>?_⟩⟩
   obtain⟨n1,n2⟩:=(d2 hne).2 y hy
   exact⟨n1,λq=>Nat.le_trans hle (n2 q)⟩
  ·rw[if_pos rfl] at ht
   rcases Nat.lt_or_ge k i with q|q
   ·obtain⟨n1,n2⟩:=g4 k hk (by rw[if_pos rfl];exact q)
    exact⟨n1,λz=>Nat.le_trans hle (n2 z)⟩
   ·have:k=i:=by omega
    subst this
    rw[hxe]
    refine⟨h0,λz=>?_⟩
    have z:S.part x.toNat<0:=z
    rw[hlp,if_pos z]
    exact Nat.min_le_right _ _
  ·exact Nat.le_trans hle g5
  ·rw[hlp]
   by_cases z:S.part x.toNat<0
   ·rw[if_pos z]
    rcases Nat.le_total (S.low p) (S.num x.toNat) with q|q
    ·rw[Nat.min_eq_left q];exact⟨w,w1,w2,w3⟩
    ·rw[Nat.min_eq_right q];exact⟨x.toNat,(h.stk _).2 ⟨h0,z⟩,rfl,VH hx⟩
   ·rw[if_neg z];exact⟨w,w1,w2,w3⟩
  ·exact WX.zbQ (S:=S) (S':=S.skip p i r x.toNat) (λy hy=>⟨hy,λq=>⟨q,rfl⟩⟩) r (λv hv q=>⟨hv,rfl⟩) (λv hv q=>⟨hv,rfl,hlow v q⟩) g9
 ·have:=h.deep
  rw[hp] at this
  exact this
def TJ.back (S:TJ) (n p j:Nat) (r:List (Nat × Nat)):TJ:=⟨S.num,up S.low p (min (S.low p) (S.low n)),S.part,S.stack,(p,j)::r,S.count,S.YD⟩
theorem TjI.back {g:List (List Int)} {S:TJ} (h:TjI g S) {n i p j:Nat} {r:List (Nat × Nat)} (hp:S.path=(n,i)::(p,j)::r) (hi:(g.getD n []).length≤i) (hl:S.low n≠S.num n):TjI g (S.back n p j r):=by
 have hseg:=h.seg
 rw[hp] at hseg
 obtain⟨g1,g2,g3,g4,g5,⟨w,w1,w2,w3⟩,g7,⟨k1,k2,k3⟩,f1,f2,f3,f4,f5,⟨u,u1,u2,u3⟩,f7,f8,f9⟩:=hseg
 have hlow:∀v,S.num v<S.num p→(S.back n p j r).low v=S.low v:=λv hv=>by
  show up S.low p (min (S.low p) (S.low n)) v=_
  rw[v8 (λe=>by subst e;omega)]
 have hlp:(S.back n p j r).low p=min (S.low p) (S.low n):=wN ..
 have hpn:To g p n:=by
  have:=VH (g:=g) (a:=p) (yz (l:=g.getD p []) (k:=j-1) (by omega))
  rw[k3] at this
  exact this
 have hln:S.low n<S.num n:=by omega
 refine⟨h.stk,h.srt,h.cnt,h.node,h.par,h.cls,h.same,?_,h.size,h.seen,?_,h.zrB⟩
 ·show WX g (S.back n p j r) (S.count+1) true ((p,j)::r)
  refine⟨f1,by have:S.num p<S.num n:=f2
               have:S.num n<S.count+1:=g2
               show S.num p<S.count+1
               omega,λv hv a b=>?_,λk hk ht=>?_,?_,?_,λq=>(by cases q),f8,?_⟩
  ·have a:S.num p≤S.num v:=a
   have b:S.num v<S.count+1:=b
   rcases Nat.lt_or_ge (S.num v) (S.num n) with q|q
   ·obtain⟨d1,d2⟩:=f3 v hv a q
    refine⟨d1,λhne=>⟨(d2 hne).1,λy hy=>?_⟩⟩
    obtain⟨n1,n2⟩:=(d2 hne).2 y hy
    refine⟨n1,λz=>?_⟩
    rw[hlp]
    exact Nat.le_trans (Nat.min_le_left _ _) (n2 z)
   ·obtain⟨d1,d2⟩:=g3 v hv q b
    refine⟨uq hpn d1,λhne=>?_⟩
    by_cases e:v=n
    ·subst e
     refine⟨⟨w,w1,by show S.num w<S.num v;omega,w3⟩,λy hy=>?_⟩
     obtain⟨k,hk,rfl⟩:=XQ hy
     obtain⟨n1,n2⟩:=g4 k hk (by rw[if_pos rfl];omega)
     refine⟨n1,λz=>?_⟩
     rw[hlp]
     exact Nat.le_trans (Nat.min_le_right _ _) (n2 z)
    ·refine⟨(d2 e).1,λy hy=>?_⟩
     obtain⟨n1,n2⟩:=(d2 e).2 y hy
     refine⟨n1,λz=>?_⟩
     rw[hlp]
     exact Nat.le_trans (Nat.min_le_right _ _) (n2 z)
  ·rw[if_pos rfl] at ht
   rw[hlp]
   rcases Nat.lt_or_ge (k+1) j with q|q
   ·obtain⟨n1,n2⟩:=f4 k hk (by rw[if_neg (by decide)];exact q)
    exact⟨n1,λz=>Nat.le_trans (Nat.min_le_left _ _) (n2 z)⟩
   ·have:k=j-1:=by omega
    subst this
    rw[k3]
    refine⟨((h.stk n).1 g1).1,λz=>?_⟩
    show min _ _≤S.num n
    omega
  ·rw[hlp]
   show _≤S.num p
   omega
  ·rw[hlp]
   rcases Nat.le_total (S.low p) (S.low n) with q|q
   ·rw[Nat.min_eq_left q];exact⟨u,u1,u2,u3⟩
   ·rw[Nat.min_eq_right q];exact⟨w,w1,w2,uq hpn w3⟩
  ·exact WX.zbQ (S:=S) (S':=S.back n p j r) (λy hy=>⟨hy,λq=>⟨q,rfl⟩⟩) r (λv hv q=>⟨hv,rfl⟩) (λv hv q=>⟨hv,rfl,hlow v q⟩) f9
 ·have:=h.deep
  rw[hp] at this
  simp only[List.length_cons] at this
  show((p,j)::r).length+xv (λv=>decide (S.num v≠0)) g.length≤g.length
  rw[List.length_cons]
  omega
end
section
def TJ.shut (S:TJ) (n:Nat) (path:List (Nat × Nat)) (low:Nat→Nat):TJ:=⟨S.num,low,λv=>if v∈S.stack∧S.num n≤S.num v then (S.YD:Int) else S.part v,S.stack.filter λv=>decide (S.num v<S.num n),path,S.count,S.YD+1⟩
theorem Q2 {α:Type} {p:α→Bool} {a:α}:∀{l:List α},a∈l→p a=false→(l.filter p).length<l.length
 | [],h,_=>by cases h
 | b::l,h,hp=>by
  rw[List.filter_cons]
  by_cases e:p b=true
  ·rw[if_pos e]
   rcases List.mem_cons.1 h with q|q
   ·subst q;rw[hp] at e;cases e
   ·have:=Q2 q hp
    simp only[List.length_cons];omega
  ·rw[if_neg e]
   have:=List.length_filter_le p l
   simp only[List.length_cons];omega
theorem TjI.shut {g:List (List Int)} {S:TJ} (h:TjI g S) {n i:Nat} {r:List (Nat × Nat)} (hp:S.path=(n,i)::r) (hi:(g.getD n []).length≤i) (hl:S.low n=S.num n) {low:Nat→Nat} (hlow:∀v,S.num v<S.num n→low v=S.low v):TjI g (S.shut n r low):=by
 have hseg:=h.seg
 rw[hp] at hseg
 obtain⟨g1,g2,g3,g4,g5,g6,g7,g8,g9⟩:=hseg
 have hn0:=(h.stk n).1 g1
 have hpart:∀v,(S.shut n r low).part v=if v∈S.stack∧S.num n≤S.num v then (S.YD:Int) else S.part v:=λv=>rfl
 -- the piece of n
 have hE:∀v,v∈S.stack→S.num n≤S.num v→∀x∈g.getD v [],S.num x.toNat≠0∧(S.part x.toNat<0→S.num n≤S.num x.toNat):=λv hv a x hx=>by
  have b:S.num v<S.count+1:=by have:=h.cnt v;omega
  by_cases e:v=n
  ·subst e
   obtain⟨k,hk,rfl⟩:=XQ hx
   obtain⟨n1,n2⟩:=g4 k hk (by rw[if_pos rfl];omega)
   exact⟨n1,λz=>by have:=n2 z;omega⟩
  ·obtain⟨n1,n2⟩:=((g3 v hv a b).2 e).2 x hx
   exact⟨n1,λz=>by have:=n2 z;omega⟩
 have hge:∀v,0≤(S.shut n r low).part v↔0≤S.part v∨(v∈S.stack∧S.num n≤S.num v):=λv=>by
  rw[hpart]
  by_cases q:v∈S.stack∧S.num n≤S.num v
  ·rw[if_pos q];simp[q]
  ·rw[if_neg q];simp[q]
 have hcls:∀v,0≤(S.shut n r low).part v→∀x∈g.getD v [],0≤(S.shut n r low).part x.toNat:=λv hv x hx=>by
  rw[hge] at hv ⊢
  rcases hv with hv|⟨hv,a⟩
  ·exact .inl (h.cls v hv x hx)
  ·obtain⟨n1,n2⟩:=hE v hv a x hx
   rcases Int.lt_or_le (S.part x.toNat) 0 with q|q
   ·exact .inr ⟨(h.stk _).2 ⟨n1,q⟩,n2 q⟩
   ·exact .inl q
 have hdown:∀m v,S.num v≤m→v∈S.stack→S.num n≤S.num v→To g v n:=by
  intro m
  induction m with
  | zero=>intro v a hv b;have:=((h.stk v).1 hv).1;omega
  | succ m ih =>
   intro v a hv b
   by_cases e:v=n
   ·subst e;exact YC g v
   ·obtain⟨⟨w,w1,w2,w3⟩,_⟩:=(g3 v hv b (by have:=h.cnt v;omega)).2 e
    have hw:0≤(S.shut n r low).part w:=Qt (s:=λv=>0≤(S.shut n r low).part v) hcls w3 ((hge v).2 (.inr ⟨hv,b⟩))
    rw[hge] at hw
    have hw:w∈S.stack∧S.num n≤S.num w:=by
     rcases hw with q|q
     ·have:=((h.stk w).1 w1).2;omega
     ·exact q
    exact uq w3 (ih w (by omega) w1 hw.2)
 have hmut:∀v,v∈S.stack→S.num n≤S.num v→To g n v∧To g v n:=λv hv a=>⟨(g3 v hv a (by have:=h.cnt v;omega)).1,hdown _ v (Nat.le_refl _) hv a⟩
 have hold:∀u v,0≤S.part u→v∈S.stack→¬To g u v:=λu v hu hv q=>by
  have:=Qt (s:=λv=>0≤S.part v) h.cls q hu
  have:=((h.stk v).1 hv).2
  omega
 refine⟨λv=>?_,?_,h.cnt,h.node,λv hv=>?_,hcls,λu v hu hv=>?_,?_,?_,h.seen,?_,h.zrB⟩
 ·show v∈S.stack.filter _↔S.num v≠0∧(S.shut n r low).part v<0
  rw[List.mem_filter,decide_eq_true_eq,hpart]
  constructor
  ·rintro⟨a,b⟩
   rw[if_neg (λq=>by omega)]
   exact(h.stk v).1 a
  ·rintro⟨a,b⟩
   by_cases q:v∈S.stack∧S.num n≤S.num v
   ·rw[if_pos q] at b;omega
   ·rw[if_neg q] at b
    have:=(h.stk v).2 ⟨a,b⟩
    exact⟨this,by
     rcases Nat.lt_or_ge (S.num v) (S.num n) with z|z
     ·exact z
     ·exact absurd ⟨this,z⟩ q⟩
 ·exact h.srt.filter _
 ·show(S.shut n r low).part v<((S.YD+1:Nat):Int)∧S.num v≠0
  rw[hpart]
  by_cases q:v∈S.stack∧S.num n≤S.num v
  ·rw[if_pos q];exact⟨by omega,((h.stk v).1 q.1).1⟩
  ·rw[if_neg q]
   rw[hge] at hv
   obtain⟨a,b⟩:=h.par v (hv.resolve_right q)
   exact⟨by omega,b⟩
 ·rw[hge] at hu hv
  rw[hpart,hpart]
  by_cases qu:u∈S.stack∧S.num n≤S.num u<;>by_cases qv:v∈S.stack∧S.num n≤S.num v
  ·rw[if_pos qu,if_pos qv]
   obtain⟨a1,a2⟩:=hmut u qu.1 qu.2
   obtain⟨b1,b2⟩:=hmut v qv.1 qv.2
   exact⟨λ_=>⟨uq a2 b1,uq b2 a1⟩,λ_=>rfl⟩
  ·rw[if_pos qu,if_neg qv]
   have hv':=hv.resolve_right qv
   have:=(h.par v hv').1
   exact⟨λe=>by omega,λe=>absurd e.2 (hold v u hv' qu.1)⟩
  ·rw[if_neg qu,if_pos qv]
   have hu':=hu.resolve_right qu
   have:=(h.par u hu').1
   exact⟨λe=>by omega,λe=>absurd e.1 (hold u v hu' qv.1)⟩
  ·rw[if_neg qu,if_neg qv]
   exact h.same u v (hu.resolve_right qu) (hv.resolve_right qv)
 ·show WX g (S.shut n r low) (S.count+1) true r
  have mem':∀v,v∈(S.shut n r low).stack↔v∈S.stack∧S.num v<S.num n:=λv=>by
   show v∈S.stack.filter _↔_
   rw[List.mem_filter,decide_eq_true_eq]
  have h9:WX g (S.shut n r low) (S.num n) false r:=WX.zbQ (S:=S) (S':=S.shut n r low) (λx hx=>⟨hx,λq=>by
   have q':¬(0≤(S.shut n r low).part x):=by omega
   rw[hge] at q'
   exact⟨by
    rcases Int.lt_or_le (S.part x) 0 with z|z
    ·exact z
    ·exact absurd (.inl z) q',rfl⟩⟩) r (λv hv q=>⟨((mem' v).1 hv).1,rfl⟩) (λv hv q=>⟨(mem' v).2 ⟨hv,q⟩,rfl,hlow v q⟩) g9
  match r,g8,h9 with
  | [],_,h9 =>
   intro v hv
   have:=h9 v hv
   have:=((mem' v).1 hv).2
   have:S.num n≤S.num v:=h9 v hv
   omega
  | (p,j)::r,g8,h9 =>
   obtain⟨f1,f2,f3,f4,f5,f6,f7,f8,f9⟩:=h9
   refine⟨f1,?_,λv hv a b=>?_,λk hk ht=>?_,f5,f6,λq=>(by cases q),f8,f9⟩
   ·have:S.num p<S.num n:=f2
    show S.num p<S.count+1
    have:=h.cnt n
    omega
   ·exact f3 v hv a ((mem' v).1 hv).2
   ·rw[if_pos rfl] at ht
    rcases Nat.lt_or_ge (k+1) j with q|q
    ·exact f4 k hk (by rw[if_neg (by decide)];exact q)
    ·have:k=j-1:=by omega
     subst this
     rw[g8.2.2]
     refine⟨hn0.1,λz=>?_⟩
     have:=(hge n).2 (.inr ⟨g1,Nat.le_refl _⟩)
     omega
 ·have:=h.size
  have h1:=Q2 (p:=λv=>decide (S.num v<S.num n)) g1 (by simp)
  show S.YD+1+(S.stack.filter λv=>decide (S.num v<S.num n)).length≤S.count
  omega
 ·have:=h.deep
  rw[hp] at this
  simp only[List.length_cons] at this
  show r.length+xv (λv=>decide (S.num v≠0)) g.length≤g.length
  omega
theorem TjI.zero (g:List (List Int)):TjI g ⟨λ_=>0,λ_=>0,λ_=>-1,[],[],0,0⟩ where
 stk v:=by simp
 srt:=by simp
 cnt _:=Nat.le_refl _
 node v h:=absurd rfl h
 par v h:=by have h:(0:Int)≤-1:=h;omega
 cls v h:=by have h:(0:Int)≤-1:=h;omega
 same u v h:=by have h:(0:Int)≤-1:=h;omega
 seg:=λv hv=>by cases hv
 size:=by simp
 seen:=by
  show xv (λv=>decide ((0:Nat)≠0)) g.length+0=g.length
  have:∀n,xv (λ_=>decide ((0:Nat)≠0)) n=n:=λn=>by
   induction n with
   | zero=>rfl
   | succ n ih=>unfold xv at ih ⊢;simp only[vp,ih];simp
  rw[this];rfl
 deep:=by
  show 0+xv (λv=>decide ((0:Nat)≠0)) g.length≤g.length
  have:=zbe (λv=>decide ((0:Nat)≠0)) g.length
  omega
 zrB u v _ h:=absurd rfl h
theorem TjI.empty {g:List (List Int)} {S:TJ} (h:TjI g S) (hp:S.path=[]):S.stack=[]:=by
 have hs:=h.seg
 rw[hp] at hs
 cases e:S.stack with
 | nil=>rfl
 | cons v r =>
  have:=hs v (by rw[e];simp)
  have:=h.cnt v
  omega
theorem TjI.done {g:List (List Int)} {S:TJ} (h:TjI g S) (hp:S.path=[]) {v:Nat} (hv:S.num v≠0):0≤S.part v:=by
 rcases Int.lt_or_le (S.part v) 0 with q|q
 ·have:=(h.stk v).2 ⟨hv,q⟩
  rw[h.empty hp] at this
  cases this
 ·exact q
def WC (g:List (List Int)):List (Nat × Nat)→Nat
 | []=>0
 | (p,i)::r=>(g.getD p []).length-i+1+WC g r
def TJ.fuel (g:List (List Int)) (S:TJ):Nat:=vp (λv=>if S.num v=0 then (g.getD v []).length+2 else 0) g.length+WC g S.path
theorem zqw {g:List (List Int)} {S:TJ} {v:Nat} (hv:v<g.length) (h0:S.num v=0) (path:List (Nat × Nat)):TJ.fuel g (S.open v path)+1+WC g S.path=TJ.fuel g S+WC g path:=by
 have:=QN (f:=λw=>if S.num w=0 then (g.getD w []).length+2 else 0) (f':=λw=>if up S.num v (S.count+1) w=0 then (g.getD w []).length+2 else 0) g.length hv λj _ hne=>by rw[v8 hne]
 unfold TJ.fuel
 show vp (λw=>if up S.num v (S.count+1) w=0 then (g.getD w []).length+2 else 0) g.length+((g.getD v []).length-0+1+WC g path)+1+WC g S.path=_
 rw[wN,if_pos h0,if_neg (by omega)] at this
 omega
end
section

end
section
def zfM (p:Nat→Bool):Nat→Nat→Nat
 | i,0=>i
 | i,d+1=>if p i=true then i else zfM p (i+1) d
theorem zf8 (p:Nat→Bool):∀(d i:Nat),i≤zfM p i d∧zfM p i d≤i+d∧(∀j,i≤j→j<zfM p i d→p j=false)∧(zfM p i d<i+d→p (zfM p i d)=true)
 | 0,i=>⟨Nat.le_refl _,Nat.le_refl _,λj h1 h2=>by simp only[zfM] at h2;omega,λh=>by simp[zfM] at h⟩
 | d+1,i=>by
  simp only[zfM]
  split
  ·rename_i h
   exact⟨Nat.le_refl _,by omega,λj h1 h2=>by omega,λ_=>h⟩
  ·rename_i h
   obtain⟨h1,h2,h3,h4⟩:=zf8 p d (i+1)
   refine⟨by omega,by omega,λj g1 g2=>?_,λg=>h4 (by omega)⟩
   by_cases e:j=i
   ·subst e;simpa using h
   ·exact h3 j (by omega) g2
def fst (p:Nat→Bool) (e i:Nat):Nat:=zfM p i (e-i)
theorem zao {p:Nat→Bool} {e i:Nat} (h:i≤e):i≤fst p e i∧fst p e i≤e∧(∀j,i≤j→j<fst p e i→p j=false)∧(fst p e i<e→p (fst p e i)=true):=by
 obtain⟨h1,h2,h3,h4⟩:=zf8 p (e-i) i
 exact⟨h1,by unfold fst;omega,h3,λg=>h4 (by unfold fst at g;omega)⟩
theorem fst_eq {p:Nat→Bool} {e i t:Nat} (h1:i≤t) (h2:t≤e) (h3:∀j,i≤j→j<t→p j=false) (h4:t<e→p t=true):fst p e i=t:=by
 obtain⟨g1,g2,g3,g4⟩:=zao (p:=p) (e:=e) (i:=i) (by omega)
 rcases Nat.lt_trichotomy (fst p e i) t with q|q|q
 ·have:=h3 _ g1 q
  rw[g4 (by omega)] at this
  cases this
 ·exact q
 ·have:=g3 t h1 q
  rw[h4 (by omega)] at this
  cases this
end
section
theorem zou {g:List (List Int)} {S:TJ} {p i v:Nat} {r:List (Nat × Nat)} (hp:S.path=(p,i)::r) (hi:i<(g.getD p []).length) (hv:v<g.length) (h0:S.num v=0):TJ.fuel g (S.open v ((p,i+1)::r))+2=TJ.fuel g S:=by
 have:=zqw hv h0 ((p,i+1)::r)
 rw[hp] at this
 simp only[WC] at this
 omega
theorem zoL {g:List (List Int)} {S:TJ} {p i x:Nat} {r:List (Nat × Nat)} (hp:S.path=(p,i)::r) (hi:i<(g.getD p []).length):TJ.fuel g (S.skip p i r x)+1=TJ.fuel g S:=by
 unfold TJ.fuel
 rw[hp]
 show _+((g.getD p []).length-(i+1)+1+WC g r)+1=_+((g.getD p []).length-i+1+WC g r)
 show vp (λv=>if S.num v=0 then _ else 0) _+_+1=_
 omega
theorem zoN {g:List (List Int)} {S:TJ} {n i p j:Nat} {r:List (Nat × Nat)} (hp:S.path=(n,i)::(p,j)::r):TJ.fuel g (S.back n p j r)<TJ.fuel g S:=by
 unfold TJ.fuel
 rw[hp]
 show vp (λv=>if S.num v=0 then _ else 0) _+((g.getD p []).length-j+1+WC g r)<_+((g.getD n []).length-i+1+((g.getD p []).length-j+1+WC g r))
 omega
theorem zgz {g:List (List Int)} {S:TJ} {n i:Nat} {r:List (Nat × Nat)} {low:Nat→Nat} (hp:S.path=(n,i)::r):TJ.fuel g (S.shut n r low)<TJ.fuel g S:=by
 unfold TJ.fuel
 rw[hp]
 show vp (λv=>if S.num v=0 then _ else 0) _+WC g r<_+((g.getD n []).length-i+1+WC g r)
 omega
def hasB (same:Nat→Nat→Bool) (k:Nat):Bool:=(List.range k).any λb=>same b k
def Yn (same:Nat→Nat→Bool):Nat→Nat
 | 0=>0
 | k+1=>Yn same k+if hasB same k=true then 0 else 1
def Us (same:Nat→Nat→Bool) (k:Nat):Nat:=Yn same (fst (λb=>same b k) k 0)
structure Eqv (same:Nat→Nat→Bool) (n:Nat):Prop where
 refl:∀a,a<n→same a a=true
 symm:∀a b,a<n→b<n→same a b=true→same b a=true
 trans:∀a b c,a<n→b<n→c<n→same a b=true→same b c=true→same a c=true
theorem zh5 (same:Nat→Nat→Bool):∀k,Yn same k≤k
 | 0=>Nat.le_refl _
 | k+1=>by simp only[Yn];have:=zh5 same k;split<;>omega
theorem zdO {same:Nat→Nat→Bool} {n:Nat} (h:Eqv same n) {b k:Nat} (hk:k<n) (hb:b<k) (hs:same b k=true) (hf:∀c,c<b→same c k=false):Us same k=Yn same b∧Us same b=Yn same b:=by
 constructor
 ·unfold Us
  rw[fst_eq (i:=0) (t:=b) (Nat.zero_le _) (by omega) (λj _ hj=>hf j hj) (λ_=>hs)]
 ·unfold Us
  rw[fst_eq (i:=0) (t:=b) (Nat.zero_le _) (Nat.le_refl _) (λj _ hj=>?_) (λz=>by omega)]
  rw[Bool.eq_false_iff]
  intro q
  have:=h.trans j b k (by omega) (by omega) hk q hs
  rw[hf j hj] at this
  cases this
theorem zer {same:Nat→Nat→Bool} {k:Nat} (hf:∀c,c<k→same c k=false):Us same k=Yn same k∧hasB same k=false:=by
 constructor
 ·unfold Us
  rw[fst_eq (i:=0) (t:=k) (Nat.zero_le _) (Nat.le_refl _) (λj _ hj=>hf j hj) (λz=>by omega)]
 ·unfold hasB
  rw[List.any_eq_false]
  intro b hb
  rw[hf b (List.mem_range.1 hb)]
  decide
theorem zew {same:Nat→Nat→Bool} {n:Nat} (h:Eqv same n) {b k:Nat} (hk:k<n) (hb:b<k) (hs:same b k=true):Us same k=Us same b∧hasB same k=true:=by
 refine⟨?_,List.any_eq_true.2 ⟨b,List.mem_range.2 hb,hs⟩⟩
 obtain⟨g1,g2,g3,g4⟩:=zao (p:=λb=>same b k) (e:=k) (i:=0) (Nat.zero_le _)
 have hlt:fst (λb=>same b k) k 0<k:=by
  rcases Nat.lt_or_ge (fst (λb=>same b k) k 0) k with q|q
  ·exact q
  ·have:=g3 b (Nat.zero_le _) (by omega);simp only[hs] at this;cases this
 have hc:=g4 hlt
 generalize fst (λb=>same b k) k 0=c at *
 have hcb:c≤b:=by
  rcases Nat.lt_or_ge b c with q|q
  ·have:=g3 b (Nat.zero_le _) q;simp only[hs] at this;cases this
  ·exact q
 have e1:=(zdO h hk hlt hc λd hd=>g3 d (Nat.zero_le _) hd)
 rw[e1.1]
 by_cases e:c=b
 ·subst e;rw[e1.2]
 ·refine(zdO h (k:=b) (by omega) (show c<b by omega) (h.trans c k b (by omega) hk (by omega) hc (h.symm b k (by omega) hk hs)) λd hd=>?_).1.symm
  rw[Bool.eq_false_iff]
  intro q
  have:=h.trans d b k (by omega) (by omega) hk q hs
  have z:=g3 d (Nat.zero_le _) hd
  simp only[this] at z
  cases z
theorem znN {same:Nat→Nat→Bool} {n:Nat} (h:Eqv same n) {k:Nat} (hk:k<n):Us same k<n:=by
 unfold Us
 have:=(zao (p:=λb=>same b k) (e:=k) (i:=0) (Nat.zero_le _)).2.1
 have:=zh5 same (fst (λb=>same b k) k 0)
 omega
theorem zv7 {same:Nat→Nat→Bool} {n:Nat} (h:Eqv same n) {a b:Nat} (ha:a<n) (hb:b<n):Us same a=Us same b↔same a b=true:=by
 have mono:∀i j,i≤j→Yn same i≤Yn same j:=λi j hij=>by
  obtain⟨d,rfl⟩:=Nat.exists_eq_add_of_le hij
  clear hij
  induction d with
  | zero=>exact Nat.le_refl _
  | succ d ih=>exact Nat.le_trans ih (by rw[←Nat.add_assoc];simp only[Yn];omega)
 have first:∀k,k<n→∃c,c≤k∧same c k=true∧(∀d,d<c→same d c=false)∧Us same k=Yn same c:=λk hk=>by
  obtain⟨g1,g2,g3,g4⟩:=zao (p:=λb=>same b k) (e:=k) (i:=0) (Nat.zero_le _)
  refine⟨fst (λb=>same b k) k 0,g2,?_,λd hd=>?_,rfl⟩
  ·rcases Nat.lt_or_ge (fst (λb=>same b k) k 0) k with q|q
   ·exact g4 q
   ·rw[show fst (λb=>same b k) k 0=k by omega];exact h.refl k hk
  ·rw[Bool.eq_false_iff]
   intro q
   rcases Nat.lt_or_ge (fst (λb=>same b k) k 0) k with z|z
   ·have:=h.trans d _ k (by omega) (by omega) hk q (g4 z)
    have y:=g3 d (Nat.zero_le _) hd
    simp only[this] at y;cases y
   ·have e:fst (λb=>same b k) k 0=k:=by omega
    have y:=g3 d (Nat.zero_le _) hd
    rw[e] at q
    simp only[q] at y;cases y
 constructor
 ·intro e
  obtain⟨c,c1,c2,c3,c4⟩:=first a ha
  obtain⟨d,d1,d2,d3,d4⟩:=first b hb
  have ecd:c=d:=by
   rcases Nat.lt_trichotomy c d with q|q|q
   ·have h1:=mono (c+1) d q
    simp only[Yn,(zer c3).2] at h1
    simp at h1;omega
   ·exact q
   ·have h1:=mono (d+1) c q
    simp only[Yn,(zer d3).2] at h1
    simp at h1;omega
  subst ecd
  exact h.trans a c b ha (by omega) hb (h.symm c a (by omega) ha c2) d2
 ·intro e
  rcases Nat.lt_trichotomy a b with q|q|q
  ·exact(zew h hb q e).1.symm
  ·rw[q]
  ·exact(zew h ha q (h.symm a b ha hb e)).1
noncomputable def zaF (g:List (List Int)) (a b:Nat):Bool:=zcM g [(a:Int)] b&&zcM g [(b:Int)] a
theorem xu {g:List (List Int)} {a b:Nat}:zaF g a b=true↔To g a b∧To g b a:=by
 unfold zaF
 rw[Bool.and_eq_true,Va,Va]
theorem ziH (g:List (List Int)) (n:Nat):Eqv (zaF g) n where
 refl a _:=xu.2 ⟨YC g a,YC g a⟩
 symm a b _ _ h:=xu.2 (xu.1 h).symm
 trans a b c _ _ _ h k:=xu.2 ⟨uq (xu.1 h).1 (xu.1 k).1,uq (xu.1 k).2 (xu.1 h).2⟩
end
section
def Wl (g:List (List Int)) (c:Nat):Prop:=∃x,x∈g.getD c []∧To g x.toNat c
def Fw (g:List (List Int)) (sets:List (Nat→Bool)) (v:Nat):Prop:=∃c,To g v c∧Wl g c∧∀S,S∈sets→∃d,S d=true∧To g c d∧To g d c
open Classical in
noncomputable def fwB (g:List (List Int)) (sets:List (Nat→Bool)) (v:Nat):Bool:=decide (Fw g sets v)
theorem zwa {g:List (List Int)} {sets:List (Nat→Bool)} {v:Nat}:fwB g sets v=true↔Fw g sets v:=by unfold fwB;simp
theorem zze {g:List (List Int)} {sets:List (Nat→Bool)} {v:Nat} {b:Bool} (h:b=true↔Fw g sets v):b=fwB g sets v:=by
 rw[Bool.eq_iff_iff,h,zwa]
theorem Fw.back {g:List (List Int)} {sets:List (Nat→Bool)} {u v:Nat} (h:Fw g sets v) (k:To g u v):Fw g sets u:=by
 obtain⟨c,h1,h2,h3⟩:=h
 exact⟨c,uq k h1,h2,h3⟩
theorem UZ {g:List (List Int)} {c d:Nat} (h:Wl g c) (h1:To g c d) (h2:To g d c):Wl g d:=by
 obtain⟨x,hx,k⟩:=h
 -- the first going of a way from d to c,or d is c
 have key:∀{a b:Nat},To g a b→a=b∨∃y,y∈g.getD a []∧To g y.toNat b:=by
  intro a b q
  unfold To at q
  induction q with
  | base m=>simp only[List.mem_singleton] at m;subst m;left;simp
  | step q m ih =>
   rcases ih with e|⟨y,y1,y2⟩
   ·subst e;exact .inr ⟨_,m,YC g _⟩
   ·exact .inr ⟨y,y1,.step y2 m⟩
 rcases key h2 with e|⟨y,y1,y2⟩
 ·subst e;exact⟨x,hx,k⟩
 ·exact⟨y,y1,uq y2 h1⟩
open Classical in
def qj (g:List (List Int)) (z:Nat→Bool):List (List Int):=(List.range g.length).map λv=>if z v=true then (g.getD v []).filter λx=>z x.toNat else []
@[simp] theorem zd4 (g:List (List Int)) (z:Nat→Bool):(qj g z).length=g.length:=by simp[qj]
theorem zs4 {g:List (List Int)} {z:Nat→Bool} {v:Nat} {x:Int}:x∈(qj g z).getD v []↔x∈g.getD v []∧z v=true∧z x.toNat=true:=by
 by_cases h:v<g.length
 ·rw[List.getD_eq_getElem?_getD,List.getElem?_eq_getElem (by simpa using h)]
  simp only[qj,List.getElem_map,List.getElem_range,Option.getD_some]
  split
  ·rename_i q;simp[List.mem_filter,q]
  ·rename_i q;simp[q]
 ·have e1:(qj g z).getD v []=[]:=by rw[List.getD_eq_getElem?_getD,List.getElem?_eq_none (by simpa using h)];rfl
  have e2:g.getD v []=[]:=by rw[List.getD_eq_getElem?_getD,List.getElem?_eq_none (by omega)];rfl
  rw[e1,e2];simp
theorem zn5 {g:List (List Int)} (xR:∀v x,x∈g.getD v []→x.toNat<g.length) {u v:Nat} (hu:u<g.length) (h:To g u v):v<g.length:=Qt (s:=λv=>v<g.length) (λv _ x hx=>xR v x hx) h hu
end
section

end
section
open Go.RowKit
def wQ {α:Type} (p:α→Bool) (l:List α):Int:=match l.findIdx? p with|some i=>(i:Int)|none=>-1
theorem Vg {α:Type} {p:α→Bool} {l:List α} {k:Nat} (hk:k<l.length) (h:p l[k]=true) (no:∀j (hj:j<k),p (l[j]'zo)=false):wQ p l=k:=by
 have:l.findIdx? p=some k:=by
  rw[List.findIdx?_eq_some_iff_getElem]
  exact⟨hk,h,λj hj=>by simp[no j hj]⟩
 unfold wQ
 rw[this]
theorem Xw {α:Type} {p:α→Bool} {l:List α} (no:∀j (hj:j<l.length),p l[j]=false):wQ p l=-1:=by
 have:l.findIdx? p=none:=by
  rw[List.findIdx?_eq_none_iff]
  intro x hx
  obtain⟨j,hj,rfl⟩:=List.mem_iff_getElem.1 hx
  exact no j hj
 unfold wQ
 rw[this]
theorem uR {α:Type} (p:α→Bool) (l:List α):decide (wQ p l≥0)=l.any p:=by
 unfold wQ
 cases e:l.findIdx? p with
 | none =>
  rw[List.findIdx?_eq_none_iff] at e
  have:l.any p=false:=by rw[List.any_eq_false];intro x hx;simp[e x hx]
  rw[this];rfl
 | some i =>
  rw[List.findIdx?_eq_some_iff_getElem] at e
  obtain⟨h1,h2,_⟩:=e
  have:l.any p=true:=by rw[List.any_eq_true];exact⟨_,List.getElem_mem h1,h2⟩
  rw[this]
  exact decide_eq_true (by show(0:Int)≤(i:Int);omega)
theorem za5 {α:Type} {p:α→Bool} {l:List α} (h:0≤wQ p l):∃k:Nat,wQ p l=(k:Int)∧∃hk:k<l.length,p l[k]=true∧∀j (hj:j<k),p (l[j]'zo)=false:=by
 unfold wQ at h ⊢
 cases e:l.findIdx? p with
 | none=>rw[e] at h;exact absurd h zc
 | some i =>
  rw[List.findIdx?_eq_some_iff_getElem] at e
  obtain⟨h1,h2,h3⟩:=e
  exact⟨i,rfl,h1,h2,λj hj=>by simpa using h3 j hj⟩
theorem zbG {α:Type} {c:α→D} {l:List α} {z k:Nat} (hz:z=k) (h:k<l.length):(l.map λa=>[c a])[z]? = some [c l[k]]:=by
 subst hz
 rw[List.getElem?_map,List.getElem?_eq_getElem h]
 rfl
@[simp] theorem zcb {α:Type} {m:Nat} (f:α→List D) (l:List α):zF m (l.map f)↔∀a∈l,zl m (f a):=by
 induction l with
 | nil=>simp[zF]
 | cons a r ih=>simp[zF,ih]
@[simp] theorem zyh {α:Type} (f:α→List D) (l:List α):yJ (l.map f)↔∀a∈l,zb (f a):=by
 induction l with
 | nil=>simp[yJ]
 | cons a r ih=>simp[yJ,ih]
@[simp] theorem zBV {α:Type} {ρ:Nat→Nat} (f:α→List D) (l:List α):ue ρ (l.map f)=l.map λa=>yE ρ (f a):=by
 induction l with
 | nil=>simp[ue]
 | cons a r ih=>simp[ue,ih]
@[simp] theorem zjm {m:Nat} (l:List Int):zt m (zB l)↔True:=⟨λ_=>trivial,λ_=>zz _ (zj l)⟩
@[simp] theorem zk3 {m:Nat} (l:List (List Int)):zt m (yd l)↔True:=⟨λ_=>trivial,λ_=>zz _ (yf l)⟩
@[simp] theorem vN {ρ:Nat→Nat} (l:List Int):D.yG ρ (zB l)=zB l:=yM _ (zj l)
@[simp] theorem zhb {ρ:Nat→Nat} (l:List (List Int)):D.yG ρ (yd l)=yd l:=yM _ (yf l)
theorem zw {α:Type} {n:Nat} {l:List α} (h:l.length≤n):List.drop 0 (List.take n l)=l:=by rw[List.drop_zero,List.take_of_length_le h]
def c54o:PC:=.seq (OP [Mv 2 cN]) (.seq (.seq (OP [qm 3 0,q 4 (.ziR 3 false 3)]) (.cond 4 (.seq (.stop (OP [Mv 2 cN])) .ret) .skip)) (.seq (OP [Bs 5 1 0 [],qm 6 0,Ap 7 1 8 5 6,qm 2 7]) .ret))
theorem zvm:zv Tryz.prog 54 8 [.tmp 2] c54o:=fK Tryz.func54
theorem JA (l:List Int) (hl:l.length≤17592186044416):yr Tryz.prog 54 [.xl 1 (l.map λn=>[.sc (.int .i64 n)])] [] (.own 0 1 0 l.length) [.vec true 1 1 (l.map λn=>[.sc (.int .i64 n)])]:=by
 refine zS zvm zs zs ?_ (by simp[zt]) (by simp[zf.under,zl,zt])
 refine sR ?_
 intro b hb
 cases b
 ·refine sW ?_
  refine sJ ?_
  simp
 ·refine sW ?_
  have hb:=hb rfl
  obtain rfl:l=[]:=by simpa using hb
  refine zde (λ_:Unit=>[(2,.own 0 1 0 0)]) (λ_=>[.vec true 1 1 []]) (λ_=>True) ?_ ?_
  ·refine sR ?_
   exact⟨(),trivial,wZ (ziP 2 1 1 zs rfl) (za1 (by exact sK))⟩
  ·rintro _ _
   refine sW ?_
   simp
def zzf:PC:=.seq (OP [Bi 9 .lss 8 7]) (.seq (.cond 9 .skip (.exit 0)) (.seq (.block 1 (.seq (OP [qm 10 8,qm 5 10]) (.seq (OP [qm 11 1,qm 12 0,qm 13 5,Ia 14 1 12 13,Lo 15 14,q 16 (.y0 11 [15])]) (.cond 16 (.seq (OP [qm 17 5,qm 4 17]) .ret) .skip)))) (OP [Bi 18 .add 8 (cI 1),qm 8 18])))
def c105:PC:=.seq (OP [Mv 4 (cI 0)]) (.seq (.seq (OP [qm 6 0,Ln 7 6,Mv 8 (cI 0)]) (.block 0 (.loop zzf))) (.seq (OP [Mv 4 (cI (-1))]) .ret))
theorem zxC:zv Tryz.prog 105 19 [.tmp 4] c105:=fK Tryz.func105
theorem zlo {α:Type} (c:α→D) (hcp:∀a,Pure (c a)) (l:List α) (hl:l.length≤9223372036854775807) (p:α→Bool) (cl:FuncId) (cap:List D) (hp:zb cap) (hc:∀a∈l,zn Tryz.prog cl (c a::cap) (.sc (.bool (p a)))) :
  zn Tryz.prog 105 [.xl 1 (l.map λa=>[c a]),.fn (.func cl) [] cap] (.sc (.int .i64 (wQ p l))):=by
 have hpl:yJ (l.map λa=>[c a]):=zC _ (λa=>by simp[zb,hcp]) l
 refine za zxC zs (by simp[zb,Pure,hp,hpl]) ?_ (by simp[Pure])
 refine sR ?_
 rw[List.length_map]
 have fin:∀{z:Int},z=wQ p l→Deep [] (.sc (.int .i64 z)) (.sc (.int .i64 (wQ p l))):=λh=>h▸.refl _
 refine zP [0,1,7] (λk:Nat=>[(8,.sc (.int .i64 k))]) (λ_=>[]) (λk=>k≤l.length∧∀j (hj:j<k) (hl:j<l.length),p l[j]=false) (λk=>l.length-k) 0 ?_
 refine sW ?_
 refine⟨⟨zo,λj hj=>zo⟩,by exact sK,rfl,?_⟩
 rintro k ⟨hk,hno⟩
 refine sW ?_
 refine sR ?_
 refine sS (λh=>?_) λh=>?_
 ·have hk':k<l.length:=sO
  refine sL (zbG (k:=k) zo hk') ?_
  refine sC (hc _ (List.getElem_mem hk')) ?_
  refine sS (λh2=>?_) λh2=>?_
  ·exact fin (Vg hk' h2 λj hj=>hno j hj zo).symm
  ·refine sI ?_
   refine⟨k+1,⟨zo,λj hj hl=>?_⟩,zd,zD (by exact sK) rfl⟩
   by_cases e:j=k
   ·subst e;exact h2
   ·exact hno j zo hl
 ·have hk':¬k<l.length:=sO
  exact fin (Xw λj hj=>hno j zo hj).symm
def c52:PC:=.seq (OP [Mv 4 cF]) (.seq (OP [qm 5 0,qm 6 1,Ca 7 105 [5,6],Bi 8 .geq 7 (cI 0),qm 4 8]) .ret)
theorem zBr:zv Tryz.prog 52 9 [.tmp 4] c52:=fK Tryz.func52
theorem yo {α:Type} (c:α→D) (hcp:∀a,Pure (c a)) (l:List α) (hl:l.length≤9223372036854775807) (p:α→Bool) (cl:FuncId) (cap:List D) (hp:zb cap) (hc:∀a∈l,zn Tryz.prog cl (c a::cap) (.sc (.bool (p a)))) :
  zn Tryz.prog 52 [.xl 1 (l.map λa=>[c a]),.fn (.func cl) [] cap] (.sc (.bool (l.any p))):=by
 have hpl:yJ (l.map λa=>[c a]):=zC _ (λa=>by simp[zb,hcp]) l
 refine za zBr zs (by simp[zb,Pure,hp,hpl]) ?_ (by simp[Pure])
 refine sR ?_
 refine sC (zlo c hcp l hl p cl cap hp hc) ?_
 rw[uR]
 exact .refl _
def zzK:PC:=.seq (OP [Bi 9 .lss 8 7]) (.seq (.cond 9 .skip (.exit 0)) (.seq (.block 1 (.seq (OP [qm 10 8,qm 5 10]) (.seq (OP [qm 11 1,qm 12 0,qm 13 5,Ia 14 1 12 13,Lo 15 14,q 16 (.y0 11 [15])]) (.cond 16 (.seq (OP [qm 17 5,qm 4 17]) .ret) .skip)))) (OP [Bi 18 .add 8 (cI 1),qm 8 18])))
def c147:PC:=.seq (OP [Mv 4 (cI 0)]) (.seq (.seq (OP [qm 6 0,Ln 7 6,Mv 8 (cI 0)]) (.block 0 (.loop zzK))) (.seq (OP [Mv 4 (cI (-1))]) .ret))
theorem zw9:zv Tryz.prog 147 19 [.tmp 4] c147:=fK Tryz.func147
theorem zkb {α:Type} (c:α→D) (hcp:∀a,Pure (c a)) (l:List α) (hl:l.length≤9223372036854775807) (p:α→Bool) (cl:FuncId) (cap:List D) (hp:zb cap) (hc:∀a∈l,zn Tryz.prog cl (c a::cap) (.sc (.bool (p a)))) :
  zn Tryz.prog 147 [.xl 1 (l.map λa=>[c a]),.fn (.func cl) [] cap] (.sc (.int .i64 (wQ p l))):=by
 have hpl:yJ (l.map λa=>[c a]):=zC _ (λa=>by simp[zb,hcp]) l
 refine za zw9 zs (by simp[zb,Pure,hp,hpl]) ?_ (by simp[Pure])
 refine sR ?_
 rw[List.length_map]
 have fin:∀{z:Int},z=wQ p l→Deep [] (.sc (.int .i64 z)) (.sc (.int .i64 (wQ p l))):=λh=>h▸.refl _
 refine zP [0,1,7] (λk:Nat=>[(8,.sc (.int .i64 k))]) (λ_=>[]) (λk=>k≤l.length∧∀j (hj:j<k) (hl:j<l.length),p l[j]=false) (λk=>l.length-k) 0 ?_
 refine sW ?_
 refine⟨⟨zo,λj hj=>zo⟩,by exact sK,rfl,?_⟩
 rintro k ⟨hk,hno⟩
 refine sW ?_
 refine sR ?_
 refine sS (λh=>?_) λh=>?_
 ·have hk':k<l.length:=sO
  refine sL (zbG (k:=k) zo hk') ?_
  refine sC (hc _ (List.getElem_mem hk')) ?_
  refine sS (λh2=>?_) λh2=>?_
  ·exact fin (Vg hk' h2 λj hj=>hno j hj zo).symm
  ·refine sI ?_
   refine⟨k+1,⟨zo,λj hj hl=>?_⟩,zd,zD (by exact sK) rfl⟩
   by_cases e:j=k
   ·subst e;exact h2
   ·exact hno j zo hl
 ·have hk':¬k<l.length:=sO
  exact fin (Xw λj hj=>hno j zo hj).symm
def c82:PC:=.seq (OP [Mv 4 cF]) (.seq (OP [qm 5 0,qm 6 1,Ca 7 147 [5,6],Bi 8 .geq 7 (cI 0),qm 4 8]) .ret)
theorem zBu:zv Tryz.prog 82 9 [.tmp 4] c82:=fK Tryz.func82
theorem X2 {α:Type} (c:α→D) (hcp:∀a,Pure (c a)) (l:List α) (hl:l.length≤9223372036854775807) (p:α→Bool) (cl:FuncId) (cap:List D) (hp:zb cap) (hc:∀a∈l,zn Tryz.prog cl (c a::cap) (.sc (.bool (p a)))) :
  zn Tryz.prog 82 [.xl 1 (l.map λa=>[c a]),.fn (.func cl) [] cap] (.sc (.bool (l.any p))):=by
 have hpl:yJ (l.map λa=>[c a]):=zC _ (λa=>by simp[zb,hcp]) l
 refine za zBu zs (by simp[zb,Pure,hp,hpl]) ?_ (by simp[Pure])
 refine sR ?_
 refine sC (zkb c hcp l hl p cl cap hp hc) ?_
 rw[uR]
 exact .refl _
def zzg:PC:=.seq (OP [Bi 9 .lss 8 7]) (.seq (.cond 9 .skip (.exit 0)) (.seq (.block 1 (.seq (OP [qm 10 8,qm 5 10]) (.seq (OP [qm 11 1,qm 12 0,qm 13 5,Ia 14 1 12 13,Lo 15 14,Bi 16 .eql 11 15]) (.cond 16 (.seq (OP [qm 17 5,qm 4 17]) .ret) .skip)))) (OP [Bi 18 .add 8 (cI 1),qm 8 18])))
def c192:PC:=.seq (OP [Mv 4 (cI 0)]) (.seq (.seq (OP [qm 6 0,Ln 7 6,Mv 8 (cI 0)]) (.block 0 (.loop zzg))) (.seq (OP [Mv 4 (cI (-1))]) .ret))
theorem zxh:zv Tryz.prog 192 19 [.tmp 4] c192:=fK Tryz.func192
theorem zgy (l:List Int) (hl:l.length≤9223372036854775807) (b:Int) :
  zn Tryz.prog 192 [.xl 1 (l.map λa=>[.sc (.int .i64 a)]),.sc (.int .i64 b)] (.sc (.int .i64 (wQ (λa=>b==a) l))):=by
 have hpl:yJ (l.map λa=>[D.sc (.int .i64 a)]):=zC _ (λa=>by simp[zb,Pure]) l
 refine za zxh zs (by simp[zb,Pure,hpl]) ?_ (by simp[Pure])
 refine sR ?_
 rw[List.length_map]
 have fin:∀{z:Int},z=wQ (λa=>b==a) l→Deep [] (.sc (.int .i64 z)) (.sc (.int .i64 (wQ (λa=>b==a) l))):=λh=>h▸.refl _
 refine zP [0,1,7] (λk:Nat=>[(8,.sc (.int .i64 k))]) (λ_=>[]) (λk=>k≤l.length∧∀j (hj:j<k) (hl:j<l.length),(b==l[j])=false) (λk=>l.length-k) 0 ?_
 refine sW ?_
 refine⟨⟨zo,λj hj=>zo⟩,by exact sK,rfl,?_⟩
 rintro k ⟨hk,hno⟩
 refine sW ?_
 refine sR ?_
 refine sS (λh=>?_) λh=>?_
 ·have hk':k<l.length:=sO
  refine sL (zbG (c:=λa=>.sc (.int .i64 a)) (k:=k) zo hk') ?_
  refine sS (λh2=>?_) λh2=>?_
  ·exact fin (Vg hk' h2 λj hj=>hno j hj zo).symm
  ·refine sI ?_
   refine⟨k+1,⟨zo,λj hj hl=>?_⟩,zd,zD (by exact sK) rfl⟩
   by_cases e:j=k
   ·subst e;exact h2
   ·exact hno j zo hl
 ·have hk':¬k<l.length:=sO
  exact fin (Xw λj hj=>hno j zo hj).symm
def c150:PC:=.seq (OP [Mv 4 cF]) (.seq (OP [qm 5 0,qm 6 1,Ca 7 192 [5,6],Bi 8 .geq 7 (cI 0),qm 4 8]) .ret)
theorem zvu:zv Tryz.prog 150 9 [.tmp 4] c150:=fK Tryz.func150
theorem zh7 (l:List Int) (hl:l.length≤9223372036854775807) (b:Int) :
  zn Tryz.prog 150 [.xl 1 (l.map λa=>[.sc (.int .i64 a)]),.sc (.int .i64 b)] (.sc (.bool (l.contains b))):=by
 have hpl:yJ (l.map λa=>[D.sc (.int .i64 a)]):=zC _ (λa=>by simp[zb,Pure]) l
 refine za zvu zs (by simp[zb,Pure,hpl]) ?_ (by simp[Pure])
 refine sR ?_
 refine sC (zgy l hl b) ?_
 rw[uR]
 exact zR (by rw[List.contains_eq_any_beq])
def zCx:PC:=.seq (OP [Bi 9 .lss 8 7]) (.seq (.cond 9 .skip (.exit 0)) (.seq (.block 1 (.seq (OP [qm 10 8,qm 5 10]) (.seq (OP [qm 11 1,qm 12 0,qm 13 5,Ia 14 1 12 13,Lo 15 14,q 16 (.eqb false 11 15)]) (.cond 16 (.seq (OP [qm 17 5,qm 4 17]) .ret) .skip)))) (OP [Bi 18 .add 8 (cI 1),qm 8 18])))
def c29:PC:=.seq (OP [Mv 4 (cI 0)]) (.seq (.seq (OP [qm 6 0,Ln 7 6,Mv 8 (cI 0)]) (.block 0 (.loop zCx))) (.seq (OP [Mv 4 (cI (-1))]) .ret))
theorem zz9:zv Tryz.prog 29 19 [.tmp 4] c29:=fK Tryz.func29
theorem zfi (l:List Bool) (hl:l.length≤9223372036854775807) (b:Bool) :
  zn Tryz.prog 29 [.xl 1 (l.map λa=>[.sc (.bool a)]),.sc (.bool b)] (.sc (.int .i64 (wQ (λa=>b==a) l))):=by
 have hpl:yJ (l.map λa=>[D.sc (.bool a)]):=zC _ (λa=>by simp[zb,Pure]) l
 refine za zz9 zs (by simp[zb,Pure,hpl]) ?_ (by simp[Pure])
 refine sR ?_
 rw[List.length_map]
 have fin:∀{z:Int},z=wQ (λa=>b==a) l→Deep [] (.sc (.int .i64 z)) (.sc (.int .i64 (wQ (λa=>b==a) l))):=λh=>h▸.refl _
 refine zP [0,1,7] (λk:Nat=>[(8,.sc (.int .i64 k))]) (λ_=>[]) (λk=>k≤l.length∧∀j (hj:j<k) (hl:j<l.length),(b==l[j])=false) (λk=>l.length-k) 0 ?_
 refine sW ?_
 refine⟨⟨zo,λj hj=>zo⟩,by exact sK,rfl,?_⟩
 rintro k ⟨hk,hno⟩
 refine sW ?_
 refine sR ?_
 refine sS (λh=>?_) λh=>?_
 ·have hk':k<l.length:=sO
  refine sL (zbG (c:=λa=>.sc (.bool a)) (k:=k) zo hk') ?_
  refine sS (λh2=>?_) λh2=>?_
  ·exact fin (Vg hk' h2 λj hj=>hno j hj zo).symm
  ·refine sI ?_
   refine⟨k+1,⟨zo,λj hj hl=>?_⟩,zd,zD (by exact sK) rfl⟩
   by_cases e:j=k
   ·subst e;exact h2
   ·exact hno j zo hl
 ·have hk':¬k<l.length:=sO
  exact fin (Xw λj hj=>hno j zo hj).symm
def c14:PC:=.seq (OP [Mv 4 cF]) (.seq (OP [qm 5 0,qm 6 1,Ca 7 29 [5,6],Bi 8 .geq 7 (cI 0),qm 4 8]) .ret)
theorem zBn:zv Tryz.prog 14 9 [.tmp 4] c14:=fK Tryz.func14
theorem zfB (l:List Bool) (hl:l.length≤9223372036854775807) (b:Bool) :
  zn Tryz.prog 14 [.xl 1 (l.map λa=>[.sc (.bool a)]),.sc (.bool b)] (.sc (.bool (l.contains b))):=by
 have hpl:yJ (l.map λa=>[D.sc (.bool a)]):=zC _ (λa=>by simp[zb,Pure]) l
 refine za zBn zs (by simp[zb,Pure,hpl]) ?_ (by simp[Pure])
 refine sR ?_
 refine sC (zfi l hl b) ?_
 rw[uR]
 exact zR (by rw[List.contains_eq_any_beq])
end
section
open Go.RowKit
def xJ (l:List Int) (n:Nat):Bool:=l.all λx=>decide (0≤x)&&decide (x<(n:Int))
theorem zvW {l:List Int} {n:Nat} (h:xJ l n=true) {k:Nat} (hk:k<l.length):0≤l[k]∧l[k]<(n:Int):=by
 have:=List.all_eq_true.1 h _ (List.getElem_mem hk)
 simpa using this
theorem ziz (l:List Int) (n:Nat):(l.any λx=>decide (x<0)||decide (x≥(n:Int)))=!(xJ l n):=by
 unfold xJ
 induction l with
 | nil=>rfl
 | cons x r ih =>
  simp only[List.any_cons,List.all_cons,ih]
  rw[Bool.not_and]
  congr 1
  rw[Bool.eq_iff_iff]
  simp only[Bool.or_eq_true,decide_eq_true_eq,Bool.not_eq_true',Bool.and_eq_false_iff,decide_eq_false_iff_not]
  omega
theorem zl2 {α:Type} {p:α→Bool} {l:List α} (h:∀j (hj:j<l.length),p l[j]=false):l.any p=false:=by
 rw[List.any_eq_false]
 intro x hx
 obtain⟨j,hj,rfl⟩:=List.mem_iff_getElem.1 hx
 simp[h j hj]
theorem zib {α:Type} {p:α→Bool} {l:List α} {k:Nat} (hk:k<l.length) (h:p l[k]=true):l.any p=true:=List.any_eq_true.2 ⟨_,List.getElem_mem hk,h⟩
theorem zhz {g:List (List Int)} {z k:Nat} (hz:z=k) (h:k<g.length):(g.map λl=>[zB l])[z]? = some [zB g[k]]:=zbG (c:=zB) hz h
theorem ints_at {l:List Int} {z k:Nat} (hz:z=k) (h:k<l.length):(l.map λn=>[D.sc (.int .i64 n)])[z]? = some [.sc (.int .i64 l[k])]:=zbG (c:=λn=>.sc (.int .i64 n)) hz h
end
section
open Go.RowKit
def uV (l:List Int):D:=.xl 1 (l.map λn=>[.sc (.int .u64 n)])
theorem uC (l:List Int):Pure (uV l):=by
 simp only[uV,Pure];exact zC _ (λn=>by simp[zb,Pure]) l
end
section
open Go.RowKit Go.ChangeShapes Go.WideShapes Go.ChangeAt
def zxM (l:List Int):Prop:=∀x∈l,0≤x∧x<18446744073709551616
theorem zsX {P:Program} {t:TypeId} {d:D} (ht:P.underlying t=some (.int .i64)) (h:OfA P t d):∃i:Int,d=.sc (.int .i64 i)∧-9223372036854775808≤i∧i≤9223372036854775807:=by
 unfold OfA zjD at h
 rw[ht] at h
 obtain⟨n,e,h1,h2⟩:=of_int ht h
 cases e
 refine⟨n,rfl,?_⟩
 simp[IntKind.min,IntKind.max,IntKind.signed,IntKind.bits] at h1 h2
 omega
end
section
open Go.RowKit
section
variable {α:Type}
def vB (b:Nat) (L:List (List α)):List (List D):=(List.range L.length).map λj=>[.own (j+b) (L.getD j []).length 0 (L.getD j []).length]
def xc (zK:Nat) (c:α→List D) (L:List (List α)):List zf:=L.map λl=>.vec true l.length zK (l.map c)
@[simp] theorem zAP (b:Nat) (L:List (List α)):(vB b L).length=L.length:=by simp[vB]
@[simp] theorem X5 (zK:Nat) (c:α→List D) (L:List (List α)):(xc zK c L).length=L.length:=by simp[xc]
theorem wj {b:Nat} {L:List (List α)} {z i:Nat} (hz:z=i) (h:i<L.length):(vB b L)[z]? = some [.own (i+b) (L.getD i []).length 0 (L.getD i []).length]:=by
 subst hz
 simp[vB,List.getElem?_map,List.getElem?_range h]
theorem VT {L:List (List α)} {i:Nat} (h:i<L.length):L[i]? = some (L.getD i []):=by
 rw[List.getD_eq_getElem?_getD,List.getElem?_eq_getElem h];rfl
theorem XG {zK:Nat} {c:α→List D} {L:List (List α)} {i:Nat} (h:i<L.length):(xc zK c L)[i]? = some (.vec true (L.getD i []).length zK ((L.getD i []).map c)):=by
 unfold xc
 rw[List.getElem?_map,VT h]
 rfl
theorem zlV {zK:Nat} {c:α→List D} {L:List (List α)} {i:Nat} {K:zf→Prop} (h:i<L.length) (k:K (.vec true (L.getD i []).length zK ((L.getD i []).map c))):vS (xc zK c L) i K:=(yQ _ _ _).2 ⟨_,XG h,k⟩
theorem zeF {zK:Nat} {c:α→List D} {L:List (List α)} {i:Nat} (l:List α):(xc zK c L).set i (.vec true l.length zK (l.map c))=xc zK c (L.set i l):=by
 unfold xc
 rw[List.map_set]
theorem zvd {L:List (List α)} {i j:Nat} {l:List α} (h:i<L.length):(L.set i l).getD j []=if j=i then l else L.getD j []:=by
 rw[List.getD_eq_getElem?_getD,List.getElem?_set]
 by_cases e:i=j
 ·subst e;simp[h]
 ·rw[if_neg e,if_neg (λq=>e q.symm),List.getD_eq_getElem?_getD]
theorem Wd {b:Nat} {L:List (List α)} {z i:Nat} (hz:z=i) (h:i<L.length) (l:List α) {k:Nat} (hk:k=l.length):(vB b L).set z [.own (i+b) k 0 k]=vB b (L.set i l):=by
 subst hz hk
 apply List.ext_getElem?
 intro j
 by_cases hj:j<L.length
 ·rw[wj rfl (by simpa using hj),zvd h,List.getElem?_set]
  by_cases e:z=j
  ·subst e;simp[h]
  ·rw[if_neg e,wj rfl hj,if_neg (λq=>e q.symm)]
 ·rw[List.getElem?_eq_none (by simp;omega),List.getElem?_eq_none (by simp;omega)]
@[simp] theorem uY {m b:Nat} {L:List (List α)} (h:b+L.length≤m):zF m (vB b L):=by
 unfold vB
 rw[zcb]
 intro j hj
 have:=List.mem_range.1 hj
 simp only[zl,zt,and_true]
 omega
theorem zhu {zK m:Nat} {c:α→List D} {L:List (List α)} (hc:∀a,zl m (c a)):∀o∈xc zK c L,o.under m:=by
 intro o ho
 unfold xc at ho
 obtain⟨l,_,rfl⟩:=List.mem_map.1 ho
 simp only[zf.under,zcb]
 exact λa _=>hc a
theorem zi6 {H:List zf} {b zK:Nat} {c:α→List D} {L:List (List α)} (hH:∀i,i<L.length→H[i+b]? = some (.vec true (L.getD i []).length zK ((L.getD i []).map c))) :
  vH H (vB b L) (L.map λl=>[.xl zK (l.map c)]):=by
 have e:(L.map λl=>[D.xl zK (l.map c)])=(List.range L.length).map λj=>[D.xl zK ((L.getD j []).map c)]:=by
  apply List.ext_getElem?
  intro j
  by_cases hj:j<L.length
  ·rw[List.getElem?_map,VT hj,List.getElem?_map,List.getElem?_range hj];rfl
  ·rw[List.getElem?_eq_none (by simp;omega),List.getElem?_eq_none (by simp;omega)]
 rw[e]
 unfold vB
 have:∀l:List Nat,(∀j∈l,j<L.length)→vH H (l.map λj=>[D.own (j+b) (L.getD j []).length 0 (L.getD j []).length]) (l.map λj=>[D.xl zK ((L.getD j []).map c)]):=by
  intro l
  induction l with
  | nil=>intro _;exact .nil
  | cons j r ih =>
   intro hl
   refine .cons _ _ _ _ (.cons _ _ _ _ (.own _ _ _ _ _ _ _ _ (hH j (hl j zs)) ?_) .nil) (ih λk hk=>hl k (by simp[hk]))
   rw[zw zs]
   exact z8 _
 exact this _ λj hj=>List.mem_range.1 hj
theorem VB {S:Nat→Bool} {H:List zf} {b zK:Nat} {c:α→List D} {L:List (List α)} (hS:∀i,i<L.length→S (i+b)=true) (hH:∀i,i<L.length→H[i+b]? = some (.vec true (L.getD i []).length zK ((L.getD i []).map c))) :
  zN S H (vB b L) (L.map λl=>[.xl zK (l.map c)]):=by
 have e:(L.map λl=>[D.xl zK (l.map c)])=(List.range L.length).map λj=>[D.xl zK ((L.getD j []).map c)]:=by
  apply List.ext_getElem?
  intro j
  by_cases hj:j<L.length
  ·rw[List.getElem?_map,VT hj,List.getElem?_map,List.getElem?_range hj];rfl
  ·rw[List.getElem?_eq_none (by simp;omega),List.getElem?_eq_none (by simp;omega)]
 rw[e]
 unfold vB
 have:∀l:List Nat,(∀j∈l,j<L.length)→zN S H (l.map λj=>[D.own (j+b) (L.getD j []).length 0 (L.getD j []).length]) (l.map λj=>[D.xl zK ((L.getD j []).map c)]):=by
  intro l
  induction l with
  | nil=>intro _;exact .refl _
  | cons j r ih =>
   intro hl
   refine .cons _ _ _ _ (.cons _ _ _ _ (.own _ _ _ _ _ _ _ _ (hS j (hl j zs)) (hH j (hl j zs)) ?_) (.refl _)) (ih λk hk=>hl k (by simp[hk]))
   rw[zw zs]
   exact .refl _
 exact this _ λj hj=>List.mem_range.1 hj
end
theorem zaB {L n:Nat} (id zK k z7:Nat) {env:Env} {H:List zf} (hL:L≤H.length) (hid:H[id]? = some (.vec true z7 1 (List.replicate k [.sc (.slice none 0 0)]))) :
  St.leB L n env H env (H.set id (.vec true z7 1 ((List.range k).map λj=>[.own (j+H.length) 0 0 0]))++List.replicate k (.vec true 0 zK [])):=λJ F a w hr=>by
 have hidl:=uj hid
 have hfree:∀i,H.length≤i→J i=none:=λi hi=>by
  cases e:J i with
  | none=>rfl
  | some s=>have:=hr.dom i (by rw[e];simp);omega
 let J':y4:=λi=>if H.length≤i∧i<H.length+k then some ⟨false,0,none,zK,0,0⟩ else J i
 have hle:J.le J':=λi s hs=>⟨s,by
  have:¬(H.length≤i∧i<H.length+k):=λe=>by rw[hfree i e.1] at hs;cases hs
  simp only[J'];rw[if_neg this];exact hs,Nat.le_refl _,λ_=>rfl⟩
 have hlen:(H.set id (.vec true z7 1 ((List.range k).map λj=>[D.own (j+H.length) 0 0 0]))).length=H.length:=List.length_set
 have hget:∀i,¬(H.length≤i∧i<H.length+k)→i≠id→(H.set id (.vec true z7 1 ((List.range k).map λj=>[D.own (j+H.length) 0 0 0]))++List.replicate k (zf.vec true 0 zK []))[i]? = H[i]?:=λi hi hne=>by
  rcases Nat.lt_or_ge i H.length with q|q
  ·rw[List.getElem?_append_left (by rw[hlen];exact q),List.getElem?_set_ne (λe=>hne e.symm)]
  ·rw[List.getElem?_eq_none q,List.getElem?_eq_none (by rw[List.length_append,hlen,List.length_replicate];omega)]
 have hnew:∀i,H.length≤i∧i<H.length+k→(H.set id (.vec true z7 1 ((List.range k).map λj=>[D.own (j+H.length) 0 0 0]))++List.replicate k (zf.vec true 0 zK []))[i]? = some (.vec true 0 zK []):=λi hi=>by
  rw[List.getElem?_append_right (by rw[hlen];omega),hlen,List.getElem?_replicate,if_pos zo]
 have hgid:(H.set id (.vec true z7 1 ((List.range k).map λj=>[D.own (j+H.length) 0 0 0]))++List.replicate k (zf.vec true 0 zK []))[id]? = some (.vec true z7 1 ((List.range k).map λj=>[D.own (j+H.length) 0 0 0])):=by
  rw[List.getElem?_append_left (by rw[hlen];exact hidl),List.getElem?_set_self hidl]
 refine⟨J',F,⟨hr.defers,hr.size,λu=>yX hle (λ_ h=>h) (λ_ _=>rfl) _ _ (hr.tmps u),⟨λi s hs=>?_,λi i' s s' b g1 g2 g3 g4=>?_,λi s b o g1 g2 g3 g4=>?_,hr.ok.lt⟩,λi hi=>?_⟩,λi s hi hs=>?_,λb hb=>hb,λb ⟨i,s,hs,hb⟩=>?_,λb hb=>.inl hb⟩
 ·simp only[J'] at hs
  split at hs
  ·rename_i e
   cases hs
   exact⟨_,hnew i e,rfl,rfl,rfl,rfl,Nat.le_refl _,.inl rfl⟩
  ·rename_i e
   obtain⟨o,h1,h2⟩:=hr.ok.obj i s hs
   by_cases e2:i=id
   ·subst e2
    have h1':H[i]? = some o:=h1
    rw[hid] at h1'
    cases h1'
    obtain⟨k1,k2,k3,k4,k5,k6⟩:=h2
    refine⟨_,hgid,k1,k2,k3,by rw[k4];simp,k5,?_⟩
    rcases k6 with k6|⟨b,o,vals,te,t1,t2,t3,t4,t5⟩
    ·exact .inl k6
    ·refine .inr ⟨b,o,vals,te,t1,t2,t3,vz _ _ λj x hj=>?_,λq=>by cases q⟩
     have hjk:j<k:=by
      rcases Nat.lt_or_ge j k with q|q
      ·exact q
      ·rw[List.getElem?_eq_none (by simpa using q)] at hj;cases hj
     rw[List.getElem?_map,List.getElem?_range hjk] at hj
     simp only[Option.map_some,Option.some.injEq] at hj
     subst hj
     obtain⟨r1,r2⟩:=wV _ _ j [.sc (.slice none 0 0)] (by rw[List.getElem?_replicate,if_pos hjk]) t4
     refine⟨rfl,xz _ _ λq c hq=>?_⟩
     cases q with
     | zero =>
      simp at hq;subst hq
      obtain⟨u,p1,p2,p3⟩:=xE _ _ 0 (.sc (.slice none 0 0)) rfl r2
      simp only[rep] at p3
      refine⟨u,p1,p2,?_⟩
      simp only[rep]
      refine⟨⟨false,0,none,zK,0,0⟩,none,0,0,?_,p3,Nat.le_refl _,λ_=>⟨rfl,Nat.le_refl _,Nat.zero_le _,rfl,rfl,.inl rfl⟩⟩
      simp only[J']
      rw[if_pos zo]
     | succ q=>simp at hq
   ·exact⟨o,by rw[hget i e e2];exact h1,xZ hle (λ_ h=>h) (λ_ _=>rfl) (λ_ _=>rfl) h2⟩
 ·simp only[J'] at g1 g2
  split at g1
  ·cases g1;simp[Site.qa] at g3
  ·split at g2
   ·cases g2;simp[Site.qa] at g4
   ·exact hr.ok.one i i' s s' b g1 g2 g3 g4
 ·simp only[J'] at g1
  split at g1
  ·cases g1;simp[Site.qa] at g2
  ·rename_i e
   by_cases e2:i=id
   ·subst e2
    exact hr.ok.apart i s b _ g1 g2 hid rfl
   ·exact hr.ok.apart i s b o g1 g2 (by rw[←hget i e e2];exact g3) g4
 ·simp only[J'] at hi
  rw[List.length_append,hlen,List.length_replicate]
  split at hi
  ·omega
  ·have:=hr.dom i hi;omega
 ·have:¬(H.length≤i∧i<H.length+k):=zo
  simp only[J'];rw[if_neg this];exact hs
 ·simp only[J'] at hs
  split at hs
  ·cases hs;simp[Site.qa] at hb
  ·exact⟨i,s,hs,hb⟩
theorem Wy {α:Type} (b k:Nat):((List.range k).map λj=>[D.own (j+b) 0 0 0])=vB b (List.replicate k ([]:List α)):=by
 unfold vB
 rw[List.length_replicate]
 refine List.map_congr_left λj hj=>?_
 have:=List.mem_range.1 hj
 rw[List.getD_eq_getElem?_getD,List.getElem?_replicate,if_pos this]
 rfl
theorem Wn {α:Type} (zK k:Nat) (c:α→List D):List.replicate k (zf.vec true 0 zK [])=xc zK c (List.replicate k []):=by
 unfold xc
 rw[List.map_replicate]
 rfl
theorem y7 {m:Nat} {G:List zf}:∀(l t:List zf),(∀o∈l,o.under m)→WL m G (l++t) l
 | [],t,_=>by cases t<;>exact trivial
 | o::r,t,h=>by
  refine⟨?_,y7 r t λo ho=>h o (by simp[ho])⟩
  have:=h o zs
  cases o with
  | row q cs=>exact⟨rfl,.refl _,this⟩
  | vec q v e xs=>exact⟨rfl,rfl,rfl,.refl _,this⟩
  | wg q I=>exact⟨rfl,rfl⟩
theorem J3 {m:Nat} {G:List zf}:∀l:List zf,WL m G l []
 | []=>trivial
 | _::_=>trivial
structure ForH (P:Program) (n:Nat) (p:PC) (Q:qE) (env:Env) (H:List zf) {ι:Type} (J5:ι→Env) (O:ι→List zf) (G:ι→Prop) (m:ι→Nat) (i:ι) (e:Env):Prop where
 vZ:G i
 start:V9 env (J5 i)
 heap:H=O i
 round:∀j,G j→zsN (J5 j) e λE=>PWp P n p (zlp H.length n Q (λj=>J5 j++e) O G m (m j)) E (O j)
theorem ye {P:Program} {n:Nat} {p:PC} {Q:qE} {env:Env} {H:List zf} {ι:Type} (kept:List Nat) (J5:ι→Env) (O:ι→List zf) (G:ι→Prop) (m:ι→Nat) (i:ι)
  (h:zjs env kept λe=>ForH P n p Q env H J5 O G m i e):PWp P n (.loop p) Q env H:=by
 rw[zdH] at h
 refine Ve (λj=>J5 j++kept.map λt=>(t,xW t env)) O G m i h.vZ (zD (zby _ _ h.start (Jt _)) h.heap) λj hj=>?_
 have:=h.round j hj
 rwa [ziE] at this
theorem zd2 {α:Type} {zK:Nat} {c:α→List D} {l:List α} {x:α}:zf.vec true (l.length+1) zK (List.drop 0 (List.take l.length (l.map c))++List.drop 0 (List.take 1 [c x]))=zf.vec true (l++[x]).length zK ((l++[x]).map c):=by
 rw[zw zs,List.length_append,List.length_singleton,List.map_append]
 rfl
def okK (b:Bool) (K K2:Prop):Prop:=match b with
 | true=>K
 | false=>K2
theorem zoM (x y:Nat) (r:List Nat):zbP x (y::r)=(decide (x=y)||zbP x r):=by
 have e:Nat.beq x y=decide (x=y):=by
  rw[Bool.eq_iff_iff,decide_eq_true_eq]
  exact⟨Nat.eq_of_beq_eq_true,λh=>h▸Nat.beq_refl x⟩
 simp only[zbP,e]
 cases decide (x=y)<;>rfl
theorem zs8 (x:Nat):zbP x []=false:=rfl
theorem zmW (x:Nat) (r l:List Nat):meets (x::r) l=(zbP x l||meets r l):=by
 simp only[meets]
 cases zbP x l<;>rfl
theorem zpf (l:List Nat):meets [] l=false:=rfl
theorem zzh (b c:Bool):(match b with|true=>c|false=>false)=(b&&c):=by cases b<;>rfl
theorem zAG {b:Bool} {K K2:Prop} (h:b=true) (k:K):okK b K K2:=by subst h;exact k
section
variable {α:Type} {zK:Nat} {c:α→List D} {L:List (List α)} {T:List zf} {K:zf→Prop} {K':List zf→Prop}
theorem zaX {i:Nat} (h:i<L.length) (k:K (.vec true (L.getD i []).length zK ((L.getD i []).map c))):vS (xc zK c L++T) i K:=by
 rw[yQ]
 exact⟨_,by rw[List.getElem?_append_left (by simpa using h)];exact XG h,k⟩
theorem xS (j:Nat) {i:Nat} (hi:i=L.length+j) (k:vS T j K):vS (xc zK c L++T) i K:=by
 subst hi
 rw[yQ] at k ⊢
 obtain⟨o,h1,h2⟩:=k
 exact⟨o,by rw[List.getElem?_append_right zs,X5,Nat.add_sub_cancel_left];exact h1,h2⟩
theorem zc2 {i:Nat} {o:zf} (l:List α) (h:i<L.length) (ho:o=.vec true l.length zK (l.map c)) (k:K' (xc zK c (L.set i l)++T)):XY (xc zK c L++T) i o K':=by
 subst ho
 rw[uE]
 exact⟨by simp;omega,by rw[List.set_append_left _ _ (by simpa using h),zeF];exact k⟩
theorem xU (j:Nat) {i:Nat} {o:zf} (hi:i=L.length+j) (k:XY T j o λT'=>K' (xc zK c L++T')):XY (xc zK c L++T) i o K':=by
 subst hi
 rw[uE] at k ⊢
 exact⟨by rw[List.length_append,X5];omega,by
  rw[List.set_append_right _ _ zs,X5,Nat.add_sub_cancel_left];exact k.2⟩
theorem zba {o:zf} {K:List zf→Nat→Prop} (k:K (xc zK c L++[o]) L.length):Y8 (xc zK c L) o K:=by
 rw[ug,X5]
 exact k
theorem zsh {o:zf} {K:List zf→Nat→Prop} (k:K (xc zK c L++(T++[o])) (L.length+T.length)):Y8 (xc zK c L++T) o K:=by
 rw[ug,List.length_append,X5,List.append_assoc]
 exact k
theorem Vp {m:Nat} {G:List zf} (hc:∀a,zl m (c a)):WL m G (xc zK c L++T) (xc zK c L):=y7 _ _ (zhu hc)
end
def U7 (n:Int):List D:=[.sc (.int .i64 n)]
@[simp] theorem zcF {m:Nat} (n:Int):zl m (U7 n):=by simp[U7,zl,zt]
theorem vy (L:List (List Int)):yJ (L.map λl=>[zB l]):=zC _ (λl=>by simp[zb,zj]) L
end
section
open Go.RowKit
def QW (g:List (List Int)):Int:=if 20000<g.length then 2 else if (g.any λl=>!(xJ l g.length))=true then 1 else 0
theorem Yi {g:List (List Int)}:QW g=0↔g.length≤20000∧∀l∈g,xJ l g.length=true:=by
 unfold QW
 split
 ·constructor
  ·intro h;exact absurd h zc
  ·intro h;omega
 ·split
  ·rename_i h
   rw[List.any_eq_true] at h
   obtain⟨l,h1,h2⟩:=h
   constructor
   ·intro h;exact absurd h zc
   ·intro h;rw[h.2 l h1] at h2;cases h2
  ·rename_i h1 h
   rw[Bool.not_eq_true,List.any_eq_false] at h
   exact⟨λ_=>⟨zo,λl hl=>by simpa using h l hl⟩,λ_=>rfl⟩
structure uZ (g:List (List Int)):Prop where
 len:g.length≤17592186043904
 each:∀l∈g,l.length≤17592186043904
theorem uZ.at {g:List (List Int)} (h:uZ g) (i:Nat):(g.getD i []).length≤17592186043904:=by
 rw[List.getD_eq_getElem?_getD]
 cases e:g[i]? with
 | none=>simp
 | some l=>exact h.each l (List.mem_of_getElem? e)
theorem xX {g:List (List Int)} {z k:Nat} (hz:z=k) (h:k<g.length):(g.map λl=>[zB l])[z]? = some [zB (g.getD k [])]:=by
 subst hz
 rw[List.getElem?_map,VT h];rfl
theorem yc {l:List Int} {z k:Nat} (hz:z=k) (h:k<l.length):(l.map λn=>[D.sc (.int .i64 n)])[z]? = some [.sc (.int .i64 (l.getD k 0))]:=by
 rw[ints_at hz h,List.getD_eq_getElem?_getD,List.getElem?_eq_getElem h];rfl
theorem zkp {l:List Int} {n:Nat} (h:xJ l n=true) {k:Nat} (hk:k<l.length):0≤l.getD k 0∧l.getD k 0<(n:Int):=by
 rw[List.getD_eq_getElem?_getD,List.getElem?_eq_getElem hk]
 exact zvW h hk
theorem xa {g:List (List Int)} {n:Nat} (h:∀l∈g,xJ l n=true) (k:Nat):xJ (g.getD k []) n=true:=by
 rw[List.getD_eq_getElem?_getD]
 cases e:g[k]? with
 | none=>rfl
 | some l=>exact h l (List.mem_of_getElem? e)
def c53:PC:=.seq (OP [Mv 3 cF]) (.seq (OP [qm 4 0,Bi 5 .lss 4 (cI 0),qm 6 5,GF 7 6 (.move 0),GF 8 6 (.zg 1),GF 9 6 (.len 8),GF 10 6 (.bin .geq 7 9),Pk 11 6 cT 10,qm 3 11]) .ret)
theorem zzX:zv Tryz.prog 53 12 [.tmp 3] c53:=fK Tryz.func53
def c27:PC:=.seq (OP [Bx 2 0,Mv 4 cF]) (.seq (OP [qm 5 1,q 6 (.uG (.func 53) [] [2]),Ca 7 52 [5,6],qm 4 7]) .ret)
theorem zzJ:zv Tryz.prog 27 8 [.tmp 4] c27:=fK Tryz.func27
def zCX:PC:=.seq (OP [Bi 11 .lss 10 9]) (.seq (.cond 11 .skip (.exit 0)) (.seq (.block 1 (.seq (OP [Ia 12 1 8 10,Lo 13 12,qm 4 13]) (.seq (OP [qm 14 0,qm 15 4,Ca 16 27 [14,15]]) (.cond 16 (.seq (OP [Mv 2 (cI 1)]) .ret) .skip)))) (OP [Bi 17 .add 10 (cI 1),qm 10 17])))
def c26:PC:=.seq (OP [Mv 2 (cI 0)]) (.seq (.seq (OP [qm 5 0,Ln 6 5,Bi 7 .gtr 6 (cI 20000)]) (.cond 7 (.seq (OP [Mv 2 (cI 2)]) .ret) .skip)) (.seq (.seq (OP [qm 8 0,Ln 9 8,Mv 10 (cI 0)]) (.block 0 (.loop zCX))) (.seq (OP [Mv 2 (cI 0)]) .ret)))
theorem zAv:zv Tryz.prog 26 18 [.tmp 2] c26:=fK Tryz.func26
theorem zsw (g:List (List Int)) (x:Int):zn Tryz.prog 53 [.sc (.int .i64 x),.yO [yd g]] (.sc (.bool (decide (x<0)||decide (x≥(g.length:Int))))):=by
 refine za zzX zs (by simp[zb,Pure,yf]) ?_ (by simp[Pure])
 refine sR ?_
 refine sS (λh=>?_) λh=>?_
 ·exact zR zs
 ·rw[List.length_map]
  exact zR zs
theorem znv (g:List (List Int)) (l:List Int) (hl:l.length≤9223372036854775807):zn Tryz.prog 27 [yd g,zB l] (.sc (.bool !(xJ l g.length))):=by
 refine za zzJ zs (by simp[zb,Pure,zj,yf]) ?_ (by simp[Pure])
 refine sR ?_
 refine sN (yo (λn=>.sc (.int .i64 n)) (λa=>by simp[Pure]) l hl (λx=>decide (x<0)||decide (x≥(g.length:Int))) 53 [.yO [yd g]] (by simp[zb,Pure,yf]) λa _=>zsw g a) ?_
 rw[ziz]
 exact .refl _
theorem zf0 (g:List (List Int)) (hg:uZ g):zn Tryz.prog 26 [yd g] (.sc (.int .i64 (QW g))):=by
 have b1:=hg.len
 refine za zAv zs (by simp[zb,Pure,yf]) ?_ (by simp[Pure])
 unfold yd
 refine sR ?_
 rw[List.length_map]
 have fin:∀{H:List zf} {z:Int},z=QW g→Deep H (.sc (.int .i64 z)) (.sc (.int .i64 (QW g))):=λh=>h▸.refl _
 refine sS (λh1=>?_) λh1=>?_
 ·exact fin (by unfold QW;rw[if_pos (sO)])
 have h1:¬20000<g.length:=sO
 rw[List.length_map]
 refine zP [0,8,9] (λk:Nat=>[(10,.sc (.int .i64 k))]) (λ_=>[]) (λk=>k≤g.length∧∀j (hj:j<k) (hl:j<g.length),(!(xJ g[j] g.length))=false) (λk=>g.length-k) 0 ?_
 refine sW ?_
 refine⟨⟨zo,λj hj=>zo⟩,by exact sK,rfl,?_⟩
 rintro k ⟨hk,hall⟩
 refine sW ?_
 refine sR ?_
 refine sS (λh2=>?_) λh2=>?_
 ·have hk':k<g.length:=sO
  refine sL (zhz (k:=k) zo hk') ?_
  refine sC (znv g g[k] (by have:=hg.each _ (List.getElem_mem hk');omega)) ?_
  refine sS (λh3=>?_) λh3=>?_
  ·exact fin (by unfold QW;rw[if_neg h1,if_pos (zib hk' h3)])
  ·refine sI ?_
   refine⟨k+1,⟨zo,λj hj hl=>?_⟩,zd,zD (by exact sK) rfl⟩
   by_cases e:j=k
   ·subst e;exact h3
   ·exact hall j zo hl
 ·have hk':¬k<g.length:=sO
  exact fin (by unfold QW;rw[if_neg h1,if_neg (by rw[zl2 λj hj=>hall j zo hj];simp)])
end
section
open Go.RowKit
def Yt (n:Nat) (g:Nat→Bool):List (List D):=(List.range n).map λi=>[.sc (.bool (g i))]
def ur (n:Nat) (g:Nat→Bool):D:=.xl 1 (Yt n g)
@[simp] theorem zhF (n:Nat) (g:Nat→Bool):(Yt n g).length=n:=by simp[Yt]
theorem zfl {n i:Nat} {g:Nat→Bool} (h:i<n):(Yt n g)[i]? = some [.sc (.bool (g i))]:=by
 simp[Yt,List.getElem?_map,List.getElem?_range h]
theorem yh {n:Nat} {g:Nat→Bool} {z:Nat} (i:Nat) (hz:z=i) (h:i<n):(Yt n g)[z]? = some [.sc (.bool (g i))]:=by
 subst hz
 exact zfl h
theorem x3 {n:Nat} {g g':Nat→Bool} (h:∀i,i<n→g i=g' i):Yt n g=Yt n g':=by
 unfold Yt
 exact List.map_congr_left λi hi=>by rw[h i (List.mem_range.1 hi)]
theorem zm8 (n:Nat) (g:Nat→Bool) (k:Nat) (v:Bool):(Yt n g).set k [.sc (.bool v)]=Yt n (λi=>if i=k then v else g i):=by
 apply List.ext_getElem?
 intro i
 by_cases hi:i<n
 ·by_cases hk:i=k
  ·subst hk
   rw[List.getElem?_set_self (by simpa using hi),zfl hi]
   simp
  ·rw[List.getElem?_set_ne (λe=>hk e.symm),zfl hi,zfl hi]
   simp[hk]
 ·rw[List.getElem?_eq_none (by simp;omega),List.getElem?_eq_none (by simp;omega)]
theorem ZI (n:Nat):List.replicate n [D.sc (.bool false)]=Yt n (λ_=>false):=by
 apply List.ext_getElem?
 intro i
 by_cases hi:i<n
 ·rw[zfl hi,List.getElem?_replicate,if_pos hi]
 ·rw[List.getElem?_eq_none (by simp;omega),List.getElem?_eq_none (by simp;omega)]
theorem X9 (n:Nat) (g:Nat→Bool):yJ (Yt n g):=zC _ (λi=>by simp[zb,Pure]) _
theorem zY (n:Nat) (g:Nat→Bool):Pure (ur n g):=by simp only[ur,Pure];exact X9 n g
theorem zdk (n:Nat) (g:Nat→Bool):List.drop 0 (List.take n (Yt n g))=Yt n g:=by rw[List.drop_zero,List.take_of_length_le zs]
theorem zpY {n:Nat} {g g':Nat→Bool} (h:∀i,i<n→g i=g' i):ur n g=ur n g':=by unfold ur;rw[x3 h]
theorem UP {H:List zf} {id v n:Nat} {q:Bool} {g:Nat→Bool} (h:H[id]? = some (.vec q v 1 (Yt n g))):Deep H (.own id v 0 n) (ur n g):=.own _ _ _ _ _ _ _ _ h (by rw[zdk];exact z8 _)
@[simp] theorem zx9 {m n:Nat} (g:Nat→Bool):zF m (Yt n g)↔True:=⟨λ_=>trivial,λ_=>zi _ (X9 n g)⟩
@[simp] theorem zBN {m n:Nat} (g:Nat→Bool):zt m (ur n g)↔True:=⟨λ_=>trivial,λ_=>zz _ (zY n g)⟩
theorem znm (n:Nat) (g:Nat→Bool):Yt n g=((List.range n).map g).map λa=>[D.sc (.bool a)]:=by simp[Yt]
theorem zdD (n:Nat) (g:Nat→Bool) (hn:n≤9223372036854775807) (b:Bool):zn Tryz.prog 14 [ur n g,.sc (.bool b)] (.sc (.bool (((List.range n).map g).contains b))):=by
 have:=zfB ((List.range n).map g) (by simpa using hn) b
 rwa [←znm] at this
theorem Wb {n:Nat} {g:Nat→Bool} {b:Bool}:((List.range n).map g).contains b=true↔∃i,i<n∧g i=b:=by
 simp[List.contains_iff_mem,List.mem_map]
end
section
open Go.RowKit
theorem U0 {n z:Nat} {s:Nat→Bool} {v:Nat} (hz:z=v):(Yt n s).set z [.sc (.bool true)]=Yt n (mark s v):=by
 subst hz
 rw[zm8]
 rfl
structure zcL (g:List (List Int)) (from_:List Int) (B:Nat) (s:Nat→Bool) (T:List Int):Prop where
 todo:xJ T g.length=true
 comes:∀x∈T,WJ g from_ x.toNat
 seen:∀v,s v=true→WJ g from_ v
 start:∀x∈from_,s x.toNat=true∨x∈T
 closed:∀v,s v=true→∀x∈g.getD v [],s x.toNat=true∨x∈T
 room:T.length+zcP g s≤B
theorem z1 {l:List Int} {n:Nat} (h:xJ l n=true) {x:Int} (hx:x∈l):0≤x∧x<(n:Int):=by
 have:=List.all_eq_true.1 h x hx
 simpa using this
theorem wA {l:List Int} {n:Nat} (h:∀x∈l,0≤x∧x<(n:Int)):xJ l n=true:=by
 unfold xJ
 rw[List.all_eq_true]
 intro x hx
 simpa using h x hx
theorem zcL.pop {g:List (List Int)} {from_:List Int} {B:Nat} {s:Nat→Bool} {T:List Int} {x:Int} (h:zcL g from_ B s (T++[x])) (hs:s x.toNat=true):zcL g from_ B s T where
 todo:=wA λy hy=>z1 h.todo (by simp[hy])
 comes y hy:=h.comes y (by simp[hy])
 seen:=h.seen
 start y hy:=by
  rcases h.start y hy with q|q
  ·exact .inl q
  ·rcases List.mem_append.1 q with q|q
   ·exact .inr q
   ·rw[List.mem_singleton] at q;subst q;exact .inl hs
 closed v hv y hy:=by
  rcases h.closed v hv y hy with q|q
  ·exact .inl q
  ·rcases List.mem_append.1 q with q|q
   ·exact .inr q
   ·rw[List.mem_singleton] at q;subst q;exact .inl hs
 room:=by have:=h.room;rw[List.length_append] at this;omega
theorem zcL.push {g:List (List Int)} {from_:List Int} {B:Nat} {s:Nat→Bool} {T:List Int} {x:Int} (hg:∀l∈g,xJ l g.length=true) (h:zcL g from_ B s (T++[x])) (hs:s x.toNat=false):zcL g from_ B (mark s x.toNat) (T++g.getD x.toNat []) where
 todo:=wA λy hy=>by
  rcases List.mem_append.1 hy with q|q
  ·exact z1 h.todo (by simp[q])
  ·exact z1 (xa hg _) q
 comes y hy:=by
  rcases List.mem_append.1 hy with q|q
  ·exact h.comes y (by simp[q])
  ·exact .step (h.comes x zs) q
 seen v hv:=by
  rcases qM.1 hv with q|q
  ·subst q;exact h.comes x zs
  ·exact h.seen v q
 start y hy:=by
  rcases h.start y hy with q|q
  ·exact .inl (xC q)
  ·rcases List.mem_append.1 q with q|q
   ·exact .inr (by simp[q])
   ·rw[List.mem_singleton] at q;subst q;exact .inl (wo _ _)
 closed v hv y hy:=by
  rcases qM.1 hv with q|q
  ·subst q;exact .inr (List.mem_append_right _ hy)
  ·rcases h.closed v q y hy with q|q
   ·exact .inl (xC q)
   ·rcases List.mem_append.1 q with q|q
    ·exact .inr (by simp[q])
    ·rw[List.mem_singleton] at q;subst q;exact .inl (wo _ _)
 room:=by
  have h1:=h.room
  have h2:=z1 h.todo (x:=x) zs
  have h3:=zgR (g:=g) (v:=x.toNat) zo hs
  rw[List.length_append] at h1 ⊢
  simp only[List.length_cons,List.length_nil] at h1
  omega
theorem zcL.done {g:List (List Int)} {from_:List Int} {B:Nat} {s:Nat→Bool} (h:zcL g from_ B s []) (v:Nat):s v=zcM g from_ v:=zvI ⟨h.seen v,zl4 (λx hx=>(h.start x hx).resolve_right zs) (λv hv x hx=>(h.closed v hv x hx).resolve_right zs) v⟩
theorem zcL.begin {g:List (List Int)} {from_:List Int} {B:Nat} (hf:xJ from_ g.length=true) (hB:from_.length+zcP g (λ_=>false)≤B):zcL g from_ B (λ_=>false) from_ where
 todo:=hf
 comes _ hx:=.base hx
 seen v h:=by cases h
 start _ hx:=.inr hx
 closed v h:=by cases h
 room:=hB
def zI (l:List Int):List (List D):=l.map λn=>[.sc (.int .i64 n)]
@[simp] theorem zwv {m:Nat} (l:List Int):zF m (zI l)↔True:=by simp[zI,zl,zt]
theorem zte {Z l:List Int} {z h:Nat} (hz:z=h):List.drop (0+0) (List.take z (zI Z))++l.map (λn=>[D.sc (.int .i64 n)])=zI (Z.take h++l):=by
 subst hz
 unfold zI
 rw[Nat.zero_add,List.drop_zero,List.map_append,List.map_take]
theorem zqE {l:List Int} {h:Nat} (h1:1≤h) (h2:h≤l.length):l.take h=l.take (h-1)++[l.getD (h-1) 0]:=by
 obtain⟨k,rfl⟩:∃k,h=k+1:=⟨h-1,zo⟩
 rw[List.take_add_one,List.getElem?_eq_getElem zo,Nat.add_sub_cancel,List.getD_eq_getElem?_getD,List.getElem?_eq_getElem zo]
 rfl
def zB1:PC:=.seq (.seq (OP [qm 13 6,Ln 14 13,Bi 15 .gtr 14 (cI 0)]) (.cond 15 .skip (.exit 0))) (.block 1 (.seq (OP [qm 16 6,qm 17 6,Ln 18 17,Bi 19 .sub 18 (cI 1),Ia 20 1 16 19,Lo 21 20,qm 7 21]) (.seq (OP [qm 22 6,qm 23 6,Ln 24 23,Bi 25 .sub 24 (cI 1),q 26 (.slc 1 22 none (some 25) none),qm 6 26]) (.seq (OP [qm 27 5,qm 28 7,Ia 29 1 27 28,Lo 30 29,Nt 31 30]) (.cond 31 (.seq (OP [qm 32 5,qm 33 7,Ia 34 1 32 33,So 1 34 cT]) (OP [qm 35 6,qm 36 0,qm 37 7,Ia 38 1 36 37,Lo 39 38,Ap 40 1 8 35 39,qm 6 40])) .skip)))))
def c28:PC:=.seq (OP [Mv 4 cN]) (.seq (OP [qm 8 0,Ln 9 8,q 10 (.wP 1 1 [(.bool false)] 9 9),qm 5 10]) (.seq (OP [qm 11 1,Ca 12 54 [11],qm 6 12]) (.seq (.block 0 (.loop zB1)) (.seq (OP [qm 41 5,qm 4 41]) .ret))))
theorem zy4:zv Tryz.prog 28 42 [.tmp 4] c28:=fK Tryz.func28
theorem zoC (g:List (List Int)) (hg:QW g=0) (hF:uZ g) (from_:List Int) (hf:xJ from_ g.length=true) (hB:from_.length+zcP g (λ_=>false)≤1000000000000) :
  zn Tryz.prog 28 [yd g,zB from_] (ur g.length (zcM g from_)):=by
 obtain⟨hn,xR⟩:=Yi.1 hg
 refine za zy4 zs (by simp[zb,Pure,yf,zj]) ?_ (zY _ _)
 unfold yd
 refine sR ?_
 rw[List.length_map]
 refine⟨zo,zo,zo,?_⟩
 rw[Int.toNat_natCast]
 refine sW ?_
 refine sE (xo (JA from_ zo) (by simp[zb,Pure]) [1] rfl rfl (by simp[zf.yG,yE,D.yG];rfl)) ?_
 refine zP [0,5] (λ((s,Z,h,z7):(Nat→Bool) × List Int × Nat × Nat)=>[(6,.own 1 z7 0 h)]) (λ(s,Z,h,z7)=>[(0,.vec true 0 1 (Yt g.length s)),(1,.vec true z7 1 (zI Z))])
  (λ(s,Z,h,z7)=>h≤Z.length∧zcL g from_ 1000000000000 s (Z.take h)) (λ(s,Z,h,z7)=>h+zcP g s) ((λ_=>false),from_,from_.length,1) ?_
 refine sW ?_
 refine⟨⟨zs,by rw[List.take_length];exact zcL.begin hf hB⟩,by exact sK,by rw[ZI];rfl,?_⟩
 rintro⟨s,Z,h,z7⟩ ⟨hh,hI⟩
 refine sW ?_
 refine sR ?_
 refine sS (λh1=>?_) λh1=>?_
 ·have h1:1≤h:=sO
  rw[zqE h1 hh] at hI
  have hx:=z1 hI.todo (x:=Z.getD (h-1) 0) zs
  have room:=hI.room
  rw[List.length_append,List.length_take] at room
  refine sI ?_
  refine sB ?_
  refine⟨_,yc (l:=Z) (k:=h-1) zo zo,?_⟩
  refine sW ?_
  generalize hv:Z.getD (h-1) 0=x at hx hI
  refine sI ?_
  refine⟨zo,zo,zo,?_⟩
  refine sW ?_
  refine sB ?_
  refine⟨_,yh x.toNat zo zo,?_⟩
  refine sW ?_
  cases hs:s x.toNat
  ·refine sW ?_
   refine sB ?_
   refine⟨_,yh x.toNat zo zo,?_⟩
   refine sW ?_
   refine sL (xX (k:=x.toNat) zo zo) ?_
   have lx:=hF.at x.toNat
   have key:=zgR (g:=g) (s:=s) (v:=x.toNat) zo hs
   have hP:=hI.push xR hs
   refine sJ ?_
   refine⟨(mark s x.toNat,Z.take (h-1)++g.getD x.toNat [],(h-1)+(g.getD x.toNat []).length,z7+1),⟨by simp;omega,?_⟩,?_,?_⟩
   ·rw[List.take_of_length_le (by simp;omega)]
    exact hP
   ·dsimp only
    omega
   ·refine zD ⟨congrArg (D.own 1 (z7+1) 0) (by simp only[List.length_map];omega),by exact sK⟩ ?_
    rw[U0 (v:=x.toNat) zo,zte (h:=h-1) zo]
    rfl
  ·refine sW ?_
   refine⟨(s,Z,h-1,z7),⟨zo,hI.pop hs⟩,zd,?_⟩
   exact zD ⟨congrArg (D.own 1 z7 0) zo,by exact sK⟩ rfl
 ·have h0:h=0:=sO
  subst h0
  rw[List.take_zero] at hI
  rw[x3 (g':=zcM g from_) λi _=>hI.done i]
  exact UP rfl
def c13:PC:=.seq (OP [Mv 4 cN,Mv 5 (cI 0)]) (.seq (.seq (OP [qm 7 0,Ca 8 26 [7],qm 6 8]) (.seq (OP [qm 9 6,Bi 10 .neq 9 (cI 0)]) (.cond 10 (.seq (OP [qm 11 6,Mv 4 cN,qm 5 11]) .ret) .skip))) (.seq (.seq (OP [qm 12 0,qm 13 1,Ca 14 27 [12,13]]) (.cond 14 (.seq (OP [Mv 4 cN,Mv 5 (cI 1)]) .ret) .skip)) (.seq (OP [qm 15 0,qm 16 1,Ca 17 28 [15,16],qm 4 17,Mv 5 (cI 0)]) .ret)))
theorem zAz:zv Tryz.prog 13 18 [.tmp 4,.tmp 5] c13:=fK Tryz.func13
theorem zge (g:List (List Int)) (hg:QW g=0) (hF:uZ g) (from_:List Int) (hf:xJ from_ g.length=true) (hB:from_.length+zcP g (λ_=>false)≤1000000000000) :
  zn Tryz.prog 13 [yd g,zB from_] (.yP [ur g.length (zcM g from_),.sc (.int .i64 0)]):=by
 refine za zAz zs (by simp[zb,Pure,yf,zj]) ?_ (by simp[Pure,zb,zY])
 refine sR ?_
 refine sC (zf0 g hF) ?_
 refine sS (λh1=>?_) λh1=>?_
 ·exfalso;exact sO
 refine sC (znv g from_ zo) ?_
 rw[hf]
 refine sW ?_
 refine sC (zoC g hg hF from_ hf hB) ?_
 exact .refl _
end
end Go.Proofs.YteedlhkjaolahaaGreatDoor
