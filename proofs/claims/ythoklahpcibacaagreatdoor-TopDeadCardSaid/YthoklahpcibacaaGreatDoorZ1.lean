/-
  Parts of a proof, joined. No statement is proved here.
-/
import Derived.Laws.Tables
import Derived.Orders
import Derived.Still
import Derived.Deep.LoopGhost
import Derived.LoopN
import Derived.Test.YthoklahpcibacaaGreatDoorZ0
import Derived.WalkKit
import Derived.Laws.OwnMore
import Derived.Laws.Rows
import Derived.Deep.AppendLies
import Derived.Deep.Draws
import Derived.Lib.Hide
import Derived.ProofKit
import Derived.ChangeArms
import Derived.ChangeSame
import Derived.OpenShut
import Derived.ShutString
import Derived.Deep.Slices
import Derived.Deep.Fields
import Derived.Lib.SmallJoins
import Derived.Test.YthoklahpcibacaaGreatDoorProg
namespace Go.Proofs.YthoklahpcibacaaGreatDoor
set_option linter.unusedSimpArgs false
set_option linter.unusedVariables false
set_option maxRecDepth 100000
section
section
open Go.RowKit
section
variable {P:Program} {seq:Bool} {o:Oper} {env:Env} {H:List zf} {K:QH}
theorem wF {t:TypeId} {u v:Value} {w:World} {b:Bool} (h:(Op.equalIn (9999+1) t u v).run P w=.ok b w):(Op.equal t u v).run P w=.ok b w:=h
theorem znG {t:TypeId} {y:Operand} {kind:Nat} (h:W8 P t y=some kind) :
  (kind=0∧(∃e,P.underlying t=some (.pointer e))∧y=.const (.pointer none))∨(kind=1∧(∃e,P.underlying t=some (.interface e))∧y=.const .nilIface) ∨
  (kind=2∧(∃a b c,P.underlying t=some (.func a b c))∧y=.const .nilFunc)∨(kind=3∧(∃e,P.underlying t=some (.slice e))∧y=.const (.slice none 0 0)):=by
 unfold W8 at h
 split at h
 all_goals (first|cases h|skip)
 ·rename_i h1;exact .inl ⟨rfl,⟨_,h1⟩,rfl⟩
 ·rename_i h1;exact .inr (.inl ⟨rfl,⟨_,h1⟩,rfl⟩)
 ·rename_i h1;exact .inr (.inr (.inl ⟨rfl,⟨_,_,_,h1⟩,rfl⟩))
 ·rename_i h1;exact .inr (.inr (.inr ⟨rfl,⟨_,h1⟩,rfl⟩))
def zpN:Operand→Option Value
 | .const v=>some v
 | _=>none
theorem zmV {neq:Bool} {op:BinOp} {t yt:TypeId} {x y:Operand} {kind:Nat} (hop:op=if neq then .neq else .eql) (hk:W8 P t y=some kind) (ho:o.op=.binOp op t x y yt) (h:step P seq (.zjZ kind neq x) env H K):Sound P o env H K∨(seq=true∧Zc P o env H K):=by
 simp only[step,yC] at h
 have fin:∀(b:Bool) (v:Value),zpN y=some v→K (.sc (.bool (if neq then !b else b))) H [] []→(∀(J:yK) (F:Nat→Prop) (w:World) (u:Value),rep J F w (y0 env x) u→(∀z w,(Op.equal t u v).run P w=.ok b w∧(eqGuard op t x y u v).run P w=.ok z w∧z=())∧(∀k n,u≠.int k n)∧(∀s,u≠.string s)∧(∀k n,u≠.float k n)∧(∀k n m,u≠.complex k n m))→Sound P o env H K:=by
  intro b v hv hK hall
  refine zG hK λJ F w a G _ hops _=>⟨.bool (if neq then !b else b),?_,by simp only[rep]⟩
  obtain⟨h1,h4,h5,h6,h7⟩:=hall J F w _ (hops x (by simp[ho,Op.operands]))
  obtain⟨h1,h2,_⟩:=h1 () w
  have hy:a.eval y=v:=by
   cases y<;>simp[zpN] at hv
   subst hv;rfl
  have hb:(binOp op t (a.eval x) v).run P w=.ok (.bool (if neq then !b else b)) w:=by
   revert h1 h4 h5 h6 h7
   generalize a.eval x=u
   intro q1 q2 q3 q4 q5
   subst hop
   cases neq<;>cases u<;>simp_all [binOp,pure,Sem.run]
  simp only[execOp,ho,hy,Sem.run_bind,h2,Result.andThen_ok,hb,pure,Sem.run]
 have hold:=@fin
 clear fin
 have fin:=λb v h1 h2 h3=>Or.inl (b:=seq=true∧Zc P o env H K) (hold b v h1 h2 h3)
 have g1:∀(A:Option Addr) (w:World),(eqGuard op t x y (.pointer A) (.pointer none)).run P w=.ok () w:=by
  intro A w;subst hop;cases neq<;>simp[eqGuard,pure,Sem.run]
 have g2:∀(c:Value) (w:World),y=.const c→(eqGuard op t x y .nilIface .nilIface).run P w=.ok () w:=by
  intro c w hc;subst hop;subst hc;cases neq<;>simp[eqGuard,pure,Sem.run]
 have g3:∀(d:TypeId) (v:Value) (w:World),(eqGuard op t x y (.iface d v) .nilIface).run P w=.ok () w:=by
  intro d v w;subst hop;cases neq<;>simp[eqGuard,pure,Sem.run]
 have g4:∀(w:World),(eqGuard op t x y .nilFunc .nilFunc).run P w=.ok () w:=by
  intro w;subst hop;cases neq<;>simp[eqGuard,pure,Sem.run]
 have g5:∀(f:Fn) (a b:Array Value) (w:World),(eqGuard op t x y (.func f a b) .nilFunc).run P w=.ok () w:=by
  intro f a b w;subst hop;cases neq<;>simp[eqGuard,pure,Sem.run]
 have g6:∀(w:World),(eqGuard op t x y (.slice none 0 0) (.slice none 0 0)).run P w=.ok () w:=by
  intro w;subst hop;cases neq<;>simp[eqGuard,pure,Sem.run]
 rcases znG hk with⟨rfl,⟨e,ht⟩,rfl⟩|⟨rfl,⟨e,ht⟩,rfl⟩|⟨rfl,⟨e1,e2,e3,ht⟩,rfl⟩|⟨rfl,⟨e,ht⟩,rfl⟩
 ·have eq1:∀(A:Option Addr) (w:World),(Op.equal t (.pointer A) (.pointer none)).run P w=.ok A.isNone w:=λA w=>by
   refine wF ?_
   unfold Op.equalIn
   cases A<;>simp[underlying,program,Sem.run,ht,pure]
  simp only[zen] at h
  split at h
  ·rename_i ex
   refine fin true _ rfl (by cases neq<;>exact h) λJ F w u hu=>?_
   rw[ex] at hu;simp only[rep] at hu;subst hu
   exact⟨λ_ w=>⟨eq1 none w,g1 none w,rfl⟩,by simp,by simp,by simp,by simp⟩
  ·rename_i ex
   refine fin false _ rfl (by cases neq<;>exact h) λJ F w u hu=>?_
   rw[ex] at hu;simp only[rep] at hu;obtain⟨_,_,_,_,_,rfl⟩:=hu
   exact⟨λ_ w=>⟨eq1 (some _) w,g1 (some _) w,rfl⟩,by simp,by simp,by simp,by simp⟩
  ·rename_i ex
   refine fin false _ rfl (by cases neq<;>exact h) λJ F w u hu=>?_
   rw[ex] at hu;simp only[rep] at hu;obtain⟨_,_,rfl,_⟩:=hu
   exact⟨λ_ w=>⟨eq1 (some _) w,g1 (some _) w,rfl⟩,by simp,by simp,by simp,by simp⟩
  ·rename_i ex
   refine fin false _ rfl (by cases neq<;>exact h) λJ F w u hu=>?_
   rw[ex] at hu;simp only[rep] at hu;obtain⟨_,_,_,rfl,_⟩:=hu
   exact⟨λ_ w=>⟨eq1 (some _) w,g1 (some _) w,rfl⟩,by simp,by simp,by simp,by simp⟩
  ·exact h.elim
 ·have eq1:∀(w:World),(Op.equal t .nilIface .nilIface).run P w=.ok true w:=λw=>by
   refine wF ?_
   unfold Op.equalIn
   simp[underlying,program,Sem.run,ht,pure]
  have eq2:∀(d:TypeId) (v:Value) (w:World),(Op.equal t (.iface d v) .nilIface).run P w=.ok false w:=λd v w=>by
   refine wF ?_
   unfold Op.equalIn
   simp[underlying,program,Sem.run,ht,pure]
  simp only[zen] at h
  split at h
  ·rename_i ex
   refine fin true _ rfl (by cases neq<;>exact h) λJ F w u hu=>?_
   rw[ex] at hu;simp only[rep] at hu;subst hu
   exact⟨λ_ w=>⟨eq1 w,g2 _ w rfl,rfl⟩,by simp,by simp,by simp,by simp⟩
  ·rename_i ex
   refine fin false _ rfl (by cases neq<;>exact h) λJ F w u hu=>?_
   rw[ex] at hu;simp only[rep] at hu;obtain⟨_,rfl,_⟩:=hu
   exact⟨λ_ w=>⟨eq2 _ _ w,g3 _ _ w,rfl⟩,by simp,by simp,by simp,by simp⟩
  ·exact h.elim
 ·have eq1:∀(w:World),(Op.equal t .nilFunc .nilFunc).run P w=.ok true w:=λw=>by
   refine wF ?_
   unfold Op.equalIn
   simp[underlying,program,Sem.run,ht,pure]
  have eq2:∀(f:Fn) (a b:Array Value) (w:World),(Op.equal t (.func f a b) .nilFunc).run P w=.ok false w:=λf a b w=>by
   refine wF ?_
   unfold Op.equalIn
   simp[underlying,program,Sem.run,ht,pure]
  simp only[zen] at h
  split at h
  ·rename_i ex
   refine fin true _ rfl (by cases neq<;>exact h) λJ F w u hu=>?_
   rw[ex] at hu;simp only[rep] at hu;subst hu
   exact⟨λ_ w=>⟨eq1 w,g4 w,rfl⟩,by simp,by simp,by simp,by simp⟩
  ·rename_i ex
   refine fin false _ rfl (by cases neq<;>exact h) λJ F w u hu=>?_
   rw[ex] at hu;simp only[rep] at hu;obtain⟨_,_,rfl,_⟩:=hu
   exact⟨λ_ w=>⟨eq2 _ _ _ w,g5 _ _ _ w,rfl⟩,by simp,by simp,by simp,by simp⟩
  ·exact h.elim
 ·have eq1:∀(w:World),(Op.equal t (.slice none 0 0) (.slice none 0 0)).run P w=.ok true w:=λw=>by
   refine wF ?_
   unfold Op.equalIn
   simp[underlying,program,Sem.run,ht,pure]
  simp only[zen] at h
  split at h
  ·rename_i ex
   refine fin true _ rfl (by cases neq<;>exact h) λJ F w u hu=>?_
   rw[ex] at hu;simp only[rep] at hu;subst hu
   exact⟨λ_ w=>⟨eq1 w,g6 w,rfl⟩,by simp,by simp,by simp,by simp⟩
  ·rename_i zF xs ex
   obtain⟨hs,h⟩:=h
   refine .inr ⟨hs,λJ F w a hok hdom hops K2 Q hK2=>?_⟩
   have hu:=hops x (by simp[ho,Op.operands])
   rw[ex] at hu
   simp only[rep] at hu
   obtain⟨A,n,c,hu,hn,hc,hx⟩:=hu
   have hb:A.isNone=true→xs=[]:=λhA=>by
    rcases hx with hx|⟨b,o',rfl,_⟩
    ·exact List.length_eq_zero_iff.1 (by omega)
    ·cases hA
   have eq2:(Op.equal t (.slice A n c) (.slice none 0 0)).run P w=.ok A.isNone w:=by
    refine wF ?_
    unfold Op.equalIn
    cases A<;>simp[underlying,program,Sem.run,ht,pure]
   have g7:(eqGuard op t x (.const (.slice none 0 0)) (.slice A n c) (.slice none 0 0)).run P w=.ok () w:=by
    subst hop;cases neq<;>simp[eqGuard,pure,Sem.run]
   have hrun:(execOp a.eval o).run P w=.ok (.value (.bool (JK neq A.isNone))) w:=by
    have hbo:(binOp op t (.slice A n c) (.slice none 0 0)).run P w=.ok (.bool (JK neq A.isNone)) w:=by
     clear hold fin h
     subst hop
     cases neq<;>simp_all [binOp,pure,Sem.run,JK]
    have hy:a.eval (.const (.slice none 0 0))=.slice none 0 0:=rfl
    simp only[execOp,ho,hu,hy,Sem.run_bind,g7,Result.andThen_ok,hbo,pure,Sem.run]
   unfold Oper.wp
   rw[hrun,Oper.upon_value]
   exact hK2 _ H [] [] _ w J F (h A.isNone hb) (by simp only[rep]) hok (Ext.refl _ _ _) hdom
  ·exact h.elim
theorem zea (place:Nat→Option (Nat × Nat)):∀(l:List (Nat × Operand)) (l':List (Nat × Nat × Operand)) (cs:List D) (K':List D→Prop),vA place l=some l'→zhv env l' cs K'→∃cs',K' cs' ∧
  ∀(J:yK) (F:Nat→Prop) (w:World) (a:Act) (cells:Array Value),(∀p∈l,rep J F w (y0 env p.2) (a.eval p.2))→zY J F w cs cells.toList →
   ∃cells',Instr.fill place cells (l.map λp=>(p.1,a.eval p.2))=some cells'∧zY J F w cs' cells'.toList
 | [],l',cs,K',hl,h=>by
  simp[vA] at hl;subst hl
  exact⟨cs,h,λJ F w a cells _ hr=>⟨cells,rfl,hr⟩⟩
 | (i,x)::r,l',cs,K',hl,h=>by
  simp only[vA] at hl
  split at hl
  ·rename_i off n rl e1 e2
   cases hl
   simp only[zhv,yC,W6,xW] at h
   obtain⟨h1,h2,h3⟩:=h
   obtain⟨h4,h5⟩:=(We _ _ _ _).1 h3
   obtain⟨cs',h6,h7⟩:=zea place r rl _ K' e2 h5
   refine⟨cs',h6,λJ F w a cells hops hr=>?_⟩
   obtain⟨k1,_⟩:=YW h1 (hops (i,x) (by simp))
   have hl1:=xh _ _ k1
   have hl2:=xh _ _ hr
   have hsz:(a.eval x).cells.size=n:=by rw[h2,←hl1];simp
   obtain⟨c1,f1,f2,f3⟩:=X5 place cells i (a.eval x) (r.map λp=>(p.1,a.eval p.2)) off (by rw[hsz];exact e1) (by rw[hsz];simp at hl2;omega)
   have hc1:zY J F w (cs.take off++(y0 env x).cells++cs.drop (off+(y0 env x).cells.length)) c1.toList:=by
    have ec:c1.toList=cells.toList.take off++(a.eval x).cells.toList++cells.toList.drop (off+(a.eval x).cells.toList.length):=by
     apply List.ext_getElem?
     intro j
     have hsc:off+(a.eval x).cells.size≤cells.toList.length:=by rw[hsz,hl2];omega
     rw[Array.getElem?_toList,f3]
     by_cases q1:j<off
     ·rw[if_neg (by omega),List.append_assoc,List.getElem?_append_left (by simp at hsc ⊢;omega),List.getElem?_take,if_pos q1];simp
     ·by_cases q2:j<off+(a.eval x).cells.size
      ·rw[if_pos (by omega),List.append_assoc,List.getElem?_append_right (by simp at hsc ⊢;omega),List.getElem?_append_left (by simp at hsc ⊢;omega)]
       simp at hsc ⊢
       rw[show j-min off cells.size=j-off by omega]
      ·rw[if_neg (by omega),List.getElem?_append_right (by simp at hsc ⊢;omega),List.getElem?_drop]
       simp at hsc ⊢
       rw[show off+(a.eval x).cells.size+(j-(min off cells.size+(a.eval x).cells.size))=j by omega]
    rw[ec]
    have e3:(a.eval x).cells.toList.length=(y0 env x).cells.length:=hl1
    rw[e3]
    exact Ym (Ym (zaQ hr _) k1) (zaY hr _)
   obtain⟨c2,g1,g2⟩:=h7 J F w a c1 (λp hp=>hops p (by simp[hp])) hc1
   exact⟨c2,by simp only[List.map_cons];rw[f1];exact g1,g2⟩
  ·cases hl
theorem zdw {t:TypeId} {parts:Array (Nat × Operand)} {z:Value} {place:Nat→Option (Nat × Nat)} {l':List (Nat × Nat × Operand)} (hz:(P.info? t).bind (·.zero)=some z) (hb:∀l cells,Instr.fill place z.cells l=some cells→P.built t l=some cells) (hl:vA place parts.toList=some l')
  (ho:o.op=.build t parts) (h:step P seq (.build z.cells.toList l') env H K):Sound P o env H K:=by
 simp only[step,zht] at h
 obtain⟨cs',h1,h2⟩:=zea place parts.toList l' _ _ hl h
 refine zG h1 λJ F w a G hok hops hrd=>?_
 obtain⟨c',h3,h4⟩:=h2 J F w a z.cells (λp hp=>hops p.2 (by
  simp only[ho,Op.operands,List.mem_toArray,List.mem_map]
  exact⟨p,hp,rfl⟩)) (Up z.cells.toList)
 refine⟨.agg c',?_,by simp only[rep];exact⟨c'.toList,by simp,h4⟩⟩
 have e1:(parts.map λ(i,x)=>(i,a.eval x)).toList=parts.toList.map λp=>(p.1,a.eval p.2):=by rw[Array.toList_map]
 have:=run_build (P:=P) w t (parts.map λ(i,x)=>(i,a.eval x)) c' (by rw[e1];exact hb _ _ h3)
 simp only[execOp,ho,Sem.run_bind,this,Result.andThen_ok,pure,Sem.run]
end
end
section
open Go.RowKit
section
variable {P:Program} {seq:Bool} {o:Oper} {env:Env} {H:List zf} {K:QH}
theorem QP {p:POp} (hc:cop P o=some p) (h:step P seq p env H K):Sound P o env H K∨(seq=true∧Zc P o env H K):=by
 unfold cop at hc
 split at hc
 ·rename_i x ho;cases hc;exact .inl (zp7 (.inl ho) h)
 ·rename_i x ho;cases hc;exact .inl (zp7 (.inr ho) h)
 ·rename_i c a b ho;cases hc;exact .inl (zxJ ho h)
 ·rename_i t ho
  split at hc
  ·rename_i z hz
   split at hc
   ·rename_i hone;cases hc;exact .inl (ztN hz hone ho h)
   ·cases hc
  ·cases hc
 ·rename_i t x ho;cases hc;exact .inl (zyZ ho h)
 ·rename_i t parts ho
  split at hc
  ·rename_i z fs hz hu
   split at hc
   ·rename_i places hp
    cases e:vA (places.toArray[·]?) parts.toList with
    | none=>rw[e] at hc;cases hc
    | some l' =>
     rw[e] at hc;cases hc
     refine .inl (zdw hz (λl cells hf=>?_) e ho h)
     unfold Program.built
     cases hi:P.info? t with
     | none=>rw[hi] at hz;cases hz
     | some it =>
      have hz':it.zero=some z:=by simpa [hi] using hz
      simp only[hu,hz',hp]
      exact hf
   ·cases hc
  ·rename_i z n e hz hu
   split at hc
   ·rename_i ie hie
    cases e':vA (λi=>some (i*ie.size,ie.size)) parts.toList with
    | none=>rw[e'] at hc;cases hc
    | some l' =>
     rw[e'] at hc;cases hc
     refine .inl (zdw hz (λl cells hf=>?_) e' ho h)
     unfold Program.built
     cases hi:P.info? t with
     | none=>rw[hi] at hz;cases hz
     | some it =>
      have hz':it.zero=some z:=by simpa [hi] using hz
      simp only[hu,hz',hie]
      exact hf
   ·cases hc
  ·cases hc
 ·rename_i t n parts ho
  split at hc
  ·rename_i e ht
   split at hc
   ·rename_i z hz
    split at hc
    ·rename_i hq
     cases e':YK 0 parts.toList with
     | none =>
      rw[e'] at hc
      cases e2:xZ z 0 n parts.toList with
      | none=>rw[e2] at hc;cases hc
      | some ys=>rw[e2] at hc;cases hc;exact .inl (ziS ht hz hq.1 hq.2 (.inr e2) ho h)
     | some xs=>rw[e'] at hc;cases hc;exact .inl (ziS ht hz hq.1 hq.2 (.inl e') ho h)
    ·cases hc
   ·cases hc
  ·cases hc
 ·rename_i t x ho
  split at hc
  ·rename_i ht;cases hc;exact .inl (zsd ht ho h)
  ·rename_i ht;cases hc;exact .inl (zsQ ht ho h)
  ·cases hc
 ·rename_i t x y ho
  split at hc
  ·cases hc
  ·rename_i hz;cases hc;exact .inl (ztX hz ho h)
 ·rename_i x ho;cases hc;exact .inl (zqo ho h)
 ·rename_i op t x y yt ho
  split at hc
  ·cases hc;exact .inl (zzV ho h)
  ·split at hc
   ·split at hc
    ·rename_i hb
     cases hc
     refine .inl (zvk (op:=.eql) rfl ?_ ho h)
     unfold zce at hb
     split at hb
     ·assumption
     ·cases hb
    ·split at hc
     ·rename_i ks hks
      cases hc
      exact .inl (zu5 (op:=.eql) rfl hks ho h)
     ·cases e:W8 P t y with
      | none=>rw[e] at hc;cases hc
      | some k=>rw[e] at hc;cases hc;exact zmV (op:=.eql) rfl e ho h
   ·split at hc
    ·rename_i hb
     cases hc
     refine .inl (zvk (op:=.neq) rfl ?_ ho h)
     unfold zce at hb
     split at hb
     ·assumption
     ·cases hb
    ·split at hc
     ·rename_i ks hks
      cases hc
      exact .inl (zu5 (op:=.neq) rfl hks ho h)
     ·cases e:W8 P t y with
      | none=>rw[e] at hc;cases hc
      | some k=>rw[e] at hc;cases hc;exact zmV (op:=.neq) rfl e ho h
   ·cases hc
 ·rename_i op t x ho;cases hc;exact .inl (s_un ho h)
 ·rename_i x i ho;cases hc;exact .inl (zy2 ho h)
 ·rename_i s x f ho
  split at hc
  ·rename_i fs hs
   split at hc
   ·rename_i fd hf
    split at hc
    ·cases hc
    ·rename_i hz;cases hc;exact .inl (zrZ hs hf hz ho h)
   ·cases hc
  ·cases hc
 ·rename_i s x f ho
  split at hc
  ·rename_i fs hs
   split at hc
   ·rename_i fd hf
    split at hc
    ·rename_i ag hag;cases hc;exact .inl (ztd hs hf hag ho h)
    ·cases hc
   ·cases hc
  ·cases hc
 ·rename_i t x i ho
  split at hc
  ·rename_i e ht
   split at hc
   ·cases hc
   ·rename_i hz;cases hc;exact .inl (zsf ht hz ho h)
  ·rename_i n e ht
   split at hc
   ·cases hc
   ·rename_i hz;cases hc;exact .inl (zr5 ht hz ho h)
  ·cases hc
 ·rename_i t x i ho
  split at hc
  ·rename_i ht;cases hc;exact .inl (zym ht ho h)
  ·rename_i n e ht
   split at hc
   ·rename_i ag hag;cases hc;exact .inl (zxu ht hag ho h)
   ·cases hc
  ·cases hc
 ·rename_i f first cap ho;cases hc;exact .inl (zwF ho h)
 ·rename_i t l c ho
  split at hc
  ·rename_i e ht
   split at hc
   ·rename_i z hz
    split at hc
    ·rename_i hq;cases hc;exact .inl (zp3 ht hz hq.1 hq.2.1 hq.2.2.1 hq.2.2.2 ho h)
    ·cases hc
   ·cases hc
  ·cases hc
 ·rename_i t x lo hi mx ho
  split at hc
  ·rename_i e ht
   split at hc
   ·rename_i hz;cases hc;exact .inl (zAh ht hz ho h)
   ·cases hc
  ·rename_i ht
   split at hc
   ·cases hc;exact .inl (zx2 ht ho h)
   ·cases hc
  ·cases hc
 ·rename_i args ts ho
  split at hc
  ·rename_i x t ha hts
   split at hc
   ·rename_i e ht;cases hc;exact .inl (zzn ha hts ht ho h)
   ·rename_i ht;cases hc;exact .inl (zxV ha hts ht ho h)
   ·cases hc
  ·cases hc
 ·rename_i args ts ho
  split at hc
  ·rename_i x y t u ha hts
   split at hc
   ·rename_i e e' ht hu
    split at hc
    ·rename_i z hz
     split at hc
     ·rename_i hq;cases hc;exact .inl (zp8 ha hts ht hu hz hq.1 hq.2.1 hq.2.2 ho h)
     ·cases hc
    ·cases hc
   ·cases hc
  ·cases hc
 ·rename_i args ts ho
  split at hc
  ·rename_i x t ha hts
   split at hc
   ·rename_i e ht
    split at hc
    ·rename_i z hz
     split at hc
     ·rename_i u hu
      split at hc
      ·rename_i hq;cases hc;exact .inl (zy0 ha hts ht hz hu hq ho h)
      ·cases hc
     ·cases hc
    ·cases hc
   ·cases hc
  ·cases hc
 ·rename_i args ts _ ho
  split at hc
  ·rename_i x y ha;cases hc;exact .inl (zzx ha ho h)
  ·cases hc
 ·rename_i args ts _ ho
  split at hc
  ·rename_i x y ha;cases hc;exact .inl (zzF ha ho h)
  ·cases hc
 ·rename_i f args ts ho
  split at hc
  ·split at hc
   ·cases hc
   ·cases hc;exact zwR ho h
  ·cases hc
 ·rename_i x args ts _ ho;cases hc;exact zsK ho h
 ·rename_i src dst x ho
  split at hc
  ·rename_i k0 k hs hd;cases hc;exact .inl (zxQ hs hd ho h)
  ·rename_i e hs hd
   split at hc
   ·rename_i he;cases hc;exact .inl (zvX hs hd he ho h)
   ·cases hc
  ·cases hc
 ·rename_i t ho
  split at hc
  ·rename_i k e ht;cases hc;exact .inl (zuc ho h)
  ·cases hc
 ·rename_i t m x ho
  split at hc
  ·rename_i k e ht
   split at hc
   ·rename_i z hz
    split at hc
    ·rename_i h1;cases hc;exact .inl (zx8 ht hz h1 ho h)
    ·cases hc
   ·cases hc
  ·cases hc
 ·rename_i t m x ho
  split at hc
  ·rename_i k e ht;cases hc;exact .inl (zse ht ho h)
  ·cases hc
 ·rename_i t m x v ho
  split at hc
  ·rename_i k e ht;cases hc;exact .inl (zxf ht ho h)
  ·cases hc
 ·rename_i t x ho
  split at hc
  ·cases hc
  ·rename_i d hd ht
   cases hc
   exact .inl (zx9 (λms e=>by rw[e] at ht;cases ht;exact hd _ rfl) (λe=>by rw[e] at ht;cases ht) ho h)
  ·cases hc
 ·cases hc
end
end
section
open Go.RowKit
theorem u9 (t k:Nat) (d:D) (env:Env):xy t ((k,d)::env)=if t=k then d else xy t env:=by
 simp only[xy]
 cases e:Nat.beq t k
 ·rw[if_neg];intro h;subst h;simp at e
 ·rw[if_pos (Nat.eq_of_beq_eq_true e)]
theorem zix (a:Array Value) (t u:Nat) (v:Value) (ht:t<a.size):(a.setIfInBounds t v).getD u undef=if u=t then v else a.getD u undef:=by
 simp only[Array.getD_eq_getD_getElem?]
 by_cases h:u=t
 ·subst h;simp[Array.getElem?_setIfInBounds,ht]
 ·rw[if_neg h,Array.getElem?_setIfInBounds_ne (λe=>h e.symm)]
section
variable {P:Program} {n:Nat} {J J':yK} {F F':Nat→Prop} {env:Env} {H H':List zf} {a:Act} {w w':World}
theorem wD.zkf (h:wD n J F env H a w) (hx:Ext J F w J' F' w'):∀t,rep J' F' w' (xy t env) (a.tmps.getD t undef):=λt=>zcl hx (h.tmps t)
theorem wD.put (h:wD n J F env H a w) (hx:Ext J F w J' F' w') {t:Nat} {d:D} {v:Value} (ht:t<n) (hv:rep J' F' w' d v) (hok:yL J' F' w' (λi=>H'[i]?)) (hd:∀id,J' id≠none→id<H'.length):wD n J' F' ((t,d)::env) H' (a.put (some t) v) w' where
 defers:=h.defers
 size:=by simp[Act.put,h.size]
 tmps u:=by
  rw[u9]
  simp only[Act.put]
  rw[zix _ _ _ _ (by rw[h.size];exact ht)]
  split
  ·exact hv
  ·exact h.zkf hx u
 ok:=hok
 dom:=hd
theorem wD.skip (h:wD n J F env H a w) (hx:Ext J F w J' F' w') (hok:yL J' F' w' (λi=>H'[i]?)) (hd:∀id,J' id≠none→id<H'.length):wD n J' F' env H' a w' where
 defers:=h.defers
 size:=h.size
 tmps:=h.zkf hx
 ok:=hok
 dom:=hd
theorem wD.eval (h:wD n J F env H a w) (x:Operand):rep J F w (y0 env x) (a.eval x):=by
 cases x with
 | tmp t=>exact h.tmps t
 | const v =>
  cases v<;>simp only[y0,lift,Act.eval,rep]
  rename_i cs
  exact⟨cs.toList,by simp,Up cs.toList⟩
 | global g=>exact zjB h.ok.lt g
 | func f=>simp only[y0,Act.eval,rep];exact⟨[],[],rfl,by simp only[zY],by simp only[zY]⟩
theorem QI {ops:Array Oper} {mask:Nat} {o:Oper} {p:ym} (h:zrh P n ops mask o=some p) :
  cop P o=some p.op∧p.dst=o.dst∧(∀t,o.dst=some t→t<n)∧((o.guard=none∧p.guard=none)∨∃j b t,o.guard=some (j,b)∧(ops[j]?).bind (·.dst)=some t∧p.guard=some (t,b)) ∧
   p.mask=mask:=by
 unfold zrh at h
 split at h
 ·rename_i q hd hq hg
  cases h
  exact⟨hq,rfl,λt ht=>by unfold zrF at hd;rw[ht] at hd;simpa using hd,.inl ⟨hg,rfl⟩,rfl⟩
 ·rename_i q j b hd hq hg
  split at h
  ·rename_i t ht
   cases h
   exact⟨hq,rfl,λt ht=>by unfold zrF at hd;rw[ht] at hd;simpa using hd,.inr ⟨j,b,t,hg,ht,rfl⟩,rfl⟩
  ·cases h
 ·cases h
def zx4 (b:Bool):Value→Bool
 | .bool c=>c != b
 | .tuple _=>true
 | _=>false
theorem znw {ops:Array Oper} {o:Oper} {tmps:Array Value} {j:Nat} {b:Bool} {t:Nat} (h1:o.guard=some (j,b)) (h2:(ops[j]?).bind (·.dst)=some t) (h:tmps.getD t undef=.bool b):Region.wanted o (yielded ops tmps)=true:=by
 have h4:tmps[t]? = some (.bool b):=by
  rw[Array.getD_eq_getD_getElem?] at h
  cases e:tmps[t]? with
  | none=>rw[e] at h;simp[undef] at h
  | some v=>rw[e] at h;simp at h;rw[h]
 simp only[Region.wanted,h1,yielded,h2,Option.bind_some,h4]
 cases b<;>rfl
theorem zcw {ops:Array Oper} {o:Oper} {tmps:Array Value} {j:Nat} {b:Bool} {t:Nat} (h1:o.guard=some (j,b)) (h2:(ops[j]?).bind (·.dst)=some t) (h:zx4 b (tmps.getD t undef)=true):Region.wanted o (yielded ops tmps)=false:=by
 rw[Array.getD_eq_getD_getElem?] at h
 cases e:tmps[t]? with
 | none=>simp only[Region.wanted,h1,yielded,h2,Option.bind_some,e];cases b<;>rfl
 | some v =>
  rw[e] at h
  simp only[Option.getD_some] at h
  simp only[Region.wanted,h1,yielded,h2,Option.bind_some,e]
  cases v<;>simp[zx4] at h ⊢
  exact h
theorem zof {ops:Array Oper} {o:Oper} (h:wD n J F env H a w) {j:Nat} {b c:Bool} {t:Nat} (h1:o.guard=some (j,b)) (h2:(ops[j]?).bind (·.dst)=some t) (hc:xy t env=.sc (.bool c)) :
  Region.wanted o (yielded ops a.tmps)=(c==b):=by
 have h3:=h.tmps t
 rw[hc] at h3
 simp only[rep] at h3
 have h4:a.tmps[t]? = some (.bool c):=by
  rw[Array.getD_eq_getD_getElem?] at h3
  cases e:a.tmps[t]? with
  | none=>rw[e] at h3;simp[undef] at h3
  | some v=>rw[e] at h3;simp at h3;rw[h3]
 simp only[Region.wanted,h1,yielded,h2,Option.bind_some,h4]
 cases b<;>cases c<;>rfl
end
section
variable {P:Program} {n:Nat} {ops:Array Oper} {K':Env→List zf→Prop} {Q:Exit→Act→World→Prop}
theorem JO {c:Bool} {A B:Prop}:ifK c A B↔(c=true→A)∧(c=false→B):=by
 cases c<;>simp[ifK]
theorem zjm {o:Oper} {p:POp} {env:Env} {H:List zf} {K:QH} (hc:cop P o=some p) (h:step P true p env H K):Zc P o env H K :=
 (QP hc h).elim zn4 (·.2)
theorem JU:∀(l:List Oper) (i:Nat) (ms:List Nat) (pl:List ym),(∀j,l[j]? = ops[i+j]?)→qt P n ops ms l=some pl→∀(env:Env) (H:List zf) (J:yK) (F:Nat→Prop) (a:Act) (w:World),wW P pl env H K'→wD n J F env H a w →
  (∀env' H' J' F' a' w',K' env' H'→wD n J' F' env' H' a' w'→Ext J F w J' F' w'→Q .normal a' w')→wpOps P ops Q (List.range' i l.length) a w
 | [],i,ms,pl,hl,hc,env,H,J,F,a,w,h,hr,hQ=>by
  simp[qt] at hc;subst hc
  simp only[List.length_nil,List.range'_zero,wpOps]
  exact hQ env H J F a w h hr (Ext.refl _ _ _)
 | o::l,i,ms,pl,hl,hc,env,H,J,F,a,w,h,hr,hQ=>by
  simp only[qt] at hc
  split at hc
  ·rename_i p pr h1 h2
   cases hc
   have ho:ops[i]? = some o:=by simpa using (hl 0).symm
   have hl':∀j,l[j]? = ops[i+1+j]?:=λj=>by have:=hl (j+1);simpa [Nat.add_assoc,Nat.add_comm 1 j] using this
   obtain⟨k1,k2,k3,k4,_⟩:=QI h1
   have go:∀env' H' J' F' a' w',Ext J F w J' F' w'→wW P pr env' H' K'→wD n J' F' env' H' a' w'→wpOps P ops Q (List.range' (i+1) l.length) a' w':=λenv' H' J' F' a' w' hx h' hr' =>
    JU l (i+1) ms.tail pr hl' h2 env' H' J' F' a' w' h' hr' λenv'' H'' J'' F'' a'' w'' q1 q2 q3=>hQ env'' H'' J'' F'' a'' w'' q1 q2 (hx.trans q3)
   have exec:(step P true p.op env H λd H' _ _=>match p.dst with
     | some t=>wW P pr ((t,d)::env) H' K'
     | none=>wW P pr env H' K')→o.wp P a w (wpOps P ops Q (List.range' (i+1) l.length)) Q:=λhs=>by
    refine zjm k1 hs J F w a hr.ok hr.dom (λx _=>hr.eval x) _ _ λd H2 rd wr v w' J' F' hK q1 q2 q3 q4=>?_
    rw[k2] at hK
    cases hd:o.dst with
    | none =>
     rw[hd] at hK
     exact go env H2 J' F' _ w' q3 hK (hr.skip q3 q2 q4)
    | some t =>
     rw[hd] at hK
     exact go _ H2 J' F' _ w' q3 hK (hr.put q3 (k3 t hd) q1 q2 q4)
   have skip:(match p.dst with
     | some t=>wW P pr ((t,.sc undef)::env) H K'
     | none=>wW P pr env H K')→wpOps P ops Q (List.range' (i+1) l.length) (a.put o.dst undef) w:=λhs=>by
    rw[k2] at hs
    cases hd:o.dst with
    | none =>
     rw[hd] at hs
     exact go env H J F _ w (Ext.refl _ _ _) hs hr
    | some t =>
     rw[hd] at hs
     exact go _ H J F _ w (Ext.refl _ _ _) hs (hr.put (Ext.refl _ _ _) (k3 t hd) (by simp only[rep]) hr.ok hr.dom)
   simp only[List.length_cons,List.range'_succ,wpOps,ho]
   simp only[wW] at h
   rcases k4 with⟨g1,g2⟩|⟨j,b,t,g1,g2,g3⟩
   ·rw[g2] at h
    rw[if_pos (by simp[Region.wanted,g1])]
    exact .inl (exec h)
   ·rw[g3] at h
    simp only[Yo] at h
    split at h
    ·rename_i c hcc
     have hw:=zof hr g1 g2 hcc
     cases b with
     | true =>
      obtain⟨hA,hB⟩:=JO.1 h
      cases c with
      | true=>rw[if_pos (by rw[hw];rfl)];exact .inl (exec (hA rfl))
      | false=>rw[if_neg (by rw[hw];simp)];exact skip (hB rfl)
     | false =>
      obtain⟨hA,hB⟩:=JO.1 h
      cases c with
      | true=>rw[if_neg (by rw[hw];simp)];exact skip (hA rfl)
      | false=>rw[if_pos (by rw[hw];rfl)];exact .inl (exec (hB rfl))
    ·rename_i xs hcc
     have h3:=hr.tmps t
     rw[hcc] at h3
     simp only[rep] at h3
     rw[if_neg (by rw[zcw g1 g2 (by rw[h3];rfl)];simp)]
     exact skip h
    ·exact h.elim
  ·cases hc
end
end
section
open Go.RowKit
theorem zdz {ms:List Nat} {i:Nat}:∀(l:List Nat),(V0 ms l).testBit i=true→∃a∈l,a=i∨(ms.getD a 0).testBit i=true
 | [],h=>by simp[V0] at h
 | a::r,h=>by
  simp only[V0,Nat.testBit_or,Bool.or_eq_true] at h
  rcases h with(h|h)|h
  ·rw[Nat.testBit_two_pow] at h
   exact⟨a,by simp,.inl (by simpa using h)⟩
  ·exact⟨a,by simp,.inr h⟩
  ·obtain⟨b,hb,k⟩:=zdz r h
   exact⟨b,by simp[hb],k⟩
theorem Jk:∀(l:List Oper) (acc:List Nat),(∀k,k<acc.length→(uH acc l).getD k 0=acc.getD k 0)∧(uH acc l).length=acc.length+l.length ∧
  ∀k o,l[k]? = some o→∃acc',(∀a,a<acc.length+k→acc'.getD a 0=(uH acc l).getD a 0)∧(∀a,acc.length+k≤a→acc'.getD a 0=0)∧(uH acc l).getD (acc.length+k) 0=V0 acc' (vV o)
 | [],acc=>⟨λ_ _=>rfl,by simp[uH],λk o h=>by simp at h⟩
 | x::r,acc=>by
  obtain⟨h1,h2,h3⟩:=Jk r (acc++[V0 acc (vV x)])
  simp only[uH]
  simp only[List.length_append,List.length_singleton] at h1 h2 h3
  have hacc:∀k,k<acc.length→(acc++[V0 acc (vV x)]).getD k 0=acc.getD k 0:=λk hk=>by
   simp[List.getD,List.getElem?_append_left hk]
  refine⟨λk hk=>by rw[h1 k (by omega),hacc k hk],by rw[h2];simp;omega,λk o hk=>?_⟩
  cases k with
  | zero =>
   simp at hk;subst hk
   refine⟨acc,λa ha=>by rw[h1 a (by omega),hacc a (by omega)],λa ha=>by simp[List.getD,List.getElem?_eq_none (by omega:acc.length≤a)],?_⟩
   rw[Nat.add_zero,h1 _ (by omega)]
   simp[List.getD]
  | succ k =>
   obtain⟨acc',k1,k2,k3⟩:=h3 k o (by simpa using hk)
   rw[show acc.length+1+k=acc.length+(k+1) by omega] at k1 k2 k3
   exact⟨acc',k1,k2,k3⟩
theorem VI {ops:Array Oper} {m:Nat} {o:Oper}:∀(l:List Oper) (i:Nat),UM ops m o i l=true→∀k x,l[k]? = some x→m.testBit (i+k)=true∨x.apart ops o=true
 | [],i,_,k,x,h=>by simp at h
 | y::r,i,h,k,x,hk=>by
  simp only[UM,Bool.and_eq_true,Bool.or_eq_true] at h
  cases k with
  | zero=>simp at hk;subst hk;exact h.1
  | succ k =>
   have:=VI r (i+1) h.2 k x (by simpa using hk)
   rwa [show i+1+k=i+(k+1) by omega] at this
theorem Y4 {ops:Array Oper} {ms:List Nat}:∀(l pre:List Oper),zdX ops ms pre l=true→∀k o,l[k]? = some o→(∀a∈vV o,a<pre.length+k) ∧
  ∀i x,i<pre.length+k→(pre++l)[i]? = some x→(ms.getD (pre.length+k) 0).testBit i=true∨x.apart ops o=true
 | [],pre,_,k,o,h=>by simp at h
 | y::r,pre,h,k,o,hk=>by
  simp only[zdX,Bool.and_eq_true] at h
  obtain⟨⟨h1,h2⟩,h3⟩:=h
  cases k with
  | zero =>
   simp at hk;subst hk
   refine⟨λa ha=>by simpa using List.all_eq_true.1 h1 a ha,λi x hi hx=>?_⟩
   rw[List.getElem?_append_left (by omega)] at hx
   have:=VI pre 0 h2 i x hx
   simpa using this
  | succ k =>
   have:=Y4 r (pre++[y]) h3 k o (by simpa using hk)
   simp only[List.length_append,List.length_singleton,List.append_assoc,List.singleton_append] at this
   rw[show pre.length+1+k=pre.length+(k+1) by omega] at this
   exact this
section
variable {ops:Array Oper}
def Bef (ops:Array Oper) (i j:Nat):Prop:=((uH [] ops.toList).getD j 0).testBit i=true
def W9 (ops:Array Oper) (S:Nat→Bool):Prop:=∀j o,ops[j]? = some o→S j=true→∀a∈vV o,S a=true
theorem zcx (hreg:zdX ops (uH [] ops.toList) [] ops.toList=true):∀(j:Nat) (o:Oper),ops[j]? = some o→∀i,Bef ops i j→i<j∧∀S:Nat→Bool,W9 ops S→(∀a∈vV o,S a=true)→S i=true:=by
 intro j
 induction j using Nat.strongRecOn with
 | _ j ih =>
  intro o ho i hb
  obtain⟨acc,h1,h2,h3⟩:=(Jk ops.toList []).2.2 j o (by simpa using ho)
  simp only[List.length_nil,Nat.zero_add] at h1 h2 h3
  unfold Bef at hb
  rw[h3] at hb
  have hlt:=(Y4 ops.toList [] hreg j o (by simpa using ho)).1
  simp only[List.length_nil,Nat.zero_add] at hlt
  obtain⟨a,ha,rfl|hbit⟩:=zdz _ hb
  ·exact⟨hlt _ ha,λS _ hS=>hS _ ha⟩
  ·have haj:=hlt a ha
   rw[h1 a haj] at hbit
   have hj:j<ops.size:=by
    rcases Nat.lt_or_ge j ops.size with h|h
    ·exact h
    ·rw[Array.getElem?_eq_none h] at ho;cases ho
   have hao:ops[a]? = some ops[a]:=Array.getElem?_eq_getElem (by omega)
   obtain⟨q1,q2⟩:=ih a haj _ hao i hbit
   exact⟨by omega,λS hC hS=>q2 S hC (hC a _ hao (hS a ha))⟩
end
structure Rec where
 d:D
 rd:List Nat
 wr:List Nat
 H2:List zf
 lt:Option (Nat × Nat)
instance:Inhabited Rec:=⟨⟨.xt,[],[],[],none⟩⟩
def Rec.entry (r:Rec):(List Nat × List Nat) × (Option (Nat × Nat) × D × List zf):=((r.rd,r.wr),(r.lt,r.d,r.H2))
def Vn (x:(List Nat × List Nat) × (Option (Nat × Nat) × D × List zf)):List Nat × List Nat:=match x.2.1 with
 | some _=>([],x.1.2)
 | none=>x.1
section
variable {P:Program} {n:Nat} {ops:Array Oper}
def zhf (P:Program) (o:Oper) (env:Env) (H:List zf) (r:Rec):Prop:=∀id k,r.lt=some (id,k)→r.rd=[id]∧r.wr=[]∧r.H2=H∧(∃m cs,H[id]? = some (.row m cs)∧cs[k]? = some r.d) ∧
 ∀(H':List zf) m' cs',H'[id]? = some (.row m' cs')→cs'[k]? = some r.d→OpS P o env [id] [] H' r.d H'
theorem zly {o:Oper} {p:POp} (k1:cop P o=some p) {env:Env} {H:List zf} {K:D→List zf→List Nat→List Nat→Prop} (h:step P false p env H K) {id k:Nat} (hl:WY p env=some (id,k)) :
  ∃c,K c H [id] []∧(∃m cs,H[id]? = some (.row m cs)∧cs[k]? = some c)∧∀(H':List zf) m' cs',H'[id]? = some (.row m' cs')→cs'[k]? = some c→OpS P o env [id] [] H' c H':=by
 unfold WY at hl
 split at hl
 ·rename_i a
  split at hl
  ·rename_i id' k' e
   cases hl
   simp only[step,yC] at h
   rw[e] at h
   obtain⟨ob,h1,h2⟩:=(yA _ _ _).1 h
   split at h2
   ·rename_i m cs
    obtain⟨c,h3,h4⟩:=(ZY _ _ _).1 h2
    refine⟨c,h4,⟨m,cs,h1,h3⟩,λH' m' cs' g1 g2=>?_⟩
    have hs:step P false (.zi a) env H' λd h rd wr=>d=c∧h=H'∧rd=[id]∧wr=[]:=by
     simp only[step,yC]
     rw[e]
     exact(yA _ _ _).2 ⟨_,g1,(ZY _ _ _).2 ⟨c,g2,by simp⟩⟩
    rcases QP k1 hs with⟨d,H2,rd,wr,q,rfl,rfl,rfl,rfl⟩|⟨q,_⟩
    ·exact q
    ·cases q
   ·exact h2.elim
  ·cases hl
 ·cases hl
def zdI (P:Program) (n:Nat) (ops:Array Oper) (o:Oper) (env:Env) (H:List zf) (r:Rec):Prop :=
 (∀t,o.dst=some t→t<n)∧(∀cs b,o.op≠.select cs b)∧zhf P o env H r ∧
 ((o.guard=none∧OpS P o env r.rd r.wr H r.d r.H2) ∨
  ∃j b t c,o.guard=some (j,b)∧(ops[j]?).bind (·.dst)=some t∧xy t env=.sc c ∧
   ((c=.bool b∧OpS P o env r.rd r.wr H r.d r.H2)∨(zx4 b c=true∧r=⟨.sc undef,[],[],H,none⟩)))
def UO (o:Oper) (r:Rec) (env:Env):Env:=match o.dst with
 | some t=>(t,r.d)::env
 | none=>env
inductive Run (P:Program) (n:Nat) (ops:Array Oper):List Oper→Env→List zf→List Rec→Env→List zf→Prop
 | nil (env:Env) (H:List zf):Run P n ops [] env H [] env H
 | cons (o:Oper) (l:List Oper) (env:Env) (H:List zf) (r:Rec) (rs:List Rec) (env':Env) (H':List zf) (h:zdI P n ops o env H r) (k:Run P n ops l (UO o r env) r.H2 rs env' H'):Run P n ops (o::l) env H (r::rs) env' H'
theorem qq {o:Oper} {p:POp} (h:cop P o=some p):∀cs b,o.op≠.select cs b:=λcs b e=>by
 unfold cop at h
 rw[e] at h
 simp at h
theorem zhf.none {o:Oper} {env:Env} {H:List zf} {d:D} {rd wr:List Nat} {H2:List zf}:zhf P o env H ⟨d,rd,wr,H2,.none⟩:=λ_ _ h=>by cases h
theorem zfr:∀(l:List Oper) (ms:List Nat) (pl:List ym),qt P n ops ms l=some pl→∀(env:Env) (H:List zf) (K:Env→List zf→Trace→Prop),WT P pl env H K →
  ∃rs env' H',Run P n ops l env H rs env' H'∧K env' H' (rs.map Rec.entry)∧rs.length=l.length
 | [],ms,pl,hc,env,H,K,h=>by
  simp[qt] at hc;subst hc
  exact⟨[],env,H,.nil env H,h,rfl⟩
 | o::l,ms,pl,hc,env,H,K,h=>by
  simp only[qt] at hc
  split at hc
  ·rename_i p pr h1 h2
   cases hc
   obtain⟨k1,k2,k3,k4,_⟩:=QI h1
   have fin:∀(r:Rec),zdI P n ops o env H r→(match p.dst with
     | some t=>WT P pr ((t,r.d)::env) r.H2 λe h tr=>K e h (((r.rd,r.wr),(r.lt,r.d,r.H2))::tr)
     | none=>WT P pr env r.H2 λe h tr=>K e h (((r.rd,r.wr),(r.lt,r.d,r.H2))::tr))→∃rs env' H',Run P n ops (o::l) env H rs env' H'∧K env' H' (rs.map Rec.entry)∧rs.length=(o::l).length:=λr hr hs=>by
    have hs':WT P pr (UO o r env) r.H2 λe h tr=>K e h (((r.rd,r.wr),(r.lt,r.d,r.H2))::tr):=by
     unfold UO
     rw[k2] at hs
     cases hd:o.dst with
     | none=>rw[hd] at hs;exact hs
     | some t=>rw[hd] at hs;exact hs
    obtain⟨rs,env',H',q1,q2,q3⟩:=zfr l ms.tail pr h2 _ _ _ hs'
    exact⟨r::rs,env',H',.cons o l env H r rs env' H' hr q1,q2,by simp[q3]⟩
   have exec:∀{K':D→List zf→List Nat→List Nat→Prop},step P false p.op env H K'→∃d H2 rd wr,OpS P o env rd wr H d H2∧K' d H2 rd wr:=λhs=>by
    rcases QP k1 hs with q|⟨q,_⟩
    ·exact q
    ·cases q
   simp only[WT] at h
   rcases k4 with⟨g1,g2⟩|⟨j,b,t,g1,g2,g3⟩
   ·rw[g2] at h
    cases hl:WY p.op env with
    | none =>
     simp only[hl] at h
     obtain⟨d,H2,rd,wr,q1,q2⟩:=exec h
     exact fin ⟨d,rd,wr,H2,none⟩ ⟨k3,qq k1,.none,.inl ⟨g1,q1⟩⟩ q2
    | some q =>
     obtain⟨id,k⟩:=q
     simp only[hl] at h
     obtain⟨c,q1,⟨m,cs,q2,q3⟩,q4⟩:=zly k1 h hl
     refine fin ⟨c,[id],[],H,some (id,k)⟩ ⟨k3,qq k1,λid' k' e=>?_,.inl ⟨g1,q4 H m cs q2 q3⟩⟩ q1
     cases e
     exact⟨rfl,rfl,rfl,⟨m,cs,q2,q3⟩,q4⟩
   ·rw[g3] at h
    simp only[Yo] at h
    split at h
    ·rename_i c hcc
     cases b with
     | true =>
      obtain⟨hA,hB⟩:=JO.1 h
      cases c with
      | true =>
       obtain⟨d,H2,rd,wr,q1,q2⟩:=exec (hA rfl)
       exact fin ⟨d,rd,wr,H2,none⟩ ⟨k3,qq k1,.none,.inr ⟨j,true,t,.bool true,g1,g2,hcc,.inl ⟨rfl,q1⟩⟩⟩ q2
      | false=>exact fin ⟨.sc undef,[],[],H,none⟩ ⟨k3,qq k1,.none,.inr ⟨j,true,t,.bool false,g1,g2,hcc,.inr ⟨rfl,rfl⟩⟩⟩ (hB rfl)
     | false =>
      obtain⟨hA,hB⟩:=JO.1 h
      cases c with
      | true=>exact fin ⟨.sc undef,[],[],H,none⟩ ⟨k3,qq k1,.none,.inr ⟨j,false,t,.bool true,g1,g2,hcc,.inr ⟨rfl,rfl⟩⟩⟩ (hA rfl)
      | false =>
       obtain⟨d,H2,rd,wr,q1,q2⟩:=exec (hB rfl)
       exact fin ⟨d,rd,wr,H2,none⟩ ⟨k3,qq k1,.none,.inr ⟨j,false,t,.bool false,g1,g2,hcc,.inl ⟨rfl,q1⟩⟩⟩ q2
    ·rename_i xs hcc
     exact fin ⟨.sc undef,[],[],H,none⟩ ⟨k3,qq k1,.none,.inr ⟨j,b,t,.tuple xs,g1,g2,hcc,.inr ⟨rfl,rfl⟩⟩⟩ h
    ·exact h.elim
  ·cases hc
def Xf (l:List Oper) (k:Nat):Option Tmp:=(l[k]?).bind (·.dst)
def recAt (rs:List Rec) (k:Nat):Rec:=(rs[k]?).getD default
def Et (l:List Oper) (rs:List Rec) (env:Env) (S:Nat→Bool):Nat→Nat→D
 | 0,t=>xy t env
 | k+1,t=>if S k=true∧Xf l k=some t then (recAt rs k).d else Et l rs env S k t
def Gt (rs:List Rec) (H:List zf) (S:Nat→Bool):Nat→Nat→Option zf
 | 0,id=>H[id]?
 | k+1,id=>if S k=true∧id∈(recAt rs k).wr then (recAt rs k).H2[id]? else Gt rs H S k id
theorem Ub {l:List Oper} {rs:List Rec} {env:Env} {S S':Nat→Bool} {t:Nat}:∀(k:Nat),(∀i,i<k→Xf l i=some t→S i=S' i)→Et l rs env S k t=Et l rs env S' k t
 | 0,_=>rfl
 | k+1,h=>by
  simp only[Et]
  by_cases hd:Xf l k=some t
  ·rw[h k (by omega) hd,Ub k λi hi hd=>h i (by omega) hd]
  ·rw[if_neg (λq=>hd q.2),if_neg (λq=>hd q.2),Ub k λi hi hd=>h i (by omega) hd]
theorem X9 {rs:List Rec} {H:List zf} {S S':Nat→Bool} {id:Nat}:∀(k:Nat),(∀i,i<k→id∈(recAt rs i).wr→S i=S' i)→Gt rs H S k id=Gt rs H S' k id
 | 0,_=>rfl
 | k+1,h=>by
  simp only[Gt]
  by_cases hd:id∈(recAt rs k).wr
  ·rw[h k (by omega) hd,X9 k λi hi hd=>h i (by omega) hd]
  ·rw[if_neg (λq=>hd q.2),if_neg (λq=>hd q.2),X9 k λi hi hd=>h i (by omega) hd]
def upto (j:Nat):Nat→Bool:=λi=>decide (i<j)
theorem zms {l:List Oper} {rs:List Rec} {env:Env} {j t:Nat}:∀(k:Nat),j≤k→Et l rs env (upto j) k t=Et l rs env (λ_=>true) j t
 | 0,h=>by have:j=0:=by omega
           subst this;rfl
 | k+1,h=>by
  by_cases e:j=k+1
  ·subst e
   exact Ub (k+1) λi hi _=>by simp[upto,hi]
  ·simp only[Et]
   rw[if_neg (by simp[upto];omega),zms k (by omega)]
theorem zhl {rs:List Rec} {H:List zf} {j id:Nat}:∀(k:Nat),j≤k→Gt rs H (upto j) k id=Gt rs H (λ_=>true) j id
 | 0,h=>by have:j=0:=by omega
           subst this;rfl
 | k+1,h=>by
  by_cases e:j=k+1
  ·subst e
   exact X9 (k+1) λi hi _=>by simp[upto,hi]
  ·simp only[Gt]
   rw[if_neg (by simp[upto];omega),zhl k (by omega)]
def Jq (l:List Oper) (rs:List Rec) (env:Env):Nat→Env
 | 0=>env
 | k+1=>match l[k]?,rs[k]? with
  | some o,some r=>UO o r (Jq l rs env k)
  | _,_=>Jq l rs env k
def ua (rs:List Rec) (H:List zf):Nat→List zf
 | 0=>H
 | k+1=>match rs[k]? with
  | some r=>r.H2
  | none=>ua rs H k
theorem zat {o:Oper} {l:List Oper} {r:Rec} {rs:List Rec} {env:Env}:∀k,Jq (o::l) (r::rs) env (k+1)=Jq l rs (UO o r env) k
 | 0=>rfl
 | k+1=>by
  rw[Jq]
  rw[zat k]
  rfl
theorem QF {r:Rec} {rs:List Rec} {H:List zf}:∀k,ua (r::rs) H (k+1)=ua rs r.H2 k
 | 0=>rfl
 | k+1=>by
  rw[ua]
  rw[QF k]
  rfl
theorem Run.at {l:List Oper} {env env':Env} {H H':List zf} {rs:List Rec} (h:Run P n ops l env H rs env' H'):rs.length=l.length∧Jq l rs env l.length=env'∧ua rs H l.length=H' ∧
  ∀k o,l[k]? = some o→∃r,rs[k]? = some r∧zdI P n ops o (Jq l rs env k) (ua rs H k) r:=by
 induction h with
 | nil env H=>exact⟨rfl,rfl,rfl,λk o h=>by simp at h⟩
 | cons o l env H r rs env' H' h k ih =>
  obtain⟨i1,i2,i3,i4⟩:=ih
  refine⟨by simp[i1],by rw[List.length_cons,zat];exact i2,by rw[List.length_cons,QF];exact i3,λm x hx=>?_⟩
  cases m with
  | zero=>simp at hx;subst hx;exact⟨r,rfl,h⟩
  | succ m =>
   obtain⟨r',q1,q2⟩:=i4 m x (by simpa using hx)
   exact⟨r',by simpa using q1,by rw[zat,QF];exact q2⟩
theorem Wa {rs:List Rec} {k:Nat} {r:Rec} (h:rs[k]? = some r):recAt rs k=r:=by simp[recAt,h]
theorem JQ {l:List Oper} {k:Nat} {o:Oper} (h:l[k]? = some o):Xf l k=o.dst:=by simp[Xf,h]
theorem zdI.frame {o:Oper} {env:Env} {H:List zf} {r:Rec} (h:zdI P n ops o env H r):(∀id,id ∉ r.wr→r.H2[id]? = H[id]?)∧H.length≤r.H2.length∧∀id∈r.wr,id<r.H2.length:=by
 rcases h.2.2.2 with⟨_,q⟩|⟨j,b,t,c,_,_,_,⟨_,q⟩|⟨_,rfl⟩⟩
 ·exact⟨q.frame,q.len,q.lt⟩
 ·exact⟨q.frame,q.len,q.lt⟩
 ·exact⟨λ_ _=>rfl,Nat.le_refl _,λ_ h=>by cases h⟩
section
variable {l:List Oper} {rs:List Rec} {env:Env} {H:List zf}
variable (hA:∀k o,l[k]? = some o→∃r,rs[k]? = some r∧zdI P n ops o (Jq l rs env k) (ua rs H k) r)
include hA
theorem zhj:∀k,k≤l.length→∀t,Et l rs env (λ_=>true) k t=xy t (Jq l rs env k)
 | 0,_,t=>rfl
 | k+1,hk,t=>by
  have hl:l[k]? = some l[k]:=List.getElem?_eq_getElem (by omega)
  obtain⟨r,h1,_⟩:=hA k _ hl
  simp only[Et,Jq,hl,h1,Wa h1,JQ hl,true_and,UO]
  cases hd:l[k].dst with
  | none=>simp;exact zhj k (by omega) t
  | some u =>
   simp only[Option.some.injEq]
   rw[u9]
   by_cases e:t=u
   ·rw[if_pos e.symm,if_pos e]
   ·rw[if_neg (λq=>e q.symm),if_neg e];exact zhj k (by omega) t
theorem zhA:∀k,k≤l.length→∀id,Gt rs H (λ_=>true) k id=(ua rs H k)[id]?
 | 0,_,id=>rfl
 | k+1,hk,id=>by
  have hl:l[k]? = some l[k]:=List.getElem?_eq_getElem (by omega)
  obtain⟨r,h1,h2⟩:=hA k _ hl
  simp only[Gt,ua,h1,Wa h1,true_and]
  split
  ·rfl
  ·rename_i hn;rw[zhA k (by omega) id];exact(h2.frame.1 id hn).symm
theorem J4:∀k j,j≤k→k≤l.length→(ua rs H j).length≤(ua rs H k).length
 | 0,j,hj,_=>by have:j=0:=by omega
                subst this;exact Nat.le_refl _
 | k+1,j,hj,hk=>by
  have hl:l[k]? = some l[k]:=List.getElem?_eq_getElem (by omega)
  obtain⟨r,h1,h2⟩:=hA k _ hl
  by_cases e:j=k+1
  ·rw[e];exact Nat.le_refl _
  ·refine Nat.le_trans (J4 k j (by omega) (by omega)) ?_
   simp only[ua,h1]
   exact h2.frame.2.1
theorem zvm {i k:Nat} (hik:i<k) (hk:k≤l.length) {id:Nat} (h:id∈(recAt rs i).wr):id<(ua rs H k).length:=by
 have hl:l[i]? = some l[i]:=List.getElem?_eq_getElem (by omega)
 obtain⟨r,h1,h2⟩:=hA i _ hl
 rw[Wa h1] at h
 have h3:=h2.frame.2.2 id h
 have h4:=J4 hA k (i+1) (by omega) hk
 simp only[ua,h1] at h4
 omega
end
theorem Jy (x:Nat):∀l:List Nat,za7 x l=true↔x∈l
 | []=>by simp[za7]
 | y::r=>by
  simp only[za7]
  cases e:Nat.beq x y with
  | true=>simp[Nat.eq_of_beq_eq_true e]
  | false =>
   have:x≠y:=λh=>by subst h;simp at e
   simp[Jy x r,this]
theorem zfA:∀(a b:List Nat),meets a b=true↔∃x∈a,x∈b
 | [],b=>by simp[meets]
 | x::r,b=>by
  simp only[meets]
  cases e:za7 x b with
  | true=>simp[(Jy x b).1 e]
  | false =>
   have:x ∉ b:=λh=>by rw[(Jy x b).2 h] at e;cases e
   simp[zfA r b,this]
theorem W0 {m:Nat} {b:List Nat × List Nat}:∀(tr:List (List Nat × List Nat)) (i:Nat),UC m b i tr=true→∀k a,tr[k]? = some a→V6 a b=true→Qc m (i+k)=true
 | [],i,_,k,a,h,_=>by simp at h
 | x::r,i,h,k,a,hk,hc=>by
  simp only[UC] at h
  split at h
  ·rename_i h1
   cases k with
   | zero =>
    simp at hk;subst hk
    simpa [hc] using h1
   | succ k =>
    have:=W0 r (i+1) h k a (by simpa using hk) hc
    rwa [show i+1+k=i+(k+1) by omega] at this
  ·cases h
theorem zcQ:∀(pl:List ym) (pre:List (List Nat × List Nat)) (tr:Trace),zf3 pre pl tr=true→∀k o b,pl[k]? = some o→tr[k]? = some b→∀i a,i<pre.length+k→(pre++tr.map (·.1))[i]? = some a→V6 a b.1=true→Qc o.mask i=true
 | [],pre,tr,_,k,o,b,h,_,_,_,_,_,_=>by simp at h
 | p::pl,pre,[],_,k,o,b,_,h,_,_,_,_,_=>by simp at h
 | p::pl,pre,(t,y)::tr,h,k,o,b,hk,hb,i,a,hi,ha,hc=>by
  simp only[zf3] at h
  split at h
  ·rename_i h1
   cases k with
   | zero =>
    simp at hk hb;subst hk;subst hb
    rw[List.getElem?_append_left (by omega)] at ha
    have:=W0 pre 0 h1 i a ha hc
    simpa using this
   | succ k =>
    refine zcQ pl (pre++[t]) tr h k o b (by simpa using hk) (by simpa using hb) i a (by simp;omega) ?_ hc
    simpa using ha
  ·cases h
theorem Vz:∀(pl:List ym) (pre:List (List Nat × List Nat)) (tr:Trace),zaA pre pl tr=true→∀k o b,pl[k]? = some o→tr[k]? = some b→∀i a,i<pre.length+k→(pre++tr.map Vn)[i]? = some a→V6 a b.1=true→Qc o.mask i=true
 | [],pre,tr,_,k,o,b,h,_,_,_,_,_,_=>by simp at h
 | p::pl,pre,[],_,k,o,b,_,h,_,_,_,_,_=>by simp at h
 | p::pl,pre,(t,q,y)::tr,h,k,o,b,hk,hb,i,a,hi,ha,hc=>by
  simp only[zaA] at h
  split at h
  ·rename_i h1
   cases k with
   | zero =>
    simp at hk hb;subst hk;subst hb
    rw[List.getElem?_append_left (by omega)] at ha
    have:=W0 pre 0 h1 i a ha hc
    simpa using this
   | succ k =>
    have e:pre++((t,q,y)::tr).map Vn=(pre++[Vn (t,q,y)])++tr.map Vn:=by simp
    rw[e] at ha
    cases q with
    | none=>exact Vz pl (pre++[t]) tr h k o b (by simpa using hk) (by simpa using hb) i a (by simp;omega) ha hc
    | some q=>exact Vz pl (pre++[([],t.2)]) tr h k o b (by simpa using hk) (by simpa using hb) i a (by simp;omega) ha hc
  ·cases h
def zgQ (m:Nat) (wr:List Nat) (H:List zf) (w:Nat × (Nat × Nat) × D):Prop:=Qc m w.1=true∨w.2.1.1 ∉ wr∨∃mm cs,H[w.2.1.1]? = some (.row mm cs)∧cs[w.2.1.2]? = some w.2.2
theorem VX {m:Nat} {wr:List Nat} {H:List zf} {K:Prop}:∀ws,zcL m wr H K ws→K∧∀w∈ws,zgQ m wr H w
 | [],h=>⟨h,λw hw=>by cases hw⟩
 | (i,(id,k),d)::r,h=>by
  simp only[zcL] at h
  split at h
  ·rename_i e
   obtain⟨q1,q2⟩:=VX r h
   refine⟨q1,λw hw=>?_⟩
   rcases List.mem_cons.1 hw with rfl|hw
   ·rw[Bool.or_eq_true,Bool.not_eq_true'] at e
    rcases e with e|e
    ·exact .inl e
    ·refine .inr (.inl λz=>?_)
     rw[(Jy _ _).2 z] at e;cases e
   ·exact q2 w hw
  ·unfold zvp at h
   obtain⟨ob,h1,h2⟩:=(yA _ _ _).1 h
   split at h2
   ·rename_i mm cs
    obtain⟨c,h3,rfl,h4⟩:=(ZY _ _ _).1 h2
    obtain⟨q1,q2⟩:=VX r h4
    refine⟨q1,λw hw=>?_⟩
    rcases List.mem_cons.1 hw with rfl|hw
    ·exact .inr (.inr ⟨mm,cs,h1,h3⟩)
    ·exact q2 w hw
   ·exact h2.elim
theorem VB {K:Prop}:∀(l:List ym) (tr:Trace) (i0:Nat) (ws:List (Nat × (Nat × Nat) × D)),zaC K i0 ws l tr→l.length=tr.length→K∧∀j o b q d H,l[j]? = some o→tr[j]? = some (b,(q,d,H)) →
   (∀w∈ws,zgQ o.mask b.2 H w)∧∀i b' lt d' H',i<j→tr[i]? = some (b',(some lt,d',H'))→zgQ o.mask b.2 H (i0+i,lt,d')
 | [],[],i0,ws,h,_=>⟨h,λj o b q d H hj=>by simp at hj⟩
 | [],_::_,_,_,_,hl=>by simp at hl
 | _::_,[],_,_,_,hl=>by simp at hl
 | p::l,(b0,(q0,d0,H0))::tr,i0,ws,h,hl=>by
  simp only[zaC] at h
  obtain⟨h1,h2⟩:=VX ws h
  cases q0 with
  | none =>
   obtain⟨k1,k2⟩:=VB l tr (i0+1) ws h1 (by simpa using hl)
   refine⟨k1,λj o b q d H hj hb=>?_⟩
   cases j with
   | zero=>simp at hj hb;obtain⟨rfl,rfl,rfl,rfl⟩:=hb;subst hj;exact⟨h2,λi _ _ _ _ hi=>by omega⟩
   | succ j =>
    obtain⟨m1,m2⟩:=k2 j o b q d H (by simpa using hj) (by simpa using hb)
    refine⟨m1,λi b' lt d' H' hi hb'=>?_⟩
    cases i with
    | zero=>simp at hb'
    | succ i =>
     have:=m2 i b' lt d' H' (by omega) (by simpa using hb')
     rwa [show i0+1+i=i0+(i+1) by omega] at this
  | some q0 =>
   obtain⟨k1,k2⟩:=VB l tr (i0+1) (ws++[(i0,q0,d0)]) h1 (by simpa using hl)
   refine⟨k1,λj o b q d H hj hb=>?_⟩
   cases j with
   | zero=>simp at hj hb;obtain⟨rfl,rfl,rfl,rfl⟩:=hb;subst hj;exact⟨h2,λi _ _ _ _ hi=>by omega⟩
   | succ j =>
    obtain⟨m1,m2⟩:=k2 j o b q d H (by simpa using hj) (by simpa using hb)
    refine⟨λw hw=>m1 w (List.mem_append_left _ hw),λi b' lt d' H' hi hb'=>?_⟩
    cases i with
    | zero =>
     simp at hb'
     obtain⟨rfl,rfl,rfl,rfl⟩:=hb'
     exact m1 (i0,q0,d0) (by simp)
    | succ i =>
     have:=m2 i b' lt d' H' (by omega) (by simpa using hb')
     rwa [show i0+1+i=i0+(i+1) by omega] at this
theorem zkV {m i:Nat} (h:Qc m i=true):m.testBit i=true:=by
 unfold Qc at h
 split at h
 ·rename_i e
  rw[Nat.testBit_eq_decide_div_mod_eq]
  simpa using Nat.eq_of_beq_eq_true e
 ·cases h
theorem zbm:∀(l:List Oper) (ms:List Nat) (pl:List ym),qt P n ops ms l=some pl→∀k p,pl[k]? = some p→p.mask=ms.getD k 0
 | [],ms,pl,h,k,p,hk=>by simp[qt] at h;subst h;simp at hk
 | o::l,ms,pl,h,k,p,hk=>by
  simp only[qt] at h
  split at h
  ·rename_i q pr h1 h2
   cases h
   cases k with
   | zero =>
    simp at hk;subst hk
    rw[(QI h1).2.2.2.2]
    cases ms<;>rfl
   | succ k =>
    rw[zbm l ms.tail pr h2 k p (by simpa using hk)]
    cases ms<;>simp[List.getD]
  ·cases h
theorem zec:∀(l:List Oper) (ms:List Nat) (pl:List ym),qt P n ops ms l=some pl→pl.length=l.length
 | [],ms,pl,h=>by simp[qt] at h;subst h;rfl
 | o::l,ms,pl,h=>by
  simp only[qt] at h
  split at h
  ·rename_i q pr h1 h2
   cases h
   simp[zec l ms.tail pr h2]
  ·cases h
end
end
section
open Go.RowKit
structure Vt (P:Program) (n:Nat) (ops:Array Oper) (env:Env) (H:List zf) (rs:List Rec):Prop where
 at_:∀k o,ops.toList[k]? = some o→∃r,rs[k]? = some r∧zdI P n ops o (Jq ops.toList rs env k) (ua rs H k) r
 len:rs.length=ops.size
 reg:zdX ops (uH [] ops.toList) [] ops.toList=true
 mem:∀i j,i<j→j<ops.size→V6 (Vn (recAt rs i).entry) ((recAt rs j).rd,(recAt rs j).wr)=true→Bef ops i j
 lite:∀i id k,(recAt rs i).lt=some (id,k)→∀j,i<j→j<ops.size→id∈(recAt rs j).wr→Bef ops i j∨∃m cs,(recAt rs j).H2[id]? = some (.row m cs)∧cs[k]? = some (recAt rs i).d
section
variable {P:Program} {n:Nat} {ops:Array Oper} {env:Env} {H:List zf} {rs:List Rec}
structure Inv (P:Program) (n:Nat) (ops:Array Oper) (env:Env) (H:List zf) (rs:List Rec) (J0:yK) (F0:Nat→Prop) (w0:World) (S:Nat→Bool) (J:yK) (F:Nat→Prop) (a:Act) (w:World):Prop where
 closed:W9 ops S
 defers:a.defers=[]
 size:a.tmps.size=n
 tmps:∀t,rep J F w (Et ops.toList rs env S ops.size t) (a.tmps.getD t undef)
 ok:yL J F w (Gt rs H S ops.size)
 ext:Ext J0 F0 w0 J F w
 dom:∀id,J id≠none→id<H.length∨∃i,i<ops.size∧S i=true∧id∈(recAt rs i).wr
theorem Vt.before (hp:Vt P n ops env H rs) {S:Nat→Bool} (hC:W9 ops S) {j:Nat} {o:Oper} (ho:ops[j]? = some o) (hj:S j=false) (hr:∀a∈vV o,S a=true) {i:Nat} (hi:i<ops.size) (hne:i≠j) (hcmp:Bef ops i j∨Bef ops j i):S i=upto j i:=by
 have hio:ops[i]? = some ops[i]:=Array.getElem?_eq_getElem hi
 rcases hcmp with h|h
 ·obtain⟨q1,q2⟩:=zcx hp.reg j o ho i h
  rw[q2 S hC hr]
  simp[upto,q1]
 ·obtain⟨q1,q2⟩:=zcx hp.reg i _ hio j h
  have:S i=false:=by
   cases e:S i with
   | false=>rfl
   | true =>
    have:=q2 S hC (hC i _ hio e)
    rw[hj] at this;cases this
  rw[this]
  simp[upto];omega
theorem Vt.cmp (hp:Vt P n ops env H rs) {i j:Nat} {x y:Oper} (hi:ops[i]? = some x) (hj:ops[j]? = some y) (hne:i≠j):(Bef ops i j∨Bef ops j i)∨(x.apart ops y=true∧i<j)∨(y.apart ops x=true∧j<i):=by
 rcases Nat.lt_or_gt_of_ne hne with h|h
 ·have:=(Y4 ops.toList [] hp.reg j y (by simpa using hj)).2 i x (by simpa using h) (by simpa using hi)
  simp only[List.length_nil,Nat.zero_add] at this
  rcases this with q|q
  ·exact .inl (.inl q)
  ·exact .inr (.inl ⟨q,h⟩)
 ·have:=(Y4 ops.toList [] hp.reg i x (by simpa using hi)).2 j y (by simpa using h) (by simpa using hj)
  simp only[List.length_nil,Nat.zero_add] at this
  rcases this with q|q
  ·exact .inl (.inr q)
  ·exact .inr (.inr ⟨q,h⟩)
theorem Vt.tmp (hp:Vt P n ops env H rs) {S:Nat→Bool} (hC:W9 ops S) {j:Nat} {o:Oper} (ho:ops[j]? = some o) (hj:S j=false) (hr:∀a∈vV o,S a=true) {t:Nat} (ht:t∈o.looksAt ops):Et ops.toList rs env S ops.size t=xy t (Jq ops.toList rs env j):=by
 have hjs:j<ops.size:=by
  rcases Nat.lt_or_ge j ops.size with h|h
  ·exact h
  ·rw[Array.getElem?_eq_none h] at ho;cases ho
 rw[←zhj hp.at_ j (by simp;omega),←zms ops.size (by omega)]
 refine Ub _ λi hi hd=>?_
 have hio:ops[i]? = some ops[i]:=Array.getElem?_eq_getElem hi
 have hil:ops.toList[i]? = some ops[i]:=by rw[Array.getElem?_toList];exact hio
 rw[JQ hil] at hd
 by_cases e:i=j
 ·subst e;rw[hj];simp[upto]
 ·rcases hp.cmp hio ho e with h|⟨h,_⟩|⟨h,_⟩
  ·exact hp.before hC ho hj hr hi e h
  ·exact absurd ht ((Oper.apart_spec h).1 t hd)
  ·exact absurd ht ((Oper.apart_spec h).2.2 t hd)
theorem Us (a b:List Nat × List Nat):V6 a b=true↔(∃x∈a.2,x∈b.1)∨(∃x∈a.2,x∈b.2)∨∃x∈b.2,x∈a.1:=by
 simp only[V6,Bool.or_eq_true,zfA,or_assoc]
theorem JD (r:Rec):(Vn r.entry).2=r.wr:=by unfold Vn Rec.entry;split<;>rfl
theorem zrf {r:Rec} (h:r.lt=none):(Vn r.entry).1=r.rd:=by unfold Vn Rec.entry;dsimp only;rw[h]
theorem Vt.objB (hp:Vt P n ops env H rs) {S:Nat→Bool} (hC:W9 ops S) {j:Nat} {o:Oper} (ho:ops[j]? = some o) (hj:S j=false) (hr:∀a∈vV o,S a=true) {id:Nat} (hid:id∈(recAt rs j).rd∨id∈(recAt rs j).wr) {i:Nat} (h:i<j) (hw:id∈(recAt rs i).wr):S i=upto j i:=by
 have hjs:j<ops.size:=by
  rcases Nat.lt_or_ge j ops.size with h|h
  ·exact h
  ·rw[Array.getElem?_eq_none h] at ho;cases ho
 refine hp.before hC ho hj hr (by omega) (by omega) (.inl (hp.mem i j h hjs ((Us _ _).2 ?_)))
 rcases hid with q|q
 ·exact .inl ⟨id,by rw[JD];exact hw,q⟩
 ·exact .inr (.inl ⟨id,by rw[JD];exact hw,q⟩)
theorem Vt.obj (hp:Vt P n ops env H rs) {S:Nat→Bool} (hC:W9 ops S) {j:Nat} {o:Oper} (ho:ops[j]? = some o) (hj:S j=false) (hr:∀a∈vV o,S a=true) {id:Nat} (hid:(id∈(recAt rs j).rd∧(recAt rs j).lt=none)∨id∈(recAt rs j).wr) {i:Nat} (hi:i<ops.size) (hw:id∈(recAt rs i).wr):S i=upto j i:=by
 by_cases e:i=j
 ·subst e;rw[hj];simp[upto]
 rcases Nat.lt_or_gt_of_ne e with h|h
 ·exact hp.objB hC ho hj hr (hid.imp_left And.left) h hw
 ·refine hp.before hC ho hj hr hi e (.inr (hp.mem j i h hi ((Us _ _).2 ?_)))
  rcases hid with⟨q,ql⟩|q
  ·exact .inr (.inr ⟨id,hw,by rw[zrf ql];exact q⟩)
  ·exact .inr (.inl ⟨id,by rw[JD];exact q,hw⟩)
theorem Vt.objs (hp:Vt P n ops env H rs) {S:Nat→Bool} (hC:W9 ops S) {j:Nat} {o:Oper} (ho:ops[j]? = some o) (hj:S j=false) (hr:∀a∈vV o,S a=true) {id:Nat} (hid:(id∈(recAt rs j).rd∧(recAt rs j).lt=none)∨id∈(recAt rs j).wr):Gt rs H S ops.size id=(ua rs H j)[id]?:=by
 have hjs:j<ops.size:=by
  rcases Nat.lt_or_ge j ops.size with h|h
  ·exact h
  ·rw[Array.getElem?_eq_none h] at ho;cases ho
 rw[←zhA hp.at_ j (by simp;omega),←zhl ops.size (by omega)]
 exact X9 _ λi hi hw=>hp.obj hC ho hj hr hid hi hw
theorem Vt.cell (hp:Vt P n ops env H rs) {S:Nat→Bool} (hC:W9 ops S) {j:Nat} {o:Oper} (ho:ops[j]? = some o) (hj:S j=false) (hr:∀a∈vV o,S a=true) {id k:Nat} (hl:(recAt rs j).lt=some (id,k)) (hrd:(recAt rs j).rd=[id])
  (h0:∃m cs,(ua rs H j)[id]? = some (.row m cs)∧cs[k]? = some (recAt rs j).d):∃m cs,Gt rs H S ops.size id=some (.row m cs)∧cs[k]? = some (recAt rs j).d:=by
 have hjs:j<ops.size:=by
  rcases Nat.lt_or_ge j ops.size with h|h
  ·exact h
  ·rw[Array.getElem?_eq_none h] at ho;cases ho
 have key:∀x,j+x≤ops.size→∃m cs,Gt rs H S (j+x) id=some (.row m cs)∧cs[k]? = some (recAt rs j).d:=λx=>by
  induction x with
  | zero =>
   intro _
   have:Gt rs H S j id=(ua rs H j)[id]?:=by
    rw[←zhA hp.at_ j (by simp;omega),←zhl j (Nat.le_refl _)]
    exact X9 _ λi hi hw=>hp.objB hC ho hj hr (.inl (by rw[hrd];simp)) hi hw
   rw[Nat.add_zero,this]
   exact h0
  | succ x ih =>
   intro hx
   rw[←Nat.add_assoc]
   simp only[Gt]
   split
   ·rename_i q
    by_cases e:x=0
    ·subst e;rw[Nat.add_zero] at q;rw[hj] at q;exact absurd q.1 (by simp)
    ·rcases hp.lite j id k hl (j+x) (by omega) (by omega) q.2 with r|r
     ·exfalso
      have hio:ops[j+x]? = some ops[j+x]:=Array.getElem?_eq_getElem (by omega)
      obtain⟨_,q2⟩:=zcx hp.reg (j+x) _ hio j r
      have:=q2 S hC (hC (j+x) _ hio q.1)
      rw[hj] at this;cases this
     ·exact r
   ·exact ih (by omega)
 have:=key (ops.size-j) (by omega)
 rwa [show j+(ops.size-j)=ops.size by omega] at this
def plus (S:Nat→Bool) (j:Nat):Nat→Bool:=λi=>S i||decide (i=j)
theorem zmS {l:List Oper} {S:Nat→Bool} {j t:Nat} (hj:S j=false) (hlater:∀i,j<i→S i=true→Xf l i=some t→Xf l j≠some t):∀k,Et l rs env (plus S j) k t=if j<k∧Xf l j=some t then (recAt rs j).d else Et l rs env S k t
 | 0=>rfl
 | k+1=>by
  simp only[Et]
  rw[zmS hj hlater k]
  by_cases e:k=j
  ·subst e
   by_cases hd:Xf l k=some t
   ·rw[if_pos ⟨by simp[plus],hd⟩,if_pos ⟨by omega,hd⟩]
   ·rw[if_neg (λq=>hd q.2),if_neg (λq=>hd q.2),if_neg (λq=>hd q.2),if_neg (λq=>hd q.2)]
  ·have hS:plus S j k=S k:=by simp[plus,e]
   rw[hS]
   by_cases hk:S k=true∧Xf l k=some t
   ·rw[if_pos hk,if_pos hk]
    rw[if_neg]
    rintro⟨q1,q2⟩
    exact hlater k (by omega) hk.1 hk.2 q2
   ·rw[if_neg hk,if_neg hk]
    by_cases hd:j<k∧Xf l j=some t
    ·rw[if_pos hd,if_pos ⟨by omega,hd.2⟩]
    ·rw[if_neg hd,if_neg (λq=>hd ⟨by omega,q.2⟩)]
theorem zmP {S:Nat→Bool} {j id:Nat} (hj:S j=false) (hlater:∀i,j<i→S i=true→id∈(recAt rs i).wr→id ∉ (recAt rs j).wr):∀k,Gt rs H (plus S j) k id=if j<k∧id∈(recAt rs j).wr then (recAt rs j).H2[id]? else Gt rs H S k id
 | 0=>rfl
 | k+1=>by
  simp only[Gt]
  rw[zmP hj hlater k]
  by_cases e:k=j
  ·subst e
   by_cases hd:id∈(recAt rs k).wr
   ·rw[if_pos ⟨by simp[plus],hd⟩,if_pos ⟨by omega,hd⟩]
   ·rw[if_neg (λq=>hd q.2),if_neg (λq=>hd q.2),if_neg (λq=>hd q.2),if_neg (λq=>hd q.2)]
  ·have hS:plus S j k=S k:=by simp[plus,e]
   rw[hS]
   by_cases hk:S k=true∧id∈(recAt rs k).wr
   ·rw[if_pos hk,if_pos hk]
    rw[if_neg]
    rintro⟨q1,q2⟩
    exact hlater k (by omega) hk.1 hk.2 q2
   ·rw[if_neg hk,if_neg hk]
    by_cases hd:j<k∧id∈(recAt rs j).wr
    ·rw[if_pos hd,if_pos ⟨by omega,hd.2⟩]
    ·rw[if_neg hd,if_neg (λq=>hd ⟨by omega,q.2⟩)]
theorem Vt.step (hp:Vt P n ops env H rs) {J0:yK} {F0:Nat→Prop} {w0:World} {S:Nat→Bool} {J:yK} {F:Nat→Prop} {a:Act} {w:World} (hv:Inv P n ops env H rs J0 F0 w0 S J F a w) {j:Nat} {o:Oper} (ho:ops[j]? = some o) (hj:S j=false) (hr:∀a∈vV o,S a=true)
  {K:Act→World→Prop} {Q:Exit→Act→World→Prop} (hK:∀J' F' a' w',Inv P n ops env H rs J0 F0 w0 (plus S j) J' F' a' w'→K a' w') :
  if Region.wanted o (yielded ops a.tmps) then o.wp P a w K Q else K (a.put o.dst undef) w:=by
 have hjs:j<ops.size:=by
  rcases Nat.lt_or_ge j ops.size with h|h
  ·exact h
  ·rw[Array.getElem?_eq_none h] at ho;cases ho
 have hjl:ops.toList[j]? = some o:=by simpa using ho
 obtain⟨r,hr1,hr2⟩:=hp.at_ j o hjl
 have hrec:recAt rs j=r:=Wa hr1
 have hdst:Xf ops.toList j=o.dst:=JQ hjl
 have hclosed:W9 ops (plus S j):=λi x hx hi b hb=>by
  simp only[plus,Bool.or_eq_true,decide_eq_true_eq] at hi ⊢
  rcases hi with hi|rfl
  ·exact .inl (hv.closed i x hx hi b hb)
  ·rw[ho] at hx;cases hx
   exact .inl (hr b hb)
 have hlaterT:∀t i,j<i→S i=true→Xf ops.toList i=some t→Xf ops.toList j≠some t:=λt i hi hS hd hd'=>by
  have his:i<ops.size:=by
   rcases Nat.lt_or_ge i ops.size with h|h
   ·exact h
   ·rw[Xf,List.getElem?_eq_none (by simpa using h)] at hd;cases hd
  have hio:ops[i]? = some ops[i]:=Array.getElem?_eq_getElem his
  have hil:ops.toList[i]? = some ops[i]:=by rw[Array.getElem?_toList];exact hio
  rw[JQ hil] at hd
  rw[hdst] at hd'
  rcases hp.cmp hio ho (by omega) with h|⟨h,h'⟩|⟨h,_⟩
  ·have:=hp.before hv.closed ho hj hr his (by omega) h
   rw[hS] at this
   simp[upto] at this
   omega
  ·omega
  ·exact(Oper.apart_spec h).2.1 t hd' hd
 have hlaterG:∀id i,j<i→S i=true→id∈(recAt rs i).wr→id ∉ (recAt rs j).wr:=λid i hi hS hw hw'=>by
  by_cases his:i<ops.size
  ·have:=hp.obj hv.closed ho hj hr (.inr hw') his hw
   rw[hS] at this
   simp[upto] at this
   omega
  ·have e:rs[i]? = none:=List.getElem?_eq_none (by rw[hp.len];omega)
   simp[recAt,e] at hw
   cases hw
 -- the new state
 have mk:∀(v:Value) (J':yK) (F':Nat→Prop) (w':World),rep J' F' w' r.d v→yL J' F' w' (Q1 (Gt rs H S ops.size) r.wr r.H2)→Ext J F w J' F' w'→(∀id,J id=none→id ∉ r.wr→J' id=none)→Inv P n ops env H rs J0 F0 w0 (plus S j) J' F' (a.put o.dst v) w':=λv J' F' w' q1 q2 q3 q4=>by
  refine⟨hclosed,?_,?_,λt=>?_,?_,hv.ext.trans q3,λid hid=>?_⟩
  ·cases o.dst<;>exact hv.defers
  ·cases o.dst<;>simp[Act.put,hv.size]
  ·rw[zmS hj (hlaterT t)]
   rw[hdst,hrec]
   cases hd:o.dst with
   | none=>rw[if_neg (by simp)];exact zcl q3 (hv.tmps t)
   | some u =>
    simp only[hjs,true_and,Option.some.injEq,Act.put]
    rw[zix _ _ _ _ (by rw[hv.size];exact hr2.1 u hd)]
    by_cases e:t=u
    ·rw[if_pos e.symm,if_pos e];exact q1
    ·rw[if_neg (λq=>e q.symm),if_neg e];exact zcl q3 (hv.tmps t)
  ·have:Gt rs H (plus S j) ops.size=Q1 (Gt rs H S ops.size) r.wr r.H2:=by
    funext id
    rw[zmP hj (hlaterG id)]
    simp only[hjs,true_and,hrec,Q1]
   rw[this];exact q2
  ·by_cases h1:J id=none
   ·by_cases h2:id∈r.wr
    ·exact .inr ⟨j,hjs,by simp[plus],by rw[hrec];exact h2⟩
    ·exact absurd (q4 id h1 h2) hid
   ·rcases hv.dom id h1 with q|⟨i,i1,i2,i3⟩
    ·exact .inl q
    ·exact .inr ⟨i,i1,by simp[plus,i2],i3⟩
 have opnd:∀x∈o.op.operands,rep J F w (y0 (Jq ops.toList rs env j) x) (a.eval x):=λx hx=>by
  ·cases x with
   | tmp t =>
    have ht:t∈o.looksAt ops:=by
     unfold Oper.looksAt
     refine List.mem_append.2 (.inl (List.mem_filterMap.2 ⟨.tmp t,by simpa using hx,rfl⟩))
    have:=hv.tmps t
    rw[hp.tmp hv.closed ho hj hr ht] at this
    exact this
   | const v =>
    cases v<;>simp only[y0,lift,Act.eval,rep]
    rename_i cs
    exact⟨cs.toList,by simp,Up cs.toList⟩
   | global g=>exact zjB hv.ok.lt g
   | func f=>simp only[y0,Act.eval,rep];exact⟨[],[],rfl,by simp only[zY],by simp only[zY]⟩
 have exec:OpS P o (Jq ops.toList rs env j) r.rd r.wr (ua rs H j) r.d r.H2→o.wp P a w K Q:=λhs=>by
  cases hlt:r.lt with
  | some q =>
   obtain⟨id,k⟩:=q
   obtain⟨e1,e2,e3,e4,e5⟩:=hr2.2.2.1 id k hlt
   obtain⟨m,cs,c1,c2⟩:=hp.cell hv.closed ho hj hr (by rw[hrec];exact hlt) (by rw[hrec];exact e1) (by rw[hrec];exact e4)
   rw[hrec] at c2
   obtain⟨m0,cs0,c3,_⟩:=e4
   have hidl:id<(ua rs H j).length:=by
    rcases Nat.lt_or_ge id (ua rs H j).length with h|h
    ·exact h
    ·rw[List.getElem?_eq_none h] at c3;cases c3
   have hset:((ua rs H j).set id (.row m cs))[id]? = some (.row m cs):=by rw[List.getElem?_set];simp[hidl]
   refine(e5 _ m cs hset c2).run J F w a _ hv.ok opnd (λi hi=>?_) (λi hi hw=>by cases hw) K Q λv w' J' F' q1 q2 q3 q4=>hK _ _ _ _ (mk v J' F' w' q1 (by rw[W1] at q2;rw[e2,W1];exact q2) q3 λi h1 _=>q4 i h1 (by simp))
   rcases hi with hi|hi
   ·rw[List.mem_singleton] at hi;subst hi;rw[c1,hset]
   ·cases hi
  | none =>
   refine hs.run J F w a _ hv.ok opnd (λid hid=>by rw[←hrec] at hid;exact hp.objs hv.closed ho hj hr (hid.imp_left λh=>⟨h,by rw[hrec];exact hlt⟩)) (λid hid hw=>?_) K Q λv w' J' F' q1 q2 q3 q4=>hK _ _ _ _ (mk v J' F' w' q1 q2 q3 q4)
   ·cases e:J id with
    | none=>rfl
    | some s =>
     rcases hv.dom id (by rw[e];simp) with q|⟨i,i1,i2,i3⟩
     ·have:=J4 hp.at_ j 0 (by omega) (by simp;omega)
      simp only[ua] at this
      omega
     ·have h1:=hp.obj hv.closed ho hj hr (.inr (by rw[hrec];exact hw)) i1 i3
      rw[i2] at h1
      have hij:i<j:=by simpa [upto] using h1.symm
      have:=zvm hp.at_ hij (by simp;omega) i3
      omega
 rcases hr2.2.2.2 with⟨g1,g2⟩|⟨g,b,t,c,g1,g2,g3,g4⟩
 ·rw[if_pos (by simp[Region.wanted,g1])]
  exact exec g2
 ·have ht:t∈o.looksAt ops:=by
   unfold Oper.looksAt
   refine List.mem_append.2 (.inr ?_)
   rw[g1]
   simp only[g2,Option.toList_some,List.mem_singleton]
  have h3:=hv.tmps t
  rw[hp.tmp hv.closed ho hj hr ht,g3] at h3
  simp only[rep] at h3
  rcases g4 with⟨rfl,g4⟩|⟨hne,rfl⟩
  ·rw[if_pos (znw g1 g2 h3)]
   exact exec g4
  ·rw[if_neg (by rw[zcw g1 g2 (by rw[h3];exact hne)];simp)]
   exact hK _ _ _ _ (mk undef J F w (by simp only[rep]) (by rw[W1];exact hv.ok) (Ext.refl _ _ _) λ_ h _=>h)
theorem zcH {listed:Array Bool} {j:Nat} (h:j∈Region.ready .any ops listed):∃o,ops[j]? = some o∧listed.getD j true=false∧∀a∈vV o,listed.getD a false=true:=by
 obtain⟨h1,o,h2,h3⟩:=mem_ready.1 h
 refine⟨o,h2,h1,λa ha=>?_⟩
 unfold vV at ha
 obtain⟨e,he,rfl⟩:=List.mem_map.1 ha
 obtain⟨he1,he2⟩:=List.mem_filter.1 he
 exact h3 e (by simpa using he1) he2
def qZ (listed:Array Bool):Nat→Bool:=λi=>listed.getD i false
theorem zij {listed:Array Bool} {j:Nat} (hj:j<listed.size):qZ (listed.setIfInBounds j true)=plus (qZ listed) j:=by
 funext i
 simp only[qZ,plus,Array.getD_eq_getD_getElem?]
 by_cases e:i=j
 ·subst e;simp[Array.getElem?_setIfInBounds,hj]
 ·rw[Array.getElem?_setIfInBounds_ne (λq=>e q.symm)];simp[e]
def missing (listed:Array Bool):Nat:=(List.range listed.size).countP λi=>!listed.getD i false
theorem zk0 {listed:Array Bool} (hreg:zdX ops (uH [] ops.toList) [] ops.toList=true) (hs:listed.size=ops.size) (h:Region.ready .any ops listed=[]):∀i,i<ops.size→listed.getD i false=true:=by
 intro i
 induction i using Nat.strongRecOn with
 | _ i ih =>
  intro hi
  cases e:listed.getD i false with
  | true=>rfl
  | false =>
   have hio:ops[i]? = some ops[i]:=Array.getElem?_eq_getElem hi
   have hil:ops.toList[i]? = some ops[i]:=by rw[Array.getElem?_toList];exact hio
   have hlt:=(Y4 ops.toList [] hreg i _ hil).1
   simp only[List.length_nil,Nat.zero_add] at hlt
   have:i∈Region.ready .any ops listed:=by
    refine mem_ready.2 ⟨?_,_,hio,λed hed hb=>?_⟩
    ·have:i<listed.size:=by omega
     simp only[Array.getD_eq_getD_getElem?,Array.getElem?_eq_getElem this,Option.getD_some] at e ⊢
     exact e
    ·have ha:ed.on∈vV ops[i]:=List.mem_map.2 ⟨ed,List.mem_filter.2 ⟨by simpa using hed,hb⟩,rfl⟩
     exact ih _ (hlt _ ha) (by have:=hlt _ ha;omega)
   rw[h] at this;cases this
theorem zqm (hp:Vt P n ops env H rs) {J0:yK} {F0:Nat→Prop} {w0:World} {Q:Exit→Act→World→Prop}
  (hQ:∀J F a w,Inv P n ops env H rs J0 F0 w0 (λ_=>true) J F a w→Q .normal a w):∀(fuel:Nat) (listed:Array Bool) (J:yK) (F:Nat→Prop) (a:Act) (w:World),listed.size=ops.size→missing listed≤fuel→Inv P n ops env H rs J0 F0 w0 (qZ listed) J F a w→wpAny P .any ops Q fuel listed a w:=by
 have done:∀(listed:Array Bool) (J:yK) (F:Nat→Prop) (a:Act) (w:World),listed.size=ops.size→(∀i,i<ops.size→listed.getD i false=true)→Inv P n ops env H rs J0 F0 w0 (qZ listed) J F a w→Q .normal a w:=λlisted J F a w hs hall hv=>by
  refine hQ J F a w ⟨λ_ _ _ _ _ _=>rfl,hv.defers,hv.size,λt=>?_,?_,hv.ext,λid hid=>(hv.dom id hid).imp_right λ⟨i,i1,_,i3⟩=>⟨i,i1,rfl,i3⟩⟩
  ·have:=hv.tmps t
   have e:Et ops.toList rs env (qZ listed) ops.size t=Et ops.toList rs env (λ_=>true) ops.size t:=Ub ops.size λi hi _=>hall i hi
   rwa [e] at this
  ·have e:Gt rs H (qZ listed) ops.size=Gt rs H (λ_=>true) ops.size:=funext λid=>X9 ops.size λi hi _=>hall i hi
   have:=hv.ok
   rwa [e] at this
 have key:∀(listed:Array Bool) (j:Nat),listed.size=ops.size→j∈Region.ready .any ops listed→j<ops.size∧listed.getD j false=false:=λlisted j hs hj=>by
  obtain⟨o,h1,h2,_⟩:=zcH hj
  have hjs:j<ops.size:=by
   rcases Nat.lt_or_ge j ops.size with h|h
   ·exact h
   ·rw[Array.getElem?_eq_none h] at h1;cases h1
  refine⟨hjs,?_⟩
  have:j<listed.size:=by omega
  simp only[Array.getD_eq_getD_getElem?,Array.getElem?_eq_getElem this,Option.getD_some] at h2 ⊢
  exact h2
 intro fuel
 induction fuel with
 | zero =>
  intro listed J F a w hs hm hv
  have hall:∀i,i<ops.size→listed.getD i false=true:=λi hi=>by
   have h0:missing listed=0:=by omega
   unfold missing at h0
   rw[List.countP_eq_zero] at h0
   have:=h0 i (by simp;omega)
   simpa using this
  refine⟨?_,done listed J F a w hs hall hv⟩
  cases e:Region.ready .any ops listed with
  | nil=>rfl
  | cons j r =>
   obtain⟨q1,q2⟩:=key listed j hs (by rw[e];simp)
   rw[hall j q1] at q2;cases q2
 | succ fuel ih =>
  intro listed J F a w hs hm hv
  refine⟨λh=>done listed J F a w hs (zk0 hp.reg hs h) hv,λj hj=>?_⟩
  obtain⟨o,h1,h2,h3⟩:=zcH hj
  obtain⟨q1,q2⟩:=key listed j hs hj
  have hm':missing (listed.setIfInBounds j true)≤fuel:=by
   have hlt:missing (listed.setIfInBounds j true)<missing listed:=by
    unfold missing
    rw[Array.size_setIfInBounds]
    have hmem:j∈List.range listed.size:=by simp;omega
    obtain⟨l1,l2,hl⟩:=List.append_of_mem hmem
    have hnd:(List.range listed.size).Nodup:=List.nodup_range
    rw[hl] at hnd ⊢
    have hne1:∀x∈l1,x≠j:=λx hx e=>by
     subst e
     rw[List.nodup_append] at hnd
     exact hnd.2.2 x hx x (by simp) rfl
    have hne2:∀x∈l2,x≠j:=λx hx e=>by
     subst e
     rw[List.nodup_append] at hnd
     have:=hnd.2.1
     simp at this
     exact this.1 hx
    have hset:∀x,x≠j→(listed.setIfInBounds j true).getD x false=listed.getD x false:=λx hx=>by
     simp only[Array.getD_eq_getD_getElem?]
     rw[Array.getElem?_setIfInBounds_ne (λq=>hx q.symm)]
    rw[List.countP_append,List.countP_append,List.countP_cons,List.countP_cons]
    have c1:l1.countP (λi=>!(listed.setIfInBounds j true).getD i false)=l1.countP (λi=>!listed.getD i false):=List.countP_congr λx hx=>by rw[hset x (hne1 x hx)]
    have c2:l2.countP (λi=>!(listed.setIfInBounds j true).getD i false)=l2.countP (λi=>!listed.getD i false):=List.countP_congr λx hx=>by rw[hset x (hne2 x hx)]
    rw[c1,c2,q2]
    have:(listed.setIfInBounds j true).getD j false=true:=by
     simp only[Array.getD_eq_getD_getElem?]
     simp[Array.getElem?_setIfInBounds,show j<listed.size by omega]
    rw[this]
    simp
   omega
  have st:=hp.step hv h1 (by simpa [qZ] using q2) (by simpa [qZ] using h3) (K:=wpAny P .any ops Q fuel (listed.setIfInBounds j true)) (Q:=Q) λJ' F' a' w' hv'=>ih _ J' F' a' w' (by simp[hs]) hm' (by rw[zij (by omega)];exact hv')
  unfold wpOp
  simp only[h1]
  split
  ·rename_i hw;rw[if_pos hw] at st;exact .inl st
  ·rename_i hw;rw[if_neg hw] at st;exact st
theorem zh8 {l:List ym} {Q:Exit→Act→World→Prop} {K':Env→List zf→Prop} (h:zch P l env H K') {id:Nat} (hc:Jj P n ops true=some l) {J:yK} {F:Nat→Prop} {a:Act} {w:World} (hr:wD n J F env H a w)
  (hQ:∀env' H' J' F' a' w',K' env' H'→wD n J' F' env' H' a' w'→Ext J F w J' F' w'→Q .normal a' w'):(Code.region id ops true).wp P Q a w:=by
 simp only[Jj] at hc
 split at hc
 ·rename_i hb
  rw[Bool.and_eq_true] at hb
  unfold zch at h
  obtain⟨rs,env',H',h1,h2,h3⟩:=zfr ops.toList _ l hc env H _ h
  obtain⟨r1,r2,r3,r4⟩:=h1.at
  have hlen:rs.length=ops.size:=by simpa using r1
  have hllen:l.length=ops.size:=by rw[zec _ _ _ hc];simp
  have ent:∀i,i<ops.size→(rs.map Rec.entry)[i]? = some (recAt rs i).entry:=λi hi=>by
   have e1:=List.getElem?_eq_getElem (show i<rs.length by omega)
   rw[List.getElem?_map,e1,Wa e1];rfl
  have bit:∀j (hj:j<l.length) i,Qc l[j].mask i=true→Bef ops i j:=λj hj i h=>by
   have hm:=zbm _ _ _ hc j _ (List.getElem?_eq_getElem hj)
   rw[hm] at h
   exact zkV h
  have hsub:∀r:Rec,∀b,V6 (Vn r.entry) b=true→V6 (r.rd,r.wr) b=true:=λr b h=>by
   rw[Us] at h ⊢
   rw[JD] at h
   refine h.imp_right λh=>h.imp_right λ⟨x,q1,q2⟩=>⟨x,q1,?_⟩
   unfold Vn at q2
   split at q2
   ·cases q2
   ·exact q2
  have hK:K' env' H'∧Vt P n ops env H rs:=by
   split at h2
   ·rename_i hmem
    have strict:∀i j,i<j→j<ops.size→V6 ((recAt rs i).rd,(recAt rs i).wr) ((recAt rs j).rd,(recAt rs j).wr)=true→Bef ops i j:=λi j hij hj hcl=>by
     have hpl:j<l.length:=by omega
     refine bit j hpl i (zcQ l [] _ hmem j l[j] (recAt rs j).entry (List.getElem?_eq_getElem hpl) (ent j hj) i ((recAt rs i).rd,(recAt rs i).wr) (by simpa using hij) ?_ hcl)
     rw[List.nil_append,List.getElem?_map,ent i (by omega)];rfl
    exact⟨h2,r4,hlen,hb.2,λi j hij hj hcl=>strict i j hij hj (hsub _ _ hcl),λi id k hl j hij hj hw=>.inl (strict i j hij hj ((Us _ _).2 (.inr (.inr ⟨id,hw,by
     obtain⟨r,q1,q2⟩:=r4 i _ (List.getElem?_eq_getElem (show i<ops.toList.length by simp;omega))
     rw[Wa q1] at hl ⊢
     rw[(q2.2.2.1 id k hl).1];simp⟩))))⟩
   ·split at h2
    ·rename_i hmem
     obtain⟨hk,hw⟩:=VB l _ 0 [] h2 (by simp;omega)
     refine⟨hk,r4,hlen,hb.2,λi j hij hj hcl=>?_,λi id k hl j hij hj hwr=>?_⟩
     ·have hpl:j<l.length:=by omega
      refine bit j hpl i (Vz l [] _ hmem j l[j] (recAt rs j).entry (List.getElem?_eq_getElem hpl) (ent j hj) i (Vn (recAt rs i).entry) (by simpa using hij) ?_ hcl)
      rw[List.nil_append,List.getElem?_map,ent i (by omega)];rfl
     ·have hpl:j<l.length:=by omega
      have:=(hw j l[j] _ _ _ _ (List.getElem?_eq_getElem hpl) (ent j hj)).2 i ((recAt rs i).rd,(recAt rs i).wr) (id,k) (recAt rs i).d (recAt rs i).H2 hij (by rw[ent i (by omega),←hl];rfl)
      rw[Nat.zero_add] at this
      rcases this with q|q|q
      ·exact .inl (bit j hpl i q)
      ·exact absurd hwr q
      ·exact .inr q
    ·exact h2.elim
  obtain⟨h2,hp⟩:=hK
  ·skip
   refine wp_region_any hb.1 (zqm hp (J0:=J) (F0:=F) (w0:=w) (λJ' F' a' w' hv=>?_) _ _ J F a _ (by simp) ?_ ?_)
   ·refine hQ env' H' J' F' a' w' h2 ⟨hv.defers,hv.size,λt=>?_,?_,λi hi=>?_⟩ hv.ext
    ·have:=hv.tmps t
     rw[zhj hp.at_ _ (by simp)] at this
     rw[←r2]
     simpa using this
    ·have:=hv.ok
     have e:Gt rs H (λ_=>true) ops.size=λi=>H'[i]?:=funext λi=>by
      rw[zhA hp.at_ _ (by simp),←r3];simp
     rwa [e] at this
    ·rcases hv.dom i hi with q|⟨k,k1,_,k3⟩
     ·have:=J4 hp.at_ ops.size 0 (by omega) (by simp)
      simp only[ua] at this
      rw[←r3];simp;omega
     ·have:=zvm hp.at_ k1 (by simp) k3
      rw[←r3];simpa using this
   ·unfold missing
    refine Nat.le_trans List.countP_le_length ?_
    simp
   ·have hf:qZ (Array.replicate ops.size false)=λ_=>false:=by
     funext i
     simp only[qZ,Array.getD_eq_getD_getElem?,Array.getElem?_replicate]
     split<;>rfl
    rw[hf]
    have e1:∀k t,Et ops.toList rs env (λ_=>false) k t=xy t env:=λk t=>by
     induction k with
     | zero=>rfl
     | succ k ih=>simp only[Et];rw[if_neg (by simp)];exact ih
    have e2:∀k i,Gt rs H (λ_=>false) k i=H[i]?:=λk i=>by
     induction k with
     | zero=>rfl
     | succ k ih=>simp only[Gt];rw[if_neg (by simp)];exact ih
    have hd:Ext J F w J F { w with drawn:=w.drawn+1 }:=Ext.drew
    refine⟨(λ_ _ _ h=>by cases h),hr.defers,hr.size,λt=>?_,?_,hd,λi hi=>.inl (hr.dom i hi)⟩
    ·rw[e1];exact zcl hd (hr.tmps t)
    ·have:Gt rs H (λ_=>false) ops.size=λi=>H[i]?:=funext (e2 _)
     rw[this]
     exact hr.ok.drew
 ·cases hc
end
end
section
open Go.RowKit
def zoo (n:Nat) (J:yK) (F:Nat→Prop) (w:World) (Q:qj):Exit→Act→World→Prop:=λe a' w'=>∃env' H' J' F',Q e env' H'∧wD n J' F' env' H' a' w'∧Ext J F w J' F' w'
section
variable {P:Program} {n:Nat}
theorem uD {p:PC} {Q:qj} {env:Env} {H:List zf} (h:PWp P n p Q env H) {c:Code} (hc:comp P n c=some p.bare) {J:yK} {F:Nat→Prop} {a:Act} {w:World} (hr:wD n J F env H a w):c.wp P (zoo n J F w Q) a w:=by
 unfold PWp at h
 exact h c hc J F a w hr
theorem Yx {p:PC} {Q:qj} {env:Env} {H:List zf} (h:∀(c:Code),comp P n c=some p.bare→∀(J:yK) (F:Nat→Prop) (a:Act) (w:World),wD n J F env H a w→c.wp P (zoo n J F w Q) a w):PWp P n p Q env H:=by
 unfold PWp
 exact h
theorem zdl {J J':yK} {F F':Nat→Prop} {w w':World} {Q:qj} {e:Exit} {a:Act} {w'':World} (hx:Ext J F w J' F' w') (h:zoo n J' F' w' Q e a w''):zoo n J F w Q e a w'' :=
 let⟨env',H',J'',F'',q1,q2,q3⟩:=h
 ⟨env',H',J'',F'',q1,q2,hx.trans q3⟩
theorem Qx {env:Env}:∀(env':Env),Vh env env'→∀t,xy t env'=xy t env∨xy t env'=.xt
 | [],_,t=>.inr rfl
 | (k,d)::r,h,t=>by
  simp only[Vh] at h
  rw[u9]
  split
  ·rename_i e;rw[e];exact .inl h.1.symm
  ·exact Qx r h.2 t
theorem zaH {env env':Env} {H:List zf} (h:Vh env env'):St.le n env H env' H:=λJ F a w hr =>
 ⟨J,F,⟨hr.defers,hr.size,λt=>by
  rcases Qx env' h t with e|e
  ·rw[e];exact hr.tmps t
  ·rw[e];simp only[rep],hr.ok,hr.dom⟩,Ext.refl _ _ _⟩
theorem znp {c:Code} (h:comp P n c=some .skip):c=.skip:=by
 cases c<;>simp[comp] at h
 ·rfl
 all_goals first|(obtain⟨_,_,h⟩:=h;cases h)|(split at h<;>simp at h)|skip
theorem zqB {c:Code} {x y:PC} (h:comp P n c=some (.seq x y)):∃a b,c=.seq a b∧comp P n a=some x∧comp P n b=some y:=by
 cases c<;>simp[comp] at h
 case seq a b =>
  split at h
  ·rename_i e1 e2;simp at h;obtain⟨rfl,rfl⟩:=h;exact⟨a,b,rfl,e1,e2⟩
  ·cases h
 all_goals first|(obtain⟨_,_,h⟩:=h;cases h)|(split at h<;>simp at h)
theorem znu {c:Code} {z:Operand} {x y:PC} (h:comp P n c=some (.cond z x y)):∃a b,c=.cond z a b∧comp P n a=some x∧comp P n b=some y:=by
 cases c<;>simp[comp] at h
 case cond z' a b =>
  split at h
  ·rename_i e1 e2;simp at h;obtain⟨rfl,rfl,rfl⟩:=h;exact⟨a,b,rfl,e1,e2⟩
  ·cases h
 all_goals first|(obtain⟨_,_,h⟩:=h;cases h)|(split at h<;>simp at h)
theorem zll {c:Code} {id:Nat} {x:PC} (h:comp P n c=some (.block id x)):∃a,c=.block id a∧comp P n a=some x:=by
 cases c<;>simp[comp] at h
 case block id' a=>obtain⟨h1,rfl⟩:=h;exact⟨a,rfl,h1⟩
 all_goals first|(split at h<;>simp at h)
theorem zgC {c:Code} {x:PC} (h:comp P n c=some (.loop x)):∃a,c=.loop a∧comp P n a=some x:=by
 cases c<;>simp[comp] at h
 case loop a=>exact⟨a,rfl,h⟩
 all_goals first|(split at h<;>simp at h)
theorem zoL {c:Code} {id:Nat} (h:comp P n c=some (.exit id)):c=.exit id:=by
 cases c<;>simp[comp] at h
 case exit id'=>rw[h]
 all_goals first|(split at h<;>simp at h)
theorem zqt {c:Code} (h:comp P n c=some .ret):c=.ret:=by
 cases c<;>simp[comp] at h
 ·first|rfl|(split at h<;>simp at h)
 all_goals first|rfl|(split at h<;>simp at h)
theorem zp1 {c:Code} {l:List ym} {d:Bool} (h:comp P n c=some (.ops l d)):∃id ops,c=.region id ops d∧Jj P n ops d=some l:=by
 cases c<;>simp[comp] at h
 case region id ops d'=>obtain⟨l',h1,rfl,rfl⟩:=h;exact⟨id,ops,rfl,h1⟩
 all_goals first|(split at h<;>simp at h)
theorem zlA {l:List ym} {Q:qj} {env:Env} {H:List zf} (h:zch P l env H λenv H=>Q .normal env H) {id:Nat} {ops:Array Oper} (hc:Jj P n ops true=some l) {J:yK} {F:Nat→Prop} {a:Act} {w:World} (hr:wD n J F env H a w) :
  (Code.region id ops true).wp P (zoo n J F w Q) a w:=zh8 h hc hr λenv' H' J' F' a' w' q1 q2 q3=>⟨env',H',J',F',q1,q2,q3⟩
theorem X8:∀(p:PC) (Q:qj) (env:Env) (H:List zf),pw P n p Q env H→PWp P n p Q env H
 | .skip,Q,env,H,h=>Yx λc hc J F a w hr=>by
  rw[znp hc]
  exact wp_skip ⟨env,H,J,F,h,hr,Ext.refl _ _ _⟩
 | .ops l d,Q,env,H,h=>Yx λc hc J F a w hr=>by
  obtain⟨id,ops,rfl,h1⟩:=zp1 hc
  cases d with
  | false =>
   refine wp_region ?_
   rw[List.range_eq_range']
   have:=JU (P:=P) (ops:=ops) (Q:=zoo n J F w Q) ops.toList 0 [] l (λj=>by simp) h1 env H J F a w h hr λenv' H' J' F' a' w' q1 q2 q3=>⟨env',H',J',F',q1,q2,q3⟩
   simpa using this
  | true=>exact zlA h h1 hr
 | .seq x y,Q,env,H,h=>Yx λc hc J F a w hr=>by
  obtain⟨a',b',rfl,h1,h2⟩:=zqB hc
  refine wp_seq (wp_mono (uD (X8 x _ env H h) h1 hr) λe a1 w1 ⟨env',H',J',F',q1,q2,q3⟩=>?_)
  cases e with
  | normal=>exact wp_mono (uD (X8 y Q env' H' q1) h2 q2) λe a2 w2 q=>zdl q3 q
  | _=>exact⟨env',H',J',F',q1,q2,q3⟩
 | .cond z x y,Q,env,H,h=>Yx λc hc J F a w hr=>by
  obtain⟨a',b',rfl,h1,h2⟩:=znu hc
  simp only[pw,yC] at h
  split at h
  ·rename_i t e
   have hz:=hr.eval z
   rw[e] at hz
   simp only[rep] at hz
   obtain⟨k1,k2⟩:=JO.1 h
   refine wp_cond hz ?_
   cases t with
   | true=>exact uD (X8 x Q env H (k1 rfl)) h1 hr
   | false=>exact uD (X8 y Q env H (k2 rfl)) h2 hr
  ·exact h.elim
 | .block id x,Q,env,H,h=>Yx λc hc J F a w hr=>by
  obtain⟨a',rfl,h1⟩:=zll hc
  refine wp_block (wp_mono (uD (X8 x _ env H h) h1 hr) λe a1 w1 ⟨env',H',J',F',q1,q2,q3⟩=>?_)
  cases e with
  | exit id' =>
   simp only[Exit.inBlock]
   by_cases e:id'=id
   ·subst e
    rw[if_pos rfl]
    have hb:Nat.beq id' id'=true:=by simp
    simp only[hb] at q1
    exact⟨env',H',J',F',q1,q2,q3⟩
   ·rw[if_neg e]
    have hb:Nat.beq id' id=false:=by
     cases h:Nat.beq id' id
     ·rfl
     ·exact absurd (Nat.eq_of_beq_eq_true h) e
    simp only[hb] at q1
    exact⟨env',H',J',F',q1,q2,q3⟩
  | _=>exact⟨env',H',J',F',q1,q2,q3⟩
 | .loop x,Q,env,H,h=>h
 | .exit id,Q,env,H,h=>Yx λc hc J F a w hr=>by
  rw[zoL hc]
  exact wp_exit ⟨env,H,J,F,h,hr,Ext.refl _ _ _⟩
 | .ret,Q,env,H,h=>Yx λc hc J F a w hr=>by
  rw[zqt hc]
  exact wp_ret ⟨env,H,J,F,h,hr,Ext.refl _ _ _⟩
 | .stop x,Q,env,H,h=>Yx λc hc J F a w hr=>uD h hc hr
theorem zc9 {p:PC} {Q:qj} {env:Env} {H:List zf} {ι:Type} (E:ι→Env) (O:ι→List zf) (G:ι→Prop) (m:ι→Nat) (i:ι) (h0:G i) (h1:St.le n env H (E i) (O i))
  (round:∀j,G j→PWp P n p (zz6 n Q E O G m (m j)) (E j) (O j)):PWp P n (.loop p) Q env H:=Yx λc hc J F a w hr=>by
 obtain⟨c',rfl,hc'⟩:=zgC hc
 obtain⟨J0,F0,k1,k2⟩:=h1 J F a w hr
 refine wp_loop_ghost (λk a' w'=>∃j J' F',G j∧m j=k∧wD n J' F' (E j) (O j) a' w'∧Ext J F w J' F' w') (m i) ⟨i,J0,F0,h0,rfl,k1,k2⟩ λk a1 w1 ⟨j,J1,F1,g1,g2,g3,g4⟩=>?_
 refine wp_mono (uD (round j g1) hc' g3) λe a2 w2 ⟨env',H',J',F',q1,q2,q3⟩=>?_
 cases e with
 | normal =>
  obtain⟨j',r1,r2,r3⟩:=q1
  obtain⟨J2,F2,t1,t2⟩:=r3 J' F' a2 w2 q2
  exact⟨m j',by omega,j',J2,F2,r1,rfl,t1,(g4.trans q3).trans t2⟩
 | _=>exact⟨env',H',J',F',q1,q2,g4.trans q3⟩
theorem zbg:∀(args:List D) (k t:Nat),xy t (params k args)=if k≤t then (args[t-k]?).getD .xt else .xt
 | [],k,t=>by simp[params,xy]
 | d::r,k,t=>by
  simp only[params]
  rw[u9,zbg r (k+1) t]
  by_cases h1:t=k
  ·subst h1;simp
  ·rw[if_neg h1]
   by_cases h2:k+1≤t
   ·rw[if_pos h2,if_pos (by omega),show t-k=t-(k+1)+1 by omega,List.getElem?_cons_succ]
   ·rw[if_neg h2,if_neg (by omega)]
section
variable {J J':yK} {F:Nat→Prop} {w:World}
mutual
theorem Q2:∀(d:D) (v:Value),Pure d→rep J F w d v→rep J' F w d v
 | .xt,v,_,_=>by simp only[rep]
 | .sc u,v,_,h=>by simpa only[rep] using h
 | .gv u,v,_,h=>by simpa only[rep] using h
 | .loc ..,v,hp,_=>by simp only[Pure] at hp
 | .elt ..,v,hp,_=>by simp only[Pure] at hp
 | .own ..,v,hp,_=>by simp only[Pure] at hp
 | .xk cs,v,hp,h=>by
  simp only[Pure] at hp
  simp only[rep] at h ⊢
  obtain⟨b,o,h1,h2,h3⟩:=h
  exact⟨b,o,h1,h2,QS b cs o hp h3⟩
 | .xj zF xs,v,hp,h=>by
  simp only[Pure] at hp
  simp only[rep] at h ⊢
  obtain⟨A,n,c,h1,h2,hc,h3⟩:=h
  exact⟨A,n,c,h1,h2,hc,h3.imp_right λ⟨b,o,h4,h5,h6⟩=>⟨b,o,h4,h5,zfv b zF xs o hp h6⟩⟩
 | .fn f a b,v,hp,h=>by
  simp only[Pure] at hp
  simp only[rep] at h ⊢
  obtain⟨vs,us,h1,h2,h3⟩:=h
  exact⟨vs,us,h1,YR a vs hp.1 h2,YR b us hp.2 h3⟩
 | .ifc t d,v,hp,h=>by
  simp only[Pure] at hp
  simp only[rep] at h ⊢
  obtain⟨u,h1,h2⟩:=h
  exact⟨u,h1,Q2 d u hp h2⟩
 | .agg cs,v,hp,h=>by
  simp only[Pure] at hp
  simp only[rep] at h ⊢
  obtain⟨vs,h1,h2⟩:=h
  exact⟨vs,h1,YR cs vs hp h2⟩
 | .yI cs,v,hp,h=>by
  simp only[Pure] at hp
  simp only[rep] at h ⊢
  obtain⟨vs,h1,h2⟩:=h
  exact⟨vs,h1,YR cs vs hp h2⟩
theorem YR:∀(d:List D) (v:List Value),ze d→zY J F w d v→zY J' F w d v
 | [],v,_,h=>by simpa only[zY] using h
 | d::r,v,hp,h=>by
  simp only[ze] at hp
  simp only[zY] at h ⊢
  obtain⟨u,us,h1,h2,h3⟩:=h
  exact⟨u,us,h1,Q2 d u hp.1 h2,YR r us hp.2 h3⟩
theorem QS (b:Nat):∀(d:List D) (o:Nat),ze d→zN J F w b d o→zN J' F w b d o
 | [],o,_,h=>by simp only[zN]
 | d::r,o,hp,h=>by
  simp only[ze] at hp
  simp only[zN] at h ⊢
  obtain⟨⟨u,h1,h2,h3⟩,h4⟩:=h
  exact⟨⟨u,h1,h2,Q2 d u hp.1 h3⟩,QS b r (o+1) hp.2 h4⟩
theorem zfv (b zF:Nat):∀(d:List (List D)) (o:Nat),yv d→yd J F w b zF d o→yd J' F w b zF d o
 | [],o,_,h=>by simp only[yd]
 | d::r,o,hp,h=>by
  simp only[yv] at hp
  simp only[yd] at h ⊢
  exact⟨h.1,QS b d o hp.1 h.2.1,zfv b zF r (o+zF) hp.2 h.2.2⟩
end
end
def Yp (tmps:Array Value):ResultVar→Sem Value
 | .tmp t=>pure (tmps.getD t undef)
 | .cell a t=>do loadVar t (←asAddr (tmps.getD a undef))
theorem zbP {t:TypeId} {a:Addr} {w:World} {v:Value} (h:(Instr.loadAt t (.pointer (some a))).run P w=.ok v w):(loadVar t a).run P w=.ok v w:=by
 simpa [Instr.loadAt,Instr.sureAddr] using h
theorem zbw {J:yK} {F:Nat→Prop} {env:Env} {H:List zf} {a:Act} {w:World} (hr:wD n J F env H a w):∀(l:List ResultVar) (rs:List RV) (K':List D→Prop),zk8 P l=some rs→uQ env H rs K' →
  ∃ds vs,K' ds∧(l.mapM (Yp a.tmps)).run P w=.ok vs w∧zY J F w ds vs
 | [],rs,K',hc,h=>by
  simp[zk8] at hc;subst hc
  exact⟨[],[],h,by simp[pure,Sem.run],by simp only[zY]⟩
 | r::l,rs,K',hc,h=>by
  simp only[zk8] at hc
  split at hc
  ·rename_i x y e1 e2
   cases hc
   have step:∀(d:D) (v:Value),(Yp a.tmps r).run P w=.ok v w→rep J F w d v→uQ env H y (λds=>K' (d::ds))→∃ds vs,K' ds∧((r::l).mapM (Yp a.tmps)).run P w=.ok vs w∧zY J F w ds vs:=λd v q1 q2 q3=>by
    obtain⟨ds,vs,k1,k2,k3⟩:=zbw hr l y _ e2 q3
    refine⟨d::ds,v::vs,k1,?_,by simp only[zY];exact⟨v,vs,rfl,q2,k3⟩⟩
    rw[List.mapM_cons]
    simp only[Sem.run_bind,q1,Result.andThen_ok,k2,pure,Sem.run]
   cases r with
   | tmp t =>
    simp[crv] at e1;subst e1
    simp only[uQ,Yo] at h
    exact step _ _ (by simp[Yp,pure,Sem.run]) (hr.tmps t) h
   | cell t ty =>
    simp only[crv] at e1
    have ptr:∀id off m cs,xy t env=.loc id off→H[id]? = some (.row m cs)→∃b o,a.tmps.getD t undef=.pointer (some ⟨b,o,none⟩)∧zN J F w b (cs.drop off) o:=λid off m cs q1 q2=>by
     have q3:=hr.tmps t
     rw[q1] at q3
     exact Qv (P:=P) (env:=env) q2 J F w _ _ hr.ok (λ_ _=>rfl) q3
    split at e1
    ·rename_i hag
     cases e1
     simp only[uQ,Yo] at h
     split at h
     ·rename_i id off e3
      obtain⟨ob,h1,h2⟩:=(yA _ _ _).1 h
      split at h2
      ·rename_i m cs
       obtain⟨h3,h4⟩:=(ZK _ _ _).1 h2
       obtain⟨h5,h6⟩:=(ZS _ _ _).1 h4
       obtain⟨b,o,p1,p2⟩:=ptr id off m cs e3 h1
       have p3:=X1 p2 0 (P.cellsOf ty)
       simp only[List.drop_zero,Nat.add_zero] at p3
       obtain⟨vs,p4,p5,_⟩:=ZW _ _ p3
       have hl:vs.length=P.cellsOf ty:=by rw[xh _ _ p4,List.length_take];omega
       refine step _ (.agg vs.toArray) ?_ (by simp only[rep];exact⟨vs,rfl,p4⟩) h6
       simp only[Yp,p1,asAddr,pure,Sem.run_bind,Sem.run,Result.andThen_ok]
       exact zbP (Jw hag hl p5)
      ·exact h2.elim
     ·exact h.elim
    ·rename_i hag
     cases e1
     simp only[uQ,Yo] at h
     split at h
     ·rename_i id off e3
      obtain⟨ob,h1,h2⟩:=(yA _ _ _).1 h
      split at h2
      ·rename_i m cs
       obtain⟨c,h3,h4⟩:=(ZY _ _ _).1 h2
       obtain⟨b,o,p1,p2⟩:=ptr id off m cs e3 h1
       obtain⟨u,p3,_,p4⟩:=xl _ o 0 c (by rw[List.getElem?_drop];exact h3) p2
       refine step _ u ?_ p4 h4
       simp only[Yp,p1,asAddr,pure,Sem.run_bind,Sem.run,Result.andThen_ok]
       exact zbP (JV hag (by simpa using p3))
      ·exact h2.elim
     ·exact h.elim
    ·cases e1
  ·cases hc
theorem Ue {fn:Func} {rs:List RV} (hrs:zk8 P fn.results.toList=some rs) {J:yK} {F:Nat→Prop} {env:Env} {H:List zf} {a:Act} {w:World} (hr:wD n J F env H a w) {R:D→List zf→Prop} {e:Exit} (he:e=.normal∨e=.ret) (h:zus rs R e env H) :
  ∃d v,R d H∧(results fn a.tmps).run P w=.ok v w∧rep J F w d v:=by
 have h':uQ env H rs (λds=>match ds with
  | [d]=>R d H
  | ds=>R (.yI ds) H):=by rcases he with rfl|rfl<;>exact h
 obtain⟨ds,vs,k1,k2,k3⟩:=zbw hr fn.results.toList rs _ hrs h'
 have run:(results fn a.tmps).run P w=.ok (if h:vs.length=1 then vs[0] else .tuple vs.toArray) w:=by
  have e1:(fn.results.mapM (Yp a.tmps)).run P w=.ok vs.toArray w:=by
   rw[Array.mapM_eq_mapM_toList]
   simp[k2]
  have e3:results fn a.tmps=fn.results.mapM (Yp a.tmps) >>= λvs=>pure (if h:vs.size=1 then vs[0] else .tuple vs):=by
   unfold results
   congr 1
  rw[e3,Sem.run_bind,e1]
  simp[pure,Sem.run]
 have hl:=xh _ _ k3
 match ds,k1,k3,hl with
 | [d],k1,k3,hl =>
  simp only[zY] at k3
  obtain⟨v,us,rfl,q1,rfl⟩:=k3
  exact⟨d,v,k1,by rw[run];simp,q1⟩
 | [],k1,k3,hl =>
  refine⟨.yI [],_,k1,run,?_⟩
  have:vs=[]:=List.length_eq_zero_iff.1 hl
  subst this
  simp only[rep]
  exact⟨[],by simp,k3⟩
 | d::d'::r,k1,k3,hl =>
  refine⟨.yI (d::d'::r),_,k1,run,?_⟩
  simp only[List.length_cons] at hl
  rw[dif_neg (by omega)]
  simp only[rep]
  exact⟨vs,rfl,k3⟩
theorem zaJ {J:yK} {F:Nat→Prop} {w:World} {args:List D} {vs:List Value} {H:List zf} (hn:args.length≤n) (h:zY J F w args vs) (hok:yL J F w (λi=>H[i]?)) (hd:∀id,J id≠none→id<H.length) :
  wD n J F (params 0 args) H ⟨vs.toArray++Array.replicate (n-vs.toArray.size) undef,[]⟩ w where
 defers:=rfl
 size:=by simp[xh _ _ h];omega
 tmps t:=by
  rw[zbg]
  simp only[Nat.zero_le,if_true,Nat.sub_zero]
  have hl:=xh _ _ h
  cases e:args[t]? with
  | none=>simp only[Option.getD_none,rep]
  | some d =>
   obtain⟨v,h1,h2⟩:=vl _ _ _ _ e h
   have ht:t<vs.length:=by
    rcases Nat.lt_or_ge t vs.length with h|h
    ·exact h
    ·rw[List.getElem?_eq_none h] at h1;cases h1
   simp only[Option.getD_some,Array.getD_eq_getD_getElem?]
   rw[Array.getElem?_append_left (by simpa using ht)]
   simp[h1,h2]
 ok:=hok
 dom:=hd
theorem zcF {f:FuncId} {rs:List RV} {p:PC} (hf:zz P f n rs p):zet P f:=by
 obtain⟨fn,h1,_,h3,_,h5⟩:=hf.out
 refine⟨fn,h1,h3,?_⟩
 cases e:fn.body with
 | none=>rw[e] at h5;cases h5
 | some c=>rfl
theorem zoq {F:Nat→Prop} {w:World} (h:FOK F w) (G:Nat→Option zf):yL vt F w G:=⟨(λ_ _ h=>by cases h),(λ_ _ _ _ _ h=>by cases h),(λ_ _ _ _ h=>by cases h),h⟩
theorem zb {f:FuncId} {rs:List RV} {p:PC} {args:List D} {d:D} (hf:zz P f n rs p) (hn:args.length≤n) (hp:ze args)
  (h:PWp P n p (zus rs λr H=>Deep H r d) (params 0 args) []) (hd:Pure d):zu P f args d:=by
 refine⟨zcF hf,λJ F w vs hF hargs=>?_⟩
 obtain⟨fn,h1,h2,h3,h4,h5⟩:=hf.out
 have hargs':zY vt F w args vs:=YR args vs hp hargs
 cases e:fn.body with
 | none=>rw[e] at h5;cases h5
 | some c =>
  rw[e] at h5
  simp only[Option.bind_some] at h5
  refine calls_of_wp h1 e ?_
  rw[h2]
  refine wp_mono (uD h h5 (zaJ hn hargs' (zoq hF _) (λid hid=>absurd rfl hid))) λe' a' w' ⟨env',H',J',F',q1,q2,q3⟩=>?_
  have fin:e'=.normal∨e'=.ret→a'.defers=[]∧∃v,(results fn a'.tmps).run P w'=.ok v w'∧∃v' F'',Ending.returned v=Ending.returned v'∧(∀b,F'' b→b<w'.heap.size)∧rep vt F'' w' d v'∧Ext vt F w vt F'' w':=λhe=>by
   obtain⟨r,v,k1,k2,k3⟩:=Ue h4 q2 he q1
   refine⟨q2.defers,v,k2,v,λb=>F' b∨Zm J' b,rfl,λb hb=>hb.elim (q2.ok.lt b) λ⟨i,s,hi,hs⟩=>q2.ok.xd hi hs,Q2 d v hd (WS q2.ok (λ_ _ h=>h) _ _ _ k1 k3),?_⟩
   exact⟨q3.os,q3.tape,q3.output,q3.size,q3.block,q3.frozen,yK.le_refl _,λb hb=>.inl (q3.grow b hb),λb hb=>absurd hb (Ze b),λb hb=>by
    rcases hb with hb|hb
    ·exact q3.we b hb
    ·exact .inr ((q3.xM b hb).imp_left λq=>absurd q (Ze b))⟩
  cases e' with
  | normal=>exact fin (.inl rfl)
  | ret=>exact fin (.inr rfl)
  | exit id=>exact q1.elim
  | goto l=>exact q1.elim
  | panic ch=>exact q1.elim
  | outgrown=>exact q1.elim
end
end
section
open Go.RowKit
section
variable {P:Program} {n:Nat}
theorem yp {f:FuncId} {rs:List RV} {p:PC} {args:List D} {H:List zf} {d:D} {H2:List zf} (hf:zz P f n rs p) (hn:args.length≤n) (hlen:H.length≤H2.length)
  (h:PWp P n p (zus rs λr Hf=>r=d∧Hf.take H2.length=H2∧H2.length≤Hf.length) (params 0 args) H) (hd:zp H2.length d) (hH:∀o∈H2,o.under H2.length):yB P f args H d H2:=by
 refine⟨zcF hf,hlen,λJ F w vs hok hdom hargs=>?_⟩
 obtain⟨fn,h1,h2,h3,h4,h5⟩:=hf.out
 cases e:fn.body with
 | none=>rw[e] at h5;cases h5
 | some c =>
  rw[e] at h5
  simp only[Option.bind_some] at h5
  refine calls_of_wp h1 e ?_
  rw[h2]
  refine wp_mono (uD h h5 (zaJ hn hargs hok hdom)) λe' a' w' ⟨env',H',J',F',q1,q2,q3⟩=>?_
  have fin:e'=.normal∨e'=.ret→a'.defers=[]∧∃v,(results fn a'.tmps).run P w'=.ok v w'∧∃v' J'' F'',Ending.returned v=Ending.returned v'∧yL J'' F'' w' (λi=>H2[i]?)∧(∀id,J'' id≠none→id<H2.length)∧rep J'' F'' w' d v'∧Ext J F w J'' F'' w':=λhe=>by
   obtain⟨r,v,⟨rfl,k1,k1'⟩,k2,k3⟩:=Ue h4 q2 he q1
   have hget:∀i,i<H2.length→H2[i]? = H'[i]?:=λi hi=>by
    conv=>lhs;rw[←k1]
    rw[List.getElem?_take,if_pos hi]
   have kle:(yg H2.length J').le J':=λi s hs=>by
    unfold yg at hs
    split at hs
    ·exact⟨s,hs,Nat.le_refl _,λ_=>rfl⟩
    ·cases hs
   refine⟨q2.defers,v,k2,v,yg H2.length J',F',rfl,⟨λi s hs=>?_,λi i' s s' b g1 g2 g3 g4=>?_,λi s b o g1 g2 g3 g4=>?_,q2.ok.lt⟩,λi hi=>?_,Wt _ _ hd k3,?_⟩
   ·unfold yg at hs
    split at hs
    ·rename_i hi
     obtain⟨o,g1,g2⟩:=q2.ok.obj i s hs
     have g1':H2[i]? = some o:=by rw[hget i hi];exact g1
     exact⟨o,g1',Qz (hH o (List.mem_of_getElem? g1')) g2⟩
    ·cases hs
   ·unfold yg at g1 g2
    split at g1<;>split at g2
    ·exact q2.ok.one i i' s s' b g1 g2 g3 g4
    all_goals first|cases g1|cases g2
   ·unfold yg at g1
    split at g1
    ·rename_i hi
     exact q2.ok.apart i s b o g1 g2 (by rw[←hget i hi];exact g3) g4
    ·cases g1
   ·unfold yg at hi
    split at hi
    ·assumption
    ·exact absurd rfl hi
   ·refine⟨q3.os,q3.tape,q3.output,q3.size,q3.block,q3.frozen,λi s hs=>?_,q3.grow,λb ⟨i,s,hs,hb⟩=>?_,q3.we⟩
    ·obtain⟨s',g1,g2,g3⟩:=q3.le i s hs
     have hi:i<H2.length:=by have:=hdom i (by rw[hs];simp);omega
     exact⟨s',by simp[yg,hi,g1],g2,g3⟩
    ·obtain⟨s',g1,_⟩:=kle i s hs
     unfold yg at hs
     split at hs
     ·exact q3.xM b ⟨i,s,hs,hb⟩
     ·cases hs
  cases e' with
  | normal=>exact fin (.inl rfl)
  | ret=>exact fin (.inr rfl)
  | exit id=>exact q1.elim
  | goto l=>exact q1.elim
  | panic ch=>exact q1.elim
  | outgrown=>exact q1.elim
end
end
section
open Go.RowKit
mutual
inductive ya (S:Nat→Bool) (H:List zf):D→D→Prop
 | refl (d:D):ya S H d d
 | xt (d:D):ya S H d .xt
 | none (zF:Nat):ya S H (.sc (.slice none 0 0)) (.xj zF [])
 | loc (id off:Nat) (q:Bool) (cs ds:List D) (hm:S id=true) (h:H[id]? = some (.row q cs)) (k:zP S H (cs.drop off) ds):ya S H (.loc id off) (.xk ds)
 | own (id zW lo hi zF:Nat) (q:Bool) (xs ys:List (List D)) (hm:S id=true) (h:H[id]? = some (.vec q zW zF xs)) (k:zJ S H ((xs.take hi).drop lo) ys):ya S H (.own id zW lo hi) (.xj zF ys)
 | fn (f:Fn) (a b c e:List D) (h:zP S H a b) (k:zP S H c e):ya S H (.fn f a c) (.fn f b e)
 | ifc (t:TypeId) (d e:D) (h:ya S H d e):ya S H (.ifc t d) (.ifc t e)
 | agg (a b:List D) (h:zP S H a b):ya S H (.agg a) (.agg b)
 | yI (a b:List D) (h:zP S H a b):ya S H (.yI a) (.yI b)
inductive zP (S:Nat→Bool) (H:List zf):List D→List D→Prop
 | refl (l:List D):zP S H l l
 | cons (d e:D) (a b:List D) (h:ya S H d e) (k:zP S H a b):zP S H (d::a) (e::b)
inductive zJ (S:Nat→Bool) (H:List zf):List (List D)→List (List D)→Prop
 | refl (l:List (List D)):zJ S H l l
 | cons (x y:List D) (a b:List (List D)) (h:zP S H x y) (k:zJ S H a b):zJ S H (x::a) (y::b)
 | append (x y a b:List (List D)) (h:zJ S H x y) (k:zJ S H a b):zJ S H (x++a) (y++b)
end
def Z4 (S:Nat→Bool) (J:yK) (b:Nat):Prop:=∃id s,S id=true∧J id=some s∧s.uB=some b
section
variable {J:yK} {F:Nat→Prop} {w:World} {H:List zf} {S:Nat→Bool}
mutual
theorem WX:∀(d e:List D),zP S H d e→d.length=e.length
 | _,_,.refl _=>rfl
 | _,_,.cons d e a b _ k=>by simp[WX a b k]
theorem ug:∀(d e:List (List D)),zJ S H d e→d.length=e.length
 | _,_,.refl _=>rfl
 | _,_,.cons d e a b _ k=>by simp[ug a b k]
 | _,_,.append x y a b h k=>by simp[ug x y h,ug a b k]
end
theorem zbK {b zF:Nat}:∀(xs ys:List (List D)) (o:Nat),yd J F w b zF (xs++ys) o↔yd J F w b zF xs o∧yd J F w b zF ys (o+xs.length*zF)
 | [],ys,o=>by simp[yd]
 | x::r,ys,o=>by
  simp only[List.cons_append,yd,zbK r ys,List.length_cons,and_assoc]
  rw[show o+zF+r.length*zF=o+(r.length+1)*zF by rw[Nat.add_mul];omega]
mutual
theorem qL (hok:yL J F w (λi=>H[i]?)):∀(d e:D) (v:Value),ya S H d e→rep J F w d v→rep J (λb=>F b∨Z4 S J b) w e v
 | d,_,v,.refl _,h=>yE (yK.le_refl J) (λ_ h=>.inl h) (λ_ _=>rfl) d v h
 | _,_,v,.xt _,_=>by simp only[rep]
 | _,_,v,.none zF,h=>by
  simp only[rep] at h ⊢
  exact⟨none,0,0,h,rfl,Nat.le_refl _,.inl rfl⟩
 | _,_,v,.loc id off q cs ds hm h k,hv=>by
  simp only[rep] at hv ⊢
  obtain⟨s,b,h1,h2,h3,rfl⟩:=hv
  have hc:=uY (zrq hok h1 h3 h) off
  refine⟨b,off,rfl,.inr ⟨id,s,hm,h1,by simp[Site.uB,h2,h3]⟩,?_⟩
  rw[Nat.zero_add] at hc
  exact ve hok _ _ b off k hc
 | _,_,v,.own id zW lo hi zF q xs ys hm h k,hv=>by
  simp only[rep] at hv ⊢
  obtain⟨s,A,n,c,h1,rfl,h2,h3⟩:=hv
  obtain⟨p1,p2,p3,p4,p5,p6⟩:=Qe hok h1 h
  obtain⟨t1,t2,t3,rfl,rfl,t6⟩:=h3 p2.symm
  have hl:ys.length=hi-lo:=by
   rw[←ug _ _ k];simp;omega
  refine⟨A,_,_,rfl,hl.symm,by omega,?_⟩
  rcases t6 with t6|⟨b,o,t6,rfl⟩
  ·exact .inl (by omega)
  ·rcases p6 with p6|⟨b',o',vals,te,e,q1,q2,q3,q4⟩
   ·exact .inl (by omega)
   ·rw[t6] at e;cases e
    by_cases hz:s.cap=0
    ·exact .inl (by omega)
    ·refine .inr ⟨b,_,rfl,.inr ⟨id,s,hm,h1,by simp[Site.uB,hz,t6]⟩,?_⟩
     rw[p3]
     exact wK hok _ _ b zF _ k (vC q3 lo hi)
 | _,_,v,.fn f a b c e h k,hv=>by
  simp only[rep] at hv ⊢
  obtain⟨vs,us,rfl,h2,h3⟩:=hv
  exact⟨vs,us,rfl,qU hok _ _ vs h h2,qU hok _ _ us k h3⟩
 | _,_,v,.ifc t d e h,hv=>by
  simp only[rep] at hv ⊢
  obtain⟨u,rfl,h2⟩:=hv
  exact⟨u,rfl,qL hok _ _ u h h2⟩
 | _,_,v,.agg a b h,hv=>by
  simp only[rep] at hv ⊢
  obtain⟨vs,rfl,h2⟩:=hv
  exact⟨vs,rfl,qU hok _ _ vs h h2⟩
 | _,_,v,.yI a b h,hv=>by
  simp only[rep] at hv ⊢
  obtain⟨vs,rfl,h2⟩:=hv
  exact⟨vs,rfl,qU hok _ _ vs h h2⟩
theorem qU (hok:yL J F w (λi=>H[i]?)):∀(d e:List D) (v:List Value),zP S H d e→zY J F w d v→zY J (λb=>F b∨Z4 S J b) w e v
 | d,_,v,.refl _,h=>ZC (yK.le_refl J) (λ_ h=>.inl h) (λ_ _=>rfl) d v h
 | _,_,v,.cons d e a b h k,hv=>by
  simp only[zY] at hv ⊢
  obtain⟨u,us,rfl,h2,h3⟩:=hv
  exact⟨u,us,rfl,qL hok _ _ u h h2,qU hok _ _ us k h3⟩
theorem ve (hok:yL J F w (λi=>H[i]?)):∀(d e:List D) (b o:Nat),zP S H d e→zN J F w b d o→zN J (λb=>F b∨Z4 S J b) w b e o
 | d,_,b,o,.refl _,h=>uR (yK.le_refl J) (λ_ h=>.inl h) (λ_ _=>rfl) b (λ_=>rfl) d o h
 | _,_,b,o,.cons d e x y h k,hv=>by
  simp only[zN] at hv ⊢
  obtain⟨⟨u,h1,h2,h3⟩,h4⟩:=hv
  exact⟨⟨u,h1,h2,qL hok _ _ u h h3⟩,ve hok _ _ b (o+1) k h4⟩
theorem wK (hok:yL J F w (λi=>H[i]?)):∀(d e:List (List D)) (b zF o:Nat),zJ S H d e→yd J F w b zF d o→yd J (λb=>F b∨Z4 S J b) w b zF e o
 | d,_,b,zF,o,.refl _,h=>YL (yK.le_refl J) (λ_ h=>.inl h) (λ_ _=>rfl) b zF (λ_=>rfl) d o h
 | _,_,b,zF,o,.cons d e x y h k,hv=>by
  simp only[yd] at hv ⊢
  obtain⟨h1,h2,h3⟩:=hv
  exact⟨by rw[←WX _ _ h];exact h1,ve hok _ _ b o h h2,wK hok _ _ b zF (o+zF) k h3⟩
 | _,_,b,zF,o,.append x y a c h k,hv=>by
  rw[zbK] at hv ⊢
  refine⟨wK hok _ _ b zF o h hv.1,?_⟩
  rw[←ug _ _ h]
  exact wK hok _ _ b zF _ k hv.2
end
end
def Yy (m:Nat):Nat→Bool:=λi=>Nat.ble m i
theorem zfL {m i:Nat}:Yy m i=true↔m≤i:=by simp[Yy]
def St.leB (L n:Nat) (env:Env) (H:List zf) (env':Env) (H':List zf):Prop:=∀J F a w,wD n J F env H a w→∃J' F',wD n J' F' env' H' a w∧(∀i s,i<L→J i=some s→J' i=some s)∧(∀b,F b→F' b)∧(∀b,Zm J' b→Zm J b)∧∀b,F' b→F b∨Zm J b
theorem zck {L n:Nat} {env env':Env} {H:List zf} (h:Vh env env'):St.leB L n env H env' H:=λJ F a w hr =>
 ⟨J,F,⟨hr.defers,hr.size,λt=>by
  rcases Qx env' h t with e|e
  ·rw[e];exact hr.tmps t
  ·rw[e];simp only[rep],hr.ok,hr.dom⟩,λ_ _ _ h=>h,λ_ h=>h,λ_ h=>h,λ_ h=>.inl h⟩
theorem wA {L n:Nat} {env env' env'':Env} {H H' H'':List zf} (h:St.leB L n env H env' H') (k:St.leB L n env' H' env'' H''):St.leB L n env H env'' H'':=λJ F a w hr=>by
 obtain⟨J',F',h1,h2,h3,h4,h5⟩:=h J F a w hr
 obtain⟨J'',F'',k1,k2,k3,k4,k5⟩:=k J' F' a w h1
 exact⟨J'',F'',k1,λi s q1 q2=>k2 i s q1 (h2 i s q1 q2),λb hb=>k3 b (h3 b hb),λb hb=>h4 b (k4 b hb),λb hb=>(k5 b hb).elim (h5 b) λq=>.inr (h4 b q)⟩
def zgL (m:Nat) (H:List zf) (env:Env):Env→Prop
 | []=>True
 | (t,d)::r=>ya (Yy m) H (xy t env) d∧zp m d∧zgL m H env r
def zkB (m:Nat) (H:List zf):zf→zf→Prop
 | .row q cs,.row q' cs'=>q=q'∧zP (Yy m) H cs cs'∧zl m cs'
 | .vec q v e xs,.vec q' v' e' xs'=>q=q'∧v=v'∧e=e'∧zJ (Yy m) H xs xs'∧zD m xs'
 | .xL q I,.xL q' I'=>q=q'∧I=I'
 | _,_=>False
def XZ (m:Nat) (H:List zf):List zf→List zf→Prop
 | _,[]=>True
 | o::r,o'::r'=>zkB m H o o'∧XZ m H r r'
 | [],_::_=>False
theorem zbJ {m:Nat} {H:List zf} {env:Env}:∀(env':Env),zgL m H env env'→∀t,(ya (Yy m) H (xy t env) (xy t env')∧zp m (xy t env'))∨xy t env'=.xt
 | [],_,t=>.inr rfl
 | (k,d)::r,h,t=>by
  simp only[zgL] at h
  rw[u9]
  split
  ·rename_i e;subst e;exact .inl ⟨h.1,h.2.1⟩
  ·exact zbJ r h.2.2 t
theorem Xe {m:Nat} {H:List zf}:∀(l l':List zf),XZ m H l l'→∀i (o:zf),i<l'.length→l[i]? = some o→∃o',l'[i]? = some o'∧zkB m H o o'
 | _,[],_,i,o,hi,_=>by simp at hi
 | [],_::_,h,i,o,hi,_=>by simp only[XZ] at h
 | o::r,o'::r',h,0,x,_,hx=>by
  simp at hx;subst hx
  exact⟨o',rfl,h.1⟩
 | o::r,o'::r',h,i+1,x,hi,hx=>by
  simpa using Xe r r' h.2 i x (by simpa using hi) (by simpa using hx)
theorem US {J:yK} {F:Nat→Prop} {w:World} {H:List zf} {m:Nat} (hok:yL J F w (λi=>H[i]?)) {s:Site} {o o':zf} (h:zkB m H o o') (k:Yl J F w s o):Yl (yg m J) (λb=>F b∨Z4 (Yy m) J b) w s o'∧o'.mut=o.mut:=by
 cases o with
 | row q cs =>
  cases o' with
  | vec=>exact h.elim
  | xL=>exact h.elim
  | row q' cs' =>
   obtain⟨rfl,h1,h2⟩:=h
   obtain⟨k1,k2,k3,k4,k5,b,vals,te,t1,t2,t3,t4,t5⟩:=k
   have hl:=WX _ _ h1
   exact⟨⟨k1,k2,k3,by rw[←hl];exact k4,by rw[←hl];exact k5,b,vals,te,t1,t2,by rw[←hl];exact t3,uO b cs' 0 h2 (ve hok _ _ b 0 h1 t4),λe=>.inl (t5 e)⟩,rfl⟩
 | vec q v e xs =>
  cases o' with
  | row=>exact h.elim
  | xL=>exact h.elim
  | vec q' v' e' xs' =>
   obtain⟨rfl,rfl,rfl,h1,h2⟩:=h
   obtain⟨k1,k2,k3,k4,k5,k6⟩:=k
   have hl:=ug _ _ h1
   exact⟨⟨k1,k2,k3,by rw[←hl];exact k4,k5,k6.imp_right λ⟨b,o,vals,te,t1,t2,t3,t4,t5⟩=>⟨b,o,vals,te,t1,t2,t3,YM b e xs' o h2 (wK hok _ _ b e o h1 t4),λe=>.inl (t5 e)⟩⟩,rfl⟩
 | xL q I =>
  cases o' with
  | row=>exact h.elim
  | vec=>exact h.elim
  | xL q' I' =>
   obtain⟨rfl,rfl⟩:=h
   exact⟨k,rfl⟩
theorem zj {L n:Nat} (m:Nat) {env env':Env} {H H':List zf} (hL:L≤m) (hm:H'.length=m) (hE:zgL m H env env') (hH:XZ m H H H'):St.leB L n env H env' H':=λJ F a w hr=>by
 refine⟨yg m J,λb=>F b∨Z4 (Yy m) J b,⟨hr.defers,hr.size,λt=>?_,⟨λi s hs=>?_,λi i' s s' b g1 g2 g3 g4=>?_,λi s b o g1 g2 g3 g4=>?_,hr.ok.lt.mono (λ_ h=>.inl h) (λ_ _=>rfl) λb hb=>?_⟩,λi hi=>?_⟩,λi s hi hs=>?_,λb hb=>.inl hb,λb ⟨i,s,hs,hb⟩=>?_,λb hb=>hb.imp_right λ⟨i,s,_,h1,h2⟩=>⟨i,s,h1,h2⟩⟩
 ·rcases zbJ env' hE t with⟨h1,h2⟩|e
  ·exact Wt _ _ h2 (qL hr.ok _ _ _ h1 (hr.tmps t))
  ·rw[e];simp only[rep]
 ·unfold yg at hs
  split at hs
  ·rename_i hi
   obtain⟨o,h1,h2⟩:=hr.ok.obj i s hs
   obtain⟨o',h3,h4⟩:=Xe H H' hH i o (by omega) h1
   exact⟨o',h3,(US hr.ok h4 h2).1⟩
  ·cases hs
 ·unfold yg at g1 g2
  split at g1<;>split at g2
  ·exact hr.ok.one i i' s s' b g1 g2 g3 g4
  all_goals first|cases g1|cases g2
 ·unfold yg at g1
  split at g1
  ·rename_i hi
   obtain⟨o1,h1,h2⟩:=hr.ok.obj i s g1
   obtain⟨o',h3,h4⟩:=Xe H H' hH i o1 (by omega) h1
   have h3':H'[i]? = some o:=g3
   rw[h3'] at h3
   cases h3
   have hmut:=(US hr.ok h4 h2).2
   rintro(hx|⟨i',s',p1,p2,p3⟩)
   ·exact hr.ok.apart i s b o1 g1 g2 h1 (by rw[←hmut];exact g4) hx
   ·have p1:=zfL.1 p1
    have:=hr.ok.one i i' s s' b g1 p2 g2 p3
    omega
  ·cases g1
 ·exact hb.elim (hr.ok.lt b) λ⟨i,s,_,h1,h2⟩=>hr.ok.xd h1 h2
 ·unfold yg at hi
  split at hi
  ·omega
  ·exact absurd rfl hi
 ·unfold yg;rw[if_pos (by omega)];exact hs
 ·unfold yg at hs
  split at hs
  ·exact⟨i,s,hs,hb⟩
  ·cases hs
theorem zif {L n:Nat} (t zF zW:Nat) {env:Env} {H:List zf} (hL:L≤H.length) (h:xy t env=.sc (.slice none 0 0)):St.leB L n env H ((t,.own H.length zW 0 0)::env) (H++[.vec true zW zF []]):=λJ F a w hr=>by
 have hfree:J H.length=none:=by
  cases e:J H.length with
  | none=>rfl
  | some s=>have:=hr.dom H.length (by rw[e];simp);omega
 let J':yK:=λi=>if i=H.length then some ⟨false,zW,none,zF,0,0⟩ else J i
 have hle:J.le J':=λi s hs=>⟨s,by
  have:i≠H.length:=λe=>by subst e;rw[hfree] at hs;cases hs
  simp[J',this,hs],Nat.le_refl _,λ_=>rfl⟩
 have hget:∀i,i≠H.length→(H++[zf.vec true zW zF []])[i]? = H[i]?:=λi hi=>by
  rcases Nat.lt_or_ge i H.length with q|q
  ·rw[List.getElem?_append_left q]
  ·rw[List.getElem?_eq_none q,List.getElem?_eq_none (by simp;omega)]
 refine⟨J',F,⟨hr.defers,hr.size,λu=>?_,⟨λi s hs=>?_,λi i' s s' b g1 g2 g3 g4=>?_,λi s b o g1 g2 g3 g4=>?_,hr.ok.lt⟩,λi hi=>?_⟩,λi s hi hs=>?_,λb hb=>hb,λb ⟨i,s,hs,hb⟩=>?_,λb hb=>.inl hb⟩
 ·rw[u9]
  split
  ·rename_i e;subst e
   have:=hr.tmps u
   rw[h] at this
   simp only[rep] at this ⊢
   exact⟨_,none,0,0,by simp[J'];rfl,this,Nat.le_refl _,λ_=>⟨rfl,Nat.le_refl _,Nat.zero_le _,rfl,rfl,.inl rfl⟩⟩
  ·exact yE hle (λ_ h=>h) (λ_ _=>rfl) _ _ (hr.tmps u)
 ·simp only[J'] at hs
  split at hs
  ·rename_i e;subst e
   cases hs
   exact⟨.vec true zW zF [],by simp,rfl,rfl,rfl,rfl,Nat.le_refl _,.inl rfl⟩
  ·rename_i e
   obtain⟨o,h1,h2⟩:=hr.ok.obj i s hs
   exact⟨o,by rw[hget i e];exact h1,xE hle (λ_ h=>h) (λ_ _=>rfl) (λ_ _=>rfl) h2⟩
 ·simp only[J'] at g1 g2
  split at g1
  ·cases g1;simp[Site.uB] at g3
  ·split at g2
   ·cases g2;simp[Site.uB] at g4
   ·exact hr.ok.one i i' s s' b g1 g2 g3 g4
 ·simp only[J'] at g1
  split at g1
  ·cases g1;simp[Site.uB] at g2
  ·rename_i e
   exact hr.ok.apart i s b o g1 g2 (by rw[←hget i e];exact g3) g4
 ·simp only[J'] at hi
  rw[List.length_append,List.length_singleton]
  split at hi
  ·omega
  ·have:=hr.dom i hi;omega
 ·have:i≠H.length:=by omega
  simp[J',this,hs]
 ·simp only[J'] at hs
  split at hs
  ·cases hs;simp[Site.uB] at hb
  ·exact⟨i,s,hs,hb⟩
theorem y8 {L n:Nat} (t zF:Nat) {env:Env} {H:List zf} (hL:L≤H.length) (h:xy t env=.sc (.slice none 0 0)):St.leB L n env H ((t,.own H.length 0 0 0)::env) (H++[.vec true 0 zF []]):=zif t zF 0 hL h
section
variable {P:Program} {n:Nat}
def zli {ι:Type} (L n:Nat) (Q:qj) (E:ι→Env) (O:ι→List zf) (G:ι→Prop) (m:ι→Nat) (k:Nat):qj
 | .normal,env,H=>∃j,G j∧m j<k∧St.leB L n env H (E j) (O j)
 | e,env,H=>Q e env H
theorem zcq {L:Nat} {J J1 J2:yK} {F F1 F2:Nat→Prop} {w w1:World} (hd:∀id,J id≠none→id<L) (h:Ext J F w J1 F1 w1) (k1:∀i s,i<L→J1 i=some s→J2 i=some s) (k2:∀b,F1 b→F2 b) (k3:∀b,Zm J2 b→Zm J1 b) (k4:∀b,F2 b→F1 b∨Zm J1 b):Ext J F w J2 F2 w1 :=
 ⟨h.os,h.tape,h.output,h.size,h.block,h.frozen,λi s hs=>by
  obtain⟨s',g1,g2⟩:=h.le i s hs
  exact⟨s',k1 i s' (hd i (by rw[hs];simp)) g1,g2⟩,λb hb=>k2 b (h.grow b hb),λb hb=>h.xM b (k3 b hb),λb hb=>by
  rcases k4 b hb with q|q
  ·exact h.we b q
  ·rcases h.xM b q with q|q
   ·exact .inr (.inl q)
   ·exact .inr (.inr q)⟩
theorem UU {p:PC} {Q:qj} {env:Env} {H:List zf} {ι:Type} (E:ι→Env) (O:ι→List zf) (G:ι→Prop) (m:ι→Nat) (i:ι) (h0:G i) (h1:St.leB H.length n env H (E i) (O i))
  (round:∀j,G j→PWp P n p (zli H.length n Q E O G m (m j)) (E j) (O j)):PWp P n (.loop p) Q env H:=Yx λc hc J F a w hr=>by
 obtain⟨c',rfl,hc'⟩:=zgC hc
 obtain⟨J0,F0,k1,k2,k3,k4,k5⟩:=h1 J F a w hr
 have k6:Ext J F w J0 F0 w:=zcq hr.dom (Ext.refl J F w) k2 k3 k4 k5
 refine wp_loop_ghost (λk a' w'=>∃j J' F',G j∧m j=k∧wD n J' F' (E j) (O j) a' w'∧Ext J F w J' F' w') (m i) ⟨i,J0,F0,h0,rfl,k1,k6⟩ λk a1 w1 ⟨j,J1,F1,g1,g2,g3,g4⟩=>?_
 refine wp_mono (uD (round j g1) hc' g3) λe a2 w2 ⟨env',H',J',F',q1,q2,q3⟩=>?_
 cases e with
 | normal =>
  obtain⟨j',r1,r2,r3⟩:=q1
  obtain⟨J2,F2,t1,t2,t3,t4,t5⟩:=r3 J' F' a2 w2 q2
  exact⟨m j',by omega,j',J2,F2,r1,rfl,t1,zcq hr.dom (g4.trans q3) t2 t3 t4 t5⟩
 | _=>exact⟨env',H',J',F',q1,q2,g4.trans q3⟩
theorem zE {p:PC} {Q:qj} {env env':Env} {H H':List zf} (h:St.leB H.length n env H env' H') (k:PWp P n p Q env' H'):PWp P n p Q env H :=
 Yx λc hc J F a w hr=>by
  obtain⟨J',F',h1,h2,h3,h4,h5⟩:=h J F a w hr
  exact wp_mono (uD k hc h1) λe a' w' q=>zdl (zcq hr.dom (Ext.refl J F w) h2 h3 h4 h5) q
end
section
variable {P:Program}
end
end
section
open Go.RowKit
section
variable {P:Program} {f:FuncId}
theorem zbh {args:List D} {H0 H0' H H':List zf} {d:D} (ρ:Nat→Nat) (hA:yB P f args H0 d H0') (inj:∀i j,i<H0'.length→j<H0'.length→ρ i=ρ j→i=j) (hold:∀i o,H0[i]? = some o→H[ρ i]? = some (o.yy ρ))
  (hnew:∀i,H0.length≤i→i<H0'.length→H.length≤ρ i) (hlen:H.length≤H'.length) (h1:∀i o,H0'[i]? = some o→H'[ρ i]? = some (o.yy ρ)) (h2:∀j,j<H.length→(∀i,i<H0.length→ρ i≠j)→H'[j]? = H[j]?)
  (hargs:zl H0.length args) (hobj:∀o∈H0,o.under H0.length):yB P f (yG ρ args) H (D.yy ρ d) H':=by
 obtain⟨hok,hl0,hrun⟩:=hA
 refine⟨hok,hlen,λJ F w vs hst hdom hrep=>?_⟩
 have h0get:∀i,i<H0.length→H0[i]? = some (H0[i]!):=λi hi=>by rw[List.getElem!_eq_getElem?_getD,List.getElem?_eq_getElem hi];rfl
 have hst0:yL (yg H0.length λi=>J (ρ i)) F w (λi=>H0[i]?):=by
  refine⟨λi s hs=>?_,λi i' s s' b g1 g2 g3 g4=>?_,λi s b o g1 g2 g3 g4=>?_,hst.lt⟩
  ·unfold yg at hs
   split at hs
   ·rename_i hi
    have ho:=h0get i hi
    refine⟨_,ho,Qz (hobj _ (List.mem_of_getElem? ho)) (Un.2 ?_)⟩
    obtain⟨o',q1,q2⟩:=hst.obj (ρ i) s hs
    have q1':H[ρ i]? = some o':=q1
    rw[hold i _ ho] at q1'
    cases q1'
    exact q2
   ·cases hs
  ·unfold yg at g1 g2
   split at g1<;>split at g2
   ·exact inj i i' (by omega) (by omega) (hst.one (ρ i) (ρ i') s s' b g1 g2 g3 g4)
   all_goals first|cases g1|cases g2
  ·unfold yg at g1
   split at g1
   ·exact hst.apart (ρ i) s b (o.yy ρ) g1 g2 (hold i o g3) (by rw[zca];exact g4)
   ·cases g1
 have hd0:∀id,yg H0.length (λi=>J (ρ i)) id≠none→id<H0.length:=λid hid=>by
  unfold yg at hid
  split at hid
  ·assumption
  ·exact absurd rfl hid
 have hr0:zY (yg H0.length λi=>J (ρ i)) F w args vs:=ZN _ _ hargs ((vH args vs).2 hrep)
 have own0:∀b,Zm (yg H0.length λi=>J (ρ i)) b→∃i s,i<H0.length∧J (ρ i)=some s∧s.uB=some b:=λb ⟨i,s,hs,hb⟩=>by
  unfold yg at hs
  split at hs
  ·exact⟨i,s,by assumption,hs,hb⟩
  ·cases hs
 have main:=hrun _ F w vs hst0 hd0 hr0
 refine Calls.mono main λe w' ⟨v,J0',F',he,st',dom',rp',ex⟩=>?_
 let J':yK:=λid=>match back ρ H0'.length id with|some i=>J0' i|none=>J id
 have jat:∀i,i<H0'.length→J' (ρ i)=J0' i:=λi hi=>by simp only[J',zmA inj hi]
 have jno:∀id,back ρ H0'.length id=none→J' id=J id:=λid h=>by simp only[J',h]
 have hle:J.le J':=λid s hs=>by
  cases e:back ρ H0'.length id with
  | none=>exact⟨s,by rw[jno id e];exact hs,Nat.le_refl _,λ_=>rfl⟩
  | some i =>
   obtain⟨k1,rfl⟩:=xi e
   have hi:i<H0.length:=by
    rcases Nat.lt_or_ge i H0.length with q|q
    ·exact q
    ·have:=hnew i q k1
     have:=hdom (ρ i) (by rw[hs];simp)
     omega
   obtain⟨s',g1,g2⟩:=ex.le i s (by simp only[yg,if_pos hi];exact hs)
   exact⟨s',by rw[jat i k1];exact g1,g2⟩
 have hleρ:J0'.le (λi=>J' (ρ i)):=λi s hs=>⟨s,by
  dsimp only
  rw[jat i (dom' i (by rw[hs];simp))];exact hs,Nat.le_refl _,λ_=>rfl⟩
 have nown:∀id s b,back ρ H0'.length id=none→J id=some s→s.uB=some b→¬Zm (yg H0.length λi=>J (ρ i)) b:=λid s b hb hs hblk ho=>by
  obtain⟨i,s',k1,k2,k3⟩:=own0 b ho
  exact ZH hb i (by omega) (hst.one (ρ i) id s' s b k2 hs k3 hblk)
 refine⟨v,J',F',he,⟨λid s hs=>?_,λid id' s s' b g1 g2 g3 g4=>?_,λid s b o g1 g2 g3 g4=>?_,st'.lt⟩,λid hid=>?_,(XU d v).1 (yE hleρ (λ_ h=>h) (λ_ _=>rfl) _ _ rp'),?_⟩
 ·cases e:back ρ H0'.length id with
  | some i =>
   obtain⟨k1,rfl⟩:=xi e
   rw[jat i k1] at hs
   obtain⟨o,q1,q2⟩:=st'.obj i s hs
   exact⟨o.yy ρ,h1 i o q1,Un.1 (xE hleρ (λ_ h=>h) (λ_ _=>rfl) (λ_ _=>rfl) q2)⟩
  | none =>
   rw[jno id e] at hs
   obtain⟨o,q1,q2⟩:=hst.obj id s hs
   refine⟨o,?_,xE hle ex.grow ex.frozen (λb hb=>ex.block b (hst.xd hs hb) (nown id s b e hs hb)) q2⟩
   show H'[id]? = some o
   rw[h2 id (hdom id (by rw[hs];simp)) λi hi=>ZH e i (by omega)]
   exact q1
 ·cases e:back ρ H0'.length id with
  | some i =>
   obtain⟨k1,rfl⟩:=xi e
   rw[jat i k1] at g1
   cases e':back ρ H0'.length id' with
   | some i' =>
    obtain⟨k1',rfl⟩:=xi e'
    rw[jat i' k1'] at g2
    rw[st'.one i i' s s' b g1 g2 g3 g4]
   | none =>
    rw[jno id' e'] at g2
    rcases ex.xM b ⟨i,s,g1,g3⟩ with q|q
    ·exact absurd q (nown id' s' b e' g2 g4)
    ·have:=hst.xd g2 g4;omega
  | none =>
   rw[jno id e] at g1
   cases e':back ρ H0'.length id' with
   | some i' =>
    obtain⟨k1',rfl⟩:=xi e'
    rw[jat i' k1'] at g2
    rcases ex.xM b ⟨i',s',g2,g4⟩ with q|q
    ·exact absurd q (nown id s b e g1 g3)
    ·have:=hst.xd g1 g3;omega
   | none =>
    rw[jno id' e'] at g2
    exact hst.one id id' s s' b g1 g2 g3 g4
 ·have g3':H'[id]? = some o:=g3
  cases e:back ρ H0'.length id with
  | some i =>
   obtain⟨k1,rfl⟩:=xi e
   rw[jat i k1] at g1
   obtain⟨o0,q1,_⟩:=st'.obj i s g1
   rw[h1 i o0 q1] at g3'
   cases g3'
   exact st'.apart i s b o0 g1 g2 q1 (by rw[zca] at g4;exact g4)
  | none =>
   rw[jno id e] at g1
   rw[h2 id (hdom id (by rw[g1];simp)) λi hi=>ZH e i (by omega)] at g3'
   intro hx
   rcases ex.we b hx with q|q|q
   ·exact hst.apart id s b o g1 g2 g3' g4 q
   ·exact nown id s b e g1 g2 q
   ·have:=hst.xd g1 g2;omega
 ·cases e:back ρ H0'.length id with
  | some i =>
   obtain⟨k1,rfl⟩:=xi e
   have:=h1 i _ (List.getElem?_eq_getElem k1)
   exact vz this
  | none =>
   rw[jno id e] at hid
   have:=hdom id hid
   omega
 ·refine⟨ex.os,ex.tape,ex.output,ex.size,λb hb hn=>ex.block b hb λho=>?_,ex.frozen,hle,ex.grow,λb ⟨id,s,hs,hb⟩=>?_,λb hb=>?_⟩
  ·obtain⟨i,s,_,k2,k3⟩:=own0 b ho
   exact hn ⟨ρ i,s,k2,k3⟩
  ·cases e:back ρ H0'.length id with
   | some i =>
    obtain⟨k1,rfl⟩:=xi e
    rw[jat i k1] at hs
    refine(ex.xM b ⟨i,s,hs,hb⟩).imp_left λq=>?_
    obtain⟨k,s',_,k2,k3⟩:=own0 b q
    exact⟨ρ k,s',k2,k3⟩
   | none =>
    rw[jno id e] at hs
    exact .inl ⟨id,s,hs,hb⟩
  ·rcases ex.we b hb with q|q|q
   ·exact .inl q
   ·obtain⟨k,s',_,k2,k3⟩:=own0 b q
    exact .inr (.inl ⟨ρ k,s',k2,k3⟩)
   ·exact .inr (.inr q)
theorem zfZ {pre post:List D} {cs cs':List D} {d:D} (h:yB P f (pre++.loc 0 0::post) [.row true cs] d [.row true cs']) (hpre:ze pre) (hpost:ze post) (hcs:ze cs) (hcs':ze cs') (hd:Pure d)
  {H:List zf} {id:Nat} (hid:H[id]? = some (.row true cs)):yB P f (pre++.loc id 0::post) H d (H.set id (.row true cs')):=by
 have hap:∀(a b:List D) (ρ:Nat→Nat),yG ρ (a++b)=yG ρ a++yG ρ b:=λa b ρ=>by
  induction a with
  | nil=>simp only[yG,List.nil_append]
  | cons x r ih=>simp only[List.cons_append,yG,ih]
 have hua:∀(a b:List D),zl 1 a→zl 1 b→zl 1 (a++b):=λa b ha hb=>by
  induction a with
  | nil=>exact hb
  | cons x r ih=>simp only[zl,List.cons_append] at ha ⊢;exact⟨ha.1,ih ha.2⟩
 have one:∀(i:Nat) (x y:zf),[x][i]? = some y→i=0∧y=x:=λi x y h=>by
  cases i with
  | zero=>simp at h;exact⟨rfl,h.symm⟩
  | succ i=>simp at h
 have:=zbh (H:=H) (H':=H.set id (.row true cs')) (λ_=>id) h (λi j hi hj _=>by simp at hi hj;omega) (λi o ho=>by
   obtain⟨_,rfl⟩:=one i _ o ho
   simp only[zf.yy,xU cs hcs];exact hid) (λi h1 h2=>by simp at h1 h2;omega) (by simp) (λi o ho=>by
   obtain⟨_,rfl⟩:=one i _ o ho
   simp only[zf.yy,xU cs' hcs']
   rw[List.getElem?_set_self (vz hid)]) (λj hj hne=>by
   rw[List.getElem?_set_ne (hne 0 (by simp))]) (by
   refine hua _ _ (zt _ hpre) ?_
   simp only[zl,zp]
   exact⟨by simp,zt _ hpost⟩) (λo ho=>by
   simp at ho;subst ho
   exact zt _ hcs)
 rw[hap,xU _ hpre,yx _ hd] at this
 simpa only[yG,D.yy,xU _ hpost] using this
def WJ:List zf→List Nat→List zf→List zf
 | H,i::L,o::r=>WJ (H.set i o) L r
 | H,_,_=>H
theorem Yb:∀(L:List Nat) (os H:List zf),(WJ H L os).length=H.length
 | [],os,H=>by cases os<;>rfl
 | i::L,[],H=>rfl
 | i::L,o::r,H=>by simp only[WJ];rw[Yb L r];simp
theorem JN:∀(L:List Nat) (os H:List zf) (j:Nat),j ∉ L→(WJ H L os)[j]? = H[j]?
 | [],os,H,j,_=>by cases os<;>rfl
 | i::L,[],H,j,_=>rfl
 | i::L,o::r,H,j,h=>by
  simp only[WJ]
  rw[JN L r _ j (λq=>h (by simp[q])),List.getElem?_set_ne (λe=>h (by simp[e]))]
theorem zcb:∀(L:List Nat) (os H:List zf) (k:Nat) (o:zf),L.Nodup→(∀i∈L,i<H.length)→k<L.length→os[k]? = some o→(WJ H L os)[L.getD k 0]? = some o
 | [],os,H,k,o,_,_,h,_=>by simp at h
 | i::L,[],H,k,o,_,_,_,h=>by simp at h
 | i::L,x::r,H,0,o,hn,hl,_,h=>by
  simp only[WJ,List.getD_cons_zero]
  rw[JN L r _ i (List.nodup_cons.1 hn).1,List.getElem?_set_self (hl i (by simp))]
  simpa using h
 | i::L,x::r,H,k+1,o,hn,hl,hk,h=>by
  simp only[WJ,List.getD_cons_succ]
  exact zcb L r _ k o (List.nodup_cons.1 hn).2 (λj hj=>by simpa using hl j (by simp[hj])) (by simpa using hk) (by simpa using h)
theorem zc8 {args0:List D} {H0 H0':List zf} {d0:D} (hA:yB P f args0 H0 d0 H0') (hl:H0'.length=H0.length) (L:List Nat) (hL:L.length=H0.length) (hnd:L.Nodup)
  (hargs:zl H0.length args0) (hobj:wq H0.length H0) {args:List D} {d:D} {H:List zf} (e1:yG (λi=>L.getD i 0) args0=args) (e2:D.yy (λi=>L.getD i 0) d0=d)
  (h1:∀i o,H0[i]? = some o→H[L.getD i 0]? = some (o.yy λi=>L.getD i 0)):Zk P f args H d (WJ H L (H0'.map (zf.yy λi=>L.getD i 0))) L:=by
 subst e1 e2
 have mem:∀{j},j∈L↔∃i,i<H0.length∧L.getD i 0=j:=λ{j}=>by
  rw[List.mem_iff_getElem]
  constructor
  ·rintro⟨i,hi,rfl⟩
   exact⟨i,by omega,by rw[List.getD_eq_getElem?_getD,List.getElem?_eq_getElem hi];rfl⟩
  ·rintro⟨i,hi,rfl⟩
   exact⟨i,by omega,by rw[List.getD_eq_getElem?_getD,List.getElem?_eq_getElem (by omega)];rfl⟩
 have vF:∀id∈L,id<H.length:=λid hid=>by
  obtain⟨i,hi,rfl⟩:=mem.1 hid
  exact vz (h1 i _ (List.getElem?_eq_getElem hi))
 have inj:∀i j,i<H0'.length→j<H0'.length→L.getD i 0=L.getD j 0→i=j:=λi j hi hj e=>by
  rw[List.getD_eq_getElem?_getD,List.getD_eq_getElem?_getD,List.getElem?_eq_getElem (by omega),List.getElem?_eq_getElem (by omega)] at e
  exact(List.getElem_inj hnd).1 e
 refine⟨hA.ok,by rw[Yb];exact Nat.le_refl _,λid hid=>JN _ _ _ _ hid,λid hid=>by rw[Yb];exact vF id hid,λJ F w vs G hst hG _ hrep=>?_⟩
 have core:=Qq (G:=G) (G':=λid=>if id∈L then (WJ H L (H0'.map (zf.yy λi=>L.getD i 0)))[id]? else G id) (λi=>L.getD i 0) hA inj hst (λi o ho=>by
   rw[hG _ (mem.2 ⟨i,vz ho,rfl⟩)];exact h1 i o ho) (λi h1 h2=>by omega) hrep (λi o ho=>by
   have hi:=vz ho
   rw[if_pos (mem.2 ⟨i,by omega,rfl⟩)]
   exact zcb L _ H i _ hnd vF (by omega) (by rw[List.getElem?_map,ho];rfl)) (λj hj=>by
   rw[if_neg λh=>by obtain⟨i,hi,e⟩:=mem.1 h;exact hj i (by omega) e]) hargs (qg hobj)
 refine core.mono λe w' ⟨v,J',F',q1,q2,q3,q4,q5⟩=>⟨v,J',F',q1,q2,λid hid=>(q3 id hid).imp_right λ⟨i,hi,e⟩=>mem.2 ⟨i,by omega,e⟩,q4,q5⟩
theorem zjo {args0:List D} {H0:List zf} {d0:D} (hA:yB P f args0 H0 d0 H0) (L:List Nat) (hL:L.length=H0.length) (hnd:L.Nodup)
  (hargs:zl H0.length args0) (hobj:wq H0.length H0) {args:List D} {d:D} {H:List zf} (e1:yG (λi=>L.getD i 0) args0=args) (e2:D.yy (λi=>L.getD i 0) d0=d)
  (h1:∀i o,H0[i]? = some o→H[L.getD i 0]? = some (o.yy λi=>L.getD i 0)) (m:Nat) {q:Bool} {cs:List D} (hm:D.loc m 0∈args) (hrow:H[m]? = some (.row q cs)) (hmL:m∈L) (yT:∀id∈L,id=m∨∃v lo hi,D.own id v lo hi∈cs):zge P f args H d L:=by
 have hAt:=zc8 hA rfl L hL hnd hargs hobj e1 e2 h1
 have vF:∀id∈L,id<H.length∧(WJ H L (H0.map (zf.yy λi=>L.getD i 0)))[id]? = H[id]?:=λid hid=>by
  obtain⟨i,hi,rfl⟩:=List.mem_iff_getElem.1 hid
  have e:L.getD i 0=L[i]:=by rw[List.getD_eq_getElem?_getD,List.getElem?_eq_getElem hi];rfl
  have hk:=h1 i _ (List.getElem?_eq_getElem (by omega))
  rw[←e]
  refine⟨vz hk,?_⟩
  rw[hk]
  refine zcb L _ H i _ hnd (λj hj=>?_) hi (by rw[List.getElem?_map,List.getElem?_eq_getElem (by omega)];rfl)
  obtain⟨i',hi',rfl⟩:=List.mem_iff_getElem.1 hj
  have:=vz (h1 i' _ (List.getElem?_eq_getElem (by omega)))
  rwa [List.getD_eq_getElem?_getD,List.getElem?_eq_getElem hi'] at this
 refine⟨hA.ok,λJ F w vs G hok hG hrep=>?_⟩
 have hJm:∃s,J m=some s:=by
  have:∀(ds:List D) (us:List Value),D.loc m 0∈ds→zY J F w ds us→∃s,J m=some s:=λds=>by
   induction ds with
   | nil=>intro us h;simp at h
   | cons x r ih =>
    intro us h k
    simp only[zY] at k
    obtain⟨v,us,rfl,k1,k2⟩:=k
    rcases List.mem_cons.1 h with rfl|h
    ·simp only[rep] at k1
     obtain⟨s,b,k1,_⟩:=k1
     exact⟨s,k1⟩
    ·exact ih us h k2
  exact this _ _ hm hrep
 have hJ:∀id∈L,J id≠none:=λid hid=>by
  obtain⟨s,hs⟩:=hJm
  rcases yT id hid with rfl|⟨v,lo,hi,hc⟩
  ·rw[hs];simp
  ·obtain⟨o,k1,k2⟩:=hok.obj m s hs
   rw[hG m hmL,hrow] at k1
   cases k1
   obtain⟨_,_,_,_,_,b,vals,te,_,_,_,k3,_⟩:=k2
   have:∀(ds:List D) (n:Nat),D.own id v lo hi∈ds→zN J F w b ds n→J id≠none:=λds=>by
    induction ds with
    | nil=>intro n h;simp at h
    | cons x r ih =>
     intro n h k
     simp only[zN] at k
     obtain⟨⟨u,_,_,k1⟩,k2⟩:=k
     rcases List.mem_cons.1 h with rfl|h
     ·simp only[rep] at k1
      obtain⟨s',_,_,_,k1,_⟩:=k1
      rw[k1];simp
     ·exact ih _ h k2
   exact this _ _ hc k3
 refine(hAt.run J F w vs G hok hG (λid hid hge=>by have:=(vF id hid).1;omega) hrep).mono λe w' hR=>?_
 obtain⟨v,J',F',rfl,k1,k2,k3,k4⟩:=hR
 refine⟨v,J',F',rfl,?_,λid h=>(k2 id h).elim (λh=>h) (hJ id),k3,k4⟩
 have e:(λid=>if id∈L then (WJ H L (H0.map (zf.yy λi=>L.getD i 0)))[id]? else G id)=G:=by
  funext id
  split
  ·rename_i hid
   rw[(vF id hid).2,hG id hid]
  ·rfl
 rw[e] at k1
 exact k1
def WN (L:List Nat) (h n:Nat):List Nat:=L++List.range' h n
theorem zbx {args0:List D} {H0 H0':List zf} {d0:D} (hA:yB P f args0 H0 d0 H0') (L:List Nat) (hL:L.length=H0.length) (hnd:L.Nodup)
  (hargs:zl H0.length args0) (hobj:wq H0.length H0) {args:List D} {d:D} {H:List zf} (W:List Nat) (hW:W=WN L H.length (H0'.length-H0.length)) (e1:yG (λi=>W.getD i 0) args0=args) (e2:D.yy (λi=>W.getD i 0) d0=d)
  (h1:∀i o,H0[i]? = some o→H[L.getD i 0]? = some (o.yy λi=>W.getD i 0)) {H2:List zf} (e3:WJ H L ((H0'.take H0.length).map (zf.yy λi=>W.getD i 0))++(H0'.drop H0.length).map (zf.yy λi=>W.getD i 0)=H2):Zk P f args H d H2 W:=by
 subst e1 e2 e3
 have hl0:=hA.len
 have vF:∀id∈L,id<H.length:=λid hid=>by
  obtain⟨i,hi,rfl⟩:=List.mem_iff_getElem.1 hid
  have:=vz (h1 i _ (List.getElem?_eq_getElem (by omega)))
  rwa [List.getD_eq_getElem?_getD,List.getElem?_eq_getElem hi] at this
 have hWl:W.length=H0'.length:=by rw[hW,WN,List.length_append,List.length_range'];omega
 have hWn:W.Nodup:=by
  rw[hW,WN,List.nodup_append]
  refine⟨hnd,List.nodup_range',λa ha b hb e=>?_⟩
  have:=vF a ha
  have:=(List.mem_range'_1.1 hb).1
  omega
 have mem:∀{j},j∈W↔∃i,i<H0'.length∧W.getD i 0=j:=λ{j}=>by
  rw[List.mem_iff_getElem]
  constructor
  ·rintro⟨i,hi,rfl⟩
   exact⟨i,by omega,by rw[List.getD_eq_getElem?_getD,List.getElem?_eq_getElem hi];rfl⟩
  ·rintro⟨i,hi,rfl⟩
   exact⟨i,by omega,by rw[List.getD_eq_getElem?_getD,List.getElem?_eq_getElem (by omega)];rfl⟩
 have inj:∀i j,i<H0'.length→j<H0'.length→W.getD i 0=W.getD j 0→i=j:=λi j hi hj e=>by
  rw[List.getD_eq_getElem?_getD,List.getD_eq_getElem?_getD,List.getElem?_eq_getElem (by omega),List.getElem?_eq_getElem (by omega)] at e
  exact(List.getElem_inj hWn).1 e
 have wold:∀i,i<L.length→W.getD i 0=L.getD i 0:=λi hi=>by
  rw[hW,WN,List.getD_eq_getElem?_getD,List.getElem?_append_left hi,List.getD_eq_getElem?_getD]
 have wnew:∀i,L.length≤i→i<H0'.length→W.getD i 0=H.length+(i-L.length):=λi h1 h2=>by
  rw[hW,WN,List.getD_eq_getElem?_getD,List.getElem?_append_right h1,List.getElem?_range' (by omega)]
  simp
 have hN:(WJ H L ((H0'.take H0.length).map (zf.yy λi=>W.getD i 0))++(H0'.drop H0.length).map (zf.yy λi=>W.getD i 0)).length=H.length+(H0'.length-H0.length):=by
  rw[List.length_append,Yb,List.length_map,List.length_drop]
 have at2:∀i o,H0'[i]? = some o→(WJ H L ((H0'.take H0.length).map (zf.yy λi=>W.getD i 0))++(H0'.drop H0.length).map (zf.yy λi=>W.getD i 0))[W.getD i 0]? = some (o.yy λi=>W.getD i 0):=λi o ho=>by
  have hi:=vz ho
  rcases Nat.lt_or_ge i L.length with q|q
  ·rw[wold i q,List.getElem?_append_left (by rw[Yb];exact vF _ (by rw[List.getD_eq_getElem?_getD,List.getElem?_eq_getElem q];exact List.getElem_mem q))]
   refine zcb L _ H i _ hnd vF q ?_
   rw[List.getElem?_map,List.getElem?_take_of_lt (by omega),ho]
   rfl
  ·rw[wnew i q hi,List.getElem?_append_right (by rw[Yb];omega),Yb,List.getElem?_map,List.getElem?_drop,show H0.length+(H.length+(i-L.length)-H.length)=i by omega,ho]
   rfl
 refine⟨hA.ok,by rw[hN];omega,λid hid=>?_,λid hid=>?_,λJ F w vs G hst hG hnone hrep=>?_⟩
 ·have h2:id ∉ L:=λh=>hid (by rw[hW,WN];exact List.mem_append_left _ h)
  rcases Nat.lt_or_ge id H.length with q|q
  ·rw[List.getElem?_append_left (by rw[Yb];exact q),JN _ _ _ _ h2]
  ·rcases Nat.lt_or_ge id (H.length+(H0'.length-H0.length)) with q2|q2
   ·exact absurd (by rw[hW,WN];exact List.mem_append_right _ (List.mem_range'_1.2 ⟨q,q2⟩)) hid
   ·rw[List.getElem?_eq_none q,List.getElem?_eq_none (by rw[hN];exact q2)]
 ·obtain⟨i,hi,rfl⟩:=mem.1 hid
  exact vz (at2 i _ (List.getElem?_eq_getElem hi))
 ·have core:=Qq (G:=G) (G':=λid=>if id∈W then (WJ H L ((H0'.take H0.length).map (zf.yy λi=>W.getD i 0))++(H0'.drop H0.length).map (zf.yy λi=>W.getD i 0))[id]? else G id) (λi=>W.getD i 0) hA inj hst (λi o ho=>by
    have hi:=vz ho
    rw[hG _ (mem.2 ⟨i,by omega,rfl⟩),wold i (by omega)];exact h1 i o ho) (λi q1 q2=>by
    refine hnone _ (mem.2 ⟨i,q2,rfl⟩) ?_
    rw[wnew i (by omega) q2];omega) hrep (λi o ho=>by
    rw[if_pos (mem.2 ⟨i,vz ho,rfl⟩)]
    exact at2 i o ho) (λj hj=>by
    rw[if_neg λh=>by obtain⟨i,hi,e⟩:=mem.1 h;exact hj i hi e]) hargs (qg hobj)
  exact core.mono λe w' ⟨v,J',F',q1,q2,q3,q4,q5⟩=>⟨v,J',F',q1,q2,λid hid=>(q3 id hid).imp_right λ⟨i,hi,e⟩=>mem.2 ⟨i,hi,e⟩,q4,q5⟩
theorem vq {args:List D} {H0':List zf} {d0:D} (hA:yB P f args [] d0 H0') (hp:ze args) {d:D} {H H2:List zf} (W:List Nat) (hW:W=List.range' H.length H0'.length) (e2:D.yy (λi=>W.getD i 0) d0=d)
  (e3:H++H0'.map (zf.yy λi=>W.getD i 0)=H2):Zk P f args H d H2 W :=
 zbx hA [] rfl .nil (zt _ hp) trivial W (by rw[hW];rfl) (xU _ hp) e2 (λi o h=>by simp at h) (by rw[←e3];rfl)
end
end
section
open Go.RowKit
section
variable {P:Program} {n:Nat}
def endD (d:D) (H2:List zf) (r:D) (Hf:List zf):Prop:=ya (Yy H2.length) Hf r d∧XZ H2.length Hf Hf H2
theorem wo {f:FuncId} {rs:List RV} {p:PC} {args:List D} {H:List zf} {d:D} {H2:List zf} (hf:zz P f n rs p) (hn:args.length≤n) (hlen:H.length≤H2.length)
  (h:PWp P n p (zus rs λr Hf=>endD d H2 r Hf) (params 0 args) H) (hd:zp H2.length d):yB P f args H d H2:=by
 refine⟨zcF hf,hlen,λJ F w vs hok hdom hargs=>?_⟩
 obtain⟨fn,h1,h2,h3,h4,h5⟩:=hf.out
 cases e:fn.body with
 | none=>rw[e] at h5;cases h5
 | some c =>
  rw[e] at h5
  simp only[Option.bind_some] at h5
  refine calls_of_wp h1 e ?_
  rw[h2]
  refine wp_mono (uD h h5 (zaJ hn hargs hok hdom)) λe' a' w' ⟨env',H',J',F',q1,q2,q3⟩=>?_
  have fin:e'=.normal∨e'=.ret→a'.defers=[]∧∃v,(results fn a'.tmps).run P w'=.ok v w'∧∃v' J'' F'',Ending.returned v=Ending.returned v'∧yL J'' F'' w' (λi=>H2[i]?)∧(∀id,J'' id≠none→id<H2.length)∧rep J'' F'' w' d v'∧Ext J F w J'' F'' w':=λhe=>by
   obtain⟨r,v,⟨hdm,hcl⟩,k2,k3⟩:=Ue h4 q2 he q1
   have hok':=q2.ok
   have kle:(yg H2.length J').le J':=λi s hs=>by
    unfold yg at hs
    split at hs
    ·exact⟨s,hs,Nat.le_refl _,λ_=>rfl⟩
    ·cases hs
   refine⟨q2.defers,v,k2,v,yg H2.length J',λb=>F' b∨Z4 (Yy H2.length) J' b,rfl,⟨λi s hs=>?_,λi i' s s' b g1 g2 g3 g4=>?_,λi s b o g1 g2 g3 g4=>?_,hok'.lt.mono (λ_ h=>.inl h) (λ_ _=>rfl) λb hb=>?_⟩,λi hi=>?_,Wt _ _ hd (qL hok' _ _ _ hdm k3),?_⟩
   ·unfold yg at hs
    split at hs
    ·rename_i hi
     obtain⟨o,g1,g2⟩:=hok'.obj i s hs
     obtain⟨o',g3,g4⟩:=Xe H' H2 hcl i o hi g1
     exact⟨o',g3,(US hok' g4 g2).1⟩
    ·cases hs
   ·unfold yg at g1 g2
    split at g1<;>split at g2
    ·exact hok'.one i i' s s' b g1 g2 g3 g4
    all_goals first|cases g1|cases g2
   ·unfold yg at g1
    split at g1
    ·rename_i hi
     obtain⟨o1,t1,t2⟩:=hok'.obj i s g1
     obtain⟨o',t3,t4⟩:=Xe H' H2 hcl i o1 hi t1
     have g3':H2[i]? = some o:=g3
     rw[g3'] at t3
     cases t3
     have hmut:=(US hok' t4 t2).2
     rintro(hx|⟨i',s',p1,p2,p3⟩)
     ·exact hok'.apart i s b o1 g1 g2 t1 (by rw[←hmut];exact g4) hx
     ·have p1:=zfL.1 p1
      have:=hok'.one i i' s s' b g1 p2 g2 p3
      omega
    ·cases g1
   ·exact hb.elim (hok'.lt b) λ⟨i,s,_,t1,t2⟩=>hok'.xd t1 t2
   ·unfold yg at hi
    split at hi
    ·assumption
    ·exact absurd rfl hi
   ·refine⟨q3.os,q3.tape,q3.output,q3.size,q3.block,q3.frozen,λi s hs=>?_,λb hb=>.inl (q3.grow b hb),λb ⟨i,s,hs,hb⟩=>?_,λb hb=>?_⟩
    ·obtain⟨s',g1,g2,g3⟩:=q3.le i s hs
     have hi:i<H2.length:=by have:=hdom i (by rw[hs];simp);omega
     exact⟨s',by simp[yg,hi,g1],g2,g3⟩
    ·obtain⟨s',g1,_⟩:=kle i s hs
     unfold yg at hs
     split at hs
     ·exact q3.xM b ⟨i,s,hs,hb⟩
     ·cases hs
    ·rcases hb with hb|⟨i,s,_,t1,t2⟩
     ·exact q3.we b hb
     ·rcases q3.xM b ⟨i,s,t1,t2⟩ with q|q
      ·exact .inr (.inl q)
      ·exact .inr (.inr q)
  cases e' with
  | normal=>exact fin (.inl rfl)
  | ret=>exact fin (.inr rfl)
  | exit id=>exact q1.elim
  | goto l=>exact q1.elim
  | panic ch=>exact q1.elim
  | outgrown=>exact q1.elim
end
end
section
open Go.RowKit
abbrev WP:=qj→Env→List zf→Prop
def zvc:WP:=λQ env H=>Q .normal env H
def seqQ (g:WP) (Q:qj):qj:=λe env H=>match e with
 | .normal=>g Q env H
 | e=>Q e env H
def seqW (f g:WP):WP:=λQ env H=>f (seqQ g Q) env H
def zvl (c:Operand) (f g:WP):WP:=λQ env H=>Zg env c λd=>match d with
 | .sc (.bool t)=>ifK t (f Q env H) (g Q env H)
 | _=>False
def zwZ (id:Nat) (Q:qj):qj:=λe env H=>match e with
 | .exit id'=>match Nat.beq id' id with
  | true=>Q .normal env H
  | false=>Q (.exit id') env H
 | e=>Q e env H
def zqN (id:Nat) (f:WP):WP:=λQ env H=>f (zwZ id Q) env H
def zvg (P:Program) (n:Nat) (c:PC):WP:=λQ env H=>PWp P n (.loop c) Q env H
def zvv (P:Program) (n:Nat) (c:PC):WP:=λQ env H=>PWp P n c Q env H
def zvo (id:Nat):WP:=λQ env H=>Q (.exit id) env H
def retW:WP:=λQ env H=>Q .ret env H
abbrev WO:=Env→List zf→(Env→List zf→Prop)→Prop
def nilO:WO:=λenv H K=>K env H
def opO (P:Program) (o:ym) (g:WO):WO:=λenv H K =>
 match o.guard with
 | none=>step P true o.op env H λd H' _ _=>match o.dst with
  | some t=>g ((t,d)::env) H' K
  | none=>g env H' K
 | some (t,b)=>Vd t (λq=>match q with
  | .sc (.bool c)=>match b with
   | true=>ifK c
    (step P true o.op env H λd H' _ _=>match o.dst with
     | some u=>g ((u,d)::env) H' K
     | none=>g env H' K)
    (match o.dst with
     | some u=>g ((u,.sc undef)::env) H K
     | none=>g env H K)
   | false=>ifK c
    (match o.dst with
     | some u=>g ((u,.sc undef)::env) H K
     | none=>g env H K)
    (step P true o.op env H λd H' _ _=>match o.dst with
     | some u=>g ((u,d)::env) H' K
     | none=>g env H' K)
  | .sc (.tuple _)=>match o.dst with
   | some u=>g ((u,.sc undef)::env) H K
   | none=>g env H K
  | _=>False) env
def opsW (f:WO):WP:=λQ env H=>f env H λenv H=>Q .normal env H
abbrev WD:=Env→List zf→(Env→List zf→Trace→Prop)→Prop
def nilD:WD:=λenv H K=>K env H []
def opD (P:Program) (o:ym) (g:WD):WD:=λenv H K =>
 match o.guard with
 | none=>step P false o.op env H λd H' rd wr=>match o.dst with
  | some t=>g ((t,d)::env) H' λe h tr=>K e h (((rd,wr),(WY o.op env,d,H'))::tr)
  | none=>g env H' λe h tr=>K e h (((rd,wr),(WY o.op env,d,H'))::tr)
 | some (t,b)=>Vd t (λq=>match q with
  | .sc (.bool c)=>match b with
   | true=>ifK c
    (step P false o.op env H λd H' rd wr=>match o.dst with
     | some u=>g ((u,d)::env) H' λe h tr=>K e h (((rd,wr),(none,d,H'))::tr)
     | none=>g env H' λe h tr=>K e h (((rd,wr),(none,d,H'))::tr))
    (match o.dst with
     | some u=>g ((u,.sc undef)::env) H λe h tr=>K e h ((([],[]),(none,.sc undef,H))::tr)
     | none=>g env H λe h tr=>K e h ((([],[]),(none,.sc undef,H))::tr))
   | false=>ifK c
    (match o.dst with
     | some u=>g ((u,.sc undef)::env) H λe h tr=>K e h ((([],[]),(none,.sc undef,H))::tr)
     | none=>g env H λe h tr=>K e h ((([],[]),(none,.sc undef,H))::tr))
    (step P false o.op env H λd H' rd wr=>match o.dst with
     | some u=>g ((u,d)::env) H' λe h tr=>K e h (((rd,wr),(none,d,H'))::tr)
     | none=>g env H' λe h tr=>K e h (((rd,wr),(none,d,H'))::tr))
  | .sc (.tuple _)=>match o.dst with
   | some u=>g ((u,.sc undef)::env) H λe h tr=>K e h ((([],[]),(none,.sc undef,H))::tr)
   | none=>g env H λe h tr=>K e h ((([],[]),(none,.sc undef,H))::tr)
  | _=>False) env
def zvG (l:List ym) (f:WD):WP:=λQ env H=>f env H λe h tr=>match zf3 [] l tr with
 | true=>Q .normal e h
 | false=>match zaA [] l tr with
  | true=>zaC (Q .normal e h) 0 [] l tr
  | false=>False
section
variable {P:Program} {n:Nat}
def zhR (P:Program) (l:List ym) (f:WO):Prop:=f=wW P l
def zhr (P:Program) (l:List ym) (f:WD):Prop:=f=WT P l
def Qr (P:Program) (n:Nat) (p:PC) (f:WP):Prop:=f=pw P n p
theorem zhR.nil:zhR P [] nilO:=rfl
theorem zhR.cons (o:ym) {l:List ym} {g:WO} (h:zhR P l g):zhR P (o::l) (opO P o g):=by
 unfold zhR at h ⊢
 subst h
 funext env H K
 rfl
theorem zhr.nil:zhr P [] nilD:=rfl
theorem zhr.cons (o:ym) {l:List ym} {g:WD} (h:zhr P l g):zhr P (o::l) (opD P o g):=by
 unfold zhr at h ⊢
 subst h
 funext env H K
 rfl
theorem Qr.skip:Qr P n .skip zvc:=rfl
theorem Qr.ops {l:List ym} {f:WO} (h:zhR P l f):Qr P n (.ops l false) (opsW f):=by
 unfold zhR at h;subst h;rfl
theorem Qr.draw {l:List ym} {f:WD} (h:zhr P l f):Qr P n (.ops l true) (zvG l f):=by
 unfold zhr at h;subst h;rfl
theorem Qr.seq {a b:PC} {f g:WP} (h:Qr P n a f) (k:Qr P n b g):Qr P n (.seq a b) (seqW f g):=by
 unfold Qr at h k;subst h;subst k;rfl
theorem Qr.cond (c:Operand) {a b:PC} {f g:WP} (h:Qr P n a f) (k:Qr P n b g):Qr P n (.cond c a b) (zvl c f g):=by
 unfold Qr at h k;subst h;subst k;rfl
theorem Qr.block (id:Nat) {a:PC} {f:WP} (h:Qr P n a f):Qr P n (.block id a) (zqN id f):=by
 unfold Qr at h;subst h;rfl
theorem Qr.loop (c:PC):Qr P n (.loop c) (zvg P n c):=rfl
theorem Qr.stop (c:PC):Qr P n (.stop c) (zvv P n c):=rfl
theorem Qr.exit (id:Nat):Qr P n (.exit id) (zvo id):=rfl
theorem Qr.ret:Qr P n .ret retW:=rfl
theorem zoe {p:PC} {f:WP} {Q:qj} {env:Env} {H:List zf} (h:Qr P n p f) (k:f Q env H):PWp P n p Q env H :=
 X8 _ _ _ _ (by unfold Qr at h;subst h;exact k)
inductive RdO (P:Program):List ym→WO→Prop
 | nil:RdO P [] nilO
 | cons {o:ym} {l:List ym} {g:WO} (h:RdO P l g):RdO P (o::l) (opO P o g)
inductive RdD (P:Program):List ym→WD→Prop
 | nil:RdD P [] nilD
 | cons {o:ym} {l:List ym} {g:WD} (h:RdD P l g):RdD P (o::l) (opD P o g)
inductive Rd (P:Program) (n:Nat):PC→WP→Prop
 | skip:Rd P n .skip zvc
 | ret:Rd P n .ret retW
 | exit {id:Nat}:Rd P n (.exit id) (zvo id)
 | loop {c:PC}:Rd P n (.loop c) (zvg P n c)
 | stop {c:PC}:Rd P n (.stop c) (zvv P n c)
 | ops {l:List ym} {f:WO} (h:RdO P l f):Rd P n (.ops l false) (opsW f)
 | draw {l:List ym} {f:WD} (h:RdD P l f):Rd P n (.ops l true) (zvG l f)
 | seq {a b:PC} {f g:WP} (h:Rd P n a f) (k:Rd P n b g):Rd P n (.seq a b) (seqW f g)
 | cond {c:Operand} {a b:PC} {f g:WP} (h:Rd P n a f) (k:Rd P n b g):Rd P n (.cond c a b) (zvl c f g)
 | block {id:Nat} {a:PC} {f:WP} (h:Rd P n a f):Rd P n (.block id a) (zqN id f)
theorem RdO.red {l:List ym} {f:WO} (h:RdO P l f):zhR P l f:=by
 induction h with
 | nil=>exact .nil
 | cons _ ih=>exact .cons _ ih
theorem RdD.red {l:List ym} {f:WD} (h:RdD P l f):zhr P l f:=by
 induction h with
 | nil=>exact .nil
 | cons _ ih=>exact .cons _ ih
theorem Rd.red {p:PC} {f:WP} (h:Rd P n p f):Qr P n p f:=by
 induction h with
 | skip=>exact .skip
 | ret=>exact .ret
 | exit=>exact .exit _
 | loop=>exact .loop _
 | stop=>exact .stop _
 | ops h=>exact .ops h.red
 | draw h=>exact .draw h.red
 | seq _ _ ih ik=>exact .seq ih ik
 | cond _ _ ih ik=>exact .cond _ ih ik
 | block _ ih=>exact .block _ ih
theorem ziD {p:PC} {f:WP} {Q:qj} {env:Env} {H:List zf} (h:Rd P n p f) (k:f Q env H):PWp P n p Q env H:=zoe h.red k
end
end
section
open Go.RowKit
theorem yP {L n:Nat} (id j zF:Nat) {env:Env} {H:List zf} {cs:List D} (hL:L≤H.length) (hid:H[id]? = some (.row true cs)) (hj:cs[j]? = some (.sc (.slice none 0 0))) :
  St.leB L n env H env (H.set id (.row true (cs.set j (.own H.length 0 0 0)))++[.vec true 0 zF []]):=λJ F a w hr=>by
 have hfree:J H.length=none:=by
  cases e:J H.length with
  | none=>rfl
  | some s=>have:=hr.dom H.length (by rw[e];simp);omega
 have hidl:=vz hid
 let J':yK:=λi=>if i=H.length then some ⟨false,0,none,zF,0,0⟩ else J i
 have hle:J.le J':=λi s hs=>⟨s,by
  have:i≠H.length:=λe=>by subst e;rw[hfree] at hs;cases hs
  simp[J',this,hs],Nat.le_refl _,λ_=>rfl⟩
 have hget:∀i,i≠H.length→i≠id→(H.set id (.row true (cs.set j (.own H.length 0 0 0)))++[zf.vec true 0 zF []])[i]? = H[i]?:=λi hi hne=>by
  rcases Nat.lt_or_ge i H.length with q|q
  ·rw[List.getElem?_append_left (by simpa using q),List.getElem?_set_ne (λe=>hne e.symm)]
  ·rw[List.getElem?_eq_none q,List.getElem?_eq_none (by simp;omega)]
 have hgid:(H.set id (.row true (cs.set j (.own H.length 0 0 0)))++[zf.vec true 0 zF []])[id]? = some (.row true (cs.set j (.own H.length 0 0 0))):=by
  rw[List.getElem?_append_left (by simpa using hidl),List.getElem?_set_self hidl]
 have hnew:∀v,v=Value.slice none 0 0→rep J' F w (.own H.length 0 0 0) v:=λv hv=>by
  simp only[rep]
  exact⟨_,none,0,0,by simp[J'];rfl,hv,Nat.le_refl _,λ_=>⟨rfl,Nat.le_refl _,Nat.zero_le _,rfl,rfl,.inl rfl⟩⟩
 refine⟨J',F,⟨hr.defers,hr.size,λu=>yE hle (λ_ h=>h) (λ_ _=>rfl) _ _ (hr.tmps u),⟨λi s hs=>?_,λi i' s s' b g1 g2 g3 g4=>?_,λi s b o g1 g2 g3 g4=>?_,hr.ok.lt⟩,λi hi=>?_⟩,λi s hi hs=>?_,λb hb=>hb,λb ⟨i,s,hs,hb⟩=>?_,λb hb=>.inl hb⟩
 ·simp only[J'] at hs
  split at hs
  ·rename_i e;subst e
   cases hs
   exact⟨.vec true 0 zF [],by simp,rfl,rfl,rfl,rfl,Nat.le_refl _,.inl rfl⟩
  ·rename_i e
   obtain⟨o,h1,h2⟩:=hr.ok.obj i s hs
   by_cases e2:i=id
   ·subst e2
    have h1':H[i]? = some o:=h1
    rw[hid] at h1'
    cases h1'
    obtain⟨k1,k2,k3,k4,k5,b,vals,te,t1,t2,t3,t4,t5⟩:=h2
    refine⟨_,hgid,k1,k2,k3,by rw[List.length_set];exact k4,by rw[List.length_set];exact k5,b,vals,te,t1,t2,by rw[List.length_set];exact t3,xg _ _ λq c hq=>?_,t5⟩
    by_cases e3:q=j
    ·subst e3
     rw[List.getElem?_set_self (vz hj)] at hq
     cases hq
     obtain⟨u,p1,p2,p3⟩:=xl _ _ _ _ hj t4
     simp only[rep] at p3
     exact⟨u,p1,p2,hnew u p3⟩
    ·rw[List.getElem?_set_ne (λe=>e3 e.symm)] at hq
     obtain⟨u,p1,p2,p3⟩:=xl _ _ _ _ hq t4
     exact⟨u,p1,p2,yE hle (λ_ h=>h) (λ_ _=>rfl) _ _ p3⟩
   ·exact⟨o,by rw[hget i e e2];exact h1,xE hle (λ_ h=>h) (λ_ _=>rfl) (λ_ _=>rfl) h2⟩
 ·simp only[J'] at g1 g2
  split at g1
  ·cases g1;simp[Site.uB] at g3
  ·split at g2
   ·cases g2;simp[Site.uB] at g4
   ·exact hr.ok.one i i' s s' b g1 g2 g3 g4
 ·simp only[J'] at g1
  split at g1
  ·cases g1;simp[Site.uB] at g2
  ·rename_i e
   by_cases e2:i=id
   ·subst e2
    exact hr.ok.apart i s b _ g1 g2 hid rfl
   ·exact hr.ok.apart i s b o g1 g2 (by rw[←hget i e e2];exact g3) g4
 ·simp only[J'] at hi
  rw[List.length_append,List.length_singleton,List.length_set]
  split at hi
  ·omega
  ·have:=hr.dom i hi;omega
 ·have:i≠H.length:=by omega
  simp[J',this,hs]
 ·simp only[J'] at hs
  split at hs
  ·cases hs;simp[Site.uB] at hb
  ·exact⟨i,s,hs,hb⟩
end
section
open Go.RowKit
def zcc (S:Nat→Bool) (H:List zf) (env:Env):Env→Prop
 | []=>True
 | (t,d)::r=>ya S H (xy t env) d∧zcc S H env r
def zmR (S:Nat→Bool) (H:List zf) (i:Nat):zf→zf→Prop
 | .row q cs,.row q' cs'=>(q'=q∨(S i=true∧q'=false))∧(S i=true→q'=false)∧zP S H cs cs'
 | .vec q v e xs,.vec q' v' e' xs'=>(q'=q∨(S i=true∧q'=false))∧(S i=true→q'=false)∧v=v'∧e=e'∧zJ S H xs xs'
 | .xL q I,.xL q' I'=>(q'=q∨(S i=true∧q'=false))∧(S i=true→q'=false)∧I=I'
 | _,_=>False
def UK (S:Nat→Bool) (H:List zf):Nat→List zf→List zf→Prop
 | _,[],[]=>True
 | i,o::r,o'::r'=>zmR S H i o o'∧UK S H (i+1) r r'
 | _,_,_=>False
theorem Jt {S:Nat→Bool} {H:List zf} {env:Env}:∀(env':Env),zcc S H env env'→∀t,ya S H (xy t env) (xy t env')∨xy t env'=.xt
 | [],_,t=>.inr rfl
 | (k,d)::r,h,t=>by
  simp only[zcc] at h
  rw[u9]
  split
  ·rename_i e;subst e;exact .inl h.1
  ·exact Jt r h.2 t
theorem zbu {S:Nat→Bool} {H:List zf}:∀(l l':List zf) (k:Nat),UK S H k l l'→l.length=l'.length∧∀i (o:zf),l[i]? = some o→∃o',l'[i]? = some o'∧zmR S H (k+i) o o'
 | [],[],k,_=>⟨rfl,λi o h=>by simp at h⟩
 | [],_::_,k,h=>by simp only[UK] at h
 | _::_,[],k,h=>by simp only[UK] at h
 | o::r,o'::r',k,h=>by
  simp only[UK] at h
  obtain⟨h1,h2⟩:=zbu r r' (k+1) h.2
  refine⟨by simp[h1],λi x hx=>?_⟩
  cases i with
  | zero=>simp at hx;subst hx;exact⟨o',rfl,h.1⟩
  | succ i =>
   obtain⟨y,q1,q2⟩:=h2 i x (by simpa using hx)
   exact⟨y,by simpa using q1,by rw[show k+(i+1)=k+1+i by omega];exact q2⟩
theorem qf {L n:Nat} (S:Nat→Bool) {env env':Env} {H H':List zf} (hE:zcc S H env env') (hH:UK S H 0 H H'):St.leB L n env H env' H':=λJ F a w hr=>by
 obtain⟨hlen,hget⟩:=zbu H H' 0 hH
 have hok:=hr.ok
 refine⟨J,λb=>F b∨Z4 S J b,⟨hr.defers,hr.size,λt=>?_,⟨λi s hs=>?_,hok.one,λi s b o g1 g2 g3 g4=>?_,hok.lt.mono (λ_ h=>.inl h) (λ_ _=>rfl) λb hb=>hb.elim (hok.lt b) λ⟨i,s,_,h1,h2⟩=>hok.xd h1 h2⟩,λi hi=>by rw[←hlen];exact hr.dom i hi⟩,λi s hi hs=>hs,λb hb=>.inl hb,λb hb=>hb,λb hb=>hb.imp_right λ⟨i,s,_,h1,h2⟩=>⟨i,s,h1,h2⟩⟩
 ·rcases Jt env' hE t with h1|e
  ·exact qL hok _ _ _ h1 (hr.tmps t)
  ·rw[e];simp only[rep]
 ·obtain⟨o,h1,h2⟩:=hok.obj i s hs
  obtain⟨o',h3,h4⟩:=hget i o h1
  rw[Nat.zero_add] at h4
  refine⟨o',h3,?_⟩
  cases o with
  | row q cs =>
   cases o' with
   | vec=>exact h4.elim
   | xL=>exact h4.elim
   | row q' cs' =>
    obtain⟨p1,_,p2⟩:=h4
    obtain⟨k1,k2,k3,k4,k5,b,vals,te,t1,t2,t3,t4,t5⟩:=h2
    have hl:=WX _ _ p2
    refine⟨k1,k2,k3,by rw[←hl];exact k4,by rw[←hl];exact k5,b,vals,te,t1,t2,by rw[←hl];exact t3,ve hok _ _ b 0 p2 t4,λe=>?_⟩
    rcases p1 with rfl|⟨p1,_⟩
    ·exact .inl (t5 e)
    ·exact .inr ⟨i,s,p1,hs,by simp[Site.uB,k1,t1]⟩
  | vec q v e xs =>
   cases o' with
   | row=>exact h4.elim
   | xL=>exact h4.elim
   | vec q' v' e' xs' =>
    obtain⟨p1,_,rfl,rfl,p2⟩:=h4
    obtain⟨k1,k2,k3,k4,k5,k6⟩:=h2
    have hl:=ug _ _ p2
    refine⟨k1,k2,k3,by rw[←hl];exact k4,k5,?_⟩
    by_cases hz:s.cap=0
    ·exact .inl hz
    rcases k6 with k6|⟨b,o,vals,te,t1,t2,t3,t4,t5⟩
    ·exact .inl k6
    ·refine .inr ⟨b,o,vals,te,t1,t2,t3,wK hok _ _ b e o p2 t4,λe=>?_⟩
     rcases p1 with rfl|⟨p1,_⟩
     ·exact .inl (t5 e)
     ·exact .inr ⟨i,s,p1,hs,by simp[Site.uB,k1,hz,t1]⟩
  | xL q I =>
   cases o' with
   | row=>exact h4.elim
   | vec=>exact h4.elim
   | xL q' I' =>
    obtain⟨_,_,rfl⟩:=h4
    exact h2
 ·obtain⟨o0,h1,h2⟩:=hok.obj i s g1
  obtain⟨o',h3,h4⟩:=hget i o0 h1
  rw[Nat.zero_add] at h4
  have g3':H'[i]? = some o:=g3
  rw[h3] at g3'
  cases g3'
  have hm:¬S i=true∧o0.mut=true:=by
   cases o0 with
   | row q cs =>
    cases o with
    | vec=>exact h4.elim
    | xL=>exact h4.elim
    | row q' cs' =>
     obtain⟨p1,p2,_⟩:=h4
     simp only[zf.mut] at g4 ⊢
     refine⟨λh=>?_,?_⟩
     ·rw[p2 h] at g4;cases g4
     ·rcases p1 with rfl|⟨_,rfl⟩
      ·exact g4
      ·cases g4
   | vec q v e xs =>
    cases o with
    | row=>exact h4.elim
    | xL=>exact h4.elim
    | vec q' v' e' xs' =>
     obtain⟨p1,p2,_⟩:=h4
     simp only[zf.mut] at g4 ⊢
     refine⟨λh=>?_,?_⟩
     ·rw[p2 h] at g4;cases g4
     ·rcases p1 with rfl|⟨_,rfl⟩
      ·exact g4
      ·cases g4
   | xL q I =>
    cases o with
    | row=>exact h4.elim
    | vec=>exact h4.elim
    | xL q' I' =>
     obtain⟨p1,p2,_⟩:=h4
     simp only[zf.mut] at g4 ⊢
     refine⟨λh=>?_,?_⟩
     ·rw[p2 h] at g4;cases g4
     ·rcases p1 with rfl|⟨_,rfl⟩
      ·exact g4
      ·cases g4
  rintro(hx|⟨i',s',p1,p2,p3⟩)
  ·exact hok.apart i s b o0 g1 g2 h1 hm.2 hx
  ·have:=hok.one i i' s s' b g1 p2 g2 p3
   subst this
   exact hm.1 p1
end
end
section
open Go.RowKit
def ziK (env:Env):List Nat→(Env→Prop)→Prop
 | [],K=>K []
 | t::ts,K=>Vd t (λd=>ziK env ts λe=>K ((t,d)::e)) env
def zpZ:Env→Env→(Env→Prop)→Prop
 | [],e,K=>K e
 | p::r,e,K=>zpZ r e λE=>K (p::E)
def zn8:List (Nat × zf)→List zf→List zf
 | [],H=>H
 | (i,o)::r,H=>zn8 r (H.set i o)
def zmh:List (Nat × zf)→List zf→(List zf→Prop)→Prop
 | [],H,K=>K H
 | (i,o)::r,H,K=>XA H i o λH'=>zmh r H' K
theorem zcG (env:Env):∀(ts:List Nat) (K:Env→Prop),ziK env ts K=K (ts.map λt=>(t,xy t env))
 | [],K=>rfl
 | t::ts,K=>by simp only[ziK,Yo,zcG env ts,List.map_cons]
theorem zhs:∀(a e:Env) (K:Env→Prop),zpZ a e K=K (a++e)
 | [],e,K=>rfl
 | p::r,e,K=>by simp only[zpZ,zhs r e,List.cons_append]
theorem zgm:∀(l:List (Nat × zf)) (H:List zf) (K:List zf→Prop),zmh l H K→K (zn8 l H)
 | [],H,K,h=>h
 | (i,o)::r,H,K,h=>by
  simp only[zmh,vP] at h
  simp only[zn8]
  exact zgm r _ K h.2
theorem zau {env:Env}:∀(a e:Env),Vh env a→Vh env e→Vh env (a++e)
 | [],e,_,k=>k
 | (t,d)::r,e,h,k=>⟨h.1,zau r e h.2 k⟩
theorem QE {env:Env}:∀ts:List Nat,Vh env (ts.map λt=>(t,xy t env))
 | []=>trivial
 | t::ts=>⟨rfl,QE ts⟩
theorem zC {L n:Nat} {env env':Env} {H H':List zf} (h:Vh env env') (e:H=H'):St.leB L n env H env' H':=e▸zck h
structure ForK (P:Program) (n:Nat) (p:PC) (Q:qj) (env:Env) (H:List zf) {ι:Type} (Q1:ι→Env) (hup:ι→List (Nat × zf)) (G:ι→Prop) (m:ι→Nat) (i:ι) (e:Env):Prop where
 zdb:G i
 start:Vh env (Q1 i)
 heap:H=zn8 (hup i) H
 round:∀j,G j→zpZ (Q1 j) e λE=>zmh (hup j) H λO=>PWp P n p (zli H.length n Q (λj=>Q1 j++e) (λj=>zn8 (hup j) H) G m (m j)) E O
theorem zL {P:Program} {n:Nat} {p:PC} {Q:qj} {env:Env} {H:List zf} {ι:Type} (kept:List Nat) (Q1:ι→Env) (hup:ι→List (Nat × zf)) (G:ι→Prop) (m:ι→Nat) (i:ι)
  (h:ziK env kept λe=>ForK P n p Q env H Q1 hup G m i e):PWp P n (.loop p) Q env H:=by
 rw[zcG] at h
 refine UU (λj=>Q1 j++kept.map λt=>(t,xy t env)) (λj=>zn8 (hup j) H) G m i h.zdb (zC (zau _ _ h.start (QE _)) h.heap) λj hj=>?_
 have:=h.round j hj
 rw[zhs] at this
 exact zgm _ _ _ this
end
section
open Go.RowKit
section
variable {w w':World} {B B' size n:Nat} {A:Option Addr} {xs:List Value}
end
end
section
open Go.RowKit
section
variable {w w':World} {g:Nat} {t:TypeId} {cs:Array Value}
end
inductive Tree where
 | node (kind n:Int) (kids:List Tree)
namespace Tree
instance:Inhabited Tree:=⟨.node 0 0 []⟩
def kind:Tree→Int|.node k _ _=>k
def num:Tree→Int|.node _ n _=>n
def kids:Tree→List Tree|.node _ _ ks=>ks
def xw (t:Tree) (j:Nat):Tree:=t.kids.getD j default
def width (t:Tree):Nat:=t.kids.length
theorem uJ {t:Tree} {j:Nat} (h:j<t.kids.length):t.xw j=t.kids[j]:=by simp[xw,List.getD,List.getElem?_eq_getElem h]
theorem eta (t:Tree):Tree.node t.kind t.num t.kids=t:=by cases t;rfl
theorem ind {p:Tree→Prop} (h:∀t:Tree,(∀j,j<t.width→p (t.xw j))→p t):∀t,p t:=by
 intro t
 refine Tree.rec (motive_1:=p) (motive_2:=λks=>∀t∈ks,p t) ?_ ?_ ?_ t
 ·intro k n ks ih
  refine h _ λj hj=>?_
  rw[uJ (t:=.node k n ks) hj]
  exact ih _ (List.getElem_mem hj)
 ·intro t ht;cases ht
 ·intro t ts h1 h2 u hu
  rcases List.mem_cons.1 hu with rfl|hu
  ·exact h1
  ·exact h2 u hu
end Tree
def zS (k:Int):Int:=if k=1∨k=2∨k=3 then 0 else if k=4∨k=7∨k=10∨k=11 then 1 else if k=5∨k=6∨k=8∨k=9 then 2 else -1
def zvt (k:Int):Int:=if k=1∨k=2∨k=3 then 0 else if k=4∨k=7∨k=8∨k=9∨k=11∨k=12∨k=13 then 1 else if k=5∨k=6∨k=10∨k=14 then 2 else -1
def yZ (kd:Int→Int) (t:Tree):Prop:=kd t.kind≠(t.width:Int)∨t.num<0∨63<t.num∨(t.kind≠3∧t.num≠0)
instance (kd:Int→Int) (t:Tree):Decidable (yZ kd t):=by unfold yZ;infer_instance
mutual
def uG (kd:Int→Int):Tree→Int→Int→Int × Int
 | .node k x ks,d,n =>
  if 60<n+1 then (2,n+1) else if 20<d then (5,n+1) else if yZ kd (.node k x ks) then (1,n+1) else Yw kd ks (d+1) (n+1)
def Yw (kd:Int→Int):List Tree→Int→Int→Int × Int
 | [],_,n=>(0,n)
 | t::ts,d,n=>if (uG kd t d n).1=0 then Yw kd ts d (uG kd t d n).2 else uG kd t d n
end
theorem ztq (kd:Int→Int) (t:Tree) (d n:Int) :
  uG kd t d n=if 60<n+1 then (2,n+1) else if 20<d then (5,n+1) else if yZ kd t then (1,n+1) else Yw kd t.kids (d+1) (n+1):=by
 cases t;rw[uG];rfl
theorem zoz (kd:Int→Int) {t:Tree} {j:Nat} (hj:j<t.width) (d n:Int) :
  Yw kd (t.kids.drop j) d n=if (uG kd (t.xw j) d n).1=0 then Yw kd (t.kids.drop (j+1)) d (uG kd (t.xw j) d n).2 else uG kd (t.xw j) d n:=by
 rw[List.drop_eq_getElem_cons hj,Yw,Tree.uJ hj]
theorem znv (kd:Int→Int) (t:Tree) (d n:Int):Yw kd (t.kids.drop t.width) d n=(0,n):=by
 rw[Tree.width,List.drop_length,Yw]
def xc (kd:Int→Int) (t:Tree):Int:=(uG kd t 1 0).1
mutual
theorem zfH (kd:Int→Int):∀(t:Tree) (d n:Int),n+1≤(uG kd t d n).2∧(n≤60→(uG kd t d n).2≤61)
 | .node k x ks,d,n=>by
  have:=zfB kd ks (d+1) (n+1)
  rw[uG]
  split
  ·simp;omega
  ·split
   ·simp;omega
   ·split
    ·simp;omega
    ·omega
theorem zfB (kd:Int→Int):∀(ts:List Tree) (d n:Int),n≤(Yw kd ts d n).2∧(n≤60→(Yw kd ts d n).2≤61)
 | [],_,n=>by rw[Yw];simp;omega
 | t::ts,d,n=>by
  have h1:=zfH kd t d n
  have h2:=zfB kd ts d (uG kd t d n).2
  have h3:=zhE kd t d n
  rw[Yw]
  split
  ·rename_i h
   have:=h3 h
   omega
  ·omega
theorem zhE (kd:Int→Int):∀(t:Tree) (d n:Int),(uG kd t d n).1=0→(uG kd t d n).2≤60
 | .node k x ks,d,n=>by
  have:=zmc kd ks (d+1) (n+1)
  rw[uG]
  split
  ·simp
  ·split
   ·simp
   ·split
    ·simp
    ·intro h;exact this (by omega) h
theorem zmc (kd:Int→Int):∀(ts:List Tree) (d n:Int),n≤60→(Yw kd ts d n).1=0→(Yw kd ts d n).2≤60
 | [],_,n=>by rw[Yw];simp
 | t::ts,d,n=>by
  have h1:=zhE kd t d n
  have h2:=zmc kd ts d (uG kd t d n).2
  intro hn
  rw[Yw]
  split
  ·rename_i h
   exact h2 (h1 h)
  ·intro h;contradiction
end
end
section
theorem Tree.zru {a b:Tree} (h1:a.kind=b.kind) (h2:a.num=b.num) (h3:a.width=b.width) (h4:∀j,j<a.width→a.xw j=b.xw j):a=b:=by
 rw[←Tree.eta a,←Tree.eta b,h1,h2]
 congr 1
 refine List.ext_getElem h3 λi hi hi'=>?_
 have:=h4 i hi
 rwa [Tree.uJ hi,Tree.uJ hi'] at this
open Classical in
noncomputable def U3 (a b:Tree):Bool:=decide (a=b)
theorem zrm {a b:Tree} (h:a=b):true=U3 a b:=by simp[U3,h]
theorem zf8 {a b:Tree} (h:a≠b):false=U3 a b:=by simp[U3,h]
theorem zcd {a b:Tree}:U3 a b=true↔a=b:=by simp[U3]
mutual
def Tree.size:Tree→Nat
 | .node _ _ ks=>1+Tree.Wc ks
def Tree.Wc:List Tree→Nat
 | []=>0
 | t::ts=>t.size+Tree.Wc ts
end
mutual
def Tree.depth:Tree→Nat
 | .node _ _ ks=>1+Tree.zaD ks
def Tree.zaD:List Tree→Nat
 | []=>0
 | t::ts=>max t.depth (Tree.zaD ts)
end
mutual
def Tree.wf (kd:Int→Int):Tree→Prop
 | .node k n ks=>¬yZ kd (.node k n ks)∧Tree.wfs kd ks
def Tree.wfs (kd:Int→Int):List Tree→Prop
 | []=>True
 | t::ts=>t.wf kd∧Tree.wfs kd ts
end
theorem Tree.znE:∀t:Tree,1≤t.depth:=λt=>by cases t;rw[Tree.depth];omega
mutual
theorem zgH (kd:Int→Int):∀(t:Tree) (d n:Int),(uG kd t d n).1=0↔(n+t.size≤60∧d+t.depth≤21∧t.wf kd)
 | .node k x ks,d,n=>by
  have h1:=zfu kd ks (d+1) (n+1)
  rw[uG,Tree.size,Tree.depth,Tree.wf]
  by_cases c1:60<n+1
  ·rw[if_pos c1];simp;omega
  ·rw[if_neg c1]
   by_cases c2:20<d
   ·rw[if_pos c2];simp;omega
   ·rw[if_neg c2]
    by_cases c3:yZ kd (.node k x ks)
    ·rw[if_pos c3];simp[c3]
    ·rw[if_neg c3,h1]
     constructor
     ·rintro⟨a,b,c⟩
      cases ks with
      | nil=>rw[Tree.Wc,Tree.zaD] at *;exact⟨by omega,by omega,c3,c⟩
      | cons t ts=>have:=a (by simp);have:=b (by simp);exact⟨by omega,by omega,c3,c⟩
     ·rintro⟨a,b,_,c⟩
      exact⟨by omega,λ_=>by omega,c⟩
theorem zfu (kd:Int→Int):∀(ts:List Tree) (d n:Int),(Yw kd ts d n).1=0↔((ts≠[]→n+Tree.Wc ts≤60)∧(ts≠[]→d+Tree.zaD ts≤21)∧Tree.wfs kd ts)
 | [],_,n=>by rw[Yw,Tree.wfs];simp
 | t::ts,d,n=>by
  have h1:=zgH kd t d n
  have h3:=ziZ kd t d n
  have h2:=zfu kd ts d (uG kd t d n).2
  rw[Yw,Tree.Wc,Tree.zaD,Tree.wfs]
  have hd:=Tree.znE t
  by_cases c:(uG kd t d n).1=0
  ·rw[if_pos c,h2,h3 c]
   rw[h1] at c
   obtain⟨c1,c2,c3⟩:=c
   cases ts with
   | nil=>rw[Tree.Wc,Tree.zaD,Tree.wfs];simp[c3];omega
   | cons u us =>
    simp only[ne_eq,reduceCtorEq,not_false_eq_true,true_implies,c3,true_and]
    constructor
    ·rintro⟨a,b,e⟩;exact⟨by omega,by omega,e⟩
    ·rintro⟨a,b,e⟩;exact⟨by omega,by omega,e⟩
  ·rw[if_neg c]
   constructor
   ·intro h;exact absurd h c
   ·rintro⟨a,b,e⟩
    refine absurd (h1.2 ⟨?_,?_,e.1⟩) c
    ·have:=a (by simp);omega
    ·have:=b (by simp);omega
theorem ziZ (kd:Int→Int):∀(t:Tree) (d n:Int),(uG kd t d n).1=0→(uG kd t d n).2=n+t.size
 | .node k x ks,d,n=>by
  have h1:=zjI kd ks (d+1) (n+1)
  rw[uG,Tree.size]
  split
  ·simp
  ·split
   ·simp
   ·split
    ·simp
    ·intro h;rw[h1 h];omega
theorem zjI (kd:Int→Int):∀(ts:List Tree) (d n:Int),(Yw kd ts d n).1=0→(Yw kd ts d n).2=n+Tree.Wc ts
 | [],_,n=>by rw[Yw,Tree.Wc];simp
 | t::ts,d,n=>by
  have h1:=ziZ kd t d n
  have h2:=zjI kd ts d (uG kd t d n).2
  rw[Yw,Tree.Wc]
  split
  ·rename_i h;intro h';rw[h2 h',h1 h];omega
  ·intro h;contradiction
end
theorem Wx (kd:Int→Int) (t:Tree):xc kd t=0↔(t.size≤60∧t.depth≤20∧t.wf kd):=by
 unfold xc;rw[zgH]
 constructor
 ·rintro⟨a,b,c⟩;exact⟨by omega,by omega,c⟩
 ·rintro⟨a,b,c⟩;exact⟨by omega,by omega,c⟩
theorem zmT (kd:Int→Int):∀ts:List Tree,Tree.wfs kd ts↔∀t∈ts,t.wf kd
 | []=>by simp[Tree.wfs]
 | t::ts=>by rw[Tree.wfs,zmT kd ts];simp
theorem wY (kd:Int→Int) (t:Tree):t.wf kd↔¬yZ kd t∧∀u∈t.kids,u.wf kd:=by
 cases t;rw[Tree.wf,zmT];rfl
theorem wV {kd:Int→Int} {t:Tree} (h:t.wf kd) {j:Nat} (hj:j<t.width):(t.xw j).wf kd:=by
 rw[Tree.uJ hj];exact((wY kd t).1 h).2 _ (List.getElem_mem hj)
def xD (k n:Int):Tree:=.node k n []
def xS (k:Int) (a:Tree):Tree:=.node k 0 [a]
def uS (k:Int) (a b:Tree):Tree:=.node k 0 [a,b]
theorem qe {t:Tree} (h:¬yZ zS t):(t.kind=1∨t.kind=2∨t.kind=3)∧t.width=0∨(t.kind=4∨t.kind=7∨t.kind=10∨t.kind=11)∧t.width=1∨(t.kind=5∨t.kind=6∨t.kind=8∨t.kind=9)∧t.width=2:=by
 unfold yZ zS at h
 (repeat' split at h)<;>omega
end
section
open Go.RowKit
def zbl (b:Bool):D:=.sc (.bool b)
def zw (l:List Int):D:=.xj 1 (l.map λn=>[.sc (.int .i64 n)])
def z8 (g:List (List Int)):D:=.xj 1 (g.map λl=>[zw l])
theorem zB {α:Type} (f:α→List D) (h:∀a,ze (f a)):∀l:List α,yv (l.map f)
 | []=>by simp only[List.map_nil,yv]
 | a::l=>by simp only[List.map_cons,yv];exact⟨h a,zB f h l⟩
theorem zh (l:List Int):Pure (zw l):=by
 simp only[zw,Pure];exact zB _ (λn=>by simp[ze,Pure]) l
theorem yc (g:List (List Int)):Pure (z8 g):=by
 simp only[z8,Pure];exact zB _ (λl=>by simp[ze,zh]) g
mutual
def xe:Tree→List D
 | .node k n ks=>[.sc (.int .i64 k),.sc (.int .i64 n),.xj 3 (zbq ks)]
def zbq:List Tree→List (List D)
 | []=>[]
 | t::r=>xe t::zbq r
end
def yS (t:Tree):List D:=[.sc (.int .i64 t.kind),.sc (.int .i64 t.num),.xj 3 (t.kids.map xe)]
def yk (t:Tree):D:=.agg (yS t)
theorem zfw:∀l,zbq l=l.map xe
 | []=>by simp only[zbq,List.map_nil]
 | t::r=>by simp only[zbq,List.map_cons,zfw r]
theorem ZL (t:Tree):xe t=yS t:=by
 cases t;simp only[xe,zfw];rfl
mutual
theorem Yi:∀t:Tree,ze (xe t)
 | .node k n ks=>by simp only[xe,ze,Pure,true_and,and_true];exact zcy ks
theorem zcy:∀l:List Tree,yv (zbq l)
 | []=>by simp only[zbq,yv]
 | t::r=>by simp only[zbq,yv];exact⟨Yi t,zcy r⟩
end
theorem zA (t:Tree):Pure (yk t):=by simp only[yk,Pure];rw[←ZL];exact Yi t
theorem xn {H:List zf}:∀l:List D,vJ H l l
 | []=>.nil
 | d::r=>.cons _ _ _ _ (.refl d) (xn r)
theorem zU {H:List zf}:∀l:List (List D),uz H l l
 | []=>.nil
 | d::r=>.cons _ _ _ _ (xn d) (zU r)
theorem zh7 {H:List zf} (t:Tree):vJ H (yS t) (xe t):=by rw[ZL];exact xn _
inductive Small:Tree→Prop where
 | mk (t:Tree) (h:t.width≤9223372036854775807) (k:∀j,j<t.width→Small (t.xw j)):Small t
theorem Small.width {t:Tree} (h:Small t):t.kids.length≤9223372036854775807:=by cases h;assumption
theorem Small.xw {t:Tree} (h:Small t) {j:Nat} (hj:j<t.width):Small (t.xw j):=by cases h with|mk _ _ k=>exact k j hj
theorem Q9:∀t:Tree,t.wf zS→Small t:=by
 intro t
 induction t using Tree.ind with
 | h t ih =>
  intro hw
  refine .mk t ?_ λj hj=>ih j hj (wV hw hj)
  have:=qe ((wY _ _).1 hw).1
  omega
theorem zk {m:Nat→Bool} {H:List zf} {xs ys:List (List D)} (h:xs=ys):zJ m H xs ys:=h▸.refl xs
theorem yj (t:Tree):ze (yS t):=by rw[←ZL];exact Yi t
theorem xC (t:Tree):yv (t.kids.map xe):=zB _ Yi _
theorem zol {α:Type} {β:Type} (f:α→β) {l:List α} {k:Nat} {a:α} (h:l[k]? = some a):List.drop 0 (List.take k ((l.take k).map f))++[f a]=(l.take (k+1)).map f:=by
 rw[List.drop_zero,List.take_of_length_le (by simp;omega),List.take_add_one,h]
 simp
theorem kid_get? {t:Tree} {j:Nat} (h:j<t.width):t.kids[j]? = some (t.xw j):=by rw[Tree.uJ h,List.getElem?_eq_getElem h]
theorem wa {t:Tree} {j:Nat} (h:j<t.width):(t.kids.map xe)[j]? = some (yS (t.xw j)):=by
 rw[List.getElem?_map,Tree.uJ h,List.getElem?_eq_getElem h,←ZL];rfl
theorem yu {H:List zf} {d e:D} (h:d=e):Deep H d e:=h▸.refl d
theorem Zi {H:List zf} {d:D} {t u:Tree} (h:t=u) (k:Deep H d (yk u)):Deep H d (yk t):=h▸k
end
section
open Go.RowKit
section
variable {P:Program} {f:FuncId}
theorem vg {args:List D} {H0 H0':List zf} {d:D} (hA:yB P f args H0 d H0') (L R:List zf) (hlen:H0'.length=H0.length) (hargs:zl H0.length args) (hobj:wq H0.length H0)
  {args2:List D} {d2:D} {H H2:List zf} (e1:yG (λi=>L.length+i) args=args2) (e2:D.yy (λi=>L.length+i) d=d2) (e3:L++(H0.map (zf.yy λi=>L.length+i)++R)=H) (e4:L++(H0'.map (zf.yy λi=>L.length+i)++R)=H2) :
  yB P f args2 H d2 H2:=by
 subst e1 e2 e3 e4
 refine zbh (λi=>L.length+i) hA (λi j _ _ h=>by omega) (λi o h=>?_) (λi h1 h2=>by omega) (by simp[hlen]) (λi o h=>?_) (λj hj hne=>?_) hargs (qg hobj)
 ·rw[List.getElem?_append_right (by omega),Nat.add_sub_cancel_left,List.getElem?_append_left (by simpa using vz h),List.getElem?_map,h];rfl
 ·rw[List.getElem?_append_right (by omega),Nat.add_sub_cancel_left,List.getElem?_append_left (by simpa using vz h),List.getElem?_map,h];rfl
 ·rcases Nat.lt_or_ge j L.length with h|h
  ·rw[List.getElem?_append_left h,List.getElem?_append_left h]
  ·have:H0.length≤j-L.length:=by
    rcases Nat.lt_or_ge (j-L.length) H0.length with q|q
    ·exact absurd (by omega) (hne (j-L.length) q)
    ·exact q
   rw[List.getElem?_append_right h,List.getElem?_append_right h,List.getElem?_append_right (by simp;omega),List.getElem?_append_right (by simp;omega)]
   simp[hlen]
theorem vf {args:List D} {H0 H0':List zf} {d:D} (hA:yB P f args H0 d H0') (R:List zf) (hlen:H0'.length=H0.length) (hargs:zl H0.length args) (hobj:wq H0.length H0):yB P f args (H0++R) d (H0'++R):=by
 have h:(λi=>([]:List zf).length+i)=λi=>i:=by funext i;simp
 refine vg hA [] R hlen hargs hobj ?_ ?_ ?_ ?_<;>rw[h]
 ·exact ZX _
 ·exact zhG _
 ·rw[show(zf.yy λi=>i)=id from funext zcf];simp
 ·rw[show(zf.yy λi=>i)=id from funext zcf];simp
end
theorem zvF {c:Bool} {A B:Prop} (h:c=true) (k:A):ifK c A B:=by subst h;exact k
theorem zq8 {c:Bool} {A B:Prop} (h:c=false) (k:B):ifK c A B:=by subst h;exact k
def cutQ {ι:Type} (L n:Nat) (Q:qj) (E:ι→Env) (O:ι→List zf) (G:ι→Prop):qj
 | .normal,env,H=>∃i,G i∧St.leB L n env H (E i) (O i)
 | e,env,H=>Q e env H
theorem zgR {P:Program} {n:Nat} {p:PC} {Q:qj} {env:Env} {H:List zf} {ι:Type} (E:ι→Env) (O:ι→List zf) (G:ι→Prop) (h1:PWp P n p (cutQ H.length n Q E O G) env H)
  (h2:∀i,G i→Q .normal (E i) (O i)):PWp P n p Q env H:=Yx λc hc J F a w hr=>by
 refine wp_mono (uD h1 hc hr) λe a2 w2 ⟨env',H',J',F',q1,q2,q3⟩=>?_
 cases e with
 | normal =>
  obtain⟨i,r1,r2⟩:=q1
  obtain⟨J2,F2,t1,t2,t3,t4,t5⟩:=r2 J' F' a2 w2 q2
  exact⟨E i,O i,J2,F2,h2 i r1,t1,zcq hr.dom q3 t2 t3 t4 t5⟩
 | _=>exact⟨env',H',J',F',q1,q2,q3⟩
@[simp] theorem zrO {m:Nat} (t:Tree):zl m (xe t)↔True:=⟨λ_=>trivial,λ_=>zt _ (Yi t)⟩
@[simp] theorem zyO {ρ:Nat→Nat} (t:Tree):D.yy ρ (yk t)=yk t:=yx _ (zA t)
end
section
open Go.RowKit
instance (n:Nat):OfNat Operand n:=⟨.tmp n⟩
def cI (n:Int):Operand:=.const (.int .i64 n)
def cS (l:Array UInt8):Operand:=.const (.string ⟨l⟩)
def cT:Operand:=.const (.bool true)
def cF:Operand:=.const (.bool false)
def cN:Operand:=.const (.slice none 0 0)
def GT (d g:Nat) (o:POp):ym:=⟨some d,o,some (g,true),0⟩
def GF (d g:Nat) (o:POp):ym:=⟨some d,o,some (g,false),0⟩
def Fa (d k:Nat) (x:Operand):ym:=q d (.zv k x)
def Lo (d:Nat) (x:Operand):ym:=q d (.zi x)
def LA (d n:Nat) (x:Operand):ym:=q d (.v7 n x)
def Xt (d k:Nat) (x:Operand):ym:=q d (.ext k x)
def Bx (d:Nat) (x:Operand):ym:=q d (.box x)
def Nt (d:Nat) (x:Operand):ym:=q d (.un .not x)
def Ln (d:Nat) (x:Operand):ym:=q d (.len x)
def Mv (d:Nat) (x:Operand):ym:=q d (.move x)
def Bi (d:Nat) (o:BinOp) (x y:Operand):ym:=q d (.bin o x y)
def Ia (d e:Nat) (x y:Operand):ym:=q d (.zM e x y)
def Ap (d e b:Nat) (x y:Operand):ym:=q d (.append e b x y)
def Pk (d:Nat) (c x y:Operand):ym:=q d (.pick c x y)
def Ca (d:Nat) (f:FuncId) (l:List Operand):ym:=q d (.call f l)
def Bs (d e n:Nat) (l:List Operand):ym:=q d (.wh e n l)
def So (n:Nat) (x y:Operand):ym:=qn (.store n x y)
abbrev OP (l:List ym):PC:=.ops l false
theorem fK {P : Program} {f : FuncId} {n : Nat} {rs : List RV} {p : PC} {fn : Func} (h : P.funcs[f]? = some fn) (a : fn.ntmps = n := by rfl) (b : (fn.name == "runtime.NumGoroutine") = false := by kernel_rfl) (c : zk8 P fn.results.toList = some rs := by rfl) (d : fn.body.bind (comp P n) = some p.bare := by kernel_rfl) : zz P f n rs p := ⟨⟨fn, h, a, b, c, d⟩⟩
theorem sO {A:Prop} (h:A:=by((try simp only[oo,reduceCtorEq]at*)<;>omega)):A:=h
theorem zo {A:Prop} (h:A:=by omega):A:=h
theorem zs {A:Prop} (h:A:=by simp):A:=h
theorem zd {A:Prop} (h:A:=by(dsimp only;omega)):A:=h
theorem zc {A:Prop} (h:A:=by decide):A:=h
theorem sW {A B:Prop} (b:B) (e:B→A:=by(intro h;((conv=>whnf);repeat(refine⟨rfl,?_⟩;conv=>whnf));exact h)):A:=e b
theorem sR {P:Program} {n:Nat} {p:PC} {Q:qj} {env:Env} {H:List zf} {f:WP} {B:Prop} (b:B) (h:Rd P n p f:=by(focus (repeat' constructor))) (e:B→f Q env H:=by(intro h;((conv=>whnf);repeat(refine⟨rfl,?_⟩;conv=>whnf));exact h)):PWp P n p Q env H:=ziD h (e b)
theorem sS {c:Bool} {A A' B B':Prop} (a:c=true→A') (b:c=false→B') (e:c=true→A'→A:=by(intro h k;rw[h];((conv=>whnf);repeat(refine⟨rfl,?_⟩;conv=>whnf));exact k)) (g:c=false→B'→B:=by(intro h k;rw[h];((conv=>whnf);repeat(refine⟨rfl,?_⟩;conv=>whnf));exact k)):ifK c A B:=zoM (λh=>e h (a h)) λh=>g h (b h)
theorem sC {P:Program} {f:FuncId} {args:List D} {d:D} {K:D→Prop} {R B:Prop} (t:zu P f args d) (b:B) (e:B→K d:=by(intro h;((conv=>whnf);repeat(refine⟨rfl,?_⟩;conv=>whnf));exact h)):(∃d,zu P f args d∧K d)∨R:=.inl ⟨d,t,e b⟩
theorem sA {P:Program} {f:FuncId} {args:List D} {H H2:List zf} {d:D} {K:D→List zf→Prop} {X Y R B:Prop} (t:yB P f args H d H2) (b:B) (e:B→K d H2:=by(intro h;((conv=>whnf);repeat(refine⟨rfl,?_⟩;conv=>whnf));exact h)):X∨Y∨(true=true∧∃d H2,yB P f args H d H2∧K d H2)∨R:=.inr (.inr (.inl ⟨rfl,d,H2,t,e b⟩))
theorem sE {P:Program} {f:FuncId} {args:List D} {H H2:List zf} {d:D} {L:List Nat} {K:D→List zf→List Nat→Prop} {X Y Z U R B:Prop} (t:Zk P f args H d H2 L) (b:B) (e:B→K d H2 L:=by(intro h;((conv=>whnf);repeat(refine⟨rfl,?_⟩;conv=>whnf));exact h)):X∨Y∨Z∨U∨(∃d H2 L,Zk P f args H d H2 L∧K d H2 L)∨R:=.inr (.inr (.inr (.inr (.inl ⟨d,H2,L,t,e b⟩))))
theorem sX {P:Program} {f:FuncId} {args:List D} {H:List zf} {d:D} {L:List Nat} {K:D→List Nat→Prop} {X Y Z U V W B:Prop} (t:zge P f args H d L) (b:B) (e:B→K d L:=by(intro h;((conv=>whnf);repeat(refine⟨rfl,?_⟩;conv=>whnf));exact h)):X∨Y∨Z∨U∨V∨W∨(∃d L,zge P f args H d L∧K d L):=.inr (.inr (.inr (.inr (.inr (.inr ⟨d,L,t,e b⟩)))))
theorem zlf {H:List zf} {n:Nat} {l:List (List D)} (h:l.length≤n):uz H (List.drop 0 (List.take n l)) l:=by rw[List.drop_zero,List.take_of_length_le h];exact zU _
theorem sN {P:Program} {f:FuncId} {args args':List D} {H:List zf} {d:D} {K:D→Prop} {X R B:Prop} (t:zu P f args' d) (b:B) (h:vJ H args args':=by(repeat' (first|exact Deep.refl _|exact Deep.none _|exact zh7 _|exact vJ.nil|exact uz.nil|refine Deep.agg _ _ ?_|refine Deep.yI _ _ ?_|refine Deep.own _ _ _ _ _ _ _ _ rfl ?_|refine Deep.loc _ _ _ _ _ rfl ?_|refine Deep.ifc _ _ _ ?_|refine Deep.fn _ _ _ _ _ ?_ ?_|refine vJ.cons _ _ _ _ ?_ ?_|refine uz.cons _ _ _ _ ?_ ?_|exact zU _|exact zlf (by first|(simp;done)|(simp[zI];done))))) (r:zie d=true:=by rfl) (e:B→K d:=by(intro h;((conv=>whnf);repeat(refine⟨rfl,?_⟩;conv=>whnf));exact h)):X∨(∃args' d,vJ H args args'∧zu P f args' d∧zie d=true∧K d)∨R:=.inr (.inl ⟨args',d,h,t,r,e b⟩)
theorem sL {X:Prop} {α:Type} {o:Option α} {a:α} {K:α→Prop} {B:Prop} (t:o=some a) (b:B) (h:X:=by omega) (e:B→K a:=by(intro h;((conv=>whnf);repeat(refine⟨rfl,?_⟩;conv=>whnf));exact h)):X∧∃a,o=some a∧K a:=⟨h,a,t,e b⟩
theorem sJ {A K B:Prop} (b:B) (h:A:=by(unfold y5;simp only[ll];omega)) (e:B→K:=by(intro h;((conv=>whnf);repeat(refine⟨rfl,?_⟩;conv=>whnf));exact h)):A∧K:=⟨h,e b⟩
theorem sI {k:IntKind} {z:Int} {K:Prop} {R B:Prop} (b:B) (h:InR k z:=by(unfold InR;rw[IntKind.wrap_i64];omega)) (e:B→K:=by(intro h;((conv=>whnf);repeat(refine⟨rfl,?_⟩;conv=>whnf));exact h)):(InR k z∧K)∨R:=.inl ⟨h,e b⟩
theorem sB {X Y K B:Prop} (b:B) (h:X:=by omega) (g:Y:=by(first|omega|(simp;done)|(simp;omega)|(simp only[ll];omega))) (e:B→K:=by(intro h;((conv=>whnf);repeat(refine⟨rfl,?_⟩;conv=>whnf));exact h)):X∧Y∧K:=⟨h,g,e b⟩
theorem sP {A:Prop} (h:A:=by(repeat' (first|exact Deep.refl _|exact Deep.none _|exact zh7 _|exact vJ.nil|exact uz.nil|refine Deep.agg _ _ ?_|refine Deep.yI _ _ ?_|refine Deep.own _ _ _ _ _ _ _ _ rfl ?_|refine Deep.loc _ _ _ _ _ rfl ?_|refine Deep.ifc _ _ _ ?_|refine Deep.fn _ _ _ _ _ ?_ ?_|refine vJ.cons _ _ _ _ ?_ ?_|refine uz.cons _ _ _ _ ?_ ?_|exact zU _))):A:=h
theorem sD {A:Prop} (h:A:=by(repeat' (first|exact trivial|exact ya.none _|refine And.intro ?_ ?_|exact Or.inl rfl|exact Or.inr ⟨rfl,rfl⟩|exact λ_=>rfl|exact(λh=>by cases h)|refine ya.loc _ _ _ _ _ rfl rfl ?_|refine ya.own _ _ _ _ _ _ _ _ rfl rfl ?_|refine ya.fn _ _ _ _ _ ?_ ?_|refine ya.agg _ _ ?_|refine ya.yI _ _ ?_|refine ya.ifc _ _ _ ?_|exact ya.refl _|refine zP.cons _ _ _ _ ?_ ?_|exact zP.refl _|refine zJ.cons _ _ _ _ ?_ ?_|exact zJ.refl _|exact rfl))):A:=h
theorem sQ {A:Prop} (h:A:=by(repeat' (first|exact trivial|exact rfl|exact ya.refl _|exact zP.refl _|exact zJ.refl _|refine And.intro ?_ ?_|(simp[zp,zl,zD,-List.map_take,-List.map_drop];done)))):A:=h
theorem sU {A B:Prop} (b:B) (e:B→A:=by(intro h;(repeat' (first|exact trivial|exact rfl|exact ya.refl _|exact zP.refl _|exact zJ.refl _|refine And.intro ?_ ?_|(simp[zp,zl,zD,-List.map_take,-List.map_drop];done)|exact h)))):A:=e b
theorem sK {A:Prop} (h:A:=by(repeat' (first|exact trivial|refine And.intro rfl ?_))):A:=h
end
section
section
open Go.RowKit
mutual
def lens {H:Type} (L:Nat):DataW H→Prop
 | .lit (.string b)=>b.length≤L
 | .lit _=>True
 | .slice elems _=>elems.length≤L∧XO L elems
 | .agg parts=>XO L parts
 | _=>True
def XO {H:Type} (L:Nat):List (DataW H)→Prop
 | []=>True
 | d::r=>lens L d∧XO L r
end
theorem VJ {H:Type} {L:Nat}:∀{l:List (DataW H)},XO L l→∀d∈l,lens L d
 | [],_,_,h=>by cases h
 | x::r,h,d,hd=>by
  simp only[XO] at h
  rcases List.mem_cons.1 hd with rfl|hd
  ·exact h.1
  ·exact VJ h.2 d hd
mutual
inductive YH (P:Program) (L:Nat):TypeId→List D→Prop
 | bool (t:TypeId) (b:Bool) (ht:P.underlying t=some .bool):YH P L t [.sc (.bool b)]
 | int (t:TypeId) (k:IntKind) (n:Int) (ht:P.underlying t=some (.int k)) (h:k.min≤n∧n≤k.max):YH P L t [.sc (.int k n)]
 | str (t:TypeId) (s:ByteArray) (ht:P.underlying t=some .string) (h:s.size≤140737488351232) (hL:L=0∨s.size≤L):YH P L t [.sc (.string s)]
 | slice (t e:TypeId) (xs:List (List D)) (ht:P.underlying t=some (.slice e)) (hn:xs.length≤9223372036854775807∧xs.length*P.bytesOf e≤140737488351232) (hL:L=0∨xs.length≤L) (h:Q6 P L e xs):YH P L t [.xj (P.cellsOf e) xs]
 | struct (t:TypeId) (fs:Array Field) (cs:List D) (ht:P.underlying t=some (.struct fs)) (h:Xp P L (fs.toList.map (·.type)) cs):YH P L t cs
inductive Xp (P:Program) (L:Nat):List TypeId→List D→Prop
 | nil:Xp P L [] []
 | cons (t:TypeId) (ts:List TypeId) (a b:List D) (h:YH P L t a) (k:Xp P L ts b):Xp P L (t::ts) (a++b)
inductive Q6 (P:Program) (L:Nat):TypeId→List (List D)→Prop
 | nil (e:TypeId):Q6 P L e []
 | cons (e:TypeId) (x:List D) (r:List (List D)) (h:YH P L e x) (k:Q6 P L e r):Q6 P L e (x::r)
end
abbrev OfT (P:Program):=YH P 0
abbrev OfTL (P:Program):=Q6 P 0
section
variable {P:Program} {L:Nat} {t:TypeId} {cs:List D}
theorem of_int {k:IntKind} (ht:P.underlying t=some (.int k)) (h:YH P L t cs):∃n,cs=[.sc (.int k n)]∧k.min≤n∧n≤k.max:=by
 cases h<;>simp_all
theorem zuk (ht:P.underlying t=some .string) (h:YH P L t cs):∃s:ByteArray,cs=[.sc (.string s)]∧s.size≤140737488351232:=by
 cases h<;>simp_all
theorem zv9 (ht:P.underlying t=some .string) (h:YH P L t cs):∃s:ByteArray,cs=[.sc (.string s)]∧s.size≤9223372036854775807:=by
 obtain⟨s,e,h⟩:=zuk ht h
 exact⟨s,e,by omega⟩
theorem znl {e:TypeId} (ht:P.underlying t=some (.slice e)) (h:YH P L t cs):∃xs,cs=[.xj (P.cellsOf e) xs]∧(xs.length≤9223372036854775807∧xs.length*P.bytesOf e≤140737488351232)∧Q6 P L e xs:=by
 cases h<;>simp_all
theorem of_slice {e:TypeId} (ht:P.underlying t=some (.slice e)) (h:YH P L t cs):∃xs,cs=[.xj (P.cellsOf e) xs]∧xs.length≤9223372036854775807∧Q6 P L e xs:=by
 obtain⟨xs,e,h,k⟩:=znl ht h
 exact⟨xs,e,h.1,k⟩
theorem of_struct {fs:Array Field} (ht:P.underlying t=some (.struct fs)) (h:YH P L t cs):Xp P L (fs.toList.map (·.type)) cs:=by
 cases h<;>simp_all
theorem zey (h:Xp P L [] cs):cs=[]:=by cases h;rfl
theorem zaf {ts:List TypeId} (h:Xp P L (t::ts) cs):∃a b,cs=a++b∧YH P L t a∧Xp P L ts b:=by
 cases h with
 | cons t ts a b h k=>exact⟨a,b,rfl,h,k⟩
theorem zeK {k:IntKind} {ts:List TypeId} (ht:P.underlying t=some (.int k)) (h:Xp P L (t::ts) cs):∃n b,cs=.sc (.int k n)::b∧(k.min≤n∧n≤k.max)∧Xp P L ts b:=by
 obtain⟨a,b,rfl,ha,hb⟩:=zaf h
 obtain⟨n,rfl,hn⟩:=of_int ht ha
 exact⟨n,b,rfl,hn,hb⟩
theorem zqC {ts:List TypeId} (ht:P.underlying t=some .string) (h:Xp P L (t::ts) cs):∃(s:ByteArray) (b:List D),cs=.sc (.string s)::b∧s.size≤9223372036854775807∧Xp P L ts b:=by
 obtain⟨a,b,rfl,ha,hb⟩:=zaf h
 obtain⟨n,rfl,hn⟩:=zv9 ht ha
 exact⟨n,b,rfl,hn,hb⟩
theorem zdt {e:TypeId} {ts:List TypeId} (ht:P.underlying t=some (.slice e)) (h:Xp P L (t::ts) cs):∃xs b,cs=.xj (P.cellsOf e) xs::b∧xs.length≤9223372036854775807∧Q6 P L e xs∧Xp P L ts b:=by
 obtain⟨a,b,rfl,ha,hb⟩:=zaf h
 obtain⟨n,rfl,h1,h2⟩:=of_slice ht ha
 exact⟨n,b,rfl,h1,h2,hb⟩
end
def zdf (P:Program):List Field→Nat→Nat→Bool
 | [],o,n=>o==n
 | f::r,o,n=>f.offset==o&&zdf P r (o+P.cellsOf f.type) n
def JB (P:Program) (S:List TypeId):Bool:=S.all λt=>match P.underlying t with
 | some .bool|some .string=>true
 | some (.int _)=>true
 | some (.slice e)=>S.contains e&&decide (0<P.cellsOf e)
 | some (.struct fs)=>zdf P fs.toList 0 (P.cellsOf t)&&fs.toList.all λf=>S.contains f.type
 | _=>false
section
variable {P:Program}
theorem zi7 {L:Nat} {e:TypeId}:∀{xs:List (List D)},(∀x∈xs,YH P L e x)→Q6 P L e xs
 | [],_=>.nil e
 | x::r,h=>.cons e x r (h x (by simp)) (zi7 λy hy=>h y (by simp[hy]))
variable {H:Type} {enc:TypeId × Value→H} {W:World} {spare:Nat→Bool} {held:Bool}
def XM (W:World):Nat→Prop:=λb=>b<W.heap.size
theorem zeA {L:Nat} {cs:List Value} {N:Nat} (hl:cs.length=N):∀(l:List Field) (o:Nat),zdf P l o N=true →
  (∀f∈l,∃ds,YH P L f.type ds∧zY vt (XM W) W ds ((cs.drop f.offset).take (P.cellsOf f.type))∧(∀v∈(cs.drop f.offset).take (P.cellsOf f.type),yl v=true)) →
  ∃ds,Xp P L (l.map (·.type)) ds∧zY vt (XM W) W ds (cs.drop o)∧∀v∈cs.drop o,yl v=true
 | [],o,ho,_=>by
  simp only[zdf,beq_iff_eq] at ho
  refine⟨[],.nil,?_,?_⟩
  ·simp only[zY];exact List.drop_eq_nil_of_le (by omega)
  ·rw[List.drop_eq_nil_of_le (by omega)];intro v hv;cases hv
 | f::r,o,ho,h=>by
  simp only[zdf,Bool.and_eq_true,beq_iff_eq] at ho
  obtain⟨ho1,ho2⟩:=ho
  obtain⟨a,h1,h2,h3⟩:=h f (by simp)
  obtain⟨b,k1,k2,k3⟩:=zeA hl r (o+P.cellsOf f.type) ho2 λg hg=>h g (by simp[hg])
  rw[ho1] at h2 h3
  have e:cs.drop o=(cs.drop o).take (P.cellsOf f.type)++cs.drop (o+P.cellsOf f.type):=by
   rw[←List.drop_drop,List.take_append_drop]
  refine⟨a++b,.cons _ _ _ _ h1 k1,?_,?_⟩
  ·rw[e];exact Ym h2 k2
  ·intro v hv
   rw[e] at hv
   rcases List.mem_append.1 hv with hv|hv
   ·exact h3 v hv
   ·exact k3 v hv
theorem VD {e:TypeId}:∀{ds:List (DataW H)} {d:DataW H},d∈ds→∀n∈d.weights P e,n∈DataW.weightsAll P e ds
 | d0::ds,d,hd,n,hn=>by
  simp only[DataW.weightsAll,List.mem_append]
  rcases List.mem_cons.1 hd with rfl|hd
  ·exact .inl hn
  ·exact .inr (VD hd n hn)
 | [],_,hd,_,_=>by cases hd
theorem zoX {L:Nat} {S:List TypeId} (hS:JB P S=true):∀(fuel:Nat) (t:TypeId) (cs:List Value) (x:DataW H × List MemPlace),t∈S→DataW.trod enc P W 0 spare held fuel t cs=some x→(∀n∈x.1.weights P t,n≤reachBytes)→(L=0∨lens L x.1) →
  ∃ds,YH P L t ds∧zY vt (XM W) W ds cs∧∀v∈cs,yl v=true:=by
 intro fuel
 induction fuel using Nat.strongRecOn with
 | ind fuel ih =>
  intro t cs x ht h hz hL
  have hT:=List.all_eq_true.1 hS t ht
  split at hT
  ·rename_i hu
   obtain⟨b,rfl,_⟩:=DataW.trod_bool hu h
   exact⟨_,.bool t b hu,by simp[zY,rep],by simp[yl]⟩
  ·rename_i hu
   obtain⟨s,rfl,hx,hs⟩:=DataW.trod_string hu h
   subst hx
   have hw:=hz s.size (by simp[DataW.weights])
   exact⟨_,.str t s hu (by unfold reachBytes at hw;omega) (hL.imp_right λq=>by
    simp only[lens] at q
    have e:s.data.toList.length=s.size:=by rw[Array.length_toList];rfl
    omega),by simp[zY,rep],by simp[yl]⟩
  ·rename_i k hu
   obtain⟨n,rfl,_,hw⟩:=DataW.trod_int hu h
   simp only[Lit.wf,Bool.and_eq_true,decide_eq_true_eq] at hw
   exact⟨_,.int t k n hu hw,by simp[zY,rep],by simp[yl]⟩
  ·rename_i e hu
   simp only[Bool.and_eq_true,List.contains_iff_mem,decide_eq_true_eq] at hT
   obtain⟨he,hpos⟩:=hT
   rcases DataW.trod_slice hu h with⟨rfl,_⟩|⟨a,len,cap,elems,rest,n',hn',rfl,hx,_,hl,hm,hel,hat,_,_⟩
   ·refine⟨_,.slice t e [] hu (by simp) (.inr (Nat.zero_le _)) (.nil e),?_,by simp[yl]⟩
    simp only[zY,rep]
    exact⟨_,_,rfl,⟨none,0,0,rfl,rfl,Nat.le_refl _,.inl rfl⟩,rfl⟩
   ·have hx1:x.1=.slice (elems.map (·.1)) (rest.map (·.1)):=by rw[hx]
    rw[hx1] at hz hL
    have hLe:L=0∨(elems.length≤L∧∀d∈elems.map (·.1),lens L d):=hL.imp_right λq=>by
     simp only[lens,List.length_map] at q
     exact⟨q.1,VJ q.2⟩
    have hw:=hz ((elems.length+rest.length)*P.bytesOf e) (by simp[DataW.weights,hu])
    have hwe:∀d∈elems.map (·.1),∀n∈d.weights P e,n≤reachBytes:=λd hd n hn=>hz n (by
     have:=VD hd n hn
     simp[DataW.weights,hu,this])
    have each:∀i,i<len→∃ds,YH P L e ds∧ds.length=P.cellsOf e∧(∀j c,ds[j]? = some c→∃u,W.cell? ((a.add (i*P.cellsOf e)).add j)=some u∧yl u=true∧rep vt (XM W) W c u):=λi hi=>by
     have hi':=hat i hi
     rw[List.getElem?_eq_getElem (by omega)] at hi'
     obtain⟨cs',hc1,hc2⟩:=Option.bind_eq_some_iff.1 hi'
     obtain⟨ds,q1,q2,q3⟩:=ih n' (by omega) e cs' _ he hc2 (hwe _ (List.mem_map_of_mem (List.getElem_mem _))) (hLe.imp_right λq=>q.2 _ (List.mem_map_of_mem (List.getElem_mem _)))
     obtain⟨_,hcl,hc⟩:=World.cells?_some hc1
     have hlen:=xh _ _ q2
     refine⟨ds,q1,by omega,λj c hj=>?_⟩
     have hjl:j<ds.length:=by
      rcases Nat.lt_or_ge j ds.length with q|q
      ·exact q
      ·rw[List.getElem?_eq_none q] at hj;cases hj
     obtain⟨v,k1,k2⟩:=vl _ _ j c hj q2
     exact⟨v,by rw[hc j (by omega)];exact k1,q3 v (List.mem_of_getElem? k1),k2⟩
    obtain⟨R,hR⟩:∃R:Nat→List D,∀i,i<len→YH P L e (R i)∧(R i).length=P.cellsOf e∧(∀j c,(R i)[j]? = some c→∃u,W.cell? ((a.add (i*P.cellsOf e)).add j)=some u∧yl u=true∧rep vt (XM W) W c u):=by
     refine⟨λi=>if h:i<len then Classical.choose (each i h) else [],λi hi=>?_⟩
     simp only[dif_pos hi]
     exact Classical.choose_spec (each i hi)
    refine⟨_,.slice t e ((List.range len).map R) hu (by
     rw[List.length_map,List.length_range]
     refine⟨by unfold maxLen at hm;omega,Nat.le_trans (Nat.mul_le_mul_right _ ?_) hw⟩
     omega) (hLe.imp_right λq=>by
      rw[List.length_map,List.length_range]
      omega) (zi7 λx hx=>?_),?_,by simp[yl]⟩
    ·obtain⟨i,hi,rfl⟩:=List.mem_map.1 hx
     exact(hR i (List.mem_range.1 hi)).1
    ·simp only[zY,rep]
     refine⟨_,_,rfl,⟨some a,len,cap,rfl,by simp,hl,?_⟩,rfl⟩
     rcases Nat.eq_zero_or_pos len with h0|h0
     ·exact .inl h0
     ·refine .inr ?_
      obtain⟨_,g2,g3⟩:=hR 0 h0
      obtain⟨u,hu,_⟩:=g3 0 _ (List.getElem?_eq_getElem (by omega))
      obtain⟨b,o,sp⟩:=a
      have hsp:sp=none:=by
       simp only[Addr.add,World.cell?] at hu
       split at hu
       ·cases sp with
        | none=>rfl
        | some q=>simp at hu
       ·cases hu
      subst hsp
      rw[vW,vW] at hu
      have hb:b<W.heap.size:=World.block_lt_of_cell? _ _ hu
      refine⟨b,o,rfl,hb,wX _ o λi x hx=>?_⟩
      have hi:i<len:=by
       rcases Nat.lt_or_ge i len with q|q
       ·exact q
       ·rw[List.getElem?_eq_none (by simpa using q)] at hx;cases hx
      rw[List.getElem?_map,List.getElem?_range hi] at hx
      simp at hx
      subst hx
      obtain⟨_,w2,w3⟩:=hR i hi
      exact⟨w2,xg _ _ λj c hc=>by
       have:=w3 j c hc
       rwa [vW,vW] at this⟩
  ·rename_i fs hu
   simp only[Bool.and_eq_true] at hT
   obtain⟨ho,hf⟩:=hT
   obtain⟨ys,n,hn,hx,hlen,hyl,hget⟩:=DataW.trod_struct hu h
   have hx1:x.1=.agg (ys.map (·.1)):=by rw[hx]
   rw[hx1] at hz hL
   obtain⟨ds,k1,k2,k3⟩:=zeA (P:=P) (W:=W) (L:=L) hlen fs.toList 0 ho λf hmem=>by
    obtain⟨i,hi,rfl⟩:=List.mem_iff_getElem.1 hmem
    have hi':i<fs.size:=by simpa using hi
    have hg:=hget i _ (Array.getElem?_eq_getElem hi')
    rw[List.getElem?_eq_getElem (by omega)] at hg
    have yT:(fs[i]).type∈S:=by
     have:=List.all_eq_true.1 hf _ hmem
     simpa using this
    have e:fs.toList[i]=fs[i]:=by simp
    rw[e]
    refine ih n (by omega) _ _ _ yT hg (λm hm=>hz m ?_) (hL.imp_right λq=>by
     simp only[lens] at q
     exact VJ q _ (List.mem_map_of_mem (List.getElem_mem _)))
    have hwm:=DataW.weights_mem_each (P:=P) (ts:=fs.toList.map (·.type)) (ds:=ys.map (·.1)) (j:=i) (t:=(fs[i]).type) (d:=(ys[i]'(by omega)).1) (by rw[List.getElem?_map,Array.getElem?_toList,Array.getElem?_eq_getElem hi'];rfl) (by rw[List.getElem?_map,List.getElem?_eq_getElem (by omega)];rfl) m hm
    simpa [DataW.weights,hu] using hwm
   rw[List.drop_zero] at k2 k3
   exact⟨ds,.struct t fs ds hu k1,k2,k3⟩
  ·cases hT
theorem zuN {L:Nat} {S:List TypeId} (hS:JB P S=true) {t:TypeId} (ht:t∈S) {v:Value} {d:DataW H} {ps:List MemPlace} (h:DataW.Trod enc P W 0 spare held t v d ps) (hz:∀n∈d.weights P t,n≤reachBytes) (hL:L=0∨lens L d):∃ds,YH P L t ds∧zY vt (XM W) W ds v.cells.toList∧∀u∈v.cells.toList,yl u=true:=by
 obtain⟨fuel,hf⟩:=h
 exact zoX hS fuel t _ _ ht hf hz hL
theorem zsa {cs:List D} {xs:Array Value} (h:zY vt (XM W) W cs (Value.agg xs).cells.toList):rep vt (XM W) W (.agg cs) (.agg xs):=by
 simp only[rep]
 exact⟨xs.toList,by simp,h⟩
end
end
section
open Go.ChangeShapes Go.WideShapes Go.ChangeAt Go.RowKit Go.Deep
def zop (P:Program) (L:Nat) (t:TypeId) (d:D):Prop:=match P.underlying t with
 | some (.struct _)=>∃cs,d=.agg cs∧YH P L t cs
 | _=>YH P L t [d]
def zq6 (P:Program) (L:Nat):List TypeId→List D→Prop
 | [],[]=>True
 | t::ts,d::ds=>zop P L t d∧zq6 P L ts ds
 | _,_=>False
abbrev OfA (P:Program):=zop P 0
abbrev OfAs (P:Program):=zq6 P 0
section
variable {H:Type} {enc:TypeId × Value→H} {P:Program} {W:World}
theorem zuG {L:Nat} {t:TypeId} {ds:List D} (hu:∀fs,P.underlying t≠some (.struct fs)) (h:YH P L t ds):∃d,ds=[d]:=by
 cases h with
 | struct=>rename_i ht _;exact absurd ht (hu _)
 | _=>exact⟨_,rfl⟩
theorem zfS {L:Nat} {S:List TypeId} (hS:JB P S=true) {base:Nat}:∀(ts:List TypeId) (vs:List Value) (ds:List (DataW H)) (ps:List MemPlace),(∀t∈ts,t∈S)→(∀(j:Nat) (t:TypeId) (v:Value),ts[j]? = some t→vs[j]? = some v→Value.okWide P W .any base t v) →
  DataW.TrodAll enc P W 0 (λ_=>true) true ts vs ds ps→(∀n∈DataW.weightsEach P ts ds,n≤reachBytes)→(L=0∨XO L ds)→∃Ds,zq6 P L ts Ds∧zY vt (XM W) W Ds vs
 | [],[],[],_,_,_,_,_,_=>⟨[],trivial,by simp only[zY]⟩
 | t::ts,v::vs,d::ds,ps,hts,hval,h,hz,hL=>by
  obtain⟨p,q,h1,h2,_⟩:=h
  obtain⟨cs,k1,k2,k3⟩:=zuN hS (hts t (by simp)) h1 (λn hn=>hz n (by simp[DataW.weightsEach,hn])) (hL.imp_right λq=>by simp only[XO] at q;exact q.1)
  obtain⟨Ds,g1,g2⟩:=zfS hS ts vs ds q (λu hu=>hts u (by simp[hu])) (λj u x hj hx=>hval (j+1) u x (by simpa using hj) (by simpa using hx)) h2 (λn hn=>hz n (by simp[DataW.weightsEach,hn])) (hL.imp_right λq=>by simp only[XO] at q;exact q.2)
  have hv:=hval 0 t v rfl rfl
  have one:∃c,zop P L t c∧rep vt (XM W) W c v:=by
   unfold zop
   split
   ·rename_i fs hu
    obtain⟨xs,rfl,_⟩:=okWide_struct hu hv
    exact⟨_,⟨cs,rfl,k1⟩,zsa k2⟩
   ·rename_i hu
    obtain⟨c,rfl⟩:=zuG hu k1
    have h1v:v.cells.toList=[v]:=by
     have hlen:=xh _ _ k2
     cases v with
     | agg xs =>
      exfalso
      have hT:=List.all_eq_true.1 hS t (hts t (by simp))
      unfold Value.okWide at hv
      split at hT
      ·rename_i e;rw[e] at hv;simp[Cell.okWide,Cell.ok,e] at hv
      ·rename_i e;rw[e] at hv;simp[Cell.okWide,Cell.ok,e] at hv
      ·rename_i e;rw[e] at hv;simp[Cell.okWide,Cell.ok,e] at hv
      ·rename_i e;rw[e] at hv;simp[Cell.okWide,Cell.ok,e] at hv
      ·rename_i fs e;exact hu fs e
      ·cases hT
     | _=>rfl
    refine⟨c,k1,?_⟩
    rw[h1v] at k2
    simp only[zY] at k2
    obtain⟨u,us,e,k,_⟩:=k2
    simp at e
    rw[e.1];exact k
  obtain⟨c,c1,c2⟩:=one
  exact⟨c::Ds,⟨c1,g1⟩,by simp only[zY];exact⟨v,vs,rfl,c2,g2⟩⟩
 | [],_::_,_,_,_,_,h,_,_=>by simp[DataW.TrodAll] at h
 | [],[],_::_,_,_,_,h,_,_=>by simp[DataW.TrodAll] at h
 | _::_,[],_,_,_,_,h,_,_=>by simp[DataW.TrodAll] at h
 | _::_,_::_,[],_,_,_,h,_,_=>by simp[DataW.TrodAll] at h
theorem zqX {S:List TypeId} (hS:JB P S=true) {base:Nat} (ts:List TypeId) (vs:List Value) (ds:List (DataW H)) (ps:List MemPlace) (h1:∀t∈ts,t∈S) (h2:∀(j:Nat) (t:TypeId) (v:Value),ts[j]? = some t→vs[j]? = some v→Value.okWide P W .any base t v)
  (h3:DataW.TrodAll enc P W 0 (λ_=>true) true ts vs ds ps) (h4:∀n∈DataW.weightsEach P ts ds,n≤reachBytes):∃Ds,OfAs P ts Ds∧zY vt (XM W) W Ds vs:=zfS hS ts vs ds ps h1 h2 h3 h4 (.inl rfl)
theorem Vo:∀(ts ts':List TypeId) (ds ds':List (DataW H)),ts.length=ds.length→∀n∈DataW.weightsEach P ts ds,n∈DataW.weightsEach P (ts++ts') (ds++ds')
 | [],_,[],_,_,n,hn=>by simp[DataW.weightsEach] at hn
 | t::ts,ts',d::ds,ds',hl,n,hn=>by
  simp only[List.cons_append,DataW.weightsEach,List.mem_append] at hn ⊢
  exact hn.imp_right (Vo ts ts' ds ds' (by simpa using hl) n)
theorem zjX (hl:laidOutB P=true) {W':World} {sp:Nat→Bool} (hb:Below W.heap.size W W'):∀(ts:List TypeId) (vs:List Value) (ds:List (DataW H)) (ps:List MemPlace),(∀t∈ts,P.readableRec t=true∧t<P.types.size) →
  (∀x∈ps,x.block<W.heap.size)→(∀x∈ps,sp x.block=true)→DataW.TrodAll enc P W 0 (λ_=>true) true ts vs ds ps→DataW.TrodAll enc P W' 0 sp true ts vs ds ps
 | [],[],[],_,_,_,_,h=>h
 | t::ts,v::vs,d::ds,ps,hts,hlt,hsp,h=>by
  obtain⟨p,q,h1,h2,rfl⟩:=h
  refine⟨p,q,WideElems.Trod_stays hl (hts t (by simp)).1 (hts t (by simp)).2 h1 (λx hx=>hb.same (hlt x (by simp[hx]))) λx hx=>hsp x (by simp[hx]),zjX hl hb ts vs ds q (λu hu=>hts u (by simp[hu])) (λx hx=>hlt x (by simp[hx])) (λx hx=>hsp x (by simp[hx])) h2,rfl⟩
 | [],_::_,_,_,_,_,_,h=>by simp[DataW.TrodAll] at h
 | [],[],_::_,_,_,_,_,h=>by simp[DataW.TrodAll] at h
 | _::_,[],_,_,_,_,_,h=>by simp[DataW.TrodAll] at h
 | _::_,_::_,[],_,_,_,_,h=>by simp[DataW.TrodAll] at h
theorem VW {sp:Nat→Bool} {hd:Bool} {b:Nat}:∀(ts:List TypeId) (vs:List Value) (ds:List (DataW H)) (ps:List MemPlace),DataW.TrodAll enc P W b sp hd ts vs ds ps→ds.length=ts.length
 | [],[],[],_,_=>rfl
 | t::ts,v::vs,d::ds,ps,h=>by
  obtain⟨p,q,_,h2,_⟩:=h
  simp[VW ts vs ds q h2]
 | [],_::_,_,_,h=>by simp[DataW.TrodAll] at h
 | [],[],_::_,_,h=>by simp[DataW.TrodAll] at h
 | _::_,[],_,_,h=>by simp[DataW.TrodAll] at h
 | _::_,_::_,[],_,h=>by simp[DataW.TrodAll] at h
theorem zgV {F':Nat→Prop} {W':World} (h:Ext vt (XM W) W vt F' W'):Below W.heap.size W W':=⟨h.os,h.tape,h.output,h.size,λk hk=>h.block k hk (Ze k)⟩
theorem zre {f:Func} {s:ChangeSpec} {apart fresh handsOn again:Bool} {W':World} {args:Array Value} {ds gs:List (DataW H)} {before:List MemPlace} {tb:TypeId}
  (hW:DataW.Whole enc P f.params.toList s.vars apart W args.toList ds gs before) (hvars:s.vars=[]) (hrt:f.resultTypes=#[tb]) (htb:P.underlying tb=some .bool)
  (hl:laidOutB P=true) (hr:∀t∈f.params.toList,P.readableRec t=true∧t<P.types.size)
  (hs:∀ds:List (DataW H),ds.length=f.params.toList.length→s.fn H ds={ results:=[.lit (.bool true)],args:=ds })
  (hb:Below W.heap.size W W') (hok:∀(j:Nat) (t:TypeId) (r:Value),f.resultTypes[j]? = some t→((Value.bool true).resultList f.resultTypes.size)[j]? = some r→Value.okWide P W' .any 0 t r) :
  s.post enc P f apart fresh handsOn again W args (.bool true) W':=by
 have hlt:∀p∈before,p.block<W.heap.size:=λp hp=>hW.lt p hp
 have hold:∀p∈before,(λb=>decide (b<W.heap.size)) p.block=true:=λp hp=>by simpa using hlt p hp
 obtain⟨pa,pv,hA,hV,hps,hz,hn⟩:=id hW
 rw[hvars] at hV
 have hV':gs=[]∧pv=[]:=by
  cases gs with
  | nil=>exact⟨rfl,hV⟩
  | cons _ _=>simp[DataW.TrodVars] at hV
 obtain⟨rfl,rfl⟩:=hV'
 simp only[List.append_nil] at hps
 subst hps
 have hfn:=hs ds (VW _ _ _ _ hA)
 have hresL:((Value.bool true).resultList f.resultTypes.size)=[.bool true]:=by rw[hrt];rfl
 have hres:∀(b:Nat) (sp:Nat→Bool) (hd:Bool),DataW.TrodAll enc P W' b sp hd f.resultTypes.toList ((Value.bool true).resultList f.resultTypes.size) (s.fn H (ds++[])).results []:=λb sp hd=>by
  rw[List.append_nil,hfn,hrt]
  exact trodAll_cons_mk (shut_bool htb _) trodAll_mk0
 have hargs:∀sp:Nat→Bool,(∀p∈before,sp p.block=true)→DataW.TrodAll enc P W' 0 sp true f.params.toList args.toList (s.fn H (ds++[])).args before:=λsp hsp=>by
  rw[List.append_nil,hfn]
  exact zjX hl hb _ _ _ _ hr hlt hsp hA
 have hvars':∀sp:Nat→Bool,DataW.TrodVars enc P W' sp s.vars (s.fn H (ds++[])).vars []:=λsp=>by
  rw[List.append_nil,hfn,hvars]
  rfl
 refine⟨ds,[],before,[],before,[],hW,hres _ _ _,hargs _ hold,hvars' _,World.keptBut_mono (λp hp=>⟨hp,Or.inr (Or.inl hp)⟩) (hb.frame (·∈before)),λ_=>?_⟩
 ·refine⟨hok,_,_,([]++before)++[],⟨[]++before,[],trodAll_append (hargs _ (λ_ _=>rfl)) (hres _ _ _),hvars' _,rfl,?_,?_⟩,?_⟩
  ·intro b off hp
   have yT:MemPlace.cell b off∈before:=by simpa using hp
   rw[hb.frozen (hlt _ yT)]
   exact hz b off yT
  ·intro ha
   have:=hn ha
   simpa using this
  ·intro p hp _
   simpa using hp
end
end
end
section
abbrev Pr:=Int × Int
def qS (L:List Pr) (p:Pr):List Pr:=if p∈L then L else L++[p]
def wR (L:List Pr) (p:Pr):Nat:=L.idxOf p
theorem zq9 (L:List Pr) (p:Pr):L.length≤(qS L p).length∧(qS L p).length≤L.length+1:=by unfold qS;split<;>simp
theorem zcW {L:List Pr} (h:L.Nodup) (p:Pr):(qS L p).Nodup:=by
 unfold qS
 split
 ·exact h
 ·rename_i q
  rw[List.nodup_append]
  exact⟨h,by simp,λa ha b hb=>by rw[List.mem_singleton] at hb;subst hb;exact λe=>q (e▸ha)⟩
theorem zc3 {L:List Pr} {p q:Pr}:q∈qS L p↔q∈L∨q=p:=by
 unfold qS
 split
 ·rename_i h
  exact⟨λk=>.inl k,λk=>k.elim id λe=>e▸h⟩
 ·simp
theorem zrk (L:List Pr) (p:Pr):wR (qS L p) p=if p∈L then wR L p else L.length:=by
 unfold qS wR
 split
 ·rfl
 ·rename_i h
  rw[List.idxOf_append,if_neg h];simp
theorem VO {L:List Pr} {p:Pr} (h:p∈L):wR L p<L.length:=List.idxOf_lt_length_of_mem h
end
section
def vr (f:Nat→Nat):Nat→Nat
 | 0=>0
 | n+1=>vr f n+f n
theorem Uc {f f':Nat→Nat}:∀n,(∀j,j<n→f j=f' j)→vr f n=vr f' n
 | 0,_=>rfl
 | n+1,h=>by simp only[vr];rw[Uc n λj hj=>h j (by omega),h n (by omega)]
theorem UQ {f f':Nat→Nat} {i:Nat}:∀n,i<n→(∀j,j<n→j≠i→f' j=f j)→vr f' n+f i=vr f n+f' i
 | 0,h,_=>by omega
 | n+1,h,k=>by
  simp only[vr]
  by_cases e:i=n
  ·subst e
   rw[Uc i λj hj=>k j (by omega) (by omega)]
   omega
  ·have:=UQ n (by omega) λj hj hne=>k j (by omega) hne
   rw[k n (by omega) (λq=>e q.symm)]
   omega
theorem zj3 {f f':Nat→Nat}:∀n,(∀j,j<n→f j≤f' j)→vr f n≤vr f' n
 | 0,_=>Nat.le_refl _
 | n+1,h=>by simp only[vr];have:=zj3 n λj hj=>h j (by omega);have:=h n (by omega);omega
theorem zio {f f':Nat→Nat} {i:Nat}:∀n,i<n→(∀j,j<n→f j≤f' j)→f i<f' i→vr f n<vr f' n
 | 0,h,_,_=>by omega
 | n+1,h,k,q=>by
  simp only[vr]
  have:=k n (by omega)
  by_cases e:i=n
  ·subst e;have:=zj3 i λj hj=>k j (by omega);omega
  ·have:=zio n (by omega) (λj hj=>k j (by omega)) q;omega
def xu (s:Nat→Bool) (n:Nat):Nat:=vr (λi=>if s i then 0 else 1) n
theorem YS (s:Nat→Bool):∀n,xu s n≤n
 | 0=>Nat.le_refl _
 | n+1=>by unfold xu;simp only[vr];have:=YS s n;unfold xu at this;split<;>omega
theorem YQ {s s':Nat→Bool} {n i:Nat} (hi:i<n) (h:∀j,j<n→s j=true→s' j=true) (h1:s i=false) (h2:s' i=true):xu s' n<xu s n:=zio n hi (λj hj=>by
 cases e:s j with
 | true=>simp[h j hj e]
 | false=>split<;>simp) (by simp[h1,h2])
def mark (s:Nat→Bool) (v:Nat):Nat→Bool:=λi=>if i=v then true else s i
@[simp] theorem vN (s:Nat→Bool) (v:Nat):mark s v v=true:=by simp[mark]
theorem zst {s:Nat→Bool} {v i:Nat} (h:i≠v):mark s v i=s i:=by simp[mark,h]
theorem wP {s:Nat→Bool} {v i:Nat} (h:s i=true):mark s v i=true:=by unfold mark;split<;>simp[h]
theorem Xb {s:Nat→Bool} {v i:Nat}:mark s v i=true↔i=v∨s i=true:=by
 unfold mark
 split
 ·rename_i h;simp[h]
 ·rename_i h;simp[h]
inductive Rch (g:List (List Int)) (from_:List Int):Nat→Prop
 | base {x:Int} (h:x∈from_):Rch g from_ x.toNat
 | step {u:Nat} {x:Int} (h:Rch g from_ u) (k:x∈g.getD u []):Rch g from_ x.toNat
theorem zkG {g:List (List Int)} {from_:List Int} {s:Nat→Bool} (h0:∀x∈from_,s x.toNat=true) (h1:∀v,s v=true→∀x∈g.getD v [],s x.toNat=true):∀v,Rch g from_ v→s v=true:=by
 intro v h
 induction h with
 | base h=>exact h0 _ h
 | step _ k ih=>exact h1 _ ih _ k
open Classical in
noncomputable def Vq (g:List (List Int)) (from_:List Int) (v:Nat):Bool:=decide (Rch g from_ v)
theorem uP {g:List (List Int)} {from_:List Int} {v:Nat}:Vq g from_ v=true↔Rch g from_ v:=by unfold Vq;simp
theorem zut {g:List (List Int)} {from_:List Int} {s:Nat→Bool} {v:Nat} (h:s v=true↔Rch g from_ v):s v=Vq g from_ v:=by
 rw[Bool.eq_iff_iff,h,uP]
theorem yr {l:List Int} {k:Nat} (h:k<l.length):l.getD k 0∈l:=by
 rw[List.getD_eq_getElem?_getD,List.getElem?_eq_getElem h];exact List.getElem_mem h
theorem Xy {l:List Int} {x:Int} (h:x∈l):∃k,k<l.length∧l.getD k 0=x:=by
 obtain⟨k,hk,rfl⟩:=List.mem_iff_getElem.1 h
 exact⟨k,hk,by rw[List.getD_eq_getElem?_getD,List.getElem?_eq_getElem hk];rfl⟩
def zbU (g:List (List Int)) (s:Nat→Bool):Nat:=vr (λv=>if s v then 0 else (g.getD v []).length) g.length
theorem zfe {g:List (List Int)} {s:Nat→Bool} {v:Nat} (hv:v<g.length) (h:s v=false):zbU g (mark s v)+(g.getD v []).length=zbU g s:=by
 have:=UQ (f:=λv=>if s v then 0 else (g.getD v []).length) (f':=λw=>if mark s v w then 0 else (g.getD w []).length) g.length hv λj _ hne=>by rw[zst hne]
 unfold zbU
 simp only[vN,h,if_true,Bool.false_eq_true,if_false] at this
 omega
end
section
abbrev To (g:List (List Int)) (u v:Nat):Prop:=Rch g [(u:Int)] v
theorem wO (g:List (List Int)) (v:Nat):To g v v:=by
 have:=Rch.base (g:=g) (from_:=[(v:Int)]) (x:=(v:Int)) (by simp)
 simpa using this
theorem xO {g:List (List Int)} {a b c:Nat} (h:To g a b) (k:To g b c):To g a c:=by
 unfold To at k
 generalize hb:[(b:Int)]=fr at k
 induction k with
 | base m=>subst hb;simp only[List.mem_singleton] at m;subst m;simpa using h
 | step _ m ih=>exact .step ih m
theorem u5 {g:List (List Int)} {a:Nat} {x:Int} (h:x∈g.getD a []):To g a x.toNat:=.step (wO g a) h
theorem Ux {g:List (List Int)} {s:Nat→Prop} (h:∀v,s v→∀x∈g.getD v [],s x.toNat) {u v:Nat} (k:To g u v) (hu:s u):s v:=by
 unfold To at k
 generalize hb:[(u:Int)]=fr at k
 induction k with
 | base m=>subst hb;simp only[List.mem_singleton] at m;subst m;simpa using hu
 | step _ m ih=>exact h _ ih _ m
structure TJ where
 num:Nat→Nat
 low:Nat→Nat
 part:Nat→Int
 stack:List Nat
 path:List (Nat × Nat)
 count:Nat
 ZU:Nat
def up {α:Type} (f:Nat→α) (k:Nat) (v:α):Nat→α:=λi=>if i=k then v else f i
@[simp] theorem wi {α:Type} (f:Nat→α) (k:Nat) (v:α):up f k v k=v:=by simp[up]
theorem vp {α:Type} {f:Nat→α} {k i:Nat} {v:α} (h:i≠k):up f k v i=f i:=by simp[up,h]
def Wz (g:List (List Int)) (S:TJ):Nat→Bool→List (Nat × Nat)→Prop
 | U,_,[]=>∀v,v∈S.stack→U≤S.num v
 | U,top,(p,i)::r =>
  p∈S.stack∧S.num p<U ∧
  (∀v,v∈S.stack→S.num p≤S.num v→S.num v<U→To g p v∧(v≠p→(∃w,w∈S.stack∧S.num w<S.num v∧To g v w)∧∀x∈g.getD v [],S.num x.toNat≠0∧(S.part x.toNat<0→S.low p≤S.num x.toNat))) ∧
  (∀k,k<(g.getD p []).length→(if top=true then k<i else k+1<i)→S.num ((g.getD p []).getD k 0).toNat≠0∧(S.part ((g.getD p []).getD k 0).toNat<0→S.low p≤S.num ((g.getD p []).getD k 0).toNat)) ∧
  S.low p≤S.num p∧(∃w,w∈S.stack∧S.num w=S.low p∧To g p w) ∧
  (top=false→1≤i∧i≤(g.getD p []).length) ∧
  (match r with
   | []=>True
   | (q,j)::_=>1≤j∧j≤(g.getD q []).length∧((g.getD q []).getD (j-1) 0).toNat=p) ∧
  Wz g S (S.num p) false r
theorem Wz.za6 {g:List (List Int)} {S S':TJ} (h3:∀x,S.num x≠0→S'.num x≠0∧(S'.part x<0→S.part x<0∧S'.num x=S.num x)) :
  ∀(r:List (Nat × Nat)) {U:Nat} {top:Bool},(∀v,v∈S'.stack→S'.num v<U→v∈S.stack∧S.num v=S'.num v)→(∀v,v∈S.stack→S.num v<U→v∈S'.stack∧S'.num v=S.num v∧S'.low v=S.low v)→Wz g S U top r→Wz g S' U top r
 | [],U,top,h1,h2,h=>λv hv=>by
  rcases Nat.lt_or_ge (S'.num v) U with q|q
  ·obtain⟨a,b⟩:=h1 v hv q
   have:=h v a
   omega
  ·exact q
 | (p,i)::r,U,top,h1,h2,h=>by
  obtain⟨g1,g2,g3,g4,g5,⟨w,w1,w2,w3⟩,g7,g8,g9⟩:=h
  obtain⟨p1,p2,p3⟩:=h2 p g1 g2
  refine⟨p1,by omega,λv hv a b=>?_,λk hk ht=>?_,by omega,?_,g7,g8,?_⟩
  ·obtain⟨c1,c2⟩:=h1 v hv b
   obtain⟨d1,d2⟩:=g3 v c1 (by omega) (by omega)
   refine⟨d1,λhne=>?_⟩
   obtain⟨⟨w,e1,e2,e3⟩,e4⟩:=d2 hne
   obtain⟨f1,f2,f3⟩:=h2 w e1 (by omega)
   refine⟨⟨w,f1,by omega,e3⟩,λx hx=>?_⟩
   obtain⟨n1,n2⟩:=e4 x hx
   obtain⟨m1,m2⟩:=h3 _ n1
   refine⟨m1,λq=>?_⟩
   obtain⟨o1,o2⟩:=m2 q
   have:=n2 o1
   omega
  ·obtain⟨n1,n2⟩:=g4 k hk ht
   obtain⟨m1,m2⟩:=h3 _ n1
   refine⟨m1,λq=>?_⟩
   obtain⟨o1,o2⟩:=m2 q
   have:=n2 o1
   omega
  ·obtain⟨f1,f2,f3⟩:=h2 w w1 (by omega)
   exact⟨w,f1,by omega,w3⟩
  ·rw[p2]
   exact Wz.za6 h3 r (λv hv q=>h1 v hv (by omega)) (λv hv q=>h2 v hv (by omega)) g9
structure TjI (g:List (List Int)) (S:TJ):Prop where
 stk:∀v,v∈S.stack↔S.num v≠0∧S.part v<0
 srt:S.stack.Pairwise λa b=>S.num b<S.num a
 cnt:∀v,S.num v≤S.count
 node:∀v,S.num v≠0→v<g.length
 par:∀v,0≤S.part v→S.part v<(S.ZU:Int)∧S.num v≠0
 cls:∀v,0≤S.part v→∀x∈g.getD v [],0≤S.part x.toNat
 same:∀u v,0≤S.part u→0≤S.part v→(S.part u=S.part v↔To g u v∧To g v u)
 seg:Wz g S (S.count+1) true S.path
 size:S.ZU+S.stack.length≤S.count
 seen:xu (λv=>decide (S.num v≠0)) g.length+S.count=g.length
 deep:S.path.length+xu (λv=>decide (S.num v≠0)) g.length≤g.length
 zqH:∀u v,S.num u=S.num v→S.num u≠0→u=v
def TJ.open (S:TJ) (v:Nat) (path:List (Nat × Nat)):TJ:=⟨up S.num v (S.count+1),up S.low v (S.count+1),S.part,v::S.stack,(v,0)::path,S.count+1,S.ZU⟩
theorem ziN {S:TJ} {n v:Nat} (hv:v<n) (h:S.num v=0):xu (λw=>decide (up S.num v (S.count+1) w≠0)) n+1=xu (λw=>decide (S.num w≠0)) n:=by
 have:=UQ (f:=λw=>if decide (S.num w≠0)=true then 0 else 1) (f':=λw=>if decide (up S.num v (S.count+1) w≠0)=true then 0 else 1) n hv λj _ hne=>by rw[vp hne]
 unfold xu
 rw[wi] at this
 simp only[h] at this
 simp at this
 simp
 omega
theorem TjI.opened {g:List (List Int)} {S:TJ} (h:TjI g S) {v:Nat} (hv:v<g.length) (h0:S.num v=0) {path:List (Nat × Nat)} (hp:path.length≤S.path.length)
  (hs:Wz g S (S.count+1) false path) (hl:match path with|[]=>True|(q,j)::_=>1≤j∧j≤(g.getD q []).length∧((g.getD q []).getD (j-1) 0).toNat=v):TjI g (S.open v path):=by
 have hvs:v ∉ S.stack:=λq=>((h.stk v).1 q).1 h0
 have hpv:S.part v<0:=by
  rcases Int.lt_or_le (S.part v) 0 with q|q
  ·exact q
  ·exact absurd h0 (h.par v q).2
 have hne:∀w,w∈S.stack→w≠v:=λw hw e=>hvs (e▸hw)
 have hn0:∀w,S.num w≠0→w≠v:=λw hw e=>hw (e▸h0)
 have hun:=ziN hv h0
 refine⟨λw=>?_,?_,λw=>?_,λw hw=>?_,λw hw=>?_,h.cls,h.same,?_,?_,?_,?_,?_⟩
 ·show w∈v::S.stack↔up S.num v (S.count+1) w≠0∧S.part w<0
  by_cases e:w=v
  ·subst e;simp[hpv]
  ·rw[vp e,←h.stk w];simp[e]
 ·show(v::S.stack).Pairwise λa b=>up S.num v (S.count+1) b<up S.num v (S.count+1) a
  refine List.pairwise_cons.2 ⟨λw hw=>?_,h.srt.imp_of_mem λ{a b} ha hb q=>?_⟩
  ·rw[wi,vp (hne w hw)];have:=h.cnt w;omega
  ·rw[vp (hne a ha),vp (hne b hb)];exact q
 ·show up S.num v (S.count+1) w≤S.count+1
  by_cases e:w=v
  ·subst e;rw[wi];omega
  ·rw[vp e];have:=h.cnt w;omega
 ·by_cases e:w=v
  ·subst e;exact hv
  ·exact h.node w (by
    have:up S.num v (S.count+1) w≠0:=hw
    rw[vp e] at this;exact this)
 ·obtain⟨a,b⟩:=h.par w hw
  refine⟨a,?_⟩
  show up S.num v (S.count+1) w≠0
  rw[vp (hn0 w b)];exact b
 ·show Wz g (S.open v path) (S.count+1+1) true ((v,0)::path)
  refine⟨List.mem_cons_self ..,?_,λw hw a b=>?_,λk _ hk=>?_,?_,⟨v,List.mem_cons_self ..,?_,wO g v⟩,λq=>(by cases q),hl,?_⟩
  ·show up S.num v (S.count+1) v<_;rw[wi];omega
  ·have e:w=v:=by
    rcases List.mem_cons.1 hw with e|e
    ·exact e
    ·have a:up S.num v (S.count+1) v≤up S.num v (S.count+1) w:=a
     rw[wi,vp (hne w e)] at a
     have:=h.cnt w
     omega
   subst e
   exact⟨wO g w,λq=>absurd rfl q⟩
  ·rw[if_pos rfl] at hk;omega
  ·show up S.low v (S.count+1) v≤up S.num v (S.count+1) v;rw[wi,wi];exact Nat.le_refl _
  ·show up S.num v (S.count+1) v=up S.low v (S.count+1) v;rw[wi,wi]
  ·have e:(S.open v path).num v=S.count+1:=wi ..
   rw[e]
   refine Wz.za6 (S:=S) (S':=S.open v path) (λx hx=>⟨?_,λq=>⟨q,?_⟩⟩) path (λw hw q=>?_) (λw hw q=>?_) hs
   ·show up S.num v (S.count+1) x≠0;rw[vp (hn0 x hx)];exact hx
   ·show up S.num v (S.count+1) x=_;rw[vp (hn0 x hx)]
   ·have q:up S.num v (S.count+1) w<S.count+1:=q
    by_cases e:w=v
    ·subst e;rw[wi] at q;omega
    ·refine⟨(List.mem_cons.1 hw).resolve_left e,?_⟩
     show _=up S.num v (S.count+1) w;rw[vp e]
   ·have e:=hne w hw
    refine⟨List.mem_cons_of_mem _ hw,?_,?_⟩
    ·show up S.num v (S.count+1) w=_;rw[vp e]
    ·show up S.low v (S.count+1) w=_;rw[vp e]
 ·have:=h.size
  show S.ZU+(v::S.stack).length≤S.count+1
  rw[List.length_cons];omega
 ·have:=h.seen
  show xu (λw=>decide (up S.num v (S.count+1) w≠0)) g.length+(S.count+1)=g.length
  omega
 ·have:=h.deep
  show((v,0)::path).length+xu (λw=>decide (up S.num v (S.count+1) w≠0)) g.length≤g.length
  rw[List.length_cons];omega
 ·intro a b e ha
  have e:up S.num v (S.count+1) a=up S.num v (S.count+1) b:=e
  have ha:up S.num v (S.count+1) a≠0:=ha
  have ca:=h.cnt a
  have cb:=h.cnt b
  by_cases e1:a=v<;>by_cases e2:b=v
  ·omega
  ·subst e1;rw[wi,vp e2] at e;omega
  ·subst e2;rw[wi,vp e1] at e;omega
  ·rw[vp e1,vp e2] at e;rw[vp e1] at ha;exact h.zqH a b e ha
theorem Wz.next {g:List (List Int)} {S:TJ} {U p i:Nat} {r:List (Nat × Nat)} (h:Wz g S U true ((p,i)::r)) (hi:i<(g.getD p []).length):Wz g S U false ((p,i+1)::r):=by
 obtain⟨g1,g2,g3,g4,g5,g6,g7,g8,g9⟩:=h
 exact⟨g1,g2,g3,λk hk ht=>g4 k hk (by
  rw[if_neg (by decide)] at ht
  rw[if_pos rfl];omega),g5,g6,λ_=>⟨by omega,by omega⟩,g8,g9⟩
theorem TjI.push {g:List (List Int)} {S:TJ} (h:TjI g S) {p i:Nat} {r:List (Nat × Nat)} (hp:S.path=(p,i)::r) (hi:i<(g.getD p []).length) (hv:((g.getD p []).getD i 0).toNat<g.length) (h0:S.num ((g.getD p []).getD i 0).toNat=0) :
  TjI g (S.open ((g.getD p []).getD i 0).toNat ((p,i+1)::r)):=by
 refine h.opened hv h0 (by rw[hp];simp) (Wz.next (by rw[←hp];exact h.seg) hi) ⟨by omega,by omega,?_⟩
 rw[Nat.add_sub_cancel]
def TJ.skip (S:TJ) (p i:Nat) (r:List (Nat × Nat)) (x:Nat):TJ:=⟨S.num,if S.part x<0 then up S.low p (min (S.low p) (S.num x)) else S.low,S.part,S.stack,(p,i+1)::r,S.count,S.ZU⟩
theorem TjI.skip {g:List (List Int)} {S:TJ} (h:TjI g S) {p i:Nat} {r:List (Nat × Nat)} (hp:S.path=(p,i)::r) (hi:i<(g.getD p []).length) (h0:S.num ((g.getD p []).getD i 0).toNat≠0) :
  TjI g (S.skip p i r ((g.getD p []).getD i 0).toNat):=by
 have hx:(g.getD p []).getD i 0∈g.getD p []:=yr hi
 generalize hxe:(g.getD p []).getD i 0=x at *
 have hseg:=h.seg
 rw[hp] at hseg
 obtain⟨g1,g2,g3,g4,g5,⟨w,w1,w2,w3⟩,g7,g8,g9⟩:=hseg
 have hlow:∀v,S.num v<S.num p→(S.skip p i r x.toNat).low v=S.low v:=λv hv=>by
  show(if S.part x.toNat<0 then up S.low p (min (S.low p) (S.num x.toNat)) else S.low) v=_
  split
  ·rw[vp (λe=>by subst e;omega)]
  ·rfl
 have hlp:(S.skip p i r x.toNat).low p=if S.part x.toNat<0 then min (S.low p) (S.num x.toNat) else S.low p:=by
  show(if S.part x.toNat<0 then up S.low p (min (S.low p) (S.num x.toNat)) else S.low) p=_
  split
  ·rw[wi]
  ·rfl
 have hle:(S.skip p i r x.toNat).low p≤S.low p:=by rw[hlp];split<;>omega
 refine⟨h.stk,h.srt,h.cnt,h.node,h.par,h.cls,h.same,?_,h.size,h.seen,?_,h.zqH⟩
 ·show Wz g (S.skip p i r x.toNat) (S.count+1) true ((p,i+1)::r)
  refine⟨g1,g2,λv hv a b=>?_,λk hk ht=>?_,?_,?_,λq=>(by cases q),g8,?_⟩
  ·obtain⟨d1,d2⟩:=g3 v hv a b
   refine⟨d1,λhne=>⟨(d2 hne).1,λy hy=>?_⟩⟩
   obtain⟨n1,n2⟩:=(d2 hne).2 y hy
   exact⟨n1,λq=>Nat.le_trans hle (n2 q)⟩
  ·rw[if_pos rfl] at ht
   rcases Nat.lt_or_ge k i with q|q
   ·obtain⟨n1,n2⟩:=g4 k hk (by rw[if_pos rfl];exact q)
    exact⟨n1,λz=>Nat.le_trans hle (n2 z)⟩
   ·have:k=i:=by omega
    subst this
    rw[hxe]
    refine⟨h0,λz=>?_⟩
    have z:S.part x.toNat<0:=z
    rw[hlp,if_pos z]
    exact Nat.min_le_right _ _
  ·exact Nat.le_trans hle g5
  ·rw[hlp]
   by_cases z:S.part x.toNat<0
   ·rw[if_pos z]
    rcases Nat.le_total (S.low p) (S.num x.toNat) with q|q
    ·rw[Nat.min_eq_left q];exact⟨w,w1,w2,w3⟩
    ·rw[Nat.min_eq_right q];exact⟨x.toNat,(h.stk _).2 ⟨h0,z⟩,rfl,u5 hx⟩
   ·rw[if_neg z];exact⟨w,w1,w2,w3⟩
  ·exact Wz.za6 (S:=S) (S':=S.skip p i r x.toNat) (λy hy=>⟨hy,λq=>⟨q,rfl⟩⟩) r (λv hv q=>⟨hv,rfl⟩) (λv hv q=>⟨hv,rfl,hlow v q⟩) g9
 ·have:=h.deep
  rw[hp] at this
  exact this
def TJ.back (S:TJ) (n p j:Nat) (r:List (Nat × Nat)):TJ:=⟨S.num,up S.low p (min (S.low p) (S.low n)),S.part,S.stack,(p,j)::r,S.count,S.ZU⟩
theorem TjI.back {g:List (List Int)} {S:TJ} (h:TjI g S) {n i p j:Nat} {r:List (Nat × Nat)} (hp:S.path=(n,i)::(p,j)::r) (hi:(g.getD n []).length≤i) (hl:S.low n≠S.num n):TjI g (S.back n p j r):=by
 have hseg:=h.seg
 rw[hp] at hseg
 obtain⟨g1,g2,g3,g4,g5,⟨w,w1,w2,w3⟩,g7,⟨k1,k2,k3⟩,f1,f2,f3,f4,f5,⟨u,u1,u2,u3⟩,f7,f8,f9⟩:=hseg
 have hlow:∀v,S.num v<S.num p→(S.back n p j r).low v=S.low v:=λv hv=>by
  show up S.low p (min (S.low p) (S.low n)) v=_
  rw[vp (λe=>by subst e;omega)]
 have hlp:(S.back n p j r).low p=min (S.low p) (S.low n):=wi ..
 have hpn:To g p n:=by
  have:=u5 (g:=g) (a:=p) (yr (l:=g.getD p []) (k:=j-1) (by omega))
  rw[k3] at this
  exact this
 have hln:S.low n<S.num n:=by omega
 refine⟨h.stk,h.srt,h.cnt,h.node,h.par,h.cls,h.same,?_,h.size,h.seen,?_,h.zqH⟩
 ·show Wz g (S.back n p j r) (S.count+1) true ((p,j)::r)
  refine⟨f1,by have:S.num p<S.num n:=f2
               have:S.num n<S.count+1:=g2
               show S.num p<S.count+1
               omega,λv hv a b=>?_,λk hk ht=>?_,?_,?_,λq=>(by cases q),f8,?_⟩
  ·have a:S.num p≤S.num v:=a
   have b:S.num v<S.count+1:=b
   rcases Nat.lt_or_ge (S.num v) (S.num n) with q|q
   ·obtain⟨d1,d2⟩:=f3 v hv a q
    refine⟨d1,λhne=>⟨(d2 hne).1,λy hy=>?_⟩⟩
    obtain⟨n1,n2⟩:=(d2 hne).2 y hy
    refine⟨n1,λz=>?_⟩
    rw[hlp]
    exact Nat.le_trans (Nat.min_le_left _ _) (n2 z)
   ·obtain⟨d1,d2⟩:=g3 v hv q b
    refine⟨xO hpn d1,λhne=>?_⟩
    by_cases e:v=n
    ·subst e
     refine⟨⟨w,w1,by show S.num w<S.num v;omega,w3⟩,λy hy=>?_⟩
     obtain⟨k,hk,rfl⟩:=Xy hy
     obtain⟨n1,n2⟩:=g4 k hk (by rw[if_pos rfl];omega)
     refine⟨n1,λz=>?_⟩
     rw[hlp]
     exact Nat.le_trans (Nat.min_le_right _ _) (n2 z)
    ·refine⟨(d2 e).1,λy hy=>?_⟩
     obtain⟨n1,n2⟩:=(d2 e).2 y hy
     refine⟨n1,λz=>?_⟩
     rw[hlp]
     exact Nat.le_trans (Nat.min_le_right _ _) (n2 z)
  ·rw[if_pos rfl] at ht
   rw[hlp]
   rcases Nat.lt_or_ge (k+1) j with q|q
   ·obtain⟨n1,n2⟩:=f4 k hk (by rw[if_neg (by decide)];exact q)
    exact⟨n1,λz=>Nat.le_trans (Nat.min_le_left _ _) (n2 z)⟩
   ·have:k=j-1:=by omega
    subst this
    rw[k3]
    refine⟨((h.stk n).1 g1).1,λz=>?_⟩
    show min _ _≤S.num n
    omega
  ·rw[hlp]
   show _≤S.num p
   omega
  ·rw[hlp]
   rcases Nat.le_total (S.low p) (S.low n) with q|q
   ·rw[Nat.min_eq_left q];exact⟨u,u1,u2,u3⟩
   ·rw[Nat.min_eq_right q];exact⟨w,w1,w2,xO hpn w3⟩
  ·exact Wz.za6 (S:=S) (S':=S.back n p j r) (λy hy=>⟨hy,λq=>⟨q,rfl⟩⟩) r (λv hv q=>⟨hv,rfl⟩) (λv hv q=>⟨hv,rfl,hlow v q⟩) f9
 ·have:=h.deep
  rw[hp] at this
  simp only[List.length_cons] at this
  show((p,j)::r).length+xu (λv=>decide (S.num v≠0)) g.length≤g.length
  rw[List.length_cons]
  omega
end
section
def TJ.shut (S:TJ) (n:Nat) (path:List (Nat × Nat)) (low:Nat→Nat):TJ:=⟨S.num,low,λv=>if v∈S.stack∧S.num n≤S.num v then (S.ZU:Int) else S.part v,S.stack.filter λv=>decide (S.num v<S.num n),path,S.count,S.ZU+1⟩
theorem U5 {α:Type} {p:α→Bool} {a:α}:∀{l:List α},a∈l→p a=false→(l.filter p).length<l.length
 | [],h,_=>by cases h
 | b::l,h,hp=>by
  rw[List.filter_cons]
  by_cases e:p b=true
  ·rw[if_pos e]
   rcases List.mem_cons.1 h with q|q
   ·subst q;rw[hp] at e;cases e
   ·have:=U5 q hp
    simp only[List.length_cons];omega
  ·rw[if_neg e]
   have:=List.length_filter_le p l
   simp only[List.length_cons];omega
theorem TjI.shut {g:List (List Int)} {S:TJ} (h:TjI g S) {n i:Nat} {r:List (Nat × Nat)} (hp:S.path=(n,i)::r) (hi:(g.getD n []).length≤i) (hl:S.low n=S.num n) {low:Nat→Nat} (hlow:∀v,S.num v<S.num n→low v=S.low v):TjI g (S.shut n r low):=by
 have hseg:=h.seg
 rw[hp] at hseg
 obtain⟨g1,g2,g3,g4,g5,g6,g7,g8,g9⟩:=hseg
 have hn0:=(h.stk n).1 g1
 have hpart:∀v,(S.shut n r low).part v=if v∈S.stack∧S.num n≤S.num v then (S.ZU:Int) else S.part v:=λv=>rfl
 -- the piece of n
 have hE:∀v,v∈S.stack→S.num n≤S.num v→∀x∈g.getD v [],S.num x.toNat≠0∧(S.part x.toNat<0→S.num n≤S.num x.toNat):=λv hv a x hx=>by
  have b:S.num v<S.count+1:=by have:=h.cnt v;omega
  by_cases e:v=n
  ·subst e
   obtain⟨k,hk,rfl⟩:=Xy hx
   obtain⟨n1,n2⟩:=g4 k hk (by rw[if_pos rfl];omega)
   exact⟨n1,λz=>by have:=n2 z;omega⟩
  ·obtain⟨n1,n2⟩:=((g3 v hv a b).2 e).2 x hx
   exact⟨n1,λz=>by have:=n2 z;omega⟩
 have hge:∀v,0≤(S.shut n r low).part v↔0≤S.part v∨(v∈S.stack∧S.num n≤S.num v):=λv=>by
  rw[hpart]
  by_cases q:v∈S.stack∧S.num n≤S.num v
  ·rw[if_pos q];simp[q]
  ·rw[if_neg q];simp[q]
 have hcls:∀v,0≤(S.shut n r low).part v→∀x∈g.getD v [],0≤(S.shut n r low).part x.toNat:=λv hv x hx=>by
  rw[hge] at hv ⊢
  rcases hv with hv|⟨hv,a⟩
  ·exact .inl (h.cls v hv x hx)
  ·obtain⟨n1,n2⟩:=hE v hv a x hx
   rcases Int.lt_or_le (S.part x.toNat) 0 with q|q
   ·exact .inr ⟨(h.stk _).2 ⟨n1,q⟩,n2 q⟩
   ·exact .inl q
 have hdown:∀m v,S.num v≤m→v∈S.stack→S.num n≤S.num v→To g v n:=by
  intro m
  induction m with
  | zero=>intro v a hv b;have:=((h.stk v).1 hv).1;omega
  | succ m ih =>
   intro v a hv b
   by_cases e:v=n
   ·subst e;exact wO g v
   ·obtain⟨⟨w,w1,w2,w3⟩,_⟩:=(g3 v hv b (by have:=h.cnt v;omega)).2 e
    have hw:0≤(S.shut n r low).part w:=Ux (s:=λv=>0≤(S.shut n r low).part v) hcls w3 ((hge v).2 (.inr ⟨hv,b⟩))
    rw[hge] at hw
    have hw:w∈S.stack∧S.num n≤S.num w:=by
     rcases hw with q|q
     ·have:=((h.stk w).1 w1).2;omega
     ·exact q
    exact xO w3 (ih w (by omega) w1 hw.2)
 have hmut:∀v,v∈S.stack→S.num n≤S.num v→To g n v∧To g v n:=λv hv a=>⟨(g3 v hv a (by have:=h.cnt v;omega)).1,hdown _ v (Nat.le_refl _) hv a⟩
 have hold:∀u v,0≤S.part u→v∈S.stack→¬To g u v:=λu v hu hv q=>by
  have:=Ux (s:=λv=>0≤S.part v) h.cls q hu
  have:=((h.stk v).1 hv).2
  omega
 refine⟨λv=>?_,?_,h.cnt,h.node,λv hv=>?_,hcls,λu v hu hv=>?_,?_,?_,h.seen,?_,h.zqH⟩
 ·show v∈S.stack.filter _↔S.num v≠0∧(S.shut n r low).part v<0
  rw[List.mem_filter,decide_eq_true_eq,hpart]
  constructor
  ·rintro⟨a,b⟩
   rw[if_neg (λq=>by omega)]
   exact(h.stk v).1 a
  ·rintro⟨a,b⟩
   by_cases q:v∈S.stack∧S.num n≤S.num v
   ·rw[if_pos q] at b;omega
   ·rw[if_neg q] at b
    have:=(h.stk v).2 ⟨a,b⟩
    exact⟨this,by
     rcases Nat.lt_or_ge (S.num v) (S.num n) with z|z
     ·exact z
     ·exact absurd ⟨this,z⟩ q⟩
 ·exact h.srt.filter _
 ·show(S.shut n r low).part v<((S.ZU+1:Nat):Int)∧S.num v≠0
  rw[hpart]
  by_cases q:v∈S.stack∧S.num n≤S.num v
  ·rw[if_pos q];exact⟨by omega,((h.stk v).1 q.1).1⟩
  ·rw[if_neg q]
   rw[hge] at hv
   obtain⟨a,b⟩:=h.par v (hv.resolve_right q)
   exact⟨by omega,b⟩
 ·rw[hge] at hu hv
  rw[hpart,hpart]
  by_cases qu:u∈S.stack∧S.num n≤S.num u<;>by_cases qv:v∈S.stack∧S.num n≤S.num v
  ·rw[if_pos qu,if_pos qv]
   obtain⟨a1,a2⟩:=hmut u qu.1 qu.2
   obtain⟨b1,b2⟩:=hmut v qv.1 qv.2
   exact⟨λ_=>⟨xO a2 b1,xO b2 a1⟩,λ_=>rfl⟩
  ·rw[if_pos qu,if_neg qv]
   have hv':=hv.resolve_right qv
   have:=(h.par v hv').1
   exact⟨λe=>by omega,λe=>absurd e.2 (hold v u hv' qu.1)⟩
  ·rw[if_neg qu,if_pos qv]
   have hu':=hu.resolve_right qu
   have:=(h.par u hu').1
   exact⟨λe=>by omega,λe=>absurd e.1 (hold u v hu' qv.1)⟩
  ·rw[if_neg qu,if_neg qv]
   exact h.same u v (hu.resolve_right qu) (hv.resolve_right qv)
 ·show Wz g (S.shut n r low) (S.count+1) true r
  have mem':∀v,v∈(S.shut n r low).stack↔v∈S.stack∧S.num v<S.num n:=λv=>by
   show v∈S.stack.filter _↔_
   rw[List.mem_filter,decide_eq_true_eq]
  have h9:Wz g (S.shut n r low) (S.num n) false r:=Wz.za6 (S:=S) (S':=S.shut n r low) (λx hx=>⟨hx,λq=>by
   have q':¬(0≤(S.shut n r low).part x):=by omega
   rw[hge] at q'
   exact⟨by
    rcases Int.lt_or_le (S.part x) 0 with z|z
    ·exact z
    ·exact absurd (.inl z) q',rfl⟩⟩) r (λv hv q=>⟨((mem' v).1 hv).1,rfl⟩) (λv hv q=>⟨(mem' v).2 ⟨hv,q⟩,rfl,hlow v q⟩) g9
  match r,g8,h9 with
  | [],_,h9 =>
   intro v hv
   have:=h9 v hv
   have:=((mem' v).1 hv).2
   have:S.num n≤S.num v:=h9 v hv
   omega
  | (p,j)::r,g8,h9 =>
   obtain⟨f1,f2,f3,f4,f5,f6,f7,f8,f9⟩:=h9
   refine⟨f1,?_,λv hv a b=>?_,λk hk ht=>?_,f5,f6,λq=>(by cases q),f8,f9⟩
   ·have:S.num p<S.num n:=f2
    show S.num p<S.count+1
    have:=h.cnt n
    omega
   ·exact f3 v hv a ((mem' v).1 hv).2
   ·rw[if_pos rfl] at ht
    rcases Nat.lt_or_ge (k+1) j with q|q
    ·exact f4 k hk (by rw[if_neg (by decide)];exact q)
    ·have:k=j-1:=by omega
     subst this
     rw[g8.2.2]
     refine⟨hn0.1,λz=>?_⟩
     have:=(hge n).2 (.inr ⟨g1,Nat.le_refl _⟩)
     omega
 ·have:=h.size
  have h1:=U5 (p:=λv=>decide (S.num v<S.num n)) g1 (by simp)
  show S.ZU+1+(S.stack.filter λv=>decide (S.num v<S.num n)).length≤S.count
  omega
 ·have:=h.deep
  rw[hp] at this
  simp only[List.length_cons] at this
  show r.length+xu (λv=>decide (S.num v≠0)) g.length≤g.length
  omega
theorem TjI.zero (g:List (List Int)):TjI g ⟨λ_=>0,λ_=>0,λ_=>-1,[],[],0,0⟩ where
 stk v:=by simp
 srt:=by simp
 cnt _:=Nat.le_refl _
 node v h:=absurd rfl h
 par v h:=by have h:(0:Int)≤-1:=h;omega
 cls v h:=by have h:(0:Int)≤-1:=h;omega
 same u v h:=by have h:(0:Int)≤-1:=h;omega
 seg:=λv hv=>by cases hv
 size:=by simp
 seen:=by
  show xu (λv=>decide ((0:Nat)≠0)) g.length+0=g.length
  have:∀n,xu (λ_=>decide ((0:Nat)≠0)) n=n:=λn=>by
   induction n with
   | zero=>rfl
   | succ n ih=>unfold xu at ih ⊢;simp only[vr,ih];simp
  rw[this];rfl
 deep:=by
  show 0+xu (λv=>decide ((0:Nat)≠0)) g.length≤g.length
  have:=YS (λv=>decide ((0:Nat)≠0)) g.length
  omega
 zqH u v _ h:=absurd rfl h
theorem TjI.empty {g:List (List Int)} {S:TJ} (h:TjI g S) (hp:S.path=[]):S.stack=[]:=by
 have hs:=h.seg
 rw[hp] at hs
 cases e:S.stack with
 | nil=>rfl
 | cons v r =>
  have:=hs v (by rw[e];simp)
  have:=h.cnt v
  omega
theorem TjI.done {g:List (List Int)} {S:TJ} (h:TjI g S) (hp:S.path=[]) {v:Nat} (hv:S.num v≠0):0≤S.part v:=by
 rcases Int.lt_or_le (S.part v) 0 with q|q
 ·have:=(h.stk v).2 ⟨hv,q⟩
  rw[h.empty hp] at this
  cases this
 ·exact q
def XK (g:List (List Int)):List (Nat × Nat)→Nat
 | []=>0
 | (p,i)::r=>(g.getD p []).length-i+1+XK g r
def TJ.fuel (g:List (List Int)) (S:TJ):Nat:=vr (λv=>if S.num v=0 then (g.getD v []).length+2 else 0) g.length+XK g S.path
theorem znC {g:List (List Int)} {S:TJ} {v:Nat} (hv:v<g.length) (h0:S.num v=0) (path:List (Nat × Nat)):TJ.fuel g (S.open v path)+1+XK g S.path=TJ.fuel g S+XK g path:=by
 have:=UQ (f:=λw=>if S.num w=0 then (g.getD w []).length+2 else 0) (f':=λw=>if up S.num v (S.count+1) w=0 then (g.getD w []).length+2 else 0) g.length hv λj _ hne=>by rw[vp hne]
 unfold TJ.fuel
 show vr (λw=>if up S.num v (S.count+1) w=0 then (g.getD w []).length+2 else 0) g.length+((g.getD v []).length-0+1+XK g path)+1+XK g S.path=_
 rw[wi,if_pos h0,if_neg (by omega)] at this
 omega
end
section

end
section
def ze2 (p:Nat→Bool):Nat→Nat→Nat
 | i,0=>i
 | i,d+1=>if p i=true then i else ze2 p (i+1) d
theorem zgk (p:Nat→Bool):∀(d i:Nat),i≤ze2 p i d∧ze2 p i d≤i+d∧(∀j,i≤j→j<ze2 p i d→p j=false)∧(ze2 p i d<i+d→p (ze2 p i d)=true)
 | 0,i=>⟨Nat.le_refl _,Nat.le_refl _,λj h1 h2=>by simp only[ze2] at h2;omega,λh=>by simp[ze2] at h⟩
 | d+1,i=>by
  simp only[ze2]
  split
  ·rename_i h
   exact⟨Nat.le_refl _,by omega,λj h1 h2=>by omega,λ_=>h⟩
  ·rename_i h
   obtain⟨h1,h2,h3,h4⟩:=zgk p d (i+1)
   refine⟨by omega,by omega,λj g1 g2=>?_,λg=>h4 (by omega)⟩
   by_cases e:j=i
   ·subst e;simpa using h
   ·exact h3 j (by omega) g2
def fst (p:Nat→Bool) (e i:Nat):Nat:=ze2 p i (e-i)
theorem JG {p:Nat→Bool} {e i:Nat} (h:i≤e):i≤fst p e i∧fst p e i≤e∧(∀j,i≤j→j<fst p e i→p j=false)∧(fst p e i<e→p (fst p e i)=true):=by
 obtain⟨h1,h2,h3,h4⟩:=zgk p (e-i) i
 exact⟨h1,by unfold fst;omega,h3,λg=>h4 (by unfold fst at g;omega)⟩
theorem fst_eq {p:Nat→Bool} {e i t:Nat} (h1:i≤t) (h2:t≤e) (h3:∀j,i≤j→j<t→p j=false) (h4:t<e→p t=true):fst p e i=t:=by
 obtain⟨g1,g2,g3,g4⟩:=JG (p:=p) (e:=e) (i:=i) (by omega)
 rcases Nat.lt_trichotomy (fst p e i) t with q|q|q
 ·have:=h3 _ g1 q
  rw[g4 (by omega)] at this
  cases this
 ·exact q
 ·have:=g3 t h1 q
  rw[h4 (by omega)] at this
  cases this
end
section
theorem zm9 {g:List (List Int)} {S:TJ} {p i v:Nat} {r:List (Nat × Nat)} (hp:S.path=(p,i)::r) (hi:i<(g.getD p []).length) (hv:v<g.length) (h0:S.num v=0):TJ.fuel g (S.open v ((p,i+1)::r))+2=TJ.fuel g S:=by
 have:=znC hv h0 ((p,i+1)::r)
 rw[hp] at this
 simp only[XK] at this
 omega
theorem zov {g:List (List Int)} {S:TJ} {p i x:Nat} {r:List (Nat × Nat)} (hp:S.path=(p,i)::r) (hi:i<(g.getD p []).length):TJ.fuel g (S.skip p i r x)+1=TJ.fuel g S:=by
 unfold TJ.fuel
 rw[hp]
 show _+((g.getD p []).length-(i+1)+1+XK g r)+1=_+((g.getD p []).length-i+1+XK g r)
 show vr (λv=>if S.num v=0 then _ else 0) _+_+1=_
 omega
theorem znD {g:List (List Int)} {S:TJ} {n i p j:Nat} {r:List (Nat × Nat)} (hp:S.path=(n,i)::(p,j)::r):TJ.fuel g (S.back n p j r)<TJ.fuel g S:=by
 unfold TJ.fuel
 rw[hp]
 show vr (λv=>if S.num v=0 then _ else 0) _+((g.getD p []).length-j+1+XK g r)<_+((g.getD n []).length-i+1+((g.getD p []).length-j+1+XK g r))
 omega
theorem zgb {g:List (List Int)} {S:TJ} {n i:Nat} {r:List (Nat × Nat)} {low:Nat→Nat} (hp:S.path=(n,i)::r):TJ.fuel g (S.shut n r low)<TJ.fuel g S:=by
 unfold TJ.fuel
 rw[hp]
 show vr (λv=>if S.num v=0 then _ else 0) _+XK g r<_+((g.getD n []).length-i+1+XK g r)
 omega
def hasB (same:Nat→Nat→Bool) (k:Nat):Bool:=(List.range k).any λb=>same b k
def ZR (same:Nat→Nat→Bool):Nat→Nat
 | 0=>0
 | k+1=>ZR same k+if hasB same k=true then 0 else 1
def Ud (same:Nat→Nat→Bool) (k:Nat):Nat:=ZR same (fst (λb=>same b k) k 0)
structure Eqv (same:Nat→Nat→Bool) (n:Nat):Prop where
 refl:∀a,a<n→same a a=true
 symm:∀a b,a<n→b<n→same a b=true→same b a=true
 trans:∀a b c,a<n→b<n→c<n→same a b=true→same b c=true→same a c=true
theorem zhi (same:Nat→Nat→Bool):∀k,ZR same k≤k
 | 0=>Nat.le_refl _
 | k+1=>by simp only[ZR];have:=zhi same k;split<;>omega
theorem zdj {same:Nat→Nat→Bool} {n:Nat} (h:Eqv same n) {b k:Nat} (hk:k<n) (hb:b<k) (hs:same b k=true) (hf:∀c,c<b→same c k=false):Ud same k=ZR same b∧Ud same b=ZR same b:=by
 constructor
 ·unfold Ud
  rw[fst_eq (i:=0) (t:=b) (Nat.zero_le _) (by omega) (λj _ hj=>hf j hj) (λ_=>hs)]
 ·unfold Ud
  rw[fst_eq (i:=0) (t:=b) (Nat.zero_le _) (Nat.le_refl _) (λj _ hj=>?_) (λz=>by omega)]
  rw[Bool.eq_false_iff]
  intro q
  have:=h.trans j b k (by omega) (by omega) hk q hs
  rw[hf j hj] at this
  cases this
theorem zeD {same:Nat→Nat→Bool} {k:Nat} (hf:∀c,c<k→same c k=false):Ud same k=ZR same k∧hasB same k=false:=by
 constructor
 ·unfold Ud
  rw[fst_eq (i:=0) (t:=k) (Nat.zero_le _) (Nat.le_refl _) (λj _ hj=>hf j hj) (λz=>by omega)]
 ·unfold hasB
  rw[List.any_eq_false]
  intro b hb
  rw[hf b (List.mem_range.1 hb)]
  decide
theorem zcP {same:Nat→Nat→Bool} {n:Nat} (h:Eqv same n) {b k:Nat} (hk:k<n) (hb:b<k) (hs:same b k=true):Ud same k=Ud same b∧hasB same k=true:=by
 refine⟨?_,List.any_eq_true.2 ⟨b,List.mem_range.2 hb,hs⟩⟩
 obtain⟨g1,g2,g3,g4⟩:=JG (p:=λb=>same b k) (e:=k) (i:=0) (Nat.zero_le _)
 have hlt:fst (λb=>same b k) k 0<k:=by
  rcases Nat.lt_or_ge (fst (λb=>same b k) k 0) k with q|q
  ·exact q
  ·have:=g3 b (Nat.zero_le _) (by omega);simp only[hs] at this;cases this
 have hc:=g4 hlt
 generalize fst (λb=>same b k) k 0=c at *
 have hcb:c≤b:=by
  rcases Nat.lt_or_ge b c with q|q
  ·have:=g3 b (Nat.zero_le _) q;simp only[hs] at this;cases this
  ·exact q
 have e1:=(zdj h hk hlt hc λd hd=>g3 d (Nat.zero_le _) hd)
 rw[e1.1]
 by_cases e:c=b
 ·subst e;rw[e1.2]
 ·refine(zdj h (k:=b) (by omega) (show c<b by omega) (h.trans c k b (by omega) hk (by omega) hc (h.symm b k (by omega) hk hs)) λd hd=>?_).1.symm
  rw[Bool.eq_false_iff]
  intro q
  have:=h.trans d b k (by omega) (by omega) hk q hs
  have z:=g3 d (Nat.zero_le _) hd
  simp only[this] at z
  cases z
theorem zl3 {same:Nat→Nat→Bool} {n:Nat} (h:Eqv same n) {k:Nat} (hk:k<n):Ud same k<n:=by
 unfold Ud
 have:=(JG (p:=λb=>same b k) (e:=k) (i:=0) (Nat.zero_le _)).2.1
 have:=zhi same (fst (λb=>same b k) k 0)
 omega
theorem zuq {same:Nat→Nat→Bool} {n:Nat} (h:Eqv same n) {a b:Nat} (ha:a<n) (hb:b<n):Ud same a=Ud same b↔same a b=true:=by
 have mono:∀i j,i≤j→ZR same i≤ZR same j:=λi j hij=>by
  obtain⟨d,rfl⟩:=Nat.exists_eq_add_of_le hij
  clear hij
  induction d with
  | zero=>exact Nat.le_refl _
  | succ d ih=>exact Nat.le_trans ih (by rw[←Nat.add_assoc];simp only[ZR];omega)
 have first:∀k,k<n→∃c,c≤k∧same c k=true∧(∀d,d<c→same d c=false)∧Ud same k=ZR same c:=λk hk=>by
  obtain⟨g1,g2,g3,g4⟩:=JG (p:=λb=>same b k) (e:=k) (i:=0) (Nat.zero_le _)
  refine⟨fst (λb=>same b k) k 0,g2,?_,λd hd=>?_,rfl⟩
  ·rcases Nat.lt_or_ge (fst (λb=>same b k) k 0) k with q|q
   ·exact g4 q
   ·rw[show fst (λb=>same b k) k 0=k by omega];exact h.refl k hk
  ·rw[Bool.eq_false_iff]
   intro q
   rcases Nat.lt_or_ge (fst (λb=>same b k) k 0) k with z|z
   ·have:=h.trans d _ k (by omega) (by omega) hk q (g4 z)
    have y:=g3 d (Nat.zero_le _) hd
    simp only[this] at y;cases y
   ·have e:fst (λb=>same b k) k 0=k:=by omega
    have y:=g3 d (Nat.zero_le _) hd
    rw[e] at q
    simp only[q] at y;cases y
 constructor
 ·intro e
  obtain⟨c,c1,c2,c3,c4⟩:=first a ha
  obtain⟨d,d1,d2,d3,d4⟩:=first b hb
  have ecd:c=d:=by
   rcases Nat.lt_trichotomy c d with q|q|q
   ·have h1:=mono (c+1) d q
    simp only[ZR,(zeD c3).2] at h1
    simp at h1;omega
   ·exact q
   ·have h1:=mono (d+1) c q
    simp only[ZR,(zeD d3).2] at h1
    simp at h1;omega
  subst ecd
  exact h.trans a c b ha (by omega) hb (h.symm c a (by omega) ha c2) d2
 ·intro e
  rcases Nat.lt_trichotomy a b with q|q|q
  ·exact(zcP h hb q e).1.symm
  ·rw[q]
  ·exact(zcP h ha q (h.symm a b ha hb e)).1
noncomputable def Q3 (g:List (List Int)) (a b:Nat):Bool:=Vq g [(a:Int)] b&&Vq g [(b:Int)] a
theorem xx {g:List (List Int)} {a b:Nat}:Q3 g a b=true↔To g a b∧To g b a:=by
 unfold Q3
 rw[Bool.and_eq_true,uP,uP]
theorem zgK (g:List (List Int)) (n:Nat):Eqv (Q3 g) n where
 refl a _:=xx.2 ⟨wO g a,wO g a⟩
 symm a b _ _ h:=xx.2 (xx.1 h).symm
 trans a b c _ _ _ h k:=xx.2 ⟨xO (xx.1 h).1 (xx.1 k).1,xO (xx.1 k).2 (xx.1 h).2⟩
end
section
def Uo (g:List (List Int)) (c:Nat):Prop:=∃x,x∈g.getD c []∧To g x.toNat c
def Fw (g:List (List Int)) (sets:List (Nat→Bool)) (v:Nat):Prop:=∃c,To g v c∧Uo g c∧∀S,S∈sets→∃d,S d=true∧To g c d∧To g d c
open Classical in
theorem Fw.back {g:List (List Int)} {sets:List (Nat→Bool)} {u v:Nat} (h:Fw g sets v) (k:To g u v):Fw g sets u:=by
 obtain⟨c,h1,h2,h3⟩:=h
 exact⟨c,xO k h1,h2,h3⟩
theorem zbd {g:List (List Int)} {c d:Nat} (h:Uo g c) (h1:To g c d) (h2:To g d c):Uo g d:=by
 obtain⟨x,hx,k⟩:=h
 -- the first going of a Vi from d to c,or d is c
 have key:∀{a b:Nat},To g a b→a=b∨∃y,y∈g.getD a []∧To g y.toNat b:=by
  intro a b q
  unfold To at q
  induction q with
  | base m=>simp only[List.mem_singleton] at m;subst m;left;simp
  | step q m ih =>
   rcases ih with e|⟨y,y1,y2⟩
   ·subst e;exact .inr ⟨_,m,wO g _⟩
   ·exact .inr ⟨y,y1,.step y2 m⟩
 rcases key h2 with e|⟨y,y1,y2⟩
 ·subst e;exact⟨x,hx,k⟩
 ·exact⟨y,y1,xO y2 h1⟩
open Classical in
theorem zjv {g:List (List Int)} (yT:∀v x,x∈g.getD v []→x.toNat<g.length) {u v:Nat} (hu:u<g.length) (h:To g u v):v<g.length:=Ux (s:=λv=>v<g.length) (λv _ x hx=>yT v x hx) h hu
theorem sink {g:List (List Int)} (yT:∀v x,x∈g.getD v []→x.toNat<g.length):∀(m v:Nat),v<g.length→g.length-xu (Vq g [(v:Int)]) g.length≤m→∃c,To g v c∧∀d,To g c d→To g d c
 | 0,v,hv,h=>by
  have h1:=YQ (s:=λ_=>false) (s':=Vq g [(v:Int)]) (n:=g.length) hv (λ_ _ q=>by cases q) rfl (uP.2 (wO g v))
  have h2:=YS (λ_=>false) g.length
  omega
 | m+1,v,hv,h=>by
  by_cases q:∀d,To g v d→To g d v
  ·exact⟨v,wO g v,q⟩
  ·obtain⟨d,hd⟩:=Classical.not_forall.1 q
   obtain⟨d1,d2⟩:=Classical.not_imp.1 hd
   have hlt:=YQ (s:=Vq g [(d:Int)]) (s':=Vq g [(v:Int)]) (n:=g.length) hv (λj _ q=>uP.2 (xO d1 (uP.1 q))) (by
    rw[Bool.eq_false_iff];exact λq=>d2 (uP.1 q)) (uP.2 (wO g v))
   have:=YS (Vq g [(d:Int)]) g.length
   obtain⟨c,c1,c2⟩:=sink yT m d (zjv yT hv d1) (by omega)
   exact⟨c,xO d1 c1,c2⟩
end
section

end
section
open Go.RowKit
def wc {α:Type} (p:α→Bool) (l:List α):Int:=match l.findIdx? p with|some i=>(i:Int)|none=>-1
theorem Xs {α:Type} {p:α→Bool} {l:List α} {k:Nat} (hk:k<l.length) (h:p l[k]=true) (no:∀j (hj:j<k),p (l[j]'zo)=false):wc p l=k:=by
 have:l.findIdx? p=some k:=by
  rw[List.findIdx?_eq_some_iff_getElem]
  exact⟨hk,h,λj hj=>by simp[no j hj]⟩
 unfold wc
 rw[this]
theorem ZF {α:Type} {p:α→Bool} {l:List α} (no:∀j (hj:j<l.length),p l[j]=false):wc p l=-1:=by
 have:l.findIdx? p=none:=by
  rw[List.findIdx?_eq_none_iff]
  intro x hx
  obtain⟨j,hj,rfl⟩:=List.mem_iff_getElem.1 hx
  exact no j hj
 unfold wc
 rw[this]
theorem um {α:Type} (p:α→Bool) (l:List α):decide (wc p l≥0)=l.any p:=by
 unfold wc
 cases e:l.findIdx? p with
 | none =>
  rw[List.findIdx?_eq_none_iff] at e
  have:l.any p=false:=by rw[List.any_eq_false];intro x hx;simp[e x hx]
  rw[this];rfl
 | some i =>
  rw[List.findIdx?_eq_some_iff_getElem] at e
  obtain⟨h1,h2,_⟩:=e
  have:l.any p=true:=by rw[List.any_eq_true];exact⟨_,List.getElem_mem h1,h2⟩
  rw[this]
  exact decide_eq_true (by show(0:Int)≤(i:Int);omega)
theorem JI {α:Type} {p:α→Bool} {l:List α} (h:0≤wc p l):∃k:Nat,wc p l=(k:Int)∧∃hk:k<l.length,p l[k]=true∧∀j (hj:j<k),p (l[j]'zo)=false:=by
 unfold wc at h ⊢
 cases e:l.findIdx? p with
 | none=>rw[e] at h;exact absurd h zc
 | some i =>
  rw[List.findIdx?_eq_some_iff_getElem] at e
  obtain⟨h1,h2,h3⟩:=e
  exact⟨i,rfl,h1,h2,λj hj=>by simpa using h3 j hj⟩
theorem za5 {α:Type} {c:α→D} {l:List α} {z k:Nat} (hz:z=k) (h:k<l.length):(l.map λa=>[c a])[z]? = some [c l[k]]:=by
 subst hz
 rw[List.getElem?_map,List.getElem?_eq_getElem h]
 rfl
@[simp] theorem zbk {α:Type} {m:Nat} (f:α→List D) (l:List α):zD m (l.map f)↔∀a∈l,zl m (f a):=by
 induction l with
 | nil=>simp[zD]
 | cons a r ih=>simp[zD,ih]
@[simp] theorem zvz {α:Type} (f:α→List D) (l:List α):yv (l.map f)↔∀a∈l,ze (f a):=by
 induction l with
 | nil=>simp[yv]
 | cons a r ih=>simp[yv,ih]
@[simp] theorem zyK {α:Type} {ρ:Nat→Nat} (f:α→List D) (l:List α):vw ρ (l.map f)=l.map λa=>yG ρ (f a):=by
 induction l with
 | nil=>simp[vw]
 | cons a r ih=>simp[vw,ih]
@[simp] theorem zjO {m:Nat} (l:List Int):zp m (zw l)↔True:=⟨λ_=>trivial,λ_=>zq _ (zh l)⟩
@[simp] theorem ziY {m:Nat} (l:List (List Int)):zp m (z8 l)↔True:=⟨λ_=>trivial,λ_=>zq _ (yc l)⟩
@[simp] theorem vi {ρ:Nat→Nat} (l:List Int):D.yy ρ (zw l)=zw l:=yx _ (zh l)
@[simp] theorem zgc {ρ:Nat→Nat} (l:List (List Int)):D.yy ρ (z8 l)=z8 l:=yx _ (yc l)
theorem zr {α:Type} {n:Nat} {l:List α} (h:l.length≤n):List.drop 0 (List.take n l)=l:=by rw[List.drop_zero,List.take_of_length_le h]
def c63o:PC:=.seq (OP [Mv 2 cN]) (.seq (.seq (OP [qm 3 0,q 4 (.zjZ 3 false 3)]) (.cond 4 (.seq (.stop (OP [Mv 2 cN])) .ret) .skip)) (.seq (OP [Bs 5 1 0 [],qm 6 0,Ap 7 1 8 5 6,qm 2 7]) .ret))
theorem zun:zz Tryz.prog 63 8 [.tmp 2] c63o:=fK Tryz.func63
theorem QL (l:List Int) (hl:l.length≤17592186044416):yB Tryz.prog 63 [.xj 1 (l.map λn=>[.sc (.int .i64 n)])] [] (.own 0 1 0 l.length) [.vec true 1 1 (l.map λn=>[.sc (.int .i64 n)])]:=by
 refine yp zun zs zs ?_ (by simp[zp]) (by simp[zf.under,zl,zp])
 refine sR ?_
 intro b hb
 cases b
 ·refine sW ?_
  refine sJ ?_
  simp
 ·refine sW ?_
  have hb:=hb rfl
  obtain rfl:l=[]:=by simpa using hb
  refine zgR (λ_:Unit=>[(2,.own 0 1 0 0)]) (λ_=>[.vec true 1 1 []]) (λ_=>True) ?_ ?_
  ·refine sR ?_
   exact⟨(),trivial,wA (zif 2 1 1 zs rfl) (zck (by exact sK))⟩
  ·rintro _ _
   refine sW ?_
   simp
def zzN:PC:=.seq (OP [Bi 9 .lss 8 7]) (.seq (.cond 9 .skip (.exit 0)) (.seq (.block 1 (.seq (OP [qm 10 8,qm 5 10]) (.seq (OP [qm 11 1,qm 12 0,qm 13 5,Ia 14 1 12 13,Lo 15 14,q 16 (.vI 11 [15])]) (.cond 16 (.seq (OP [qm 17 5,qm 4 17]) .ret) .skip)))) (OP [Bi 18 .add 8 (cI 1),qm 8 18])))
def c61:PC:=.seq (OP [Mv 4 (cI 0)]) (.seq (.seq (OP [qm 6 0,Ln 7 6,Mv 8 (cI 0)]) (.block 0 (.loop zzN))) (.seq (OP [Mv 4 (cI (-1))]) .ret))
theorem zwx:zz Tryz.prog 61 19 [.tmp 4] c61:=fK Tryz.func61
theorem zkv {α:Type} (c:α→D) (hcp:∀a,Pure (c a)) (l:List α) (hl:l.length≤9223372036854775807) (p:α→Bool) (cl:FuncId) (cap:List D) (hp:ze cap) (hc:∀a∈l,zu Tryz.prog cl (c a::cap) (.sc (.bool (p a)))) :
  zu Tryz.prog 61 [.xj 1 (l.map λa=>[c a]),.fn (.func cl) [] cap] (.sc (.int .i64 (wc p l))):=by
 have hpl:yv (l.map λa=>[c a]):=zB _ (λa=>by simp[ze,hcp]) l
 refine zb zwx zs (by simp[ze,Pure,hp,hpl]) ?_ (by simp[Pure])
 refine sR ?_
 rw[List.length_map]
 have fin:∀{z:Int},z=wc p l→Deep [] (.sc (.int .i64 z)) (.sc (.int .i64 (wc p l))):=λh=>h▸.refl _
 refine zL [0,1,7] (λk:Nat=>[(8,.sc (.int .i64 k))]) (λ_=>[]) (λk=>k≤l.length∧∀j (hj:j<k) (hl:j<l.length),p l[j]=false) (λk=>l.length-k) 0 ?_
 refine sW ?_
 refine⟨⟨zo,λj hj=>zo⟩,by exact sK,rfl,?_⟩
 rintro k ⟨hk,hno⟩
 refine sW ?_
 refine sR ?_
 refine sS (λh=>?_) λh=>?_
 ·have hk':k<l.length:=sO
  refine sL (za5 (k:=k) zo hk') ?_
  refine sC (hc _ (List.getElem_mem hk')) ?_
  refine sS (λh2=>?_) λh2=>?_
  ·exact fin (Xs hk' h2 λj hj=>hno j hj zo).symm
  ·refine sI ?_
   refine⟨k+1,⟨zo,λj hj hl=>?_⟩,zd,zC (by exact sK) rfl⟩
   by_cases e:j=k
   ·subst e;exact h2
   ·exact hno j zo hl
 ·have hk':¬k<l.length:=sO
  exact fin (ZF λj hj=>hno j zo hj).symm
def c27:PC:=.seq (OP [Mv 4 cF]) (.seq (OP [qm 5 0,qm 6 1,Ca 7 61 [5,6],Bi 8 .geq 7 (cI 0),qm 4 8]) .ret)
theorem zwp:zz Tryz.prog 27 9 [.tmp 4] c27:=fK Tryz.func27
theorem xa {α:Type} (c:α→D) (hcp:∀a,Pure (c a)) (l:List α) (hl:l.length≤9223372036854775807) (p:α→Bool) (cl:FuncId) (cap:List D) (hp:ze cap) (hc:∀a∈l,zu Tryz.prog cl (c a::cap) (.sc (.bool (p a)))) :
  zu Tryz.prog 27 [.xj 1 (l.map λa=>[c a]),.fn (.func cl) [] cap] (.sc (.bool (l.any p))):=by
 have hpl:yv (l.map λa=>[c a]):=zB _ (λa=>by simp[ze,hcp]) l
 refine zb zwp zs (by simp[ze,Pure,hp,hpl]) ?_ (by simp[Pure])
 refine sR ?_
 refine sC (zkv c hcp l hl p cl cap hp hc) ?_
 rw[um]
 exact .refl _
def zwX:PC:=.seq (OP [Bi 9 .lss 8 7]) (.seq (.cond 9 .skip (.exit 0)) (.seq (.block 1 (.seq (OP [qm 10 8,qm 5 10]) (.seq (OP [qm 11 1,qm 12 0,qm 13 5,Ia 14 1 12 13,Lo 15 14,q 16 (.vI 11 [15])]) (.cond 16 (.seq (OP [qm 17 5,qm 4 17]) .ret) .skip)))) (OP [Bi 18 .add 8 (cI 1),qm 8 18])))
def c160:PC:=.seq (OP [Mv 4 (cI 0)]) (.seq (.seq (OP [qm 6 0,Ln 7 6,Mv 8 (cI 0)]) (.block 0 (.loop zwX))) (.seq (OP [Mv 4 (cI (-1))]) .ret))
theorem zss:zz Tryz.prog 160 19 [.tmp 4] c160:=fK Tryz.func160
theorem zkd {α:Type} (c:α→D) (hcp:∀a,Pure (c a)) (l:List α) (hl:l.length≤9223372036854775807) (p:α→Bool) (cl:FuncId) (cap:List D) (hp:ze cap) (hc:∀a∈l,zu Tryz.prog cl (c a::cap) (.sc (.bool (p a)))) :
  zu Tryz.prog 160 [.xj 1 (l.map λa=>[c a]),.fn (.func cl) [] cap] (.sc (.int .i64 (wc p l))):=by
 have hpl:yv (l.map λa=>[c a]):=zB _ (λa=>by simp[ze,hcp]) l
 refine zb zss zs (by simp[ze,Pure,hp,hpl]) ?_ (by simp[Pure])
 refine sR ?_
 rw[List.length_map]
 have fin:∀{z:Int},z=wc p l→Deep [] (.sc (.int .i64 z)) (.sc (.int .i64 (wc p l))):=λh=>h▸.refl _
 refine zL [0,1,7] (λk:Nat=>[(8,.sc (.int .i64 k))]) (λ_=>[]) (λk=>k≤l.length∧∀j (hj:j<k) (hl:j<l.length),p l[j]=false) (λk=>l.length-k) 0 ?_
 refine sW ?_
 refine⟨⟨zo,λj hj=>zo⟩,by exact sK,rfl,?_⟩
 rintro k ⟨hk,hno⟩
 refine sW ?_
 refine sR ?_
 refine sS (λh=>?_) λh=>?_
 ·have hk':k<l.length:=sO
  refine sL (za5 (k:=k) zo hk') ?_
  refine sC (hc _ (List.getElem_mem hk')) ?_
  refine sS (λh2=>?_) λh2=>?_
  ·exact fin (Xs hk' h2 λj hj=>hno j hj zo).symm
  ·refine sI ?_
   refine⟨k+1,⟨zo,λj hj hl=>?_⟩,zd,zC (by exact sK) rfl⟩
   by_cases e:j=k
   ·subst e;exact h2
   ·exact hno j zo hl
 ·have hk':¬k<l.length:=sO
  exact fin (ZF λj hj=>hno j zo hj).symm
def c90:PC:=.seq (OP [Mv 4 cF]) (.seq (OP [qm 5 0,qm 6 1,Ca 7 160 [5,6],Bi 8 .geq 7 (cI 0),qm 4 8]) .ret)
theorem zyc:zz Tryz.prog 90 9 [.tmp 4] c90:=fK Tryz.func90
theorem Xv {α:Type} (c:α→D) (hcp:∀a,Pure (c a)) (l:List α) (hl:l.length≤9223372036854775807) (p:α→Bool) (cl:FuncId) (cap:List D) (hp:ze cap) (hc:∀a∈l,zu Tryz.prog cl (c a::cap) (.sc (.bool (p a)))) :
  zu Tryz.prog 90 [.xj 1 (l.map λa=>[c a]),.fn (.func cl) [] cap] (.sc (.bool (l.any p))):=by
 have hpl:yv (l.map λa=>[c a]):=zB _ (λa=>by simp[ze,hcp]) l
 refine zb zyc zs (by simp[ze,Pure,hp,hpl]) ?_ (by simp[Pure])
 refine sR ?_
 refine sC (zkd c hcp l hl p cl cap hp hc) ?_
 rw[um]
 exact .refl _
def zAf:PC:=.seq (OP [Bi 9 .lss 8 7]) (.seq (.cond 9 .skip (.exit 0)) (.seq (.block 1 (.seq (OP [qm 10 8,qm 5 10]) (.seq (OP [qm 11 1,qm 12 0,qm 13 5,Ia 14 1 12 13,Lo 15 14,Bi 16 .eql 11 15]) (.cond 16 (.seq (OP [qm 17 5,qm 4 17]) .ret) .skip)))) (OP [Bi 18 .add 8 (cI 1),qm 8 18])))
def c24:PC:=.seq (OP [Mv 4 (cI 0)]) (.seq (.seq (OP [qm 6 0,Ln 7 6,Mv 8 (cI 0)]) (.block 0 (.loop zAf))) (.seq (OP [Mv 4 (cI (-1))]) .ret))
theorem zxM:zz Tryz.prog 24 19 [.tmp 4] c24:=fK Tryz.func24
theorem zfI (l:List Int) (hl:l.length≤9223372036854775807) (b:Int) :
  zu Tryz.prog 24 [.xj 1 (l.map λa=>[.sc (.int .i64 a)]),.sc (.int .i64 b)] (.sc (.int .i64 (wc (λa=>b==a) l))):=by
 have hpl:yv (l.map λa=>[D.sc (.int .i64 a)]):=zB _ (λa=>by simp[ze,Pure]) l
 refine zb zxM zs (by simp[ze,Pure,hpl]) ?_ (by simp[Pure])
 refine sR ?_
 rw[List.length_map]
 have fin:∀{z:Int},z=wc (λa=>b==a) l→Deep [] (.sc (.int .i64 z)) (.sc (.int .i64 (wc (λa=>b==a) l))):=λh=>h▸.refl _
 refine zL [0,1,7] (λk:Nat=>[(8,.sc (.int .i64 k))]) (λ_=>[]) (λk=>k≤l.length∧∀j (hj:j<k) (hl:j<l.length),(b==l[j])=false) (λk=>l.length-k) 0 ?_
 refine sW ?_
 refine⟨⟨zo,λj hj=>zo⟩,by exact sK,rfl,?_⟩
 rintro k ⟨hk,hno⟩
 refine sW ?_
 refine sR ?_
 refine sS (λh=>?_) λh=>?_
 ·have hk':k<l.length:=sO
  refine sL (za5 (c:=λa=>.sc (.int .i64 a)) (k:=k) zo hk') ?_
  refine sS (λh2=>?_) λh2=>?_
  ·exact fin (Xs hk' h2 λj hj=>hno j hj zo).symm
  ·refine sI ?_
   refine⟨k+1,⟨zo,λj hj hl=>?_⟩,zd,zC (by exact sK) rfl⟩
   by_cases e:j=k
   ·subst e;exact h2
   ·exact hno j zo hl
 ·have hk':¬k<l.length:=sO
  exact fin (ZF λj hj=>hno j zo hj).symm
def c8:PC:=.seq (OP [Mv 4 cF]) (.seq (OP [qm 5 0,qm 6 1,Ca 7 24 [5,6],Bi 8 .geq 7 (cI 0),qm 4 8]) .ret)
theorem zz8:zz Tryz.prog 8 9 [.tmp 4] c8:=fK Tryz.func8
theorem Jg (l:List Int) (hl:l.length≤9223372036854775807) (b:Int) :
  zu Tryz.prog 8 [.xj 1 (l.map λa=>[.sc (.int .i64 a)]),.sc (.int .i64 b)] (.sc (.bool (l.contains b))):=by
 have hpl:yv (l.map λa=>[D.sc (.int .i64 a)]):=zB _ (λa=>by simp[ze,Pure]) l
 refine zb zz8 zs (by simp[ze,Pure,hpl]) ?_ (by simp[Pure])
 refine sR ?_
 refine sC (zfI l hl b) ?_
 rw[um]
 exact yu (by rw[List.contains_eq_any_beq])
def zzy:PC:=.seq (OP [Bi 9 .lss 8 7]) (.seq (.cond 9 .skip (.exit 0)) (.seq (.block 1 (.seq (OP [qm 10 8,qm 5 10]) (.seq (OP [qm 11 1,qm 12 0,qm 13 5,Ia 14 1 12 13,Lo 15 14,q 16 (.eqb false 11 15)]) (.cond 16 (.seq (OP [qm 17 5,qm 4 17]) .ret) .skip)))) (OP [Bi 18 .add 8 (cI 1),qm 8 18])))
def c34:PC:=.seq (OP [Mv 4 (cI 0)]) (.seq (.seq (OP [qm 6 0,Ln 7 6,Mv 8 (cI 0)]) (.block 0 (.loop zzy))) (.seq (OP [Mv 4 (cI (-1))]) .ret))
theorem zxS:zz Tryz.prog 34 19 [.tmp 4] c34:=fK Tryz.func34
theorem QN (l:List Bool) (hl:l.length≤9223372036854775807) (b:Bool) :
  zu Tryz.prog 34 [.xj 1 (l.map λa=>[.sc (.bool a)]),.sc (.bool b)] (.sc (.int .i64 (wc (λa=>b==a) l))):=by
 have hpl:yv (l.map λa=>[D.sc (.bool a)]):=zB _ (λa=>by simp[ze,Pure]) l
 refine zb zxS zs (by simp[ze,Pure,hpl]) ?_ (by simp[Pure])
 refine sR ?_
 rw[List.length_map]
 have fin:∀{z:Int},z=wc (λa=>b==a) l→Deep [] (.sc (.int .i64 z)) (.sc (.int .i64 (wc (λa=>b==a) l))):=λh=>h▸.refl _
 refine zL [0,1,7] (λk:Nat=>[(8,.sc (.int .i64 k))]) (λ_=>[]) (λk=>k≤l.length∧∀j (hj:j<k) (hl:j<l.length),(b==l[j])=false) (λk=>l.length-k) 0 ?_
 refine sW ?_
 refine⟨⟨zo,λj hj=>zo⟩,by exact sK,rfl,?_⟩
 rintro k ⟨hk,hno⟩
 refine sW ?_
 refine sR ?_
 refine sS (λh=>?_) λh=>?_
 ·have hk':k<l.length:=sO
  refine sL (za5 (c:=λa=>.sc (.bool a)) (k:=k) zo hk') ?_
  refine sS (λh2=>?_) λh2=>?_
  ·exact fin (Xs hk' h2 λj hj=>hno j hj zo).symm
  ·refine sI ?_
   refine⟨k+1,⟨zo,λj hj hl=>?_⟩,zd,zC (by exact sK) rfl⟩
   by_cases e:j=k
   ·subst e;exact h2
   ·exact hno j zo hl
 ·have hk':¬k<l.length:=sO
  exact fin (ZF λj hj=>hno j zo hj).symm
def c118:PC:=.seq (OP [Mv 4 cF]) (.seq (OP [qm 5 0,qm 6 1,Ca 7 34 [5,6],Bi 8 .geq 7 (cI 0),qm 4 8]) .ret)
theorem zub:zz Tryz.prog 118 9 [.tmp 4] c118:=fK Tryz.func118
theorem ze5 (l:List Bool) (hl:l.length≤9223372036854775807) (b:Bool) :
  zu Tryz.prog 118 [.xj 1 (l.map λa=>[.sc (.bool a)]),.sc (.bool b)] (.sc (.bool (l.contains b))):=by
 have hpl:yv (l.map λa=>[D.sc (.bool a)]):=zB _ (λa=>by simp[ze,Pure]) l
 refine zb zub zs (by simp[ze,Pure,hpl]) ?_ (by simp[Pure])
 refine sR ?_
 refine sC (QN l hl b) ?_
 rw[um]
 exact yu (by rw[List.contains_eq_any_beq])
end
section
open Go.RowKit
def xv (l:List Int) (n:Nat):Bool:=l.all λx=>decide (0≤x)&&decide (x<(n:Int))
theorem zrT {l:List Int} {n:Nat} (h:xv l n=true) {k:Nat} (hk:k<l.length):0≤l[k]∧l[k]<(n:Int):=by
 have:=List.all_eq_true.1 h _ (List.getElem_mem hk)
 simpa using this
theorem zhC (l:List Int) (n:Nat):(l.any λx=>decide (x<0)||decide (x≥(n:Int)))=!(xv l n):=by
 unfold xv
 induction l with
 | nil=>rfl
 | cons x r ih =>
  simp only[List.any_cons,List.all_cons,ih]
  rw[Bool.not_and]
  congr 1
  rw[Bool.eq_iff_iff]
  simp only[Bool.or_eq_true,decide_eq_true_eq,Bool.not_eq_true',Bool.and_eq_false_iff,decide_eq_false_iff_not]
  omega
theorem zqj {α:Type} {p:α→Bool} {l:List α} (h:∀j (hj:j<l.length),p l[j]=false):l.any p=false:=by
 rw[List.any_eq_false]
 intro x hx
 obtain⟨j,hj,rfl⟩:=List.mem_iff_getElem.1 hx
 simp[h j hj]
theorem zhu {α:Type} {p:α→Bool} {l:List α} {k:Nat} (hk:k<l.length) (h:p l[k]=true):l.any p=true:=List.any_eq_true.2 ⟨_,List.getElem_mem hk,h⟩
theorem zg9 {g:List (List Int)} {z k:Nat} (hz:z=k) (h:k<g.length):(g.map λl=>[zw l])[z]? = some [zw g[k]]:=za5 (c:=zw) hz h
theorem ints_at {l:List Int} {z k:Nat} (hz:z=k) (h:k<l.length):(l.map λn=>[D.sc (.int .i64 n)])[z]? = some [.sc (.int .i64 l[k])]:=za5 (c:=λn=>.sc (.int .i64 n)) hz h
end
section
open Go.RowKit
def uM (l:List Int):D:=.xj 1 (l.map λn=>[.sc (.int .u64 n)])
theorem uI (l:List Int):Pure (uM l):=by
 simp only[uM,Pure];exact zB _ (λn=>by simp[ze,Pure]) l
end
section
open Go.RowKit Go.ChangeShapes Go.WideShapes Go.ChangeAt
def Lett (l:List Int):Prop:=∀x∈l,0≤x∧x<18446744073709551616
theorem zpJ {P:Program} {t:TypeId} {d:D} (ht:P.underlying t=some (.int .i64)) (h:OfA P t d):∃i:Int,d=.sc (.int .i64 i)∧-9223372036854775808≤i∧i≤9223372036854775807:=by
 unfold OfA zop at h
 rw[ht] at h
 obtain⟨n,e,h1,h2⟩:=of_int ht h
 cases e
 refine⟨n,rfl,?_⟩
 simp[IntKind.min,IntKind.max,IntKind.signed,IntKind.bits] at h1 h2
 omega
end
section
open Go.RowKit
section
variable {α:Type}
def wJ (b:Nat) (L:List (List α)):List (List D):=(List.range L.length).map λj=>[.own (j+b) (L.getD j []).length 0 (L.getD j []).length]
def yR (zF:Nat) (c:α→List D) (L:List (List α)):List zf:=L.map λl=>.vec true l.length zF (l.map c)
@[simp] theorem zwG (b:Nat) (L:List (List α)):(wJ b L).length=L.length:=by simp[wJ]
@[simp] theorem Xu (zF:Nat) (c:α→List D) (L:List (List α)):(yR zF c L).length=L.length:=by simp[yR]
theorem xX {b:Nat} {L:List (List α)} {z i:Nat} (hz:z=i) (h:i<L.length):(wJ b L)[z]? = some [.own (i+b) (L.getD i []).length 0 (L.getD i []).length]:=by
 subst hz
 simp[wJ,List.getElem?_map,List.getElem?_range h]
theorem Vb {L:List (List α)} {i:Nat} (h:i<L.length):L[i]? = some (L.getD i []):=by
 rw[List.getD_eq_getElem?_getD,List.getElem?_eq_getElem h];rfl
theorem YT {zF:Nat} {c:α→List D} {L:List (List α)} {i:Nat} (h:i<L.length):(yR zF c L)[i]? = some (.vec true (L.getD i []).length zF ((L.getD i []).map c)):=by
 unfold yR
 rw[List.getElem?_map,Vb h]
 rfl
theorem zlJ {zF:Nat} {c:α→List D} {L:List (List α)} {i:Nat} {K:zf→Prop} (h:i<L.length) (k:K (.vec true (L.getD i []).length zF ((L.getD i []).map c))):vk (yR zF c L) i K:=(yA _ _ _).2 ⟨_,YT h,k⟩
theorem zew {zF:Nat} {c:α→List D} {L:List (List α)} {i:Nat} (l:List α):(yR zF c L).set i (.vec true l.length zF (l.map c))=yR zF c (L.set i l):=by
 unfold yR
 rw[List.map_set]
theorem zsh {L:List (List α)} {i j:Nat} {l:List α} (h:i<L.length):(L.set i l).getD j []=if j=i then l else L.getD j []:=by
 rw[List.getD_eq_getElem?_getD,List.getElem?_set]
 by_cases e:i=j
 ·subst e;simp[h]
 ·rw[if_neg e,if_neg (λq=>e q.symm),List.getD_eq_getElem?_getD]
theorem Xc {b:Nat} {L:List (List α)} {z i:Nat} (hz:z=i) (h:i<L.length) (l:List α) {k:Nat} (hk:k=l.length):(wJ b L).set z [.own (i+b) k 0 k]=wJ b (L.set i l):=by
 subst hz hk
 apply List.ext_getElem?
 intro j
 by_cases hj:j<L.length
 ·rw[xX rfl (by simpa using hj),zsh h,List.getElem?_set]
  by_cases e:z=j
  ·subst e;simp[h]
  ·rw[if_neg e,xX rfl hj,if_neg (λq=>e q.symm)]
 ·rw[List.getElem?_eq_none (by simp;omega),List.getElem?_eq_none (by simp;omega)]
@[simp] theorem ur {m b:Nat} {L:List (List α)} (h:b+L.length≤m):zD m (wJ b L):=by
 unfold wJ
 rw[zbk]
 intro j hj
 have:=List.mem_range.1 hj
 simp only[zl,zp,and_true]
 omega
theorem zhz {zF m:Nat} {c:α→List D} {L:List (List α)} (hc:∀a,zl m (c a)):∀o∈yR zF c L,o.under m:=by
 intro o ho
 unfold yR at ho
 obtain⟨l,_,rfl⟩:=List.mem_map.1 ho
 simp only[zf.under,zbk]
 exact λa _=>hc a
theorem zbr {H:List zf} {b zF:Nat} {c:α→List D} {L:List (List α)} (hH:∀i,i<L.length→H[i+b]? = some (.vec true (L.getD i []).length zF ((L.getD i []).map c))) :
  uz H (wJ b L) (L.map λl=>[.xj zF (l.map c)]):=by
 have e:(L.map λl=>[D.xj zF (l.map c)])=(List.range L.length).map λj=>[D.xj zF ((L.getD j []).map c)]:=by
  apply List.ext_getElem?
  intro j
  by_cases hj:j<L.length
  ·rw[List.getElem?_map,Vb hj,List.getElem?_map,List.getElem?_range hj];rfl
  ·rw[List.getElem?_eq_none (by simp;omega),List.getElem?_eq_none (by simp;omega)]
 rw[e]
 unfold wJ
 have:∀l:List Nat,(∀j∈l,j<L.length)→uz H (l.map λj=>[D.own (j+b) (L.getD j []).length 0 (L.getD j []).length]) (l.map λj=>[D.xj zF ((L.getD j []).map c)]):=by
  intro l
  induction l with
  | nil=>intro _;exact .nil
  | cons j r ih =>
   intro hl
   refine .cons _ _ _ _ (.cons _ _ _ _ (.own _ _ _ _ _ _ _ _ (hH j (hl j zs)) ?_) .nil) (ih λk hk=>hl k (by simp[hk]))
   rw[zr zs]
   exact zU _
 exact this _ λj hj=>List.mem_range.1 hj
theorem Jm {S:Nat→Bool} {H:List zf} {b zF:Nat} {c:α→List D} {L:List (List α)} (hS:∀i,i<L.length→S (i+b)=true) (hH:∀i,i<L.length→H[i+b]? = some (.vec true (L.getD i []).length zF ((L.getD i []).map c))) :
  zJ S H (wJ b L) (L.map λl=>[.xj zF (l.map c)]):=by
 have e:(L.map λl=>[D.xj zF (l.map c)])=(List.range L.length).map λj=>[D.xj zF ((L.getD j []).map c)]:=by
  apply List.ext_getElem?
  intro j
  by_cases hj:j<L.length
  ·rw[List.getElem?_map,Vb hj,List.getElem?_map,List.getElem?_range hj];rfl
  ·rw[List.getElem?_eq_none (by simp;omega),List.getElem?_eq_none (by simp;omega)]
 rw[e]
 unfold wJ
 have:∀l:List Nat,(∀j∈l,j<L.length)→zJ S H (l.map λj=>[D.own (j+b) (L.getD j []).length 0 (L.getD j []).length]) (l.map λj=>[D.xj zF ((L.getD j []).map c)]):=by
  intro l
  induction l with
  | nil=>intro _;exact .refl _
  | cons j r ih =>
   intro hl
   refine .cons _ _ _ _ (.cons _ _ _ _ (.own _ _ _ _ _ _ _ _ (hS j (hl j zs)) (hH j (hl j zs)) ?_) (.refl _)) (ih λk hk=>hl k (by simp[hk]))
   rw[zr zs]
   exact .refl _
 exact this _ λj hj=>List.mem_range.1 hj
end
theorem Js {L n:Nat} (id zF k zW:Nat) {env:Env} {H:List zf} (hL:L≤H.length) (hid:H[id]? = some (.vec true zW 1 (List.replicate k [.sc (.slice none 0 0)]))) :
  St.leB L n env H env (H.set id (.vec true zW 1 ((List.range k).map λj=>[.own (j+H.length) 0 0 0]))++List.replicate k (.vec true 0 zF [])):=λJ F a w hr=>by
 have hidl:=vz hid
 have hfree:∀i,H.length≤i→J i=none:=λi hi=>by
  cases e:J i with
  | none=>rfl
  | some s=>have:=hr.dom i (by rw[e];simp);omega
 let J':yK:=λi=>if H.length≤i∧i<H.length+k then some ⟨false,0,none,zF,0,0⟩ else J i
 have hle:J.le J':=λi s hs=>⟨s,by
  have:¬(H.length≤i∧i<H.length+k):=λe=>by rw[hfree i e.1] at hs;cases hs
  simp only[J'];rw[if_neg this];exact hs,Nat.le_refl _,λ_=>rfl⟩
 have hlen:(H.set id (.vec true zW 1 ((List.range k).map λj=>[D.own (j+H.length) 0 0 0]))).length=H.length:=List.length_set
 have hget:∀i,¬(H.length≤i∧i<H.length+k)→i≠id→(H.set id (.vec true zW 1 ((List.range k).map λj=>[D.own (j+H.length) 0 0 0]))++List.replicate k (zf.vec true 0 zF []))[i]? = H[i]?:=λi hi hne=>by
  rcases Nat.lt_or_ge i H.length with q|q
  ·rw[List.getElem?_append_left (by rw[hlen];exact q),List.getElem?_set_ne (λe=>hne e.symm)]
  ·rw[List.getElem?_eq_none q,List.getElem?_eq_none (by rw[List.length_append,hlen,List.length_replicate];omega)]
 have hnew:∀i,H.length≤i∧i<H.length+k→(H.set id (.vec true zW 1 ((List.range k).map λj=>[D.own (j+H.length) 0 0 0]))++List.replicate k (zf.vec true 0 zF []))[i]? = some (.vec true 0 zF []):=λi hi=>by
  rw[List.getElem?_append_right (by rw[hlen];omega),hlen,List.getElem?_replicate,if_pos zo]
 have hgid:(H.set id (.vec true zW 1 ((List.range k).map λj=>[D.own (j+H.length) 0 0 0]))++List.replicate k (zf.vec true 0 zF []))[id]? = some (.vec true zW 1 ((List.range k).map λj=>[D.own (j+H.length) 0 0 0])):=by
  rw[List.getElem?_append_left (by rw[hlen];exact hidl),List.getElem?_set_self hidl]
 refine⟨J',F,⟨hr.defers,hr.size,λu=>yE hle (λ_ h=>h) (λ_ _=>rfl) _ _ (hr.tmps u),⟨λi s hs=>?_,λi i' s s' b g1 g2 g3 g4=>?_,λi s b o g1 g2 g3 g4=>?_,hr.ok.lt⟩,λi hi=>?_⟩,λi s hi hs=>?_,λb hb=>hb,λb ⟨i,s,hs,hb⟩=>?_,λb hb=>.inl hb⟩
 ·simp only[J'] at hs
  split at hs
  ·rename_i e
   cases hs
   exact⟨_,hnew i e,rfl,rfl,rfl,rfl,Nat.le_refl _,.inl rfl⟩
  ·rename_i e
   obtain⟨o,h1,h2⟩:=hr.ok.obj i s hs
   by_cases e2:i=id
   ·subst e2
    have h1':H[i]? = some o:=h1
    rw[hid] at h1'
    cases h1'
    obtain⟨k1,k2,k3,k4,k5,k6⟩:=h2
    refine⟨_,hgid,k1,k2,k3,by rw[k4];simp,k5,?_⟩
    rcases k6 with k6|⟨b,o,vals,te,t1,t2,t3,t4,t5⟩
    ·exact .inl k6
    ·refine .inr ⟨b,o,vals,te,t1,t2,t3,wX _ _ λj x hj=>?_,λq=>by cases q⟩
     have hjk:j<k:=by
      rcases Nat.lt_or_ge j k with q|q
      ·exact q
      ·rw[List.getElem?_eq_none (by simpa using q)] at hj;cases hj
     rw[List.getElem?_map,List.getElem?_range hjk] at hj
     simp only[Option.map_some,Option.some.injEq] at hj
     subst hj
     obtain⟨r1,r2⟩:=wy _ _ j [.sc (.slice none 0 0)] (by rw[List.getElem?_replicate,if_pos hjk]) t4
     refine⟨rfl,xg _ _ λq c hq=>?_⟩
     cases q with
     | zero =>
      simp at hq;subst hq
      obtain⟨u,p1,p2,p3⟩:=xl _ _ 0 (.sc (.slice none 0 0)) rfl r2
      simp only[rep] at p3
      refine⟨u,p1,p2,?_⟩
      simp only[rep]
      refine⟨⟨false,0,none,zF,0,0⟩,none,0,0,?_,p3,Nat.le_refl _,λ_=>⟨rfl,Nat.le_refl _,Nat.zero_le _,rfl,rfl,.inl rfl⟩⟩
      simp only[J']
      rw[if_pos zo]
     | succ q=>simp at hq
   ·exact⟨o,by rw[hget i e e2];exact h1,xE hle (λ_ h=>h) (λ_ _=>rfl) (λ_ _=>rfl) h2⟩
 ·simp only[J'] at g1 g2
  split at g1
  ·cases g1;simp[Site.uB] at g3
  ·split at g2
   ·cases g2;simp[Site.uB] at g4
   ·exact hr.ok.one i i' s s' b g1 g2 g3 g4
 ·simp only[J'] at g1
  split at g1
  ·cases g1;simp[Site.uB] at g2
  ·rename_i e
   by_cases e2:i=id
   ·subst e2
    exact hr.ok.apart i s b _ g1 g2 hid rfl
   ·exact hr.ok.apart i s b o g1 g2 (by rw[←hget i e e2];exact g3) g4
 ·simp only[J'] at hi
  rw[List.length_append,hlen,List.length_replicate]
  split at hi
  ·omega
  ·have:=hr.dom i hi;omega
 ·have:¬(H.length≤i∧i<H.length+k):=zo
  simp only[J'];rw[if_neg this];exact hs
 ·simp only[J'] at hs
  split at hs
  ·cases hs;simp[Site.uB] at hb
  ·exact⟨i,s,hs,hb⟩
theorem XP {α:Type} (b k:Nat):((List.range k).map λj=>[D.own (j+b) 0 0 0])=wJ b (List.replicate k ([]:List α)):=by
 unfold wJ
 rw[List.length_replicate]
 refine List.map_congr_left λj hj=>?_
 have:=List.mem_range.1 hj
 rw[List.getD_eq_getElem?_getD,List.getElem?_replicate,if_pos this]
 rfl
theorem XT {α:Type} (zF k:Nat) (c:α→List D):List.replicate k (zf.vec true 0 zF [])=yR zF c (List.replicate k []):=by
 unfold yR
 rw[List.map_replicate]
 rfl
theorem yN {m:Nat} {G:List zf}:∀(l t:List zf),(∀o∈l,o.under m)→XZ m G (l++t) l
 | [],t,_=>by cases t<;>exact trivial
 | o::r,t,h=>by
  refine⟨?_,yN r t λo ho=>h o (by simp[ho])⟩
  have:=h o zs
  cases o with
  | row q cs=>exact⟨rfl,.refl _,this⟩
  | vec q v e xs=>exact⟨rfl,rfl,rfl,.refl _,this⟩
  | xL q I=>exact⟨rfl,rfl⟩
theorem zeF {m:Nat} {G:List zf}:∀l:List zf,XZ m G l []
 | []=>trivial
 | _::_=>trivial
structure ForH (P:Program) (n:Nat) (p:PC) (Q:qj) (env:Env) (H:List zf) {ι:Type} (Q1:ι→Env) (O:ι→List zf) (G:ι→Prop) (m:ι→Nat) (i:ι) (e:Env):Prop where
 zdb:G i
 start:Vh env (Q1 i)
 heap:H=O i
 round:∀j,G j→zpZ (Q1 j) e λE=>PWp P n p (zli H.length n Q (λj=>Q1 j++e) O G m (m j)) E (O j)
theorem zZ {P:Program} {n:Nat} {p:PC} {Q:qj} {env:Env} {H:List zf} {ι:Type} (kept:List Nat) (Q1:ι→Env) (O:ι→List zf) (G:ι→Prop) (m:ι→Nat) (i:ι)
  (h:ziK env kept λe=>ForH P n p Q env H Q1 O G m i e):PWp P n (.loop p) Q env H:=by
 rw[zcG] at h
 refine UU (λj=>Q1 j++kept.map λt=>(t,xy t env)) O G m i h.zdb (zC (zau _ _ h.start (QE _)) h.heap) λj hj=>?_
 have:=h.round j hj
 rwa [zhs] at this
theorem zeG {α:Type} {zF:Nat} {c:α→List D} {l:List α} {x:α}:zf.vec true (l.length+1) zF (List.drop 0 (List.take l.length (l.map c))++List.drop 0 (List.take 1 [c x]))=zf.vec true (l++[x]).length zF ((l++[x]).map c):=by
 rw[zr zs,List.length_append,List.length_singleton,List.map_append]
 rfl
def okK (b:Bool) (K K2:Prop):Prop:=match b with
 | true=>K
 | false=>K2
theorem zm2 (x y:Nat) (r:List Nat):za7 x (y::r)=(decide (x=y)||za7 x r):=by
 have e:Nat.beq x y=decide (x=y):=by
  rw[Bool.eq_iff_iff,decide_eq_true_eq]
  exact⟨Nat.eq_of_beq_eq_true,λh=>h▸Nat.beq_refl x⟩
 simp only[za7,e]
 cases decide (x=y)<;>rfl
theorem zqn (x:Nat):za7 x []=false:=rfl
theorem zk2 (x:Nat) (r l:List Nat):meets (x::r) l=(za7 x l||meets r l):=by
 simp only[meets]
 cases za7 x l<;>rfl
theorem znk (l:List Nat):meets [] l=false:=rfl
theorem zwr (b c:Bool):(match b with|true=>c|false=>false)=(b&&c):=by cases b<;>rfl
theorem zxH {b:Bool} {K K2:Prop} (h:b=true) (k:K):okK b K K2:=by subst h;exact k
section
variable {α:Type} {zF:Nat} {c:α→List D} {L:List (List α)} {T:List zf} {K:zf→Prop} {K':List zf→Prop}
theorem J5 {i:Nat} (h:i<L.length) (k:K (.vec true (L.getD i []).length zF ((L.getD i []).map c))):vk (yR zF c L++T) i K:=by
 rw[yA]
 exact⟨_,by rw[List.getElem?_append_left (by simpa using h)];exact YT h,k⟩
theorem y7 (j:Nat) {i:Nat} (hi:i=L.length+j) (k:vk T j K):vk (yR zF c L++T) i K:=by
 subst hi
 rw[yA] at k ⊢
 obtain⟨o,h1,h2⟩:=k
 exact⟨o,by rw[List.getElem?_append_right zs,Xu,Nat.add_sub_cancel_left];exact h1,h2⟩
theorem zb5 {i:Nat} {o:zf} (l:List α) (h:i<L.length) (ho:o=.vec true l.length zF (l.map c)) (k:K' (yR zF c (L.set i l)++T)):XA (yR zF c L++T) i o K':=by
 subst ho
 rw[vP]
 exact⟨by simp;omega,by rw[List.set_append_left _ _ (by simpa using h),zew];exact k⟩
theorem y4 (j:Nat) {i:Nat} {o:zf} (hi:i=L.length+j) (k:XA T j o λT'=>K' (yR zF c L++T')):XA (yR zF c L++T) i o K':=by
 subst hi
 rw[vP] at k ⊢
 exact⟨by rw[List.length_append,Xu];omega,by
  rw[List.set_append_right _ _ zs,Xu,Nat.add_sub_cancel_left];exact k.2⟩
theorem Jf {o:zf} {K:List zf→Nat→Prop} (k:K (yR zF c L++[o]) L.length):Ys (yR zF c L) o K:=by
 rw[vy,Xu]
 exact k
theorem zir {o:zf} {K:List zf→Nat→Prop} (k:K (yR zF c L++(T++[o])) (L.length+T.length)):Ys (yR zF c L++T) o K:=by
 rw[vy,List.length_append,Xu,List.append_assoc]
 exact k
theorem X6 {m:Nat} {G:List zf} (hc:∀a,zl m (c a)):XZ m G (yR zF c L++T) (yR zF c L):=yN _ _ (zhz hc)
end
def zfN (n:Int):List D:=[.sc (.int .i64 n)]
@[simp] theorem zjV {m:Nat} (n:Int):zl m (zfN n):=by simp[zfN,zl,zp]
theorem ZO (L:List (List Int)):yv (L.map λl=>[zw l]):=zB _ (λl=>by simp[ze,zh]) L
end
section
open Go.RowKit
def Vv (g:List (List Int)):Int:=if 20000<g.length then 2 else if (g.any λl=>!(xv l g.length))=true then 1 else 0
theorem uK {g:List (List Int)}:Vv g=0↔g.length≤20000∧∀l∈g,xv l g.length=true:=by
 unfold Vv
 split
 ·constructor
  ·intro h;exact absurd h zc
  ·intro h;omega
 ·split
  ·rename_i h
   rw[List.any_eq_true] at h
   obtain⟨l,h1,h2⟩:=h
   constructor
   ·intro h;exact absurd h zc
   ·intro h;rw[h.2 l h1] at h2;cases h2
  ·rename_i h1 h
   rw[Bool.not_eq_true,List.any_eq_false] at h
   exact⟨λ_=>⟨zo,λl hl=>by simpa using h l hl⟩,λ_=>rfl⟩
structure qV (g:List (List Int)):Prop where
 len:g.length≤17592186043904
 each:∀l∈g,l.length≤17592186043904
theorem qV.at {g:List (List Int)} (h:qV g) (i:Nat):(g.getD i []).length≤17592186043904:=by
 rw[List.getD_eq_getElem?_getD]
 cases e:g[i]? with
 | none=>simp
 | some l=>exact h.each l (List.mem_of_getElem? e)
theorem wG {g:List (List Int)} {z k:Nat} (hz:z=k) (h:k<g.length):(g.map λl=>[zw l])[z]? = some [zw (g.getD k [])]:=by
 subst hz
 rw[List.getElem?_map,Vb h];rfl
theorem yb {l:List Int} {z k:Nat} (hz:z=k) (h:k<l.length):(l.map λn=>[D.sc (.int .i64 n)])[z]? = some [.sc (.int .i64 (l.getD k 0))]:=by
 rw[ints_at hz h,List.getD_eq_getElem?_getD,List.getElem?_eq_getElem h];rfl
theorem uy {l:List Int} {n:Nat} (h:xv l n=true) {k:Nat} (hk:k<l.length):0≤l.getD k 0∧l.getD k 0<(n:Int):=by
 rw[List.getD_eq_getElem?_getD,List.getElem?_eq_getElem hk]
 exact zrT h hk
theorem y9 {g:List (List Int)} {n:Nat} (h:∀l∈g,xv l n=true) (k:Nat):xv (g.getD k []) n=true:=by
 rw[List.getD_eq_getElem?_getD]
 cases e:g[k]? with
 | none=>rfl
 | some l=>exact h l (List.mem_of_getElem? e)
def c62:PC:=.seq (OP [Mv 3 cF]) (.seq (OP [qm 4 0,Bi 5 .lss 4 (cI 0),qm 6 5,GF 7 6 (.move 0),GF 8 6 (.zi 1),GF 9 6 (.len 8),GF 10 6 (.bin .geq 7 9),Pk 11 6 cT 10,qm 3 11]) .ret)
theorem zxW:zz Tryz.prog 62 12 [.tmp 3] c62:=fK Tryz.func62
def c31:PC:=.seq (OP [Bx 2 0,Mv 4 cF]) (.seq (OP [qm 5 1,q 6 (.ZP (.func 62) [] [2]),Ca 7 27 [5,6],qm 4 7]) .ret)
theorem zxX:zz Tryz.prog 31 8 [.tmp 4] c31:=fK Tryz.func31
def zz2:PC:=.seq (OP [Bi 11 .lss 10 9]) (.seq (.cond 11 .skip (.exit 0)) (.seq (.block 1 (.seq (OP [Ia 12 1 8 10,Lo 13 12,qm 4 13]) (.seq (OP [qm 14 0,qm 15 4,Ca 16 31 [14,15]]) (.cond 16 (.seq (OP [Mv 2 (cI 1)]) .ret) .skip)))) (OP [Bi 17 .add 10 (cI 1),qm 10 17])))
def c29:PC:=.seq (OP [Mv 2 (cI 0)]) (.seq (.seq (OP [qm 5 0,Ln 6 5,Bi 7 .gtr 6 (cI 20000)]) (.cond 7 (.seq (OP [Mv 2 (cI 2)]) .ret) .skip)) (.seq (.seq (OP [qm 8 0,Ln 9 8,Mv 10 (cI 0)]) (.block 0 (.loop zz2))) (.seq (OP [Mv 2 (cI 0)]) .ret)))
theorem zwc:zz Tryz.prog 29 18 [.tmp 2] c29:=fK Tryz.func29
theorem zpU (g:List (List Int)) (x:Int):zu Tryz.prog 62 [.sc (.int .i64 x),.xk [z8 g]] (.sc (.bool (decide (x<0)||decide (x≥(g.length:Int))))):=by
 refine zb zxW zs (by simp[ze,Pure,yc]) ?_ (by simp[Pure])
 refine sR ?_
 refine sS (λh=>?_) λh=>?_
 ·exact yu zs
 ·rw[List.length_map]
  exact yu zs
theorem zhc (g:List (List Int)) (l:List Int) (hl:l.length≤9223372036854775807):zu Tryz.prog 31 [z8 g,zw l] (.sc (.bool !(xv l g.length))):=by
 refine zb zxX zs (by simp[ze,Pure,zh,yc]) ?_ (by simp[Pure])
 refine sR ?_
 refine sN (xa (λn=>.sc (.int .i64 n)) (λa=>by simp[Pure]) l hl (λx=>decide (x<0)||decide (x≥(g.length:Int))) 62 [.xk [z8 g]] (by simp[ze,Pure,yc]) λa _=>zpU g a) ?_
 rw[zhC]
 exact .refl _
theorem zaV (g:List (List Int)) (hg:qV g):zu Tryz.prog 29 [z8 g] (.sc (.int .i64 (Vv g))):=by
 have b1:=hg.len
 refine zb zwc zs (by simp[ze,Pure,yc]) ?_ (by simp[Pure])
 unfold z8
 refine sR ?_
 rw[List.length_map]
 have fin:∀{H:List zf} {z:Int},z=Vv g→Deep H (.sc (.int .i64 z)) (.sc (.int .i64 (Vv g))):=λh=>h▸.refl _
 refine sS (λh1=>?_) λh1=>?_
 ·exact fin (by unfold Vv;rw[if_pos (sO)])
 have h1:¬20000<g.length:=sO
 rw[List.length_map]
 refine zL [0,8,9] (λk:Nat=>[(10,.sc (.int .i64 k))]) (λ_=>[]) (λk=>k≤g.length∧∀j (hj:j<k) (hl:j<g.length),(!(xv g[j] g.length))=false) (λk=>g.length-k) 0 ?_
 refine sW ?_
 refine⟨⟨zo,λj hj=>zo⟩,by exact sK,rfl,?_⟩
 rintro k ⟨hk,hall⟩
 refine sW ?_
 refine sR ?_
 refine sS (λh2=>?_) λh2=>?_
 ·have hk':k<g.length:=sO
  refine sL (zg9 (k:=k) zo hk') ?_
  refine sC (zhc g g[k] (by have:=hg.each _ (List.getElem_mem hk');omega)) ?_
  refine sS (λh3=>?_) λh3=>?_
  ·exact fin (by unfold Vv;rw[if_neg h1,if_pos (zhu hk' h3)])
  ·refine sI ?_
   refine⟨k+1,⟨zo,λj hj hl=>?_⟩,zd,zC (by exact sK) rfl⟩
   by_cases e:j=k
   ·subst e;exact h3
   ·exact hall j zo hl
 ·have hk':¬k<g.length:=sO
  exact fin (by unfold Vv;rw[if_neg h1,if_neg (by rw[zqj λj hj=>hall j zo hj];simp)])
end
section
open Go.RowKit
def Zu (n:Nat) (g:Nat→Bool):List (List D):=(List.range n).map λi=>[.sc (.bool (g i))]
def UY (n:Nat) (g:Nat→Bool):D:=.xj 1 (Zu n g)
@[simp] theorem Jp (n:Nat) (g:Nat→Bool):(Zu n g).length=n:=by simp[Zu]
theorem zcM {n i:Nat} {g:Nat→Bool} (h:i<n):(Zu n g)[i]? = some [.sc (.bool (g i))]:=by
 simp[Zu,List.getElem?_map,List.getElem?_range h]
theorem y6 {n:Nat} {g:Nat→Bool} {z:Nat} (i:Nat) (hz:z=i) (h:i<n):(Zu n g)[z]? = some [.sc (.bool (g i))]:=by
 subst hz
 exact zcM h
theorem w9 {n:Nat} {g g':Nat→Bool} (h:∀i,i<n→g i=g' i):Zu n g=Zu n g':=by
 unfold Zu
 exact List.map_congr_left λi hi=>by rw[h i (List.mem_range.1 hi)]
theorem zb3 (n:Nat) (g:Nat→Bool) (k:Nat) (v:Bool):(Zu n g).set k [.sc (.bool v)]=Zu n (λi=>if i=k then v else g i):=by
 apply List.ext_getElem?
 intro i
 by_cases hi:i<n
 ·by_cases hk:i=k
  ·subst hk
   rw[List.getElem?_set_self (by simpa using hi),zcM hi]
   simp
  ·rw[List.getElem?_set_ne (λe=>hk e.symm),zcM hi,zcM hi]
   simp[hk]
 ·rw[List.getElem?_eq_none (by simp;omega),List.getElem?_eq_none (by simp;omega)]
theorem ZT (n:Nat):List.replicate n [D.sc (.bool false)]=Zu n (λ_=>false):=by
 apply List.ext_getElem?
 intro i
 by_cases hi:i<n
 ·rw[zcM hi,List.getElem?_replicate,if_pos hi]
 ·rw[List.getElem?_eq_none (by simp;omega),List.getElem?_eq_none (by simp;omega)]
theorem zjA (n:Nat) (g:Nat→Bool):yv (Zu n g):=zB _ (λi=>by simp[ze,Pure]) _
theorem xm (n:Nat) (g:Nat→Bool):Pure (UY n g):=by simp only[UY,Pure];exact zjA n g
theorem zb4 (n:Nat) (g:Nat→Bool):List.drop 0 (List.take n (Zu n g))=Zu n g:=by rw[List.drop_zero,List.take_of_length_le zs]
theorem zcU {H:List zf} {id v n:Nat} {q:Bool} {g:Nat→Bool} (h:H[id]? = some (.vec q v 1 (Zu n g))):Deep H (.own id v 0 n) (UY n g):=.own _ _ _ _ _ _ _ _ h (by rw[zb4];exact zU _)
def zaj (T:Nat→Bool) (k:Nat) (o:Bool):Nat→Bool:=λi=>if i<k then T i else if i=k then o else false
theorem JL {n k:Nat} {T:Nat→Bool} {o v:Bool} {z:Nat} (hz:z=k):(Zu n (zaj T k o)).set z [.sc (.bool v)]=Zu n (zaj T k v):=by
 subst hz
 rw[zb3]
 refine w9 λi _=>?_
 unfold zaj
 by_cases e:i=z
 ·subst e;simp
 ·simp[e]
theorem VZ {n k:Nat} {T:Nat→Bool} {o:Bool} (h:o=T k):Zu n (zaj T k o)=Zu n (zaj T (k+1) false):=by
 refine w9 λi _=>?_
 unfold zaj
 by_cases e:i=k
 ·subst e;simp[h]
 ·by_cases e2:i<k
  ·rw[if_pos e2,if_pos zo]
  ·rw[if_neg e2,if_neg e,if_neg zo]
   split<;>rfl
theorem zjG (n:Nat) (T:Nat→Bool):Zu n (λ_=>false)=Zu n (zaj T 0 false):=by
 refine w9 λi _=>?_
 unfold zaj
 simp
theorem zjN (n:Nat) (T:Nat→Bool) (o:Bool):Zu n (zaj T n o)=Zu n T:=w9 λi hi=>if_pos hi
@[simp] theorem zvJ {m n:Nat} (g:Nat→Bool):zD m (Zu n g)↔True:=⟨λ_=>trivial,λ_=>zg _ (zjA n g)⟩
@[simp] theorem zyE {m n:Nat} (g:Nat→Bool):zp m (UY n g)↔True:=⟨λ_=>trivial,λ_=>zq _ (xm n g)⟩
theorem zgP (n:Nat) (g:Nat→Bool):Zu n g=((List.range n).map g).map λa=>[D.sc (.bool a)]:=by simp[Zu]
theorem zer (n:Nat) (g:Nat→Bool) (hn:n≤9223372036854775807) (b:Bool):zu Tryz.prog 118 [UY n g,.sc (.bool b)] (.sc (.bool (((List.range n).map g).contains b))):=by
 have:=ze5 ((List.range n).map g) (by simpa using hn) b
 rwa [←zgP] at this
theorem Xq {n:Nat} {g:Nat→Bool} {b:Bool}:((List.range n).map g).contains b=true↔∃i,i<n∧g i=b:=by
 simp[List.contains_iff_mem,List.mem_map]
end
section
open Go.RowKit
theorem JT {n z:Nat} {s:Nat→Bool} {v:Nat} (hz:z=v):(Zu n s).set z [.sc (.bool true)]=Zu n (mark s v):=by
 subst hz
 rw[zb3]
 rfl
structure zbX (g:List (List Int)) (from_:List Int) (B:Nat) (s:Nat→Bool) (T:List Int):Prop where
 todo:xv T g.length=true
 comes:∀x∈T,Rch g from_ x.toNat
 seen:∀v,s v=true→Rch g from_ v
 start:∀x∈from_,s x.toNat=true∨x∈T
 closed:∀v,s v=true→∀x∈g.getD v [],s x.toNat=true∨x∈T
 room:T.length+zbU g s≤B
theorem ye {l:List Int} {n:Nat} (h:xv l n=true) {x:Int} (hx:x∈l):0≤x∧x<(n:Int):=by
 have:=List.all_eq_true.1 h x hx
 simpa using this
theorem xN {l:List Int} {n:Nat} (h:∀x∈l,0≤x∧x<(n:Int)):xv l n=true:=by
 unfold xv
 rw[List.all_eq_true]
 intro x hx
 simpa using h x hx
theorem zbX.pop {g:List (List Int)} {from_:List Int} {B:Nat} {s:Nat→Bool} {T:List Int} {x:Int} (h:zbX g from_ B s (T++[x])) (hs:s x.toNat=true):zbX g from_ B s T where
 todo:=xN λy hy=>ye h.todo (by simp[hy])
 comes y hy:=h.comes y (by simp[hy])
 seen:=h.seen
 start y hy:=by
  rcases h.start y hy with q|q
  ·exact .inl q
  ·rcases List.mem_append.1 q with q|q
   ·exact .inr q
   ·rw[List.mem_singleton] at q;subst q;exact .inl hs
 closed v hv y hy:=by
  rcases h.closed v hv y hy with q|q
  ·exact .inl q
  ·rcases List.mem_append.1 q with q|q
   ·exact .inr q
   ·rw[List.mem_singleton] at q;subst q;exact .inl hs
 room:=by have:=h.room;rw[List.length_append] at this;omega
theorem zbX.push {g:List (List Int)} {from_:List Int} {B:Nat} {s:Nat→Bool} {T:List Int} {x:Int} (hg:∀l∈g,xv l g.length=true) (h:zbX g from_ B s (T++[x])) (hs:s x.toNat=false):zbX g from_ B (mark s x.toNat) (T++g.getD x.toNat []) where
 todo:=xN λy hy=>by
  rcases List.mem_append.1 hy with q|q
  ·exact ye h.todo (by simp[q])
  ·exact ye (y9 hg _) q
 comes y hy:=by
  rcases List.mem_append.1 hy with q|q
  ·exact h.comes y (by simp[q])
  ·exact .step (h.comes x zs) q
 seen v hv:=by
  rcases Xb.1 hv with q|q
  ·subst q;exact h.comes x zs
  ·exact h.seen v q
 start y hy:=by
  rcases h.start y hy with q|q
  ·exact .inl (wP q)
  ·rcases List.mem_append.1 q with q|q
   ·exact .inr (by simp[q])
   ·rw[List.mem_singleton] at q;subst q;exact .inl (vN _ _)
 closed v hv y hy:=by
  rcases Xb.1 hv with q|q
  ·subst q;exact .inr (List.mem_append_right _ hy)
  ·rcases h.closed v q y hy with q|q
   ·exact .inl (wP q)
   ·rcases List.mem_append.1 q with q|q
    ·exact .inr (by simp[q])
    ·rw[List.mem_singleton] at q;subst q;exact .inl (vN _ _)
 room:=by
  have h1:=h.room
  have h2:=ye h.todo (x:=x) zs
  have h3:=zfe (g:=g) (v:=x.toNat) zo hs
  rw[List.length_append] at h1 ⊢
  simp only[List.length_cons,List.length_nil] at h1
  omega
theorem zbX.done {g:List (List Int)} {from_:List Int} {B:Nat} {s:Nat→Bool} (h:zbX g from_ B s []) (v:Nat):s v=Vq g from_ v:=zut ⟨h.seen v,zkG (λx hx=>(h.start x hx).resolve_right zs) (λv hv x hx=>(h.closed v hv x hx).resolve_right zs) v⟩
theorem zbX.begin {g:List (List Int)} {from_:List Int} {B:Nat} (hf:xv from_ g.length=true) (hB:from_.length+zbU g (λ_=>false)≤B):zbX g from_ B (λ_=>false) from_ where
 todo:=hf
 comes _ hx:=.base hx
 seen v h:=by cases h
 start _ hx:=.inr hx
 closed v h:=by cases h
 room:=hB
def zI (l:List Int):List (List D):=l.map λn=>[.sc (.int .i64 n)]
@[simp] theorem zsu {m:Nat} (l:List Int):zD m (zI l)↔True:=by simp[zI,zl,zp]
theorem zqK {Z l:List Int} {z h:Nat} (hz:z=h):List.drop (0+0) (List.take z (zI Z))++l.map (λn=>[D.sc (.int .i64 n)])=zI (Z.take h++l):=by
 subst hz
 unfold zI
 rw[Nat.zero_add,List.drop_zero,List.map_append,List.map_take]
theorem znO {l:List Int} {h:Nat} (h1:1≤h) (h2:h≤l.length):l.take h=l.take (h-1)++[l.getD (h-1) 0]:=by
 obtain⟨k,rfl⟩:∃k,h=k+1:=⟨h-1,zo⟩
 rw[List.take_add_one,List.getElem?_eq_getElem zo,Nat.add_sub_cancel,List.getD_eq_getElem?_getD,List.getElem?_eq_getElem zo]
 rfl
def zzt:PC:=.seq (.seq (OP [qm 13 6,Ln 14 13,Bi 15 .gtr 14 (cI 0)]) (.cond 15 .skip (.exit 0))) (.block 1 (.seq (OP [qm 16 6,qm 17 6,Ln 18 17,Bi 19 .sub 18 (cI 1),Ia 20 1 16 19,Lo 21 20,qm 7 21]) (.seq (OP [qm 22 6,qm 23 6,Ln 24 23,Bi 25 .sub 24 (cI 1),q 26 (.slc 1 22 none (some 25) none),qm 6 26]) (.seq (OP [qm 27 5,qm 28 7,Ia 29 1 27 28,Lo 30 29,Nt 31 30]) (.cond 31 (.seq (OP [qm 32 5,qm 33 7,Ia 34 1 32 33,So 1 34 cT]) (OP [qm 35 6,qm 36 0,qm 37 7,Ia 38 1 36 37,Lo 39 38,Ap 40 1 8 35 39,qm 6 40])) .skip)))))
def c32:PC:=.seq (OP [Mv 4 cN]) (.seq (OP [qm 8 0,Ln 9 8,q 10 (.x5 1 1 [(.bool false)] 9 9),qm 5 10]) (.seq (OP [qm 11 1,Ca 12 63 [11],qm 6 12]) (.seq (.block 0 (.loop zzt)) (.seq (OP [qm 41 5,qm 4 41]) .ret))))
theorem zw7:zz Tryz.prog 32 42 [.tmp 4] c32:=fK Tryz.func32
theorem znx (g:List (List Int)) (hg:Vv g=0) (hF:qV g) (from_:List Int) (hf:xv from_ g.length=true) (hB:from_.length+zbU g (λ_=>false)≤1000000000000) :
  zu Tryz.prog 32 [z8 g,zw from_] (UY g.length (Vq g from_)):=by
 obtain⟨hn,yT⟩:=uK.1 hg
 refine zb zw7 zs (by simp[ze,Pure,yc,zh]) ?_ (xm _ _)
 unfold z8
 refine sR ?_
 rw[List.length_map]
 refine⟨zo,zo,zo,?_⟩
 rw[Int.toNat_natCast]
 refine sW ?_
 refine sE (vq (QL from_ zo) (by simp[ze,Pure]) [1] rfl rfl (by simp[zf.yy,yG,D.yy];rfl)) ?_
 refine zL [0,5] (λ((s,Z,h,zW):(Nat→Bool) × List Int × Nat × Nat)=>[(6,.own 1 zW 0 h)]) (λ(s,Z,h,zW)=>[(0,.vec true 0 1 (Zu g.length s)),(1,.vec true zW 1 (zI Z))])
  (λ(s,Z,h,zW)=>h≤Z.length∧zbX g from_ 1000000000000 s (Z.take h)) (λ(s,Z,h,zW)=>h+zbU g s) ((λ_=>false),from_,from_.length,1) ?_
 refine sW ?_
 refine⟨⟨zs,by rw[List.take_length];exact zbX.begin hf hB⟩,by exact sK,by rw[ZT];rfl,?_⟩
 rintro⟨s,Z,h,zW⟩ ⟨hh,hI⟩
 refine sW ?_
 refine sR ?_
 refine sS (λh1=>?_) λh1=>?_
 ·have h1:1≤h:=sO
  rw[znO h1 hh] at hI
  have hx:=ye hI.todo (x:=Z.getD (h-1) 0) zs
  have room:=hI.room
  rw[List.length_append,List.length_take] at room
  refine sI ?_
  refine sB ?_
  refine⟨_,yb (l:=Z) (k:=h-1) zo zo,?_⟩
  refine sW ?_
  generalize hv:Z.getD (h-1) 0=x at hx hI
  refine sI ?_
  refine⟨zo,zo,zo,?_⟩
  refine sW ?_
  refine sB ?_
  refine⟨_,y6 x.toNat zo zo,?_⟩
  refine sW ?_
  cases hs:s x.toNat
  ·refine sW ?_
   refine sB ?_
   refine⟨_,y6 x.toNat zo zo,?_⟩
   refine sW ?_
   refine sL (wG (k:=x.toNat) zo zo) ?_
   have lx:=hF.at x.toNat
   have key:=zfe (g:=g) (s:=s) (v:=x.toNat) zo hs
   have hP:=hI.push yT hs
   refine sJ ?_
   refine⟨(mark s x.toNat,Z.take (h-1)++g.getD x.toNat [],(h-1)+(g.getD x.toNat []).length,zW+1),⟨by simp;omega,?_⟩,?_,?_⟩
   ·rw[List.take_of_length_le (by simp;omega)]
    exact hP
   ·dsimp only
    omega
   ·refine zC ⟨congrArg (D.own 1 (zW+1) 0) (by simp only[List.length_map];omega),by exact sK⟩ ?_
    rw[JT (v:=x.toNat) zo,zqK (h:=h-1) zo]
    rfl
  ·refine sW ?_
   refine⟨(s,Z,h-1,zW),⟨zo,hI.pop hs⟩,zd,?_⟩
   exact zC ⟨congrArg (D.own 1 zW 0) zo,by exact sK⟩ rfl
 ·have h0:h=0:=sO
  subst h0
  rw[List.take_zero] at hI
  rw[w9 (g':=Vq g from_) λi _=>hI.done i]
  exact zcU rfl
def c14:PC:=.seq (OP [Mv 4 cN,Mv 5 (cI 0)]) (.seq (.seq (OP [qm 7 0,Ca 8 29 [7],qm 6 8]) (.seq (OP [qm 9 6,Bi 10 .neq 9 (cI 0)]) (.cond 10 (.seq (OP [qm 11 6,Mv 4 cN,qm 5 11]) .ret) .skip))) (.seq (.seq (OP [qm 12 0,qm 13 1,Ca 14 31 [12,13]]) (.cond 14 (.seq (OP [Mv 4 cN,Mv 5 (cI 1)]) .ret) .skip)) (.seq (OP [qm 15 0,qm 16 1,Ca 17 32 [15,16],qm 4 17,Mv 5 (cI 0)]) .ret)))
theorem zwC:zz Tryz.prog 14 18 [.tmp 4,.tmp 5] c14:=fK Tryz.func14
theorem zf5 (g:List (List Int)) (hg:Vv g=0) (hF:qV g) (from_:List Int) (hf:xv from_ g.length=true) (hB:from_.length+zbU g (λ_=>false)≤1000000000000) :
  zu Tryz.prog 14 [z8 g,zw from_] (.yI [UY g.length (Vq g from_),.sc (.int .i64 0)]):=by
 refine zb zwC zs (by simp[ze,Pure,yc,zh]) ?_ (by simp[Pure,ze,xm])
 refine sR ?_
 refine sC (zaV g hF) ?_
 refine sS (λh1=>?_) λh1=>?_
 ·exfalso;exact sO
 refine sC (zhc g from_ zo) ?_
 rw[hf]
 refine sW ?_
 refine sC (znx g hg hF from_ hf hB) ?_
 exact .refl _
end
end Go.Proofs.YthoklahpcibacaaGreatDoor
