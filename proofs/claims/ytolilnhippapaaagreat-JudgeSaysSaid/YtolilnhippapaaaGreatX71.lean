/-
  Parts of a proof, joined. No statement is proved here.
-/
import Derived.Laws.Tables
import Derived.Orders
import Derived.Still
import Derived.Deep.LoopGhost
import Derived.LoopN
import Derived.Test.YtolilnhippapaaaGreatX70
import Derived.WalkKit
import Derived.Laws.OwnMore
import Derived.Laws.Rows
import Derived.Deep.AppendLies
import Derived.Deep.Draws
import Derived.Lib.Hide
import Derived.ProofKit
import Derived.ChangeArms
import Derived.ChangeSame
import Derived.OpenShut
import Derived.ShutString
import Derived.Deep.Slices
import Derived.Deep.Fields
import Derived.Lib.SmallJoins
import Derived.Test.YtolilnhippapaaaGreatProg
import Derived.ChangeKeysEq
namespace Go.Proofs.YtolilnhippapaaaGreat
set_option linter.unusedSimpArgs false
set_option linter.unusedVariables false
set_option maxRecDepth 100000
set_option linter.unusedSectionVars false
abbrev fE := List (List D)
abbrev bh := List D
abbrev aF := List ao
abbrev ax:D:=.sc (.slice none 0 0)
abbrev aa (n : Int) : D := .sc (.int .i64 n)
abbrev aD (b : Bool) : D := .sc (.bool b)
open Go.RowKit
section
section
variable{P:bI}{seq:Bool}{o:Oper}{env:Env}{H:aF}{K:pQ}
variable{t:bl}
theorem zP{u v:aP}{w:ba}{b:Bool}(h:(Op.equalIn (9999+1) t u v).run P w=.ok b w):(Op.equal t u v).run P w=.ok b w:=h
variable{y:a8}
theorem zq4{kind:Nat}(h:An P t y=some kind) :
  (kind=0/\(∃e,P.underlying t=some (.pointer e))/\y=.const (.pointer none))\/(kind=1/\(∃e,P.underlying t=some (.interface e))/\y=.const .nilIface) \/
  (kind=2/\(∃a b c,P.underlying t=some (.func a b c))/\y=.const .nilFunc)\/(kind=3/\(∃e,P.underlying t=some (.slice e))/\y=.const (.slice none 0 0)):=by
 unfold An at h;split at h;all_goals (first|cases h|skip)
 ·rename_i h1;exact .inl ⟨rfl,⟨_,h1⟩,rfl⟩
 ·rename_i h1;exact .inr (.inl ⟨rfl,⟨_,h1⟩,rfl⟩)
 ·rename_i h1;exact .inr (.inr (.inl ⟨rfl,⟨_,_,_,h1⟩,rfl⟩))
 rename_i h1;exact .inr (.inr (.inr ⟨rfl,⟨_,h1⟩,rfl⟩))
def Ut:a8->Option aP
 | .const v=>some v
 |_=>none
theorem R6{neq:Bool}{op:BinOp}{yt:bl}{x:a8}{kind:Nat}(lQ:op=if neq then .neq else .eql)(hk:An P t y=some kind)(ho:o.op=.binOp op t x y yt)(h:step P seq (.EH kind neq x) env H K):Sound P o env H K\/(seq=true/\wM P o env H K):=by
 simp only[step,gB] at h;have fin:∀(b:Bool) (v:aP),Ut y=some v->K (aD<|if neq then !b else b) H [] []->(∀(J:bf) (F:Nat->Prop) (w:ba) (u:aP),rep J F w (fU env x) u->(∀z w,(Op.equal t u v).run P w=.ok b w/\(eqGuard op t x y u v).run P w=.ok z w/\z=())/\(∀k n,u≠.int k n)/\(∀s,u≠.string s)/\(∀k n,u≠.float k n)/\(∀k n m,u≠.complex k n m))->Sound P o env H K:=by
  intro b v hv hK bR;refine ga hK λJ F w a G _ aU _=>⟨.bool<|if neq then !b else b,?_,by simp only[rep]⟩;obtain⟨h1,h4,h5,h6,h7⟩:=bR J F w _<|aU x (by simp[ho,Op.operands]);obtain⟨h1,h2,_⟩:=h1 () w;have hy:a.eval y=v:=by
   cases y<;>simp[Ut] at hv;subst hv;rfl
  have hb:(binOp op t (a.eval x) v).run P w=.ok (.bool<|if neq then !b else b) w:=by
   revert h1 h4 h5 h6 h7;generalize a.eval x=u;intro q1 q2 q3 q4 q5;subst lQ;cases neq<;>cases u<;>simp_all [binOp,pure,Sem.run]
  simp only[execOp,ho,hy,Sem.run_bind,h2,Result.andThen_ok,hb,pure,Sem.run]
 have hold:=@fin;clear fin;have fin:=λb v h1 h2 h3=>Or.inl (b:=seq=true/\wM P o env H K)<|hold b v h1 h2 h3;have g1:∀(A:Option Addr) (w:ba),(eqGuard op t x y (.pointer A) (.pointer none)).run P w=.ok () w:=by
  intro A w;subst lQ;cases neq<;>simp[eqGuard,pure,Sem.run]
 have g2:∀(c:aP) (w:ba),y=.const c->(eqGuard op t x y .nilIface .nilIface).run P w=.ok () w:=by
  intro c w hc;subst lQ;subst hc;cases neq<;>simp[eqGuard,pure,Sem.run]
 have g3:∀(d:bl) (v:aP) (w:ba),(eqGuard op t x y (.iface d v) .nilIface).run P w=.ok () w:=by
  intro d v w;subst lQ;cases neq<;>simp[eqGuard,pure,Sem.run]
 have g4:∀(w:ba),(eqGuard op t x y .nilFunc .nilFunc).run P w=.ok () w:=by
  intro w;subst lQ;cases neq<;>simp[eqGuard,pure,Sem.run]
 have g5:∀(f:Fn) (a b:Array aP) (w:ba),(eqGuard op t x y (.func f a b) .nilFunc).run P w=.ok () w:=by
  intro f a b w;subst lQ;cases neq<;>simp[eqGuard,pure,Sem.run]
 have g6:∀(w:ba),(eqGuard op t x y (.slice none 0 0) (.slice none 0 0)).run P w=.ok () w:=by
  intro w;subst lQ;cases neq<;>simp[eqGuard,pure,Sem.run]
 rcases zq4 hk with⟨rfl,⟨e,ht⟩,rfl⟩|⟨rfl,⟨e,ht⟩,rfl⟩|⟨rfl,⟨e1,e2,e3,ht⟩,rfl⟩|⟨rfl,⟨e,ht⟩,rfl⟩
 ·have eq1:∀(A:Option Addr) (w:ba),(Op.equal t (.pointer A) (.pointer none)).run P w=.ok A.isNone w:=λA w=>by
   refine zP ?_;unfold Op.equalIn;cases A<;>simp[underlying,program,Sem.run,ht,pure]
  simp only[D1] at h;split at h
  ·rename_i ex;refine fin true _ rfl (by cases neq<;>exact h) λJ F w u hu=>?_;rw[ex] at hu;simp only[rep] at hu;subst hu;exact⟨λ_ w=>⟨eq1 none w,g1 none w,rfl⟩,by simp,by simp,by simp,by simp⟩
  ·rename_i ex;refine fin false _ rfl (by cases neq<;>exact h) λJ F w u hu=>?_;rw[ex] at hu;simp only[rep] at hu;obtain⟨_,_,_,_,_,rfl⟩:=hu;exact⟨λ_ w=>⟨eq1 (some _) w,g1 (some _) w,rfl⟩,by simp,by simp,by simp,by simp⟩
  ·rename_i ex;refine fin false _ rfl (by cases neq<;>exact h) λJ F w u hu=>?_;rw[ex] at hu;simp only[rep] at hu;obtain⟨_,_,rfl,_⟩:=hu;exact⟨λ_ w=>⟨eq1 (some _) w,g1 (some _) w,rfl⟩,by simp,by simp,by simp,by simp⟩
  ·rename_i ex;refine fin false _ rfl (by cases neq<;>exact h) λJ F w u hu=>?_;rw[ex] at hu;simp only[rep] at hu;obtain⟨_,_,_,rfl,_⟩:=hu;exact⟨λ_ w=>⟨eq1 (some _) w,g1 (some _) w,rfl⟩,by simp,by simp,by simp,by simp⟩
  exact h.elim
 ·have eq1:∀(w:ba),(Op.equal t .nilIface .nilIface).run P w=.ok true w:=λw=>by
   refine zP ?_;unfold Op.equalIn;simp[underlying,program,Sem.run,ht,pure]
  have eq2:∀(d:bl) (v:aP) (w:ba),(Op.equal t (.iface d v) .nilIface).run P w=.ok false w:=λd v w=>by
   refine zP ?_;unfold Op.equalIn;simp[underlying,program,Sem.run,ht,pure]
  simp only[D1] at h;split at h
  ·rename_i ex;refine fin true _ rfl (by cases neq<;>exact h) λJ F w u hu=>?_;rw[ex] at hu;simp only[rep] at hu;subst hu;exact⟨λ_ w=>⟨eq1 w,g2 _ w rfl,rfl⟩,by simp,by simp,by simp,by simp⟩
  ·rename_i ex;refine fin false _ rfl (by cases neq<;>exact h) λJ F w u hu=>?_;rw[ex] at hu;simp only[rep] at hu;obtain⟨_,rfl,_⟩:=hu;exact⟨λ_ w=>⟨eq2 _ _ w,g3 _ _ w,rfl⟩,by simp,by simp,by simp,by simp⟩
  exact h.elim
 ·have eq1:∀(w:ba),(Op.equal t .nilFunc .nilFunc).run P w=.ok true w:=λw=>by
   refine zP ?_;unfold Op.equalIn;simp[underlying,program,Sem.run,ht,pure]
  have eq2:∀(f:Fn) (a b:Array aP) (w:ba),(Op.equal t (.func f a b) .nilFunc).run P w=.ok false w:=λf a b w=>by
   refine zP ?_;unfold Op.equalIn;simp[underlying,program,Sem.run,ht,pure]
  simp only[D1] at h;split at h
  ·rename_i ex;refine fin true _ rfl (by cases neq<;>exact h) λJ F w u hu=>?_;rw[ex] at hu;simp only[rep] at hu;subst hu;exact⟨λ_ w=>⟨eq1 w,g4 w,rfl⟩,by simp,by simp,by simp,by simp⟩
  ·rename_i ex;refine fin false _ rfl (by cases neq<;>exact h) λJ F w u hu=>?_;rw[ex] at hu;simp only[rep] at hu;obtain⟨_,_,rfl,_⟩:=hu;exact⟨λ_ w=>⟨eq2 _ _ _ w,g5 _ _ _ w,rfl⟩,by simp,by simp,by simp,by simp⟩
  exact h.elim
 have eq1:∀(w:ba),(Op.equal t (.slice none 0 0) (.slice none 0 0)).run P w=.ok true w:=λw=>by
  refine zP ?_;unfold Op.equalIn;simp[underlying,program,Sem.run,ht,pure]
 simp only[D1] at h;split at h
 ·rename_i ex;refine fin true _ rfl (by cases neq<;>exact h) λJ F w u hu=>?_;rw[ex] at hu;simp only[rep] at hu;subst hu;exact⟨λ_ w=>⟨eq1 w,g6 w,rfl⟩,by simp,by simp,by simp,by simp⟩
 ·rename_i ak xs ex;obtain⟨hs,h⟩:=h;refine .inr ⟨hs,λJ F w a aC kA aU K2 Q FP=>?_⟩;have hu:=aU x (by simp[ho,Op.operands]);rw[ex] at hu;simp only[rep] at hu;obtain⟨A,n,c,hu,hn,hc,hx⟩:=hu;have hb:A.isNone=true->xs=[]:=λhA=>by
   rcases hx with hx|⟨b,o',rfl,_⟩
   ·exact n8.1<|by omega
   cases hA
  have eq2:(Op.equal t (.slice A n c) (.slice none 0 0)).run P w=.ok A.isNone w:=by
   refine zP ?_;unfold Op.equalIn;cases A<;>simp[underlying,program,Sem.run,ht,pure]
  have g7:(eqGuard op t x (.const (.slice none 0 0)) (.slice A n c) (.slice none 0 0)).run P w=.ok () w:=by
   subst lQ;cases neq<;>simp[eqGuard,pure,Sem.run]
  have jX:(execOp a.eval o).run P w=.ok (.value (.bool<|tQ neq A.isNone)) w:=by
   have hbo:(binOp op t (.slice A n c) (.slice none 0 0)).run P w=.ok (.bool<|tQ neq A.isNone) w:=by
    clear hold fin h;subst lQ;cases neq<;>simp_all [binOp,pure,Sem.run,tQ]
   have hy:a.eval (.const (.slice none 0 0))=.slice none 0 0:=rfl;simp only[execOp,ho,hu,hy,Sem.run_bind,g7,Result.andThen_ok,hbo,pure,Sem.run]
  unfold Oper.wp;rw[jX,Oper.upon_value];exact FP _ H [] [] _ w J F (h A.isNone hb) (by simp only[rep]) aC (Ext.refl _ _ _) kA
 exact h.elim
theorem Q6(place:Nat->Option (Nat×Nat)):∀(l:List<|Nat×a8) (l':List<|Nat×Nat×a8) (cs:bh) (K':bh->Prop),ya place l=some l'->Ik env l' cs K'->∃gH,K' gH /\
  ∀(J:bf) (F:Nat->Prop) (w:ba) (a:Act) (cells:Array aP),(∀p∈l,rep J F w (fU env p.2)<|a.eval p.2)->bB J F w cs cells.toList ->
   ∃uv,Instr.fill place cells (l.map λp=>(p.1,a.eval p.2))=some uv/\bB J F w gH uv.toList
 |[],l',cs,K',hl,h=>by
  simp[ya] at hl;subst hl;exact⟨cs,h,λJ F w a cells _ hr=>⟨cells,rfl,hr⟩⟩
 |(i,x)::r,l',cs,K',hl,h=>by
  simp only[ya] at hl;split at hl
  ·rename_i off n rl e1 e2;cases hl;simp only[Ik,gB,G8,qP] at h;obtain⟨h1,h2,h3⟩:=h;obtain⟨h4,h5⟩:=(Dc _ _ _ _).1 h3;obtain⟨gH,h6,h7⟩:=Q6 place r rl _ K' e2 h5;refine⟨gH,h6,λJ F w a cells aU hr=>?_⟩;obtain⟨k1,_⟩:=CZ h1<|aU (i,x) (by simp);have Ie:=nh _ _ k1;have yP:=nh _ _ hr;have fT:(a.eval x).cells.size=n:=(by rw[h2,<-Ie];simp);obtain⟨c1,f1,f2,f3⟩:=DT place cells i (a.eval x) (r.map λp=>(p.1,a.eval p.2)) off (by rw[fT];exact e1) (by rw[fT];simp at yP;omega);have M3:bB J F w (cs.take off++(fU env x).cells++cs.drop (off+(fU env x).cells.length)) c1.toList:=by
    have ec:c1.toList=cells.toList.take off++(a.eval x).cells.toList++cells.toList.drop (off+(a.eval x).cells.toList.length):=by
     apply qC;intro j;have xV:off+(a.eval x).cells.size<=cells.toList.length:=(by rw[fT,yP];omega);rw[E4,f3];by_cases q1:j<off
     ·rw[ab (by omega),gy,fv (by simp at xV⊢;omega),y9,ae q1];simp
     by_cases q2:j<off+(a.eval x).cells.size
     ·rw[ae (by omega),gy,gJ (by simp at xV⊢;omega),fv (by simp at xV⊢;omega)];simp at xV⊢;rw[show j-min off cells.size=j-off by omega]
     rw[ab (by omega),gJ (by simp at xV⊢;omega),xb];simp at xV⊢;rw[show off+(a.eval x).cells.size+(j-(min off cells.size+(a.eval x).cells.size))=j by omega]
    rw[ec];have e3:(a.eval x).cells.toList.length=(fU env x).cells.length:=Ie;rw[e3];exact Gu (Gu (Lr hr _) k1)<|Lk hr _
   obtain⟨c2,g1,g2⟩:=h7 J F w a c1 (λp hp=>aU p<|by simp[hp]) M3;exact⟨c2,by simp only[fi];rw[f1];exact g1,g2⟩
  cases hl
theorem QA{parts:Array<|Nat×a8}{z:aP}{place:Nat->Option (Nat×Nat)}{l':List<|Nat×Nat×a8}(hz:(P.info? t).bind (·.zero)=some z)(hb:∀l cells,Instr.fill place z.cells l=some cells->P.built t l=some cells)(hl:ya place parts.toList=some l')
  (ho:o.op=.build t parts) (h:step P seq (.build z.cells.toList l') env H K):Sound P o env H K:=by
 simp only[step,IA] at h;obtain⟨gH,h1,h2⟩:=Q6 place parts.toList l' _ _ hl h;refine ga h1 λJ F w a G aC aU cW=>?_;obtain⟨c',h3,h4⟩:=h2 J F w a z.cells (λp hp=>aU p.2 (by
  simp only[ho,Op.operands,List.mem_toArray,dq];exact⟨p,hp,rfl⟩)) (CK z.cells.toList)
 refine⟨.agg c',?_,by simp only[rep];exact⟨c'.toList,by simp,h4⟩⟩;have e1:(parts.map λ(i,x)=>(i,a.eval x)).toList=parts.toList.map λp=>(p.1,a.eval p.2):=by rw[Array.toList_map]
 have:=run_build (P:=P) w t (parts.map λ(i,x)=>(i,a.eval x)) c' (by rw[e1];exact hb _ _ h3);simp only[execOp,ho,Sem.run_bind,this,Result.andThen_ok,pure,Sem.run]
end
end
section
section
variable{P:bI}{seq:Bool}{o:Oper}{env:Env}{H:aF}{K:pQ}
theorem Nz{p:POp}(hc:cop P o=some p)(h:step P seq p env H K):Sound P o env H K\/(seq=true/\wM P o env H K):=by
 unfold cop at hc;split at hc
 ·rename_i x ho;cases hc;exact .inl<|WW (.inl ho) h
 ·rename_i x ho;cases hc;exact .inl<|WW (.inr ho) h
 ·rename_i c a b ho;cases hc;exact .inl<|zzo ho h
 ·rename_i t ho;split at hc
  ·rename_i z hz;split at hc
   ·rename_i ue;cases hc;exact .inl<|zxt hz ue ho h
   cases hc
  cases hc
 ·rename_i t x ho;cases hc;exact .inl<|zA1 ho h
 ·rename_i t parts ho;split at hc
  ·rename_i z fs hz hu;split at hc
   ·rename_i places hp
    cases e:ya (places.toArray[·]?) parts.toList with
    |none=>rw[e] at hc;cases hc
    |some l' =>
     rw[e] at hc;cases hc;refine .inl<|QA hz (λl cells hf=>?_) e ho h;unfold Program.built
     cases hi:P.info? t with
     |none=>rw[hi] at hz;cases hz
     |some it =>
      have ji:it.zero=some z:=(by simpa [hi] using hz);simp only[hu,ji,hp];exact hf
   cases hc
  ·rename_i z n e hz hu;split at hc
   ·rename_i ie hie
    cases e':ya (λi=>some (i*ie.size,ie.size)) parts.toList with
    |none=>rw[e'] at hc;cases hc
    |some l' =>
     rw[e'] at hc;cases hc;refine .inl<|QA hz (λl cells hf=>?_) e' ho h;unfold Program.built
     cases hi:P.info? t with
     |none=>rw[hi] at hz;cases hz
     |some it =>
      have ji:it.zero=some z:=(by simpa [hi] using hz);simp only[hu,ji,hie];exact hf
   cases hc
  cases hc
 ·rename_i t n parts ho;split at hc
  ·rename_i e ht;split at hc
   ·rename_i z hz;split at hc
    ·rename_i hq
     cases e':xN 0 parts.toList with
     |none =>
      rw[e'] at hc
      cases e2:lg z 0 n parts.toList with
      |none=>rw[e2] at hc;cases hc
      |some ys=>rw[e2] at hc;cases hc;exact .inl<|P' ht hz hq.1 hq.2 (.inr e2) ho h
     |some xs=>rw[e'] at hc;cases hc;exact .inl<|P' ht hz hq.1 hq.2 (.inl e') ho h
    cases hc
   cases hc
  cases hc
 ·rename_i t x ho;split at hc
  ·rename_i ht;cases hc;exact .inl<|zxN ht ho h
  ·rename_i ht;cases hc;exact .inl<|zwL ht ho h
  cases hc
 ·rename_i t x y ho;split at hc
  ·cases hc
  rename_i hz;cases hc;exact .inl<|ZL hz ho h
 ·rename_i x ho;cases hc;exact .inl<|YN ho h
 ·rename_i op t x y yt ho;split at hc
  ·cases hc;exact .inl<|zAB ho h
  split at hc
  ·split at hc
   ·rename_i hb;cases hc;refine .inl<|Vb (op:=.eql) rfl ?_ ho h;unfold IJ at hb;split at hb
    ·assumption
    cases hb
   split at hc
   ·rename_i ks sl;cases hc;exact .inl<|W1 (op:=.eql) rfl sl ho h
   cases e:An P t y with
   |none=>rw[e] at hc;cases hc
   |some k=>rw[e] at hc;cases hc;exact R6 (op:=.eql) rfl e ho h
  ·split at hc
   ·rename_i hb;cases hc;refine .inl<|Vb (op:=.neq) rfl ?_ ho h;unfold IJ at hb;split at hb
    ·assumption
    cases hb
   split at hc
   ·rename_i ks sl;cases hc;exact .inl<|W1 (op:=.neq) rfl sl ho h
   cases e:An P t y with
   |none=>rw[e] at hc;cases hc
   |some k=>rw[e] at hc;cases hc;exact R6 (op:=.neq) rfl e ho h
  cases hc
 ·rename_i op t x ho;cases hc;exact .inl<|s_un ho h
 ·rename_i x i ho;cases hc;exact .inl<|zBb ho h
 ·rename_i s x f ho;split at hc
  ·rename_i fs hs;split at hc
   ·rename_i fd hf;split at hc
    ·cases hc
    rename_i hz;cases hc;exact .inl<|zwA hs hf hz ho h
   cases hc
  cases hc
 ·rename_i s x f ho;split at hc
  ·rename_i fs hs;split at hc
   ·rename_i fd hf;split at hc
    ·rename_i ag pM;cases hc;exact .inl<|zwV hs hf pM ho h
    cases hc
   cases hc
  cases hc
 ·rename_i t x i ho;split at hc
  ·rename_i e ht;split at hc
   ·cases hc
   rename_i hz;cases hc;exact .inl<|zxJ ht hz ho h
  ·rename_i n e ht;split at hc
   ·cases hc
   rename_i hz;cases hc;exact .inl<|Zk ht hz ho h
  cases hc
 ·rename_i t x i ho;split at hc
  ·rename_i ht;cases hc;exact .inl<|zyq ht ho h
  ·rename_i n e ht;split at hc
   ·rename_i ag pM;cases hc;exact .inl<|zyA ht pM ho h
   cases hc
  cases hc
 ·rename_i f first cap ho;cases hc;exact .inl<|Zq ho h
 ·rename_i t l c ho;split at hc
  ·rename_i e ht;split at hc
   ·rename_i z hz;split at hc
    ·rename_i hq;cases hc;exact .inl<|zu7 ht hz hq.1 hq.2.1 hq.2.2.1 hq.2.2.2 ho h
    cases hc
   cases hc
  cases hc
 ·rename_i t x lo hi mx ho;split at hc
  ·rename_i e ht;split at hc
   ·rename_i hz;cases hc;exact .inl<|zAP ht hz ho h
   cases hc
  ·rename_i ht;split at hc
   ·cases hc;exact .inl<|zyH ht ho h
   cases hc
  cases hc
 ·rename_i args ts ho;split at hc
  ·rename_i x t ha ko;split at hc
   ·rename_i e ht;cases hc;exact .inl<|zAV ha ko ht ho h
   ·rename_i ht;cases hc;exact .inl<|zzz ha ko ht ho h
   cases hc
  cases hc
 ·rename_i args ts ho;split at hc
  ·rename_i x y t u ha ko;split at hc
   ·rename_i e e' ht hu;split at hc
    ·rename_i z hz;split at hc
     ·rename_i hq;cases hc;exact .inl<|zur ha ko ht hu hz hq.1 hq.2.1 hq.2.2 ho h
     cases hc
    cases hc
   cases hc
  cases hc
 ·rename_i args ts ho;split at hc
  ·rename_i x t ha ko;split at hc
   ·rename_i e ht;split at hc
    ·rename_i z hz;split at hc
     ·rename_i u hu;split at hc
      ·rename_i hq;cases hc;exact .inl<|zAI ha ko ht hz hu hq ho h
      cases hc
     cases hc
    cases hc
   cases hc
  cases hc
 ·rename_i args ts _ ho;split at hc
  ·rename_i x y ha;cases hc;exact .inl<|zAn ha ho h
  cases hc
 ·rename_i args ts _ ho;split at hc
  ·rename_i x y ha;cases hc;exact .inl<|YI ha ho h
  cases hc
 ·rename_i f args ts ho;split at hc
  ·split at hc
   ·cases hc
   cases hc;exact Za ho h
  cases hc
 ·rename_i x args ts _ ho;cases hc;exact XZ ho h
 ·rename_i src dst x ho;split at hc
  ·rename_i k0 k hs hd;cases hc;exact .inl<|zzs hs hd ho h
  ·rename_i e hs hd;split at hc
   ·rename_i he;cases hc;exact .inl<|zzb hs hd he ho h
   cases hc
  cases hc
 ·rename_i t ho;split at hc
  ·rename_i k e ht;cases hc;exact .inl<|zwS ho h
  cases hc
 ·rename_i t m x ho;split at hc
  ·rename_i k e ht;split at hc
   ·rename_i z hz;split at hc
    ·rename_i h1;cases hc;exact .inl<|zzg ht hz h1 ho h
    cases hc
   cases hc
  cases hc
 ·rename_i t m x ho;split at hc
  ·rename_i k e ht;cases hc;exact .inl<|zwf ht ho h
  cases hc
 ·rename_i t m x v ho;split at hc
  ·rename_i k e ht;cases hc;exact .inl<|zzF ht ho h
  cases hc
 ·rename_i t x ho;split at hc
  ·cases hc
  ·rename_i d hd ht;cases hc;exact .inl<|zyG (λms e=>by rw[e] at ht;cases ht;exact hd _ rfl) (λe=>by rw[e] at ht;cases ht) ho h
  cases hc
 cases hc
end
end
section
theorem BM(t k:Nat)(d:D)(env:Env):iA t ((k,d)::env)=if t=k then d else iA t env:=by
 simp only[iA];cases e:Nat.beq t k
 ·rw[ab];intro h;subst h;simp at e
 rw[ae<|CA e]
theorem Pn(a:Array aP)(t u:Nat)(v:aP)(ht:t<a.size):(a.setIfInBounds t v).getD u undef=if u=t then v else a.getD u undef:=by
 simp only[vx];by_cases h:u=t
 ·subst h;simp[JC,ht]
 rw[ab h,HE λe=>h e.symm]
section
variable{P:bI}{n:Nat}{J J':bf}{F F':Nat->Prop}{env:Env}{H H':aF}{a:Act}{w w':ba}
theorem ju.Vg(h:ju n J F env H a w)(hx:Ext J F w J' F' w'):∀t,rep J' F' w' (iA t env)<|a.tmps.getD t undef:=λt=>Jb hx<|h.tmps t
theorem ju.put(h:ju n J F env H a w)(hx:Ext J F w J' F' w'){t:Nat}{d:D}{v:aP}(ht:t<n)(hv:rep J' F' w' d v)(aC:cH J' F' w' λi=>H'[i]?)(hd:∀id,J' id≠none->id<H'.length):ju n J' F' ((t,d)::env) H' (a.put (some t) v) w' where
 defers:=h.defers
 size:=by simp[Act.put,h.size]
 tmps u:=by
  rw[BM];simp only[Act.put];rw[Pn _ _ _ _<|by rw[h.size];exact ht];split
  ·exact hv
  exact h.Vg hx u
 ok:=aC
 dom:=hd
theorem ju.skip(h:ju n J F env H a w)(hx:Ext J F w J' F' w')(aC:cH J' F' w' λi=>H'[i]?)(hd:∀id,J' id≠none->id<H'.length):ju n J' F' env H' a w' where
 defers:=h.defers
 size:=h.size
 tmps:=h.Vg hx
 ok:=aC
 dom:=hd
theorem ju.eval(h:ju n J F env H a w)(x:a8):rep J F w (fU env x)<|a.eval x:=by
 cases x with
 |tmp t=>exact h.tmps t
 |const v =>
  cases v<;>simp only[fU,lift,Act.eval,rep];rename_i cs;exact⟨cs.toList,by simp,CK cs.toList⟩
 |global g=>exact Uw h.ok.lt g
 |func f=>simp only[fU,Act.eval,rep];exact⟨[],[],rfl,by simp only[bB],by simp only[bB]⟩
variable{o:Oper}
theorem NN{ops:Array Oper}{mask:Nat}{p:cV}(h:OK P n ops mask o=some p) :
  cop P o=some p.op/\p.dst=o.dst/\(∀t,o.dst=some t->t<n)/\((o.guard=none/\p.guard=none)\/∃j b t,o.guard=some (j,b)/\(ops[j]?).bind (·.dst)=some t/\p.guard=some (t,b)) /\
   p.mask=mask:=by
 unfold OK at h;split at h
 ·rename_i q hd hq hg;cases h;exact⟨hq,rfl,λt ht=>by unfold Kt at hd;rw[ht] at hd;simpa using hd,.inl ⟨hg,rfl⟩,rfl⟩
 ·rename_i q j b hd hq hg;split at h
  ·rename_i t ht;cases h;exact⟨hq,rfl,λt ht=>by unfold Kt at hd;rw[ht] at hd;simpa using hd,.inr ⟨j,b,t,hg,ht,rfl⟩,rfl⟩
  cases h
 cases h
def Oh(b:Bool):aP->Bool
 | .bool c=>c != b
 | .tuple _=>true
 |_=>false
variable{tmps:Array aP}{j t:Nat}{b:Bool}
theorem zs3{ops:Array Oper}(h1:o.guard=some (j,b))(h2:(ops[j]?).bind (·.dst)=some t)(h:tmps.getD t undef=.bool b):Region.wanted o<|yielded ops tmps:=by
 have h4:tmps[t]? = some (.bool b):=by
  rw[vx] at h
  cases e:tmps[t]? with
  |none=>rw[e] at h;simp[undef] at h
  |some v=>rw[e] at h;simp at h;rw[h]
 simp only[Region.wanted,h1,yielded,h2,Cq,h4];cases b<;>rfl
theorem TB{ops:Array Oper}(h1:o.guard=some (j,b))(h2:(ops[j]?).bind (·.dst)=some t)(h:Oh b<|tmps.getD t undef):Region.wanted o (yielded ops tmps)=false:=by
 rw[vx] at h
 cases e:tmps[t]? with
 |none=>simp only[Region.wanted,h1,yielded,h2,Cq,e];cases b<;>rfl
 |some v =>
  rw[e] at h;simp only[nR] at h;simp only[Region.wanted,h1,yielded,h2,Cq,e];cases v<;>simp[Oh] at h⊢;exact h
theorem zsI{ops:Array Oper}(h:ju n J F env H a w){c:Bool}(h1:o.guard=some (j,b))(h2:(ops[j]?).bind (·.dst)=some t)(hc:iA t env=aD c) :
  Region.wanted o (yielded ops a.tmps)=(c==b):=by
 have h3:=h.tmps t;rw[hc] at h3;simp only[rep] at h3;have h4:a.tmps[t]? = some (.bool c):=by
  rw[vx] at h3
  cases e:a.tmps[t]? with
  |none=>rw[e] at h3;simp[undef] at h3
  |some v=>rw[e] at h3;simp at h3;rw[h3]
 simp only[Region.wanted,h1,yielded,h2,Cq,h4];cases b<;>cases c<;>rfl
end
section
variable{P:bI}{n:Nat}{ops:Array Oper}{K':Env->aF->Prop}{Q:Exit->Act->ba->Prop}
theorem ER{c:Bool}{A B:Prop}:ifK c A B↔(c=true->A)/\(c=false->B):=by
 cases c<;>simp[ifK]
theorem zn8{o:Oper}{p:POp}{env:Env}{H:aF}{K:pQ}(hc:cop P o=some p)(h:step P true p env H K):wM P o env H K :=
 (Nz hc h).elim zst (·.2)
theorem WZ:∀(l:List Oper) (i:Nat) (ms:List Nat) (pl:List cV),(∀j,l[j]? = ops[i+j]?)->qo P n ops ms l=some pl->∀(env:Env) (H:aF) (J:bf) (F:Nat->Prop) (a:Act) (w:ba),mE P pl env H K'->ju n J F env H a w ->
  (∀env' H' J' F' a' w',K' env' H'->ju n J' F' env' H' a' w'->Ext J F w J' F' w'->Q .normal a' w')->wpOps P ops Q (List.range' i l.length) a w
 |[],i,ms,pl,hl,hc,env,H,J,F,a,w,h,hr,hQ=>by
  simp[qo] at hc;subst hc;simp only[bU,List.range'_zero,wpOps];exact hQ env H J F a w h hr<|Ext.refl _ _ _
 |o::l,i,ms,pl,hl,hc,env,H,J,F,a,w,h,hr,hQ=>by
  simp only[qo] at hc;split at hc
  ·rename_i p pr h1 h2;cases hc;have ho:ops[i]? = some o:=(by simpa using (hl 0).symm);have iS:∀j,l[j]? = ops[i+1+j]?:=λj=>by have:=hl<|j+1;simpa [DN,Nat.add_comm 1 j] using this
   obtain⟨k1,k2,k3,k4,_⟩:=NN h1
   have go:∀env' H' J' F' a' w',Ext J F w J' F' w'->mE P pr env' H' K'->ju n J' F' env' H' a' w'->wpOps P ops Q (List.range' (i+1) l.length) a' w':=λenv' H' J' F' a' w' hx h' Is =>
    WZ l (i+1) ms.tail pr iS h2 env' H' J' F' a' w' h' Is λGR H'' J'' F'' a'' w'' q1 q2 q3=>hQ GR H'' J'' F'' a'' w'' q1 q2<|hx.trans q3
   have exec:(step P true p.op env H λd H' _ _=>match p.dst with
     |some t=>mE P pr ((t,d)::env) H' K'
     |none=>mE P pr env H' K')->o.wp P a w (wpOps P ops Q<|List.range' (i+1) l.length) Q:=λhs=>by
    refine zn8 k1 hs J F w a hr.ok hr.dom (λx _=>hr.eval x) _ _ λd H2 rd wr v w' J' F' hK q1 q2 q3 q4=>?_;rw[k2] at hK
    cases hd:o.dst with
    |none =>
     rw[hd] at hK;exact go env H2 J' F' _ w' q3 hK<|hr.skip q3 q2 q4
    |some t =>
     rw[hd] at hK;exact go _ H2 J' F' _ w' q3 hK<|hr.put q3 (k3 t hd) q1 q2 q4
   have skip:(match p.dst with
     |some t=>mE P pr ((t,.sc undef)::env) H K'
     |none=>mE P pr env H K')->wpOps P ops Q (List.range' (i+1) l.length) (a.put o.dst undef) w:=λhs=>by
    rw[k2] at hs
    cases hd:o.dst with
    |none =>
     rw[hd] at hs;exact go env H J F _ w (Ext.refl _ _ _) hs hr
    |some t =>
     rw[hd] at hs;exact go _ H J F _ w (Ext.refl _ _ _) hs<|hr.put (Ext.refl _ _ _) (k3 t hd) (by simp only[rep]) hr.ok hr.dom
   simp only[bH,List.range'_succ,wpOps,ho];simp only[mE] at h;rcases k4 with⟨g1,g2⟩|⟨j,b,t,g1,g2,g3⟩
   ·rw[g2] at h;rw[ae<|by simp[Region.wanted,g1]];exact .inl<|exec h
   rw[g3] at h;simp only[y8] at h;split at h
   ·rename_i c vA;have hw:=zsI hr g1 g2 vA
    cases b with
    |true =>
     obtain⟨hA,hB⟩:=ER.1 h
     cases c with
     |true=>rw[ae<|by rw[hw];rfl];exact .inl<|exec<|hA rfl
     |false=>rw[ab<|by rw[hw];simp];exact skip (hB rfl)
    |false =>
     obtain⟨hA,hB⟩:=ER.1 h
     cases c with
     |true=>rw[ab<|by rw[hw];simp];exact skip (hA rfl)
     |false=>rw[ae<|by rw[hw];rfl];exact .inl<|exec<|hB rfl
   ·rename_i xs vA;have h3:=hr.tmps t;rw[vA] at h3;simp only[rep] at h3;rw[ab<|by rw[TB g1 g2<|by rw[h3];rfl];simp];exact skip h
   exact h.elim
  cases hc
end
end
section
theorem RI{ms:List Nat}{i:Nat}:∀(l:List Nat),(zE ms l).testBit i->∃a∈l,a=i\/(ms.getD a 0).testBit i=true
 |[],h=>by simp[zE] at h
 |a::r,h=>by
  simp only[zE,Nat.testBit_or,qX] at h;rcases h with(h|h)|h
  ·rw[Nat.testBit_two_pow] at h;exact⟨a,by simp,.inl<|by simpa using h⟩
  ·exact⟨a,by simp,.inr h⟩
  obtain⟨b,hb,k⟩:=RI r h;exact⟨b,by simp[hb],k⟩
theorem SK:∀(l:List Oper) (acc:List Nat),(∀k,k<acc.length->(rB acc l).getD k 0=acc.getD k 0)/\(rB acc l).length=acc.length+l.length /\
  ∀k o,l[k]? = some o->∃E7,(∀a,a<acc.length+k->E7.getD a 0=(rB acc l).getD a 0)/\(∀a,acc.length+k<=a->E7.getD a 0=0)/\(rB acc l).getD (acc.length+k) 0=zE E7 (n7 o)
 |[],acc=>⟨λ_ _=>rfl,by simp[rB],λk o h=>by simp at h⟩
 |x::r,acc=>by
  obtain⟨h1,h2,h3⟩:=SK r<|acc++[zE acc<|n7 x];simp only[rB];simp only[cq,jA] at h1 h2 h3;have Qa:∀k,k<acc.length->(acc++[zE acc<|n7 x]).getD k 0=acc.getD k 0:=λk hk=>by
   simp[List.getD,fv hk]
  refine⟨λk hk=>by rw[h1 k<|by omega,Qa k hk],by rw[h2];simp;omega,λk o hk=>?_⟩
  cases k with
  |zero =>
   simp at hk;subst hk;refine⟨acc,λa ha=>by rw[h1 a<|by omega,Qa a<|by omega],λa ha=>by simp[List.getD,cY (by omega:acc.length<=a)],?_⟩;rw[uL,h1 _<|by omega];simp[List.getD]
  |succ k =>
   obtain⟨E7,k1,k2,k3⟩:=h3 k o (by simpa using hk);rw[show acc.length+1+k=acc.length+(k+1) by omega] at k1 k2 k3;exact⟨E7,k1,k2,k3⟩
theorem WE{ops:Array Oper}{m:Nat}{o:Oper}:∀(l:List Oper) (i:Nat),IF ops m o i l->∀k x,l[k]? = some x->m.testBit (i+k)\/x.apart ops o=true
 |[],i,_,k,x,h=>by simp at h
 |y::r,i,h,k,x,hk=>by
  simp only[IF,fY,qX] at h
  cases k with
  |zero=>simp at hk;subst hk;exact h.1
  |succ k =>
   have:=WE r (i+1) h.2 k x (by simpa using hk);rwa [show i+1+k=i+(k+1) by omega] at this
theorem Gw{ops:Array Oper}{ms:List Nat}:∀(l pre:List Oper),Bq ops ms pre l->∀k o,l[k]? = some o->(∀a∈n7 o,a<pre.length+k) /\
  ∀i x,i<pre.length+k->(pre++l)[i]? = some x->(ms.getD (pre.length+k) 0).testBit i\/x.apart ops o=true
 |[],pre,_,k,o,h=>by simp at h
 |y::r,pre,h,k,o,hk=>by
  simp only[Bq,fY] at h;obtain⟨⟨h1,h2⟩,h3⟩:=h
  cases k with
  |zero =>
   simp at hk;subst hk;refine⟨λa ha=>by simpa using ki.1 h1 a ha,λi x hi hx=>?_⟩;rw[fv<|by omega] at hx;have:=WE pre 0 h2 i x hx;simpa using this
  |succ k =>
   have:=Gw r (pre++[y]) h3 k o (by simpa using hk);simp only[cq,jA,gy,List.singleton_append] at this;rw[show pre.length+1+k=pre.length+(k+1) by omega] at this;exact this
section
variable{ops:Array Oper}
def Bef(ops:Array Oper)(i j:Nat):Prop:=((rB [] ops.toList).getD j 0).testBit i=true
def xC(ops:Array Oper)(S:ay):Prop:=∀j o,ops[j]? = some o->S j->∀a∈n7 o,S a=true
theorem LN(Mu:Bq ops (rB [] ops.toList) [] ops.toList):∀(j:Nat) (o:Oper),ops[j]? = some o->∀i,Bef ops i j->i<j/\∀S:Nat->Bool,xC ops S->(∀a∈n7 o,S a)->S i:=by
 intro j
 induction j using Nat.strongRecOn with
 |_ j ih =>
  intro o ho i hb;obtain⟨acc,h1,h2,h3⟩:=(SK ops.toList []).2.2 j o (by simpa using ho);simp only[bU,lZ] at h1 h2 h3;unfold Bef at hb;rw[h3] at hb;have ck:=(Gw ops.toList [] Mu j o<|by simpa using ho).1;simp only[bU,lZ] at ck;obtain⟨a,ha,rfl|Xj⟩:=RI _ hb
  ·exact⟨ck _ ha,λS _ hS=>hS _ ha⟩
  have Ta:=ck a ha;rw[h1 a Ta] at Xj;have hj:j<ops.size:=by
   rcases dY j ops.size with h|h
   ·exact h
   rw[yI h] at ho;cases ho
  have PN:ops[a]? = some ops[a]:=rF (by omega);obtain⟨q1,q2⟩:=ih a Ta _ PN i Xj;exact⟨by omega,λS hC hS=>q2 S hC<|hC a _ PN<|hS a ha⟩
end
structure Rec where
 d:D
 rd:List Nat
 wr:List Nat
 H2:aF
 lt:Option<|Nat×Nat
instance:Inhabited Rec:=⟨⟨.dW,[],[],[],none⟩⟩
def Rec.entry(r:Rec):(List Nat×List Nat)×(Option (Nat×Nat)×D×aF):=((r.rd,r.wr),(r.lt,r.d,r.H2))
def tT(x:(List Nat×List Nat)×(Option (Nat×Nat)×D×aF)):List Nat×List Nat:=match x.2.1 with
 |some _=>([],x.1.2)
 |none=>x.1
section
variable{P:bI}{n:Nat}{ops:Array Oper}
def O2(P:bI)(o:Oper)(env:Env)(H:aF)(r:Rec):Prop:=∀id k,r.lt=some (id,k)->r.rd=[id]/\r.wr=[]/\r.H2=H/\(∃m cs,H[id]? = some (.row m cs)/\cs[k]? = some r.d) /\
 ∀(H':aF) m' gH,H'[id]? = some (.row m' gH)->gH[k]? = some r.d->OpS P o env [id] [] H' r.d H'
variable{o:Oper}{p:POp}{k:Nat}
theorem zph(k1:cop P o=some p){env:Env}{H:aF}{K:D->aF->List Nat->List Nat->Prop}(h:step P false p env H K){id:Nat}(hl:Ac p env=some (id,k)) :
  ∃c,K c H [id] []/\(∃m cs,H[id]? = some (.row m cs)/\cs[k]? = some c)/\∀(H':aF) m' gH,H'[id]? = some (.row m' gH)->gH[k]? = some c->OpS P o env [id] [] H' c H':=by
 unfold Ac at hl;split at hl
 ·rename_i a;split at hl
  ·rename_i jn k' e;cases hl;simp only[step,gB] at h;rw[e] at h;obtain⟨ob,h1,h2⟩:=(lB _ _ _).1 h;split at h2
   ·rename_i m cs;obtain⟨c,h3,h4⟩:=(vH _ _ _).1 h2;refine⟨c,h4,⟨m,cs,h1,h3⟩,λH' m' gH g1 g2=>?_⟩;have hs:step P false (.cg a) env H' λd h rd wr=>d=c/\h=H'/\rd=[id]/\wr=[]:=by
     simp only[step,gB];rw[e];exact(lB _ _ _).2 ⟨_,g1,(vH _ _ _).2 ⟨c,g2,by simp⟩⟩
    rcases Nz k1 hs with⟨d,H2,rd,wr,q,rfl,rfl,rfl,rfl⟩|⟨q,_⟩
    ·exact q
    cases q
   exact h2.elim
  cases hl
 cases hl
def AH(P:bI)(n:Nat)(ops:Array Oper)(o:Oper)(env:Env)(H:aF)(r:Rec):Prop :=
 (∀t,o.dst=some t->t<n)/\(∀cs b,o.op≠.select cs b)/\O2 P o env H r /\
 ((o.guard=none/\OpS P o env r.rd r.wr H r.d r.H2) \/
  ∃j b t c,o.guard=some (j,b)/\(ops[j]?).bind (·.dst)=some t/\iA t env=.sc c /\
   ((c=.bool b/\OpS P o env r.rd r.wr H r.d r.H2)\/(Oh b c=true/\r=⟨.sc undef,[],[],H,none⟩)))
def DD(o:Oper)(r:Rec)(env:Env):Env:=match o.dst with
 |some t=>(t,r.d)::env
 |none=>env
inductive Run(P:bI)(n:Nat)(ops:Array Oper):List Oper->Env->aF->List Rec->Env->aF->Prop
 |nil (env:Env) (H:aF):Run P n ops [] env H [] env H
 |cons (o:Oper) (l:List Oper) (env:Env) (H:aF) (r:Rec) (rs:List Rec) (env':Env) (H':aF) (h:AH P n ops o env H r) (k:Run P n ops l (DD o r env) r.H2 rs env' H'):Run P n ops (o::l) env H (r::rs) env' H'
theorem BO(h:cop P o=some p):∀cs b,o.op≠.select cs b:=λcs b e=>by
 unfold cop at h;rw[e] at h;simp at h
theorem O2.none{o:Oper}{env:Env}{H:aF}{d:D}{rd wr:List Nat}{H2:aF}:O2 P o env H ⟨d,rd,wr,H2,.none⟩:=λ_ _ h=>by cases h
theorem S7:∀(l:List Oper) (ms:List Nat) (pl:List cV),qo P n ops ms l=some pl->∀(env:Env) (H:aF) (K:Env->aF->Trace->Prop),nO P pl env H K ->
  ∃rs env' H',Run P n ops l env H rs env' H'/\K env' H' (rs.map Rec.entry)/\rs.length=l.length
 |[],ms,pl,hc,env,H,K,h=>by
  simp[qo] at hc;subst hc;exact⟨[],env,H,.nil env H,h,rfl⟩
 |o::l,ms,pl,hc,env,H,K,h=>by
  simp only[qo] at hc;split at hc
  ·rename_i p pr h1 h2;cases hc;obtain⟨k1,k2,k3,k4,_⟩:=NN h1
   have fin:∀(r:Rec),AH P n ops o env H r->(match p.dst with
     |some t=>nO P pr ((t,r.d)::env) r.H2 λe h tr=>K e h<|((r.rd,r.wr),(r.lt,r.d,r.H2))::tr
     |none=>nO P pr env r.H2 λe h tr=>K e h<|((r.rd,r.wr),(r.lt,r.d,r.H2))::tr)->∃rs env' H',Run P n ops (o::l) env H rs env' H'/\K env' H' (rs.map Rec.entry)/\rs.length=(o::l).length:=λr hr hs=>by
    have HV:nO P pr (DD o r env) r.H2 λe h tr=>K e h<|((r.rd,r.wr),(r.lt,r.d,r.H2))::tr:=by
     unfold DD;rw[k2] at hs
     cases hd:o.dst with
     |none=>rw[hd] at hs;exact hs
     |some t=>rw[hd] at hs;exact hs
    obtain⟨rs,env',H',q1,q2,q3⟩:=S7 l ms.tail pr h2 _ _ _ HV;exact⟨r::rs,env',H',.cons o l env H r rs env' H' hr q1,q2,by simp[q3]⟩
   have exec:∀{K':D->aF->List Nat->List Nat->Prop},step P false p.op env H K'->∃d H2 rd wr,OpS P o env rd wr H d H2/\K' d H2 rd wr:=λhs=>by
    rcases Nz k1 hs with q|⟨q,_⟩
    ·exact q
    cases q
   simp only[nO] at h;rcases k4 with⟨g1,g2⟩|⟨j,b,t,g1,g2,g3⟩
   ·rw[g2] at h
    cases hl:Ac p.op env with
    |none =>
     simp only[hl] at h;obtain⟨d,H2,rd,wr,q1,q2⟩:=exec h;exact fin ⟨d,rd,wr,H2,none⟩ ⟨k3,BO k1,.none,.inl ⟨g1,q1⟩⟩ q2
    |some q =>
     obtain⟨id,k⟩:=q;simp only[hl] at h;obtain⟨c,q1,⟨m,cs,q2,q3⟩,q4⟩:=zph k1 h hl;refine fin ⟨c,[id],[],H,some (id,k)⟩ ⟨k3,BO k1,λjn k' e=>?_,.inl ⟨g1,q4 H m cs q2 q3⟩⟩ q1;cases e;exact⟨rfl,rfl,rfl,⟨m,cs,q2,q3⟩,q4⟩
   rw[g3] at h;simp only[y8] at h;split at h
   ·rename_i c vA
    cases b with
    |true =>
     obtain⟨hA,hB⟩:=ER.1 h
     cases c with
     |true =>
      obtain⟨d,H2,rd,wr,q1,q2⟩:=exec<|hA rfl;exact fin ⟨d,rd,wr,H2,none⟩ ⟨k3,BO k1,.none,.inr ⟨j,true,t,.bool true,g1,g2,vA,.inl ⟨rfl,q1⟩⟩⟩ q2
     |false=>exact fin ⟨.sc undef,[],[],H,none⟩ ⟨k3,BO k1,.none,.inr ⟨j,true,t,.bool false,g1,g2,vA,.inr ⟨rfl,rfl⟩⟩⟩<|hB rfl
    |false =>
     obtain⟨hA,hB⟩:=ER.1 h
     cases c with
     |true=>exact fin ⟨.sc undef,[],[],H,none⟩ ⟨k3,BO k1,.none,.inr ⟨j,false,t,.bool true,g1,g2,vA,.inr ⟨rfl,rfl⟩⟩⟩<|hA rfl
     |false =>
      obtain⟨d,H2,rd,wr,q1,q2⟩:=exec<|hB rfl;exact fin ⟨d,rd,wr,H2,none⟩ ⟨k3,BO k1,.none,.inr ⟨j,false,t,.bool false,g1,g2,vA,.inl ⟨rfl,q1⟩⟩⟩ q2
   ·rename_i xs vA;exact fin ⟨.sc undef,[],[],H,none⟩ ⟨k3,BO k1,.none,.inr ⟨j,b,t,.tuple xs,g1,g2,vA,.inr ⟨rfl,rfl⟩⟩⟩ h
   exact h.elim
  cases hc
def qh(l:List Oper)(k:Nat):Option Tmp:=(l[k]?).bind (·.dst)
def recAt(rs:List Rec)(k:Nat):Rec:=(rs[k]?).getD default
def Et(l:List Oper)(rs:List Rec)(env:Env)(S:ay):Nat->Nat->D
 |0,t=>iA t env
 |k+1,t=>if S k=true/\qh l k=some t then (recAt rs k).d else Et l rs env S k t
def Gt(rs:List Rec)(H:aF)(S:ay):Nat->Nat->Option ao
 |0,id=>H[id]?
 |k+1,id=>if S k=true/\id∈(recAt rs k).wr then (recAt rs k).H2[id]? else Gt rs H S k id
theorem Fu{l:List Oper}{rs:List Rec}{env:Env}{S S':ay}{t:Nat}:∀(k:Nat),(∀i,i<k->qh l i=some t->S i=S' i)->Et l rs env S k t=Et l rs env S' k t
 |0,_=>rfl
 |k+1,h=>by
  simp only[Et];by_cases hd:qh l k=some t
  ·rw[h k (by omega) hd,Fu k λi hi hd=>h i (by omega) hd]
  rw[ab λq=>hd q.2,ab λq=>hd q.2,Fu k λi hi hd=>h i (by omega) hd]
theorem DK{rs:List Rec}{H:aF}{S S':ay}{id:Nat}:∀(k:Nat),(∀i,i<k->id∈(recAt rs i).wr->S i=S' i)->Gt rs H S k id=Gt rs H S' k id
 |0,_=>rfl
 |k+1,h=>by
  simp only[Gt];by_cases hd:id∈(recAt rs k).wr
  ·rw[h k (by omega) hd,DK k λi hi hd=>h i (by omega) hd]
  rw[ab λq=>hd q.2,ab λq=>hd q.2,DK k λi hi hd=>h i (by omega) hd]
def upto(j:Nat):Nat->Bool:=λi=>decide (i<j)
theorem P9{l:List Oper}{rs:List Rec}{env:Env}{j t:Nat}:∀(k:Nat),j<=k->Et l rs env (upto j) k t=Et l rs env (λ_=>true) j t
 |0,h=>by have:j=0:=by omega
          subst this;rfl
 |k+1,h=>by
  by_cases e:j=k+1
  ·subst e;exact Fu (k+1) λi hi _=>by simp[upto,hi]
  simp only[Et];rw[ab<|by simp[upto];omega,P9 k<|by omega]
theorem N0{rs:List Rec}{H:aF}{j id:Nat}:∀(k:Nat),j<=k->Gt rs H (upto j) k id=Gt rs H (λ_=>true) j id
 |0,h=>by have:j=0:=by omega
          subst this;rfl
 |k+1,h=>by
  by_cases e:j=k+1
  ·subst e;exact DK (k+1) λi hi _=>by simp[upto,hi]
  simp only[Gt];rw[ab<|by simp[upto];omega,N0 k<|by omega]
def qx(l:List Oper)(rs:List Rec)(env:Env):Nat->Env
 |0=>env
 |k+1=>match l[k]?,rs[k]? with
  |some o,some r=>DD o r<|qx l rs env k
  |_,_=>qx l rs env k
def lE(rs:List Rec)(H:aF):Nat->aF
 |0=>H
 |k+1=>match rs[k]? with
  |some r=>r.H2
  |none=>lE rs H k
theorem MZ{o:Oper}{l:List Oper}{r:Rec}{rs:List Rec}{env:Env}:∀k,qx (o::l) (r::rs) env (k+1)=qx l rs (DD o r env) k
 |0=>rfl
 |k+1=>by
  rw[qx];rw[MZ k];rfl
theorem OA{r:Rec}{rs:List Rec}{H:aF}:∀k,lE (r::rs) H (k+1)=lE rs r.H2 k
 |0=>rfl
 |k+1=>by
  rw[lE];rw[OA k];rfl
theorem Run.at{l:List Oper}{env env':Env}{H H':aF}{rs:List Rec}(h:Run P n ops l env H rs env' H'):rs.length=l.length/\qx l rs env l.length=env'/\lE rs H l.length=H' /\
  ∀k o,l[k]? = some o->∃r,rs[k]? = some r/\AH P n ops o (qx l rs env k) (lE rs H k) r:=by
 induction h with
 |nil env H=>exact⟨rfl,rfl,rfl,λk o h=>by simp at h⟩
 |cons o l env H r rs env' H' h k ih =>
  obtain⟨i1,i2,i3,i4⟩:=ih;refine⟨by simp[i1],by rw[bH,MZ];exact i2,by rw[bH,OA];exact i3,λm x hx=>?_⟩
  cases m with
  |zero=>simp at hx;subst hx;exact⟨r,rfl,h⟩
  |succ m =>
   obtain⟨r',q1,q2⟩:=i4 m x (by simpa using hx);exact⟨r',by simpa using q1,by rw[MZ,OA];exact q2⟩
theorem CN{rs:List Rec}{r:Rec}(h:rs[k]? = some r):recAt rs k=r:=by simp[recAt,h]
theorem Je{l:List Oper}(h:l[k]? = some o):qh l k=o.dst:=by simp[qh,h]
theorem AH.frame{o:Oper}{env:Env}{H:aF}{r:Rec}(h:AH P n ops o env H r):(∀id,id ∉ r.wr->r.H2[id]? = H[id]?)/\H.length<=r.H2.length/\∀id∈r.wr,id<r.H2.length:=by
 rcases h.2.2.2 with⟨_,q⟩|⟨j,b,t,c,_,_,_,⟨_,q⟩|⟨_,rfl⟩⟩
 ·exact⟨q.frame,q.len,q.lt⟩
 ·exact⟨q.frame,q.len,q.lt⟩
 exact⟨λ_ _=>rfl,aT _,λ_ h=>by cases h⟩
section
variable{l:List Oper}{rs:List Rec}{env:Env}{H:aF}
variable(hA:∀k o,l[k]? = some o->∃r,rs[k]? = some r/\AH P n ops o (qx l rs env k) (lE rs H k) r)
include hA
theorem Ir:∀k,k<=l.length->∀t,Et l rs env (λ_=>true) k t=iA t (qx l rs env k)
 |0,_,t=>rfl
 |k+1,hk,t=>by
  have hl:l[k]? = some l[k]:=aJ (by omega);obtain⟨r,h1,_⟩:=hA k _ hl;simp only[Et,qx,hl,h1,CN h1,Je hl,true_and,DD]
  cases hd:l[k].dst with
  |none=>simp;exact Ir k (by omega) t
  |some u =>
   simp only[Option.some.injEq];rw[BM];by_cases e:t=u
   ·rw[ae e.symm,ae e]
   rw[ab λq=>e q.symm,ab e];exact Ir k (by omega) t
theorem JL:∀k,k<=l.length->∀id,Gt rs H (λ_=>true) k id=(lE rs H k)[id]?
 |0,_,id=>rfl
 |k+1,hk,id=>by
  have hl:l[k]? = some l[k]:=aJ (by omega);obtain⟨r,h1,h2⟩:=hA k _ hl;simp only[Gt,lE,h1,CN h1,true_and];split
  ·rfl
  rename_i hn;rw[JL k (by omega) id];exact(h2.frame.1 id hn).symm
theorem Jt:∀k j,j<=k->k<=l.length->(lE rs H j).length<=(lE rs H k).length
 |0,j,hj,_=>by have:j=0:=by omega
               subst this;exact aT _
 |k+1,j,hj,hk=>by
  have hl:l[k]? = some l[k]:=aJ (by omega);obtain⟨r,h1,h2⟩:=hA k _ hl;by_cases e:j=k+1
  ·rw[e];exact aT _
  refine iv (Jt k j (by omega)<|by omega) ?_;simp only[lE,h1];exact h2.frame.2.1
theorem VZ{i:Nat}(hik:i<k)(hk:k<=l.length){id:Nat}(h:id∈(recAt rs i).wr):id<(lE rs H k).length:=by
 have hl:l[i]? = some l[i]:=aJ (by omega);obtain⟨r,h1,h2⟩:=hA i _ hl;rw[CN h1] at h;have h3:=h2.frame.2.2 id h;have h4:=Jt hA k (i+1) (by omega) hk;simp only[lE,h1] at h4;omega
end
theorem HO(x:Nat):∀l:List Nat,rD x l↔x∈l
 |[]=>by simp[rD]
 |y::r=>by
  simp only[rD]
  cases e:Nat.beq x y with
  |true=>simp[CA e]
  |false =>
   have:x≠y:=λh=>by subst h;simp at e
   simp[HO x r,this]
theorem QW:∀(a b:List Nat),meets a b↔∃x∈a,x∈b
 |[],b=>by simp[meets]
 |x::r,b=>by
  simp only[meets]
  cases e:rD x b with
  |true=>simp[(HO x b).1 e]
  |false =>
   have:x ∉ b:=λh=>by rw[(HO x b).2 h] at e;cases e
   simp[QW r b,this]
theorem M6{m:Nat}{b:List Nat×List Nat}:∀(tr:List<|List Nat×List Nat) (i:Nat),B7 m b i tr->∀k a,tr[k]? = some a->u6 a b->vz m (i+k)=true
 |[],i,_,k,a,h,_=>by simp at h
 |x::r,i,h,k,a,hk,hc=>by
  simp only[B7] at h;split at h
  ·rename_i h1
   cases k with
   |zero =>
    simp at hk;subst hk;simpa [hc] using h1
   |succ k =>
    have:=M6 r (i+1) h k a (by simpa using hk) hc;rwa [show i+1+k=i+(k+1) by omega] at this
  cases h
theorem U0:∀(pl:List cV) (pre:List<|List Nat×List Nat) (tr:Trace),DA pre pl tr->∀k o b,pl[k]? = some o->tr[k]? = some b->∀i a,i<pre.length+k->(pre++tr.map (·.1))[i]? = some a->u6 a b.1->vz o.mask i=true
 |[],pre,tr,_,k,o,b,h,_,_,_,_,_,_=>by simp at h
 |p::pl,pre,[],_,k,o,b,_,h,_,_,_,_,_=>by simp at h
 |p::pl,pre,(t,y)::tr,h,k,o,b,hk,hb,i,a,hi,ha,hc=>by
  simp only[DA] at h;split at h
  ·rename_i h1
   cases k with
   |zero =>
    simp at hk hb;subst hk;subst hb;rw[fv<|by omega] at ha;have:=M6 pre 0 h1 i a ha hc;simpa using this
   |succ k =>
    refine U0 pl (pre++[t]) tr h k o b (by simpa using hk) (by simpa using hb) i a (by simp;omega) ?_ hc;simpa using ha
  cases h
theorem Ns:∀(pl:List cV) (pre:List<|List Nat×List Nat) (tr:Trace),DL pre pl tr->∀k o b,pl[k]? = some o->tr[k]? = some b->∀i a,i<pre.length+k->(pre++tr.map tT)[i]? = some a->u6 a b.1->vz o.mask i=true
 |[],pre,tr,_,k,o,b,h,_,_,_,_,_,_=>by simp at h
 |p::pl,pre,[],_,k,o,b,_,h,_,_,_,_,_=>by simp at h
 |p::pl,pre,(t,q,y)::tr,h,k,o,b,hk,hb,i,a,hi,ha,hc=>by
  simp only[DL] at h;split at h
  ·rename_i h1
   cases k with
   |zero =>
    simp at hk hb;subst hk;subst hb;rw[fv<|by omega] at ha;have:=M6 pre 0 h1 i a ha hc;simpa using this
   |succ k =>
    have e:pre++((t,q,y)::tr).map tT=(pre++[tT (t,q,y)])++tr.map tT:=(by simp);rw[e] at ha
    cases q with
    |none=>exact Ns pl (pre++[t]) tr h k o b (by simpa using hk) (by simpa using hb) i a (by simp;omega) ha hc
    |some q=>exact Ns pl (pre++[([],t.2)]) tr h k o b (by simpa using hk) (by simpa using hb) i a (by simp;omega) ha hc
  cases h
def Kw(m:Nat)(wr:List Nat)(H:aF)(w:Nat×(Nat×Nat)×D):Prop:=vz m w.1=true\/w.2.1.1 ∉ wr\/∃mm cs,H[w.2.1.1]? = some (.row mm cs)/\cs[w.2.1.2]? = some w.2.2
theorem Li{m:Nat}{wr:List Nat}{H:aF}{K:Prop}:∀ws,Fg m wr H K ws->K/\∀w∈ws,Kw m wr H w
 |[],h=>⟨h,λw hw=>by cases hw⟩
 |(i,(id,k),d)::r,h=>by
  simp only[Fg] at h;split at h
  ·rename_i e;obtain⟨q1,q2⟩:=Li r h;refine⟨q1,λw hw=>?_⟩;rcases dZ.1 hw with rfl|hw
   ·rw[qX,B9] at e;rcases e with e|e
    ·exact .inl e
    refine .inr (.inl λz=>?_);rw[(HO _ _).2 z] at e;cases e
   exact q2 w hw
  unfold QD at h;obtain⟨ob,h1,h2⟩:=(lB _ _ _).1 h;split at h2
  ·rename_i mm cs;obtain⟨c,h3,rfl,h4⟩:=(vH _ _ _).1 h2;obtain⟨q1,q2⟩:=Li r h4;refine⟨q1,λw hw=>?_⟩;rcases dZ.1 hw with rfl|hw
   ·exact .inr (.inr ⟨mm,cs,h1,h3⟩)
   exact q2 w hw
  exact h2.elim
theorem Ko{K:Prop}:∀(l:List cV) (tr:Trace) (i0:Nat) (ws:List<|Nat×(Nat×Nat)×D),Dd K i0 ws l tr->l.length=tr.length->K/\∀j o b q d H,l[j]? = some o->tr[j]? = some (b,(q,d,H)) ->
   (∀w∈ws,Kw o.mask b.2 H w)/\∀i b' lt d' H',i<j->tr[i]? = some (b',(some lt,d',H'))->Kw o.mask b.2 H (i0+i,lt,d')
 |[],[],i0,ws,h,_=>⟨h,λj o b q d H hj=>by simp at hj⟩
 |[],_::_,_,_,_,hl=>by simp at hl
 |_::_,[],_,_,_,hl=>by simp at hl
 |p::l,(b0,(q0,d0,H0))::tr,i0,ws,h,hl=>by
  simp only[Dd] at h;obtain⟨h1,h2⟩:=Li ws h
  cases q0 with
  |none =>
   obtain⟨k1,k2⟩:=Ko l tr (i0+1) ws h1 (by simpa using hl);refine⟨k1,λj o b q d H hj hb=>?_⟩
   cases j with
   |zero=>simp at hj hb;obtain⟨rfl,rfl,rfl,rfl⟩:=hb;subst hj;exact⟨h2,λi _ _ _ _ hi=>by omega⟩
   |succ j =>
    obtain⟨m1,m2⟩:=k2 j o b q d H (by simpa using hj) (by simpa using hb);refine⟨m1,λi b' lt d' H' hi xc=>?_⟩
    cases i with
    |zero=>simp at xc
    |succ i =>
     have:=m2 i b' lt d' H' (by omega) (by simpa using xc);rwa [show i0+1+i=i0+(i+1) by omega] at this
  |some q0 =>
   obtain⟨k1,k2⟩:=Ko l tr (i0+1) (ws++[(i0,q0,d0)]) h1 (by simpa using hl);refine⟨k1,λj o b q d H hj hb=>?_⟩
   cases j with
   |zero=>simp at hj hb;obtain⟨rfl,rfl,rfl,rfl⟩:=hb;subst hj;exact⟨h2,λi _ _ _ _ hi=>by omega⟩
   |succ j =>
    obtain⟨m1,m2⟩:=k2 j o b q d H (by simpa using hj) (by simpa using hb);refine⟨λw hw=>m1 w<|Ep _ hw,λi b' lt d' H' hi xc=>?_⟩
    cases i with
    |zero =>
     simp at xc;obtain⟨rfl,rfl,rfl,rfl⟩:=xc;exact m1 (i0,q0,d0)<|by simp
    |succ i =>
     have:=m2 i b' lt d' H' (by omega) (by simpa using xc);rwa [show i0+1+i=i0+(i+1) by omega] at this
theorem zpt{m i:Nat}(h:vz m i):m.testBit i:=by
 unfold vz at h;split at h
 ·rename_i e;rw[Nat.testBit_eq_decide_div_mod_eq];simpa using CA e
 cases h
theorem Q3:∀(l:List Oper) (ms:List Nat) (pl:List cV),qo P n ops ms l=some pl->∀k p,pl[k]? = some p->p.mask=ms.getD k 0
 |[],ms,pl,h,k,p,hk=>by simp[qo] at h;subst h;simp at hk
 |o::l,ms,pl,h,k,p,hk=>by
  simp only[qo] at h;split at h
  ·rename_i q pr h1 h2;cases h
   cases k with
   |zero =>
    simp at hk;subst hk;rw[(NN h1).2.2.2.2];cases ms<;>rfl
   |succ k =>
    rw[Q3 l ms.tail pr h2 k p<|by simpa using hk];cases ms<;>simp[List.getD]
  cases h
theorem TD:∀(l:List Oper) (ms:List Nat) (pl:List cV),qo P n ops ms l=some pl->pl.length=l.length
 |[],ms,pl,h=>by simp[qo] at h;subst h;rfl
 |o::l,ms,pl,h=>by
  simp only[qo] at h;split at h
  ·rename_i q pr h1 h2;cases h;simp[TD l ms.tail pr h2]
  cases h
end
end
section
structure oe(P:bI)(n:Nat)(ops:Array Oper)(env:Env)(H:aF)(rs:List Rec):Prop where
 at_:∀k o,ops.toList[k]? = some o->∃r,rs[k]? = some r/\AH P n ops o (qx ops.toList rs env k) (lE rs H k) r
 len:rs.length=ops.size
 reg:Bq ops (rB [] ops.toList) [] ops.toList=true
 mem:∀i j,i<j->j<ops.size->u6 (tT (recAt rs i).entry) ((recAt rs j).rd,(recAt rs j).wr)->Bef ops i j
 lite:∀i id k,(recAt rs i).lt=some (id,k)->∀j,i<j->j<ops.size->id∈(recAt rs j).wr->Bef ops i j\/∃m cs,(recAt rs j).H2[id]? = some (.row m cs)/\cs[k]? = some (recAt rs i).d
section
variable{P:bI}{n:Nat}{ops:Array Oper}{env:Env}{H:aF}{rs:List Rec}
structure Inv(P:bI)(n:Nat)(ops:Array Oper)(env:Env)(H:aF)(rs:List Rec)(J0:bf)(F0:Nat->Prop)(w0:ba)(S:ay)(J:bf)(F:Nat->Prop)(a:Act)(w:ba):Prop where
 closed:xC ops S
 defers:a.defers=[]
 size:a.tmps.size=n
 tmps:∀t,rep J F w (Et ops.toList rs env S ops.size t)<|a.tmps.getD t undef
 ok:cH J F w<|Gt rs H S ops.size
 ext:Ext J0 F0 w0 J F w
 dom:∀id,J id≠none->id<H.length\/∃i,i<ops.size/\S i/\id∈(recAt rs i).wr
variable{S:ay}{j i:Nat}{o:Oper}
theorem oe.before(hp:oe P n ops env H rs)(hC:xC ops S)(ho:ops[j]? = some o)(hj:S j=false)(hr:∀a∈n7 o,S a)(hi:i<ops.size)(bT:i≠j)(zz7:Bef ops i j\/Bef ops j i):S i=upto j i:=by
 have qU:ops[i]? = some ops[i]:=rF hi;rcases zz7 with h|h
 ·obtain⟨q1,q2⟩:=LN hp.reg j o ho i h;rw[q2 S hC hr];simp[upto,q1]
 obtain⟨q1,q2⟩:=LN hp.reg i _ qU j h;have:S i=false:=by
  cases e:S i with
  |false=>rfl
  |true =>
   have:=q2 S hC<|hC i _ qU e;rw[hj] at this;cases this
 rw[this];simp[upto];omega
theorem oe.cmp(hp:oe P n ops env H rs){x y:Oper}(hi:ops[i]? = some x)(hj:ops[j]? = some y)(bT:i≠j):(Bef ops i j\/Bef ops j i)\/(x.apart ops y=true/\i<j)\/(y.apart ops x=true/\j<i):=by
 rcases Nat.lt_or_gt_of_ne bT with h|h
 ·have:=(Gw ops.toList [] hp.reg j y<|by simpa using hj).2 i x (by simpa using h) (by simpa using hi);simp only[bU,lZ] at this;rcases this with q|q
  ·exact .inl (.inl q)
  exact .inr (.inl ⟨q,h⟩)
 have:=(Gw ops.toList [] hp.reg i x<|by simpa using hi).2 j y (by simpa using h) (by simpa using hj);simp only[bU,lZ] at this;rcases this with q|q
 ·exact .inl (.inr q)
 exact .inr (.inr ⟨q,h⟩)
theorem oe.tmp(hp:oe P n ops env H rs)(hC:xC ops S)(ho:ops[j]? = some o)(hj:S j=false)(hr:∀a∈n7 o,S a){t:Nat}(ht:t∈o.looksAt ops):Et ops.toList rs env S ops.size t=iA t (qx ops.toList rs env j):=by
 have vY:j<ops.size:=by
  rcases dY j ops.size with h|h
  ·exact h
  rw[yI h] at ho;cases ho
 rw[<-Ir hp.at_ j (by simp;omega),<-P9 ops.size (by omega)];refine Fu _ λi hi hd=>?_;have qU:ops[i]? = some ops[i]:=rF hi;have tz:ops.toList[i]? = some ops[i]:=by rw[E4];exact qU
 rw[Je tz] at hd;by_cases e:i=j
 ·subst e;rw[hj];simp[upto]
 rcases hp.cmp qU ho e with h|⟨h,_⟩|⟨h,_⟩
 ·exact hp.before hC ho hj hr hi e h
 ·exact absurd ht<|(Oper.apart_spec h).1 t hd
 exact absurd ht<|(Oper.apart_spec h).2.2 t hd
theorem GS(a b:List Nat×List Nat):u6 a b↔(∃x∈a.2,x∈b.1)\/(∃x∈a.2,x∈b.2)\/∃x∈b.2,x∈a.1:=by
 simp only[u6,qX,QW,or_assoc]
theorem Ih(r:Rec):(tT r.entry).2=r.wr:=by unfold tT Rec.entry;split<;>rfl
theorem zt8{r:Rec}(h:r.lt=none):(tT r.entry).1=r.rd:=by unfold tT Rec.entry;dsimp only;rw[h]
variable{id:Nat}
theorem oe.objB(hp:oe P n ops env H rs)(hC:xC ops S)(ho:ops[j]? = some o)(hj:S j=false)(hr:∀a∈n7 o,S a)(hid:id∈(recAt rs j).rd\/id∈(recAt rs j).wr)(h:i<j)(hw:id∈(recAt rs i).wr):S i=upto j i:=by
 have vY:j<ops.size:=by
  rcases dY j ops.size with h|h
  ·exact h
  rw[yI h] at ho;cases ho
 refine hp.before hC ho hj hr (by omega) (by omega) (.inl<|hp.mem i j h vY<|(GS _ _).2 ?_);rcases hid with q|q
 ·exact .inl ⟨id,by rw[Ih];exact hw,q⟩
 exact .inr (.inl ⟨id,by rw[Ih];exact hw,q⟩)
theorem oe.obj(hp:oe P n ops env H rs)(hC:xC ops S)(ho:ops[j]? = some o)(hj:S j=false)(hr:∀a∈n7 o,S a)(hid:(id∈(recAt rs j).rd/\(recAt rs j).lt=none)\/id∈(recAt rs j).wr)(hi:i<ops.size)(hw:id∈(recAt rs i).wr):S i=upto j i:=by
 by_cases e:i=j
 ·subst e;rw[hj];simp[upto]
 rcases Nat.lt_or_gt_of_ne e with h|h
 ·exact hp.objB hC ho hj hr (hid.imp_left And.left) h hw
 refine hp.before hC ho hj hr hi e (.inr<|hp.mem j i h hi<|(GS _ _).2 ?_);rcases hid with⟨q,ql⟩|q
 ·exact .inr (.inr ⟨id,hw,by rw[zt8 ql];exact q⟩)
 exact .inr (.inl ⟨id,by rw[Ih];exact q,hw⟩)
theorem oe.objs(hp:oe P n ops env H rs)(hC:xC ops S)(ho:ops[j]? = some o)(hj:S j=false)(hr:∀a∈n7 o,S a)(hid:(id∈(recAt rs j).rd/\(recAt rs j).lt=none)\/id∈(recAt rs j).wr):Gt rs H S ops.size id=(lE rs H j)[id]?:=by
 have vY:j<ops.size:=by
  rcases dY j ops.size with h|h
  ·exact h
  rw[yI h] at ho;cases ho
 rw[<-JL hp.at_ j (by simp;omega),<-N0 ops.size (by omega)];exact DK _ λi hi hw=>hp.obj hC ho hj hr hid hi hw
theorem oe.cell(hp:oe P n ops env H rs)(hC:xC ops S)(ho:ops[j]? = some o)(hj:S j=false)(hr:∀a∈n7 o,S a){k:Nat}(hl:(recAt rs j).lt=some (id,k))(cW:(recAt rs j).rd=[id])
  (h0:∃m cs,(lE rs H j)[id]? = some (.row m cs)/\cs[k]? = some (recAt rs j).d):∃m cs,Gt rs H S ops.size id=some (.row m cs)/\cs[k]? = some (recAt rs j).d:=by
 have vY:j<ops.size:=by
  rcases dY j ops.size with h|h
  ·exact h
  rw[yI h] at ho;cases ho
 have key:∀x,j+x<=ops.size->∃m cs,Gt rs H S (j+x) id=some (.row m cs)/\cs[k]? = some (recAt rs j).d:=λx=>by
  induction x with
  |zero =>
   intro _;have:Gt rs H S j id=(lE rs H j)[id]?:=by
    rw[<-JL hp.at_ j (by simp;omega),<-N0 j (aT _)];exact DK _ λi hi hw=>hp.objB hC ho hj hr (.inl<|by rw[cW];simp) hi hw
   rw[uL,this];exact h0
  |succ x ih =>
   intro hx;rw[<-DN];simp only[Gt];split
   ·rename_i q;by_cases e:x=0
    ·subst e;rw[uL] at q;rw[hj] at q;exact absurd q.1<|by simp
    rcases hp.lite j id k hl (j+x) (by omega) (by omega) q.2 with r|r
    ·exfalso;have qU:ops[j+x]? = some ops[j+x]:=rF (by omega);obtain⟨_,q2⟩:=LN hp.reg (j+x) _ qU j r;have:=q2 S hC<|hC (j+x) _ qU q.1;rw[hj] at this;cases this
    exact r
   exact ih<|by omega
 have:=key (ops.size-j) (by omega);rwa [show j+(ops.size-j)=ops.size by omega] at this
def plus(S:ay)(j:Nat):Nat->Bool:=λi=>S i||decide (i=j)
theorem Q4{l:List Oper}{S:ay}{j t:Nat}(hj:S j=false)(FT:∀i,j<i->S i->qh l i=some t->qh l j≠some t):∀k,Et l rs env (plus S j) k t=if j<k/\qh l j=some t then (recAt rs j).d else Et l rs env S k t
 |0=>rfl
 |k+1=>by
  simp only[Et];rw[Q4 hj FT k];by_cases e:k=j
  ·subst e;by_cases hd:qh l k=some t
   ·rw[ae ⟨by simp[plus],hd⟩,ae ⟨by omega,hd⟩]
   rw[ab λq=>hd q.2,ab λq=>hd q.2,ab λq=>hd q.2,ab λq=>hd q.2]
  have hS:plus S j k=S k:=(by simp[plus,e]);rw[hS];by_cases hk:S k=true/\qh l k=some t
  ·rw[ae hk,ae hk];rw[ab];rintro⟨q1,q2⟩;exact FT k (by omega) hk.1 hk.2 q2
  rw[ab hk,ab hk];by_cases hd:j<k/\qh l j=some t
  ·rw[ae hd,ae ⟨by omega,hd.2⟩]
  rw[ab hd,ab λq=>hd ⟨by omega,q.2⟩]
theorem Ua{S:ay}{j id:Nat}(hj:S j=false)(FT:∀i,j<i->S i->id∈(recAt rs i).wr->id ∉ (recAt rs j).wr):∀k,Gt rs H (plus S j) k id=if j<k/\id∈(recAt rs j).wr then (recAt rs j).H2[id]? else Gt rs H S k id
 |0=>rfl
 |k+1=>by
  simp only[Gt];rw[Ua hj FT k];by_cases e:k=j
  ·subst e;by_cases hd:id∈(recAt rs k).wr
   ·rw[ae ⟨by simp[plus],hd⟩,ae ⟨by omega,hd⟩]
   rw[ab λq=>hd q.2,ab λq=>hd q.2,ab λq=>hd q.2,ab λq=>hd q.2]
  have hS:plus S j k=S k:=(by simp[plus,e]);rw[hS];by_cases hk:S k=true/\id∈(recAt rs k).wr
  ·rw[ae hk,ae hk];rw[ab];rintro⟨q1,q2⟩;exact FT k (by omega) hk.1 hk.2 q2
  rw[ab hk,ab hk];by_cases hd:j<k/\id∈(recAt rs j).wr
  ·rw[ae hd,ae ⟨by omega,hd.2⟩]
  rw[ab hd,ab λq=>hd ⟨by omega,q.2⟩]
theorem oe.step(hp:oe P n ops env H rs){J0:bf}{F0:Nat->Prop}{w0:ba}{S:ay}{J:bf}{F:Nat->Prop}{a:Act}{w:ba}(hv:Inv P n ops env H rs J0 F0 w0 S J F a w){j:Nat}{o:Oper}(ho:ops[j]? = some o)(hj:S j=false)(hr:∀a∈n7 o,S a)
  {K:Act->ba->Prop} {Q:Exit->Act->ba->Prop} (hK:∀J' F' a' w',Inv P n ops env H rs J0 F0 w0 (plus S j) J' F' a' w'->K a' w') :
  if Region.wanted o (yielded ops a.tmps) then o.wp P a w K Q else K (a.put o.dst undef) w:=by
 have vY:j<ops.size:=by
  rcases dY j ops.size with h|h
  ·exact h
  rw[yI h] at ho;cases ho
 have uI:ops.toList[j]? = some o:=by simpa using ho
 obtain⟨r,hr1,Mt⟩:=hp.at_ j o uI;have wm:recAt rs j=r:=CN hr1;have Tc:qh ops.toList j=o.dst:=Je uI;have zIr:xC ops<|plus S j:=λi x hx hi b hb=>by
  simp only[plus,qX,ja] at hi⊢;rcases hi with hi|rfl
  ·exact .inl<|hv.closed i x hx hi b hb
  rw[ho] at hx;cases hx;exact .inl<|hr b hb
 have zGa:∀t i,j<i->S i->qh ops.toList i=some t->qh ops.toList j≠some t:=λt i hi hS hd CV=>by
  have HI:i<ops.size:=by
   rcases dY i ops.size with h|h
   ·exact h
   rw[qh,cY<|by simpa using h] at hd;cases hd
  have qU:ops[i]? = some ops[i]:=rF HI;have tz:ops.toList[i]? = some ops[i]:=(by rw[E4];exact qU);rw[Je tz] at hd;rw[Tc] at CV;rcases hp.cmp qU ho (by omega) with h|⟨h,h'⟩|⟨h,_⟩
  ·have:=hp.before hv.closed ho hj hr HI (by omega) h;rw[hS] at this;simp[upto] at this;omega
  ·omega
  exact(Oper.apart_spec h).2.1 t CV hd
 have YY:∀id i,j<i->S i->id∈(recAt rs i).wr->id ∉ (recAt rs j).wr:=λid i hi hS hw Cs=>by
  by_cases HI:i<ops.size
  ·have:=hp.obj hv.closed ho hj hr (.inr Cs) HI hw;rw[hS] at this;simp[upto] at this;omega
  have e:rs[i]? = none:=cY (by rw[hp.len];omega);simp[recAt,e] at hw;cases hw
 -- the new state
 have mk:∀(v:aP) (J':bf) (F':Nat->Prop) (w':ba),rep J' F' w' r.d v->cH J' F' w' (upd (Gt rs H S ops.size) r.wr r.H2)->Ext J F w J' F' w'->(∀id,J id=none->id ∉ r.wr->J' id=none)->Inv P n ops env H rs J0 F0 w0 (plus S j) J' F' (a.put o.dst v) w':=λv J' F' w' q1 q2 q3 q4=>by
  refine⟨zIr,?_,?_,λt=>?_,?_,hv.ext.trans q3,λid hid=>?_⟩
  ·cases o.dst<;>exact hv.defers
  ·cases o.dst<;>simp[Act.put,hv.size]
  ·rw[Q4 hj<|zGa t];rw[Tc,wm]
   cases hd:o.dst with
   |none=>rw[ab<|by simp];exact Jb q3<|hv.tmps t
   |some u =>
    simp only[vY,true_and,Option.some.injEq,Act.put];rw[Pn _ _ _ _<|by rw[hv.size];exact Mt.1 u hd];by_cases e:t=u
    ·rw[ae e.symm,ae e];exact q1
    rw[ab λq=>e q.symm,ab e];exact Jb q3<|hv.tmps t
  ·have:Gt rs H (plus S j) ops.size=upd (Gt rs H S ops.size) r.wr r.H2:=by
    funext id;rw[Ua hj<|YY id];simp only[vY,true_and,wm,upd]
   rw[this];exact q2
  by_cases h1:J id=none
  ·by_cases h2:id∈r.wr
   ·exact .inr ⟨j,vY,by simp[plus],by rw[wm];exact h2⟩
   exact absurd (q4 id h1 h2) hid
  rcases hv.dom id h1 with q|⟨i,i1,i2,i3⟩
  ·exact .inl q
  exact .inr ⟨i,i1,by simp[plus,i2],i3⟩
 have opnd:∀x∈o.op.operands,rep J F w (fU (qx ops.toList rs env j) x)<|a.eval x:=λx hx=>by
  cases x with
  |tmp t =>
   have ht:t∈o.looksAt ops:=by
    unfold Oper.looksAt;refine dt.2 (.inl<|List.mem_filterMap.2 ⟨.tmp t,by simpa using hx,rfl⟩)
   have:=hv.tmps t;rw[hp.tmp hv.closed ho hj hr ht] at this;exact this
  |const v =>
   cases v<;>simp only[fU,lift,Act.eval,rep];rename_i cs;exact⟨cs.toList,by simp,CK cs.toList⟩
  |global g=>exact Uw hv.ok.lt g
  |func f=>simp only[fU,Act.eval,rep];exact⟨[],[],rfl,by simp only[bB],by simp only[bB]⟩
 have exec:OpS P o (qx ops.toList rs env j) r.rd r.wr (lE rs H j) r.d r.H2->o.wp P a w K Q:=λhs=>by
  cases ck:r.lt with
  |some q =>
   obtain⟨id,k⟩:=q;obtain⟨e1,e2,e3,e4,e5⟩:=Mt.2.2.1 id k ck;obtain⟨m,cs,c1,c2⟩:=hp.cell hv.closed ho hj hr (by rw[wm];exact ck) (by rw[wm];exact e1) (by rw[wm];exact e4);rw[wm] at c2;obtain⟨m0,cs0,c3,_⟩:=e4;have wT:id<(lE rs H j).length:=by
    rcases dY id (lE rs H j).length with h|h
    ·exact h
    rw[cY h] at c3;cases c3
   have lJ:((lE rs H j).set id (.row m cs))[id]? = some (.row m cs):=(by rw[vo];simp[wT]);refine(e5 _ m cs lJ c2).run J F w a _ hv.ok opnd (λi hi=>?_) (λi hi hw=>by cases hw) K Q λv w' J' F' q1 q2 q3 q4=>hK _ _ _ _<|mk v J' F' w' q1 (by rw[zN] at q2;rw[e2,zN];exact q2) q3 λi h1 _=>q4 i h1 (by simp);rcases hi with hi|hi
   ·rw[cB] at hi;subst hi;rw[c1,lJ]
   cases hi
  |none =>
   refine hs.run J F w a _ hv.ok opnd (λid hid=>by rw[<-wm] at hid;exact hp.objs hv.closed ho hj hr<|hid.imp_left λh=>⟨h,by rw[wm];exact ck⟩) (λid hid hw=>?_) K Q λv w' J' F' q1 q2 q3 q4=>hK _ _ _ _<|mk v J' F' w' q1 q2 q3 q4
   cases e:J id with
   |none=>rfl
   |some s =>
    rcases hv.dom id (by rw[e];simp) with q|⟨i,i1,i2,i3⟩
    ·have:=Jt hp.at_ j 0 (by omega) (by simp;omega);simp only[lE] at this;omega
    have h1:=hp.obj hv.closed ho hj hr (.inr<|by rw[wm];exact hw) i1 i3;rw[i2] at h1;have rn:i<j:=(by simpa [upto] using h1.symm);have:=VZ hp.at_ rn (by simp;omega) i3;omega
 rcases Mt.2.2.2 with⟨g1,g2⟩|⟨g,b,t,c,g1,g2,g3,g4⟩
 ·rw[ae<|by simp[Region.wanted,g1]];exact exec g2
 have ht:t∈o.looksAt ops:=by
  unfold Oper.looksAt;refine dt.2 (.inr ?_);rw[g1];simp only[g2,Bj,cB]
 have h3:=hv.tmps t;rw[hp.tmp hv.closed ho hj hr ht,g3] at h3;simp only[rep] at h3;rcases g4 with⟨rfl,g4⟩|⟨bT,rfl⟩
 ·rw[ae<|zs3 g1 g2 h3];exact exec g4
 rw[ab<|by rw[TB g1 g2<|by rw[h3];exact bT];simp];exact hK _ _ _ _<|mk undef J F w (by simp only[rep]) (by rw[zN];exact hv.ok) (Ext.refl _ _ _) λ_ h _=>h
variable{listed:Array Bool}
theorem Qy(h:j∈Region.ready .any ops listed):∃o,ops[j]? = some o/\listed.getD j true=false/\∀a∈n7 o,listed.getD a false:=by
 obtain⟨h1,o,h2,h3⟩:=mem_ready.1 h;refine⟨o,h2,h1,λa ha=>?_⟩;unfold n7 at ha;obtain⟨e,he,rfl⟩:=dq.1 ha;obtain⟨he1,Zi⟩:=rP.1 he;exact h3 e (by simpa using he1) Zi
def uZ(listed:Array Bool):Nat->Bool:=λi=>listed.getD i false
theorem znS(hj:j<listed.size):uZ (listed.setIfInBounds j true)=plus (uZ listed) j:=by
 funext i;simp only[uZ,plus,vx];by_cases e:i=j
 ·subst e;simp[JC,hj]
 rw[HE λq=>e q.symm];simp[e]
def missing(listed:Array Bool):Nat:=(List.range listed.size).countP λi=>!listed.getD i false
theorem Y6(Mu:Bq ops (rB [] ops.toList) [] ops.toList)(hs:listed.size=ops.size)(h:Region.ready .any ops listed=[]):∀i,i<ops.size->listed.getD i false:=by
 intro i
 induction i using Nat.strongRecOn with
 |_ i ih =>
  intro hi
  cases e:listed.getD i false with
  |true=>rfl
  |false =>
   have qU:ops[i]? = some ops[i]:=rF hi;have tz:ops.toList[i]? = some ops[i]:=(by rw[E4];exact qU);have ck:=(Gw ops.toList [] Mu i _ tz).1;simp only[bU,lZ] at ck;have:i∈Region.ready .any ops listed:=by
    refine mem_ready.2 ⟨?_,_,qU,λed hed hb=>?_⟩
    ·have:i<listed.size:=by omega
     simp only[vx,rF this,nR] at e⊢;exact e
    have ha:ed.on∈n7 ops[i]:=dq.2 ⟨ed,rP.2 ⟨by simpa using hed,hb⟩,rfl⟩;exact ih _ (ck _ ha)<|by have:=ck _ ha;omega
   rw[h] at this;cases this
theorem ztu(hp:oe P n ops env H rs){J0:bf}{F0:Nat->Prop}{w0:ba}{Q:Exit->Act->ba->Prop}
  (hQ:∀J F a w,Inv P n ops env H rs J0 F0 w0 (λ_=>true) J F a w->Q .normal a w):∀(fuel:Nat) (listed:Array Bool) (J:bf) (F:Nat->Prop) (a:Act) (w:ba),listed.size=ops.size->missing listed<=fuel->Inv P n ops env H rs J0 F0 w0 (uZ listed) J F a w->wpAny P .any ops Q fuel listed a w:=by
 have done:∀(listed:Array Bool) (J:bf) (F:Nat->Prop) (a:Act) (w:ba),listed.size=ops.size->(∀i,i<ops.size->listed.getD i false)->Inv P n ops env H rs J0 F0 w0 (uZ listed) J F a w->Q .normal a w:=λlisted J F a w hs bR hv=>by
  refine hQ J F a w ⟨λ_ _ _ _ _ _=>rfl,hv.defers,hv.size,λt=>?_,?_,hv.ext,λid hid=>(hv.dom id hid).imp_right λ⟨i,i1,_,i3⟩=>⟨i,i1,rfl,i3⟩⟩
  ·have:=hv.tmps t;have e:Et ops.toList rs env (uZ listed) ops.size t=Et ops.toList rs env (λ_=>true) ops.size t:=Fu ops.size λi hi _=>bR i hi;rwa [e] at this
  have e:Gt rs H (uZ listed) ops.size=Gt rs H (λ_=>true) ops.size:=funext λid=>DK ops.size λi hi _=>bR i hi;have:=hv.ok;rwa [e] at this
 have key:∀(listed:Array Bool) (j:Nat),listed.size=ops.size->j∈Region.ready .any ops listed->j<ops.size/\listed.getD j false=false:=λlisted j hs hj=>by
  obtain⟨o,h1,h2,_⟩:=Qy hj;have vY:j<ops.size:=by
   rcases dY j ops.size with h|h
   ·exact h
   rw[yI h] at h1;cases h1
  refine⟨vY,?_⟩;have:j<listed.size:=by omega
  simp only[vx,rF this,nR] at h2⊢;exact h2
 intro fuel
 induction fuel with
 |zero =>
  intro listed J F a w hs hm hv;have bR:∀i,i<ops.size->listed.getD i false:=λi hi=>by
   have h0:missing listed=0:=(by omega);unfold missing at h0;rw[List.countP_eq_zero] at h0;have:=h0 i (by simp;omega);simpa using this
  refine⟨?_,done listed J F a w hs bR hv⟩
  cases e:Region.ready .any ops listed with
  |nil=>rfl
  |cons j r =>
   obtain⟨q1,q2⟩:=key listed j hs (by rw[e];simp);rw[bR j q1] at q2;cases q2
 |succ fuel ih =>
  intro listed J F a w hs hm hv;refine⟨λh=>done listed J F a w hs (Y6 hp.reg hs h) hv,λj hj=>?_⟩;obtain⟨o,h1,h2,h3⟩:=Qy hj;obtain⟨q1,q2⟩:=key listed j hs hj;have uE:missing (listed.setIfInBounds j true)<=fuel:=by
   have ck:missing (listed.setIfInBounds j true)<missing listed:=by
    unfold missing;rw[Array.size_setIfInBounds];have j8:j∈List.range listed.size:=(by simp;omega);obtain⟨l1,l2,hl⟩:=List.append_of_mem j8;have fm:(List.range listed.size).Nodup:=List.nodup_range;rw[hl] at fm⊢;have Yc:∀x∈l1,x≠j:=λx hx e=>by
     subst e;rw[yJ] at fm;exact fm.2.2 x hx x (by simp) rfl
    have Zv:∀x∈l2,x≠j:=λx hx e=>by
     subst e;rw[yJ] at fm;have:=fm.2.1;simp at this;exact this.1 hx
    have lJ:∀x,x≠j->(listed.setIfInBounds j true).getD x false=listed.getD x false:=λx hx=>by
     simp only[vx];rw[HE λq=>hx q.symm]
    rw[List.countP_append,List.countP_append,List.countP_cons,List.countP_cons];have c1:l1.countP (λi=>!(listed.setIfInBounds j true).getD i false)=l1.countP (λi=>!listed.getD i false):=List.countP_congr λx hx=>by rw[lJ x<|Yc x hx]
    have c2:l2.countP (λi=>!(listed.setIfInBounds j true).getD i false)=l2.countP (λi=>!listed.getD i false):=List.countP_congr λx hx=>by rw[lJ x<|Zv x hx]
    rw[c1,c2,q2];have:(listed.setIfInBounds j true).getD j false=true:=by
     simp only[vx];simp[JC,show j<listed.size by omega]
    rw[this];simp
   omega
  have st:=hp.step hv h1 (by simpa [uZ] using q2) (by simpa [uZ] using h3) (K:=wpAny P .any ops Q fuel<|listed.setIfInBounds j true) (Q:=Q) λJ' F' a' w' lH=>ih _ J' F' a' w' (by simp[hs]) uE (by rw[znS<|by omega];exact lH);unfold wpOp;simp only[h1];split
  ·rename_i hw;rw[ae hw] at st;exact .inl st
  rename_i hw;rw[ab hw] at st;exact st
theorem Z9{l:List cV}{Q:Exit->Act->ba->Prop}{K':Env->aF->Prop}(h:Hx P l env H K'){id:Nat}(hc:Gl P n ops true=some l){J:bf}{F:Nat->Prop}{a:Act}{w:ba}(hr:ju n J F env H a w)
  (hQ:∀env' H' J' F' a' w',K' env' H'->ju n J' F' env' H' a' w'->Ext J F w J' F' w'->Q .normal a' w'):(Code.region id ops true).wp P Q a w:=by
 simp only[Gl] at hc;split at hc
 ·rename_i hb;rw[fY] at hb;unfold Hx at h;obtain⟨rs,env',H',h1,h2,h3⟩:=S7 ops.toList _ l hc env H _ h;obtain⟨r1,r2,r3,r4⟩:=h1.at;have hlen:rs.length=ops.size:=(by simpa using r1);have zMl:l.length=ops.size:=(by rw[TD _ _ _ hc];simp);have ent:∀i,i<ops.size->(rs.map Rec.entry)[i]? = some (recAt rs i).entry:=λi hi=>by
   have e1:=aJ (show i<rs.length by omega);rw[cU,e1,CN e1];rfl
  have bit:∀j (hj:j<l.length) i,vz l[j].mask i->Bef ops i j:=λj hj i h=>by
   have hm:=Q3 _ _ _ hc j _<|aJ hj;rw[hm] at h;exact zpt h
  have zR:∀r:Rec,∀b,u6 (tT r.entry) b->u6 (r.rd,r.wr) b:=λr b h=>by
   rw[GS] at h⊢;rw[Ih] at h;refine h.imp_right λh=>h.imp_right λ⟨x,q1,q2⟩=>⟨x,q1,?_⟩;unfold tT at q2;split at q2
   ·cases q2
   exact q2
  have hK:K' env' H'/\oe P n ops env H rs:=by
   split at h2
   ·rename_i j8;have strict:∀i j,i<j->j<ops.size->u6 ((recAt rs i).rd,(recAt rs i).wr) ((recAt rs j).rd,(recAt rs j).wr)->Bef ops i j:=λi j rn hj gw=>by
     have jh:j<l.length:=(by omega);refine bit j jh i<|U0 l [] _ j8 j l[j] (recAt rs j).entry (aJ jh) (ent j hj) i ((recAt rs i).rd,(recAt rs i).wr) (by simpa using rn) ?_ gw;rw[lW,cU,ent i<|by omega];rfl
    exact⟨h2,r4,hlen,hb.2,λi j rn hj gw=>strict i j rn hj<|zR _ _ gw,λi id k hl j rn hj hw=>.inl (strict i j rn hj ((GS _ _).2 (.inr (.inr ⟨id,hw,by
     obtain⟨r,q1,q2⟩:=r4 i _ (aJ (show i<ops.toList.length by simp;omega));rw[CN q1] at hl⊢;rw[(q2.2.2.1 id k hl).1];simp⟩))))⟩
   split at h2
   ·rename_i j8;obtain⟨hk,hw⟩:=Ko l _ 0 [] h2 (by simp;omega);refine⟨hk,r4,hlen,hb.2,λi j rn hj gw=>?_,λi id k hl j rn hj KW=>?_⟩
    ·have jh:j<l.length:=(by omega);refine bit j jh i<|Ns l [] _ j8 j l[j] (recAt rs j).entry (aJ jh) (ent j hj) i (tT (recAt rs i).entry) (by simpa using rn) ?_ gw;rw[lW,cU,ent i<|by omega];rfl
    have jh:j<l.length:=(by omega);have:=(hw j l[j] _ _ _ _ (aJ jh)<|ent j hj).2 i ((recAt rs i).rd,(recAt rs i).wr) (id,k) (recAt rs i).d (recAt rs i).H2 rn (by rw[ent i<|by omega,<-hl];rfl);rw[lZ] at this;rcases this with q|q|q
    ·exact .inl<|bit j jh i q
    ·exact absurd KW q
    exact .inr q
   exact h2.elim
  obtain⟨h2,hp⟩:=hK
  skip
  refine wp_region_any hb.1<|ztu hp (J0:=J) (F0:=F) (w0:=w) (λJ' F' a' w' hv=>?_) _ _ J F a _ (by simp) ?_ ?_
  ·refine hQ env' H' J' F' a' w' h2 ⟨hv.defers,hv.size,λt=>?_,?_,λi hi=>?_⟩ hv.ext
   ·have:=hv.tmps t;rw[Ir hp.at_ _<|by simp] at this;rw[<-r2];simpa using this
   ·have:=hv.ok;have e:Gt rs H (λ_=>true) ops.size=λi=>H'[i]?:=funext λi=>by
     rw[JL hp.at_ _<|by simp,<-r3];simp
    rwa [e] at this
   rcases hv.dom i hi with q|⟨k,k1,_,k3⟩
   ·have:=Jt hp.at_ ops.size 0 (by omega) (by simp);simp only[lE] at this;rw[<-r3];simp;omega
   have:=VZ hp.at_ k1 (by simp) k3;rw[<-r3];simpa using this
  ·unfold missing;refine iv List.countP_le_length ?_;simp
  have hf:uZ (Array.replicate ops.size false)=λ_=>false:=by
   funext i;simp only[uZ,vx,Array.getElem?_replicate];split<;>rfl
  rw[hf];have e1:∀k t,Et ops.toList rs env (λ_=>false) k t=iA t env:=λk t=>by
   induction k with
   |zero=>rfl
   |succ k ih=>simp only[Et];rw[ab<|by simp];exact ih
  have e2:∀k i,Gt rs H (λ_=>false) k i=H[i]?:=λk i=>by
   induction k with
   |zero=>rfl
   |succ k ih=>simp only[Gt];rw[ab<|by simp];exact ih
  have hd:Ext J F w J F { w with drawn:=w.drawn+1 }:=Ext.drew;refine⟨(λ_ _ _ h=>by cases h),hr.defers,hr.size,λt=>?_,?_,hd,λi hi=>.inl<|hr.dom i hi⟩
  ·rw[e1];exact Jb hd<|hr.tmps t
  have:Gt rs H (λ_=>false) ops.size=λi=>H[i]?:=funext (e2 _);rw[this];exact hr.ok.drew
 cases hc
end
end
section
def Bv(n:Nat)(J:bf)(F:Nat->Prop)(w:ba)(Q:iZ):Exit->Act->ba->Prop:=λe a' w'=>∃env' H' J' F',Q e env' H'/\ju n J' F' env' H' a' w'/\Ext J F w J' F' w'
section
variable{P:bI}{n:Nat}
variable{p:PC}{Q:iZ}{env:Env}{H:aF}{c:Code}{J:bf}{F:Nat->Prop}{a:Act}{w:ba}
theorem qp(h:PWp P n p Q env H)(hc:comp P n c=some p.bare)(hr:ju n J F env H a w):c.wp P (Bv n J F w Q) a w:=by
 unfold PWp at h;exact h c hc J F a w hr
theorem r8(h:∀(c:Code),comp P n c=some p.bare->∀(J:bf) (F:Nat->Prop) (a:Act) (w:ba),ju n J F env H a w->c.wp P (Bv n J F w Q) a w):PWp P n p Q env H:=by
 unfold PWp;exact h
variable{e:Exit}
theorem Pm{J':bf}{F':Nat->Prop}{w':ba}{w'':ba}(hx:Ext J F w J' F' w')(h:Bv n J' F' w' Q e a w''):Bv n J F w Q e a w'' :=
 let⟨env',H',J'',F'',q1,q2,q3⟩:=h
 ⟨env',H',J'',F'',q1,q2,hx.trans q3⟩
theorem MP{env:Env}:∀(env':Env),s9 env env'->∀t,iA t env'=iA t env\/iA t env'=.dW
 |[],_,t=>.inr rfl
 |(k,d)::r,h,t=>by
  simp only[s9] at h;rw[BM];split
  ·rename_i e;rw[e];exact .inl h.1.symm
  exact MP r h.2 t
theorem rh{env':Env}(h:s9 env env'):St.le n env H env' H:=λJ F a w hr =>
 ⟨J,F,⟨hr.defers,hr.size,λt=>by
  rcases MP env' h t with e|e
  ·rw[e];exact hr.tmps t
  rw[e];simp only[rep],hr.ok,hr.dom⟩,Ext.refl _ _ _⟩
theorem Zl(h:comp P n c=some .skip):c=.skip:=by
 cases c<;>simp[comp] at h
 ·rfl
 all_goals first|(obtain⟨_,_,h⟩:=h;cases h)|(split at h<;>simp at h)|skip
variable{x:PC}
theorem zuC{y:PC}(h:comp P n c=some (.seq x y)):∃a b,c=.seq a b/\comp P n a=some x/\comp P n b=some y:=by
 cases c<;>simp[comp] at h
 case seq a b =>
  split at h
  ·rename_i e1 e2;simp at h;obtain⟨rfl,rfl⟩:=h;exact⟨a,b,rfl,e1,e2⟩
  cases h
 all_goals first|(obtain⟨_,_,h⟩:=h;cases h)|(split at h<;>simp at h)
theorem zsH{z:a8}{y:PC}(h:comp P n c=some (.cond z x y)):∃a b,c=.cond z a b/\comp P n a=some x/\comp P n b=some y:=by
 cases c<;>simp[comp] at h
 case cond z' a b =>
  split at h
  ·rename_i e1 e2;simp at h;obtain⟨rfl,rfl,rfl⟩:=h;exact⟨a,b,rfl,e1,e2⟩
  cases h
 all_goals first|(obtain⟨_,_,h⟩:=h;cases h)|(split at h<;>simp at h)
variable{id:Nat}
theorem zoQ(h:comp P n c=some (.block id x)):∃a,c=.block id a/\comp P n a=some x:=by
 cases c<;>simp[comp] at h
 case block jn a=>obtain⟨h1,rfl⟩:=h;exact⟨a,rfl,h1⟩
 all_goals first|(split at h<;>simp at h)
theorem J8(h:comp P n c=some (.loop x)):∃a,c=.loop a/\comp P n a=some x:=by
 cases c<;>simp[comp] at h
 case loop a=>exact⟨a,rfl,h⟩
 all_goals first|(split at h<;>simp at h)
theorem zsD(h:comp P n c=some (.exit id)):c=.exit id:=by
 cases c<;>simp[comp] at h
 case exit jn=>rw[h]
 all_goals first|(split at h<;>simp at h)
theorem zuq(h:comp P n c=some .ret):c=.ret:=by
 cases c<;>simp[comp] at h
 ·first|rfl|(split at h<;>simp at h)
 all_goals first|rfl|(split at h<;>simp at h)
variable{l:List cV}
theorem zu3{d:Bool}(h:comp P n c=some (.ops l d)):∃id ops,c=.region id ops d/\Gl P n ops d=some l:=by
 cases c<;>simp[comp] at h
 case region id ops d'=>obtain⟨l',h1,rfl,rfl⟩:=h;exact⟨id,ops,rfl,h1⟩
 all_goals first|(split at h<;>simp at h)
theorem zpm(h:Hx P l env H λenv H=>Q .normal env H){id:Nat}{ops:Array Oper}(hc:Gl P n ops true=some l)(hr:ju n J F env H a w) :
  (Code.region id ops true).wp P (Bv n J F w Q) a w:=Z9 h hc hr λenv' H' J' F' a' w' q1 q2 q3=>⟨env',H',J',F',q1,q2,q3⟩
theorem B0:∀(p:PC) (Q:iZ) (env:Env) (H:aF),pw P n p Q env H->PWp P n p Q env H
 | .skip,Q,env,H,h=>r8 λc hc J F a w hr=>by
  rw[Zl hc];exact wp_skip ⟨env,H,J,F,h,hr,Ext.refl _ _ _⟩
 | .ops l d,Q,env,H,h=>r8 λc hc J F a w hr=>by
  obtain⟨id,ops,rfl,h1⟩:=zu3 hc
  cases d with
  |false =>
   refine wp_region ?_;rw[List.range_eq_range'];have:=WZ (P:=P) (ops:=ops) (Q:=Bv n J F w Q) ops.toList 0 [] l (λj=>by simp) h1 env H J F a w h hr λenv' H' J' F' a' w' q1 q2 q3=>⟨env',H',J',F',q1,q2,q3⟩;simpa using this
  |true=>exact zpm h h1 hr
 | .seq x y,Q,env,H,h=>r8 λc hc J F a w hr=>by
  obtain⟨a',b',rfl,h1,h2⟩:=zuC hc;refine wp_seq<|wp_mono (qp (B0 x _ env H h) h1 hr) λe a1 w1 ⟨env',H',J',F',q1,q2,q3⟩=>?_
  cases e with
  |normal=>exact wp_mono (qp (B0 y Q env' H' q1) h2 q2) λe a2 w2 q=>Pm q3 q
  |_=>exact⟨env',H',J',F',q1,q2,q3⟩
 | .cond z x y,Q,env,H,h=>r8 λc hc J F a w hr=>by
  obtain⟨a',b',rfl,h1,h2⟩:=zsH hc;simp only[pw,gB] at h;split at h
  ·rename_i t e;have hz:=hr.eval z;rw[e] at hz;simp only[rep] at hz;obtain⟨k1,k2⟩:=ER.1 h;refine wp_cond hz ?_
   cases t with
   |true=>exact qp (B0 x Q env H<|k1 rfl) h1 hr
   |false=>exact qp (B0 y Q env H<|k2 rfl) h2 hr
  exact h.elim
 | .block id x,Q,env,H,h=>r8 λc hc J F a w hr=>by
  obtain⟨a',rfl,h1⟩:=zoQ hc;refine wp_block<|wp_mono (qp (B0 x _ env H h) h1 hr) λe a1 w1 ⟨env',H',J',F',q1,q2,q3⟩=>?_
  cases e with
  |exit jn =>
   simp only[Exit.inBlock];by_cases e:jn=id
   ·subst e;rw[ae rfl];have hb:Nat.beq jn jn=true:=(by simp);simp only[hb] at q1;exact⟨env',H',J',F',q1,q2,q3⟩
   rw[ab e];have hb:Nat.beq jn id=false:=by
    cases h:Nat.beq jn id
    ·rfl
    exact absurd (CA h) e
   simp only[hb] at q1;exact⟨env',H',J',F',q1,q2,q3⟩
  |_=>exact⟨env',H',J',F',q1,q2,q3⟩
 | .loop x,Q,env,H,h=>h
 | .exit id,Q,env,H,h=>r8 λc hc J F a w hr=>by
  rw[zsD hc];exact wp_exit ⟨env,H,J,F,h,hr,Ext.refl _ _ _⟩
 | .ret,Q,env,H,h=>r8 λc hc J F a w hr=>by
  rw[zuq hc];exact wp_ret ⟨env,H,J,F,h,hr,Ext.refl _ _ _⟩
 | .stop x,Q,env,H,h=>r8 λc hc J F a w hr=>qp h hc hr
theorem Bo{p:PC}{Q:iZ}{ι:Type}(E:ι->Env)(O:ι->aF)(G:ι->Prop)(m:ι->Nat)(i:ι)(h0:G i)(h1:St.le n env H (E i)<|O i)
  (round:∀j,G j->PWp P n p (Zb n Q E O G m<|m j) (E j) (O j)):PWp P n (.loop p) Q env H:=r8 λc hc J F a w hr=>by
 obtain⟨c',rfl,gh⟩:=J8 hc;obtain⟨J0,F0,k1,k2⟩:=h1 J F a w hr;refine wp_loop_ghost (λk a' w'=>∃j J' F',G j/\m j=k/\ju n J' F' (E j) (O j) a' w'/\Ext J F w J' F' w') (m i) ⟨i,J0,F0,h0,rfl,k1,k2⟩ λk a1 w1 ⟨j,J1,F1,g1,g2,g3,g4⟩=>?_;refine wp_mono (qp (round j g1) gh g3) λe a2 w2 ⟨env',H',J',F',q1,q2,q3⟩=>?_
 cases e with
 |normal =>
  obtain⟨j',r1,r2,r3⟩:=q1;obtain⟨J2,F2,t1,t2⟩:=r3 J' F' a2 w2 q2;exact⟨m j',by omega,j',J2,F2,r1,rfl,t1,(g4.trans q3).trans t2⟩
 |_=>exact⟨env',H',J',F',q1,q2,g4.trans q3⟩
theorem US:∀(args:bh) (k t:Nat),iA t (params k args)=if k<=t then (args[t-k]?).getD .dW else .dW
 |[],k,t=>by simp[params,iA]
 |d::r,k,t=>by
  simp only[params];rw[BM,US r (k+1) t];by_cases h1:t=k
  ·subst h1;simp
  rw[ab h1];by_cases h2:k+1<=t
  ·rw[ae h2,ae<|by omega,show t-k=t-(k+1)+1 by omega,E9]
  rw[ab h2,ab<|by omega]
section
variable{J J':bf}{F:Nat->Prop}{w:ba}
mutual
theorem IQ:∀(d:D) (v:aP),Pure d->rep J F w d v->rep J' F w d v
 | .dW,v,_,_=>by simp only[rep]
 | .sc u,v,_,h=>by simpa only[rep] using h
 | .gv u,v,_,h=>by simpa only[rep] using h
 | .loc ..,v,hp,_=>by simp only[Pure] at hp
 | .elt ..,v,hp,_=>by simp only[Pure] at hp
 | .own ..,v,hp,_=>by simp only[Pure] at hp
 | .aB cs,v,hp,h=>by
  simp only[Pure] at hp;simp only[rep] at h⊢;obtain⟨b,o,h1,h2,h3⟩:=h;exact⟨b,o,h1,h2,Ny b cs o hp h3⟩
 | .aM ak xs,v,hp,h=>by
  simp only[Pure] at hp;simp only[rep] at h⊢;obtain⟨A,n,c,h1,h2,hc,h3⟩:=h;exact⟨A,n,c,h1,h2,hc,h3.imp_right λ⟨b,o,h4,h5,h6⟩=>⟨b,o,h4,h5,SH b ak xs o hp h6⟩⟩
 | .fn f a b,v,hp,h=>by
  simp only[Pure] at hp;simp only[rep] at h⊢;obtain⟨vs,us,h1,h2,h3⟩:=h;exact⟨vs,us,h1,z6 a vs hp.1 h2,z6 b us hp.2 h3⟩
 | .ifc t d,v,hp,h=>by
  simp only[Pure] at hp;simp only[rep] at h⊢;obtain⟨u,h1,h2⟩:=h;exact⟨u,h1,IQ d u hp h2⟩
 | .agg cs,v,hp,h=>by
  simp only[Pure] at hp;simp only[rep] at h⊢;obtain⟨vs,h1,h2⟩:=h;exact⟨vs,h1,z6 cs vs hp h2⟩
 | .aI cs,v,hp,h=>by
  simp only[Pure] at hp;simp only[rep] at h⊢;obtain⟨vs,h1,h2⟩:=h;exact⟨vs,h1,z6 cs vs hp h2⟩
theorem z6:∀(d:bh) (v:List aP),an d->bB J F w d v->bB J' F w d v
 |[],v,_,h=>by simpa only[bB] using h
 |d::r,v,hp,h=>by
  simp only[an] at hp;simp only[bB] at h⊢;obtain⟨u,us,h1,h2,h3⟩:=h;exact⟨u,us,h1,IQ d u hp.1 h2,z6 r us hp.2 h3⟩
theorem Ny(b:Nat):∀(d:bh) (o:Nat),an d->eY J F w b d o->eY J' F w b d o
 |[],o,_,h=>by simp only[eY]
 |d::r,o,hp,h=>by
  simp only[an] at hp;simp only[eY] at h⊢;obtain⟨⟨u,h1,h2,h3⟩,h4⟩:=h;exact⟨⟨u,h1,h2,IQ d u hp.1 h3⟩,Ny b r (o+1) hp.2 h4⟩
theorem SH(b ak:Nat):∀(d:fE) (o:Nat),fc d->fD J F w b ak d o->fD J' F w b ak d o
 |[],o,_,h=>by simp only[fD]
 |d::r,o,hp,h=>by
  simp only[fc] at hp;simp only[fD] at h⊢;exact⟨h.1,Ny b d o hp.1 h.2.1,SH b ak r (o+ak) hp.2 h.2.2⟩
end
end
def zI(tmps:Array aP):ResultVar->Sem aP
 | .tmp t=>pure<|tmps.getD t undef
 | .cell a t=>do loadVar t (<-asAddr (tmps.getD a undef))
theorem Vy{t:bl}{a:Addr}{v:aP}(h:(Instr.loadAt t (.pointer<|some a)).run P w=.ok v w):(loadVar t a).run P w=.ok v w:=by
 simpa [Instr.loadAt,Instr.sureAddr] using h
theorem QV{J:bf}{F:Nat->Prop}{env:Env}{H:aF}{a:Act}{w:ba}(hr:ju n J F env H a w):∀(l:List ResultVar) (rs:List RV) (K':bh->Prop),wO P l=some rs->vE env H rs K' ->
  ∃ds vs,K' ds/\(l.mapM<|zI a.tmps).run P w=.ok vs w/\bB J F w ds vs
 |[],rs,K',hc,h=>by
  simp[wO] at hc;subst hc;exact⟨[],[],h,by simp[pure,Sem.run],by simp only[bB]⟩
 |r::l,rs,K',hc,h=>by
  simp only[wO] at hc;split at hc
  ·rename_i x y e1 e2;cases hc;have step:∀(d:D) (v:aP),(zI a.tmps r).run P w=.ok v w->rep J F w d v->vE env H y (λds=>K'<|d::ds)->∃ds vs,K' ds/\((r::l).mapM<|zI a.tmps).run P w=.ok vs w/\bB J F w ds vs:=λd v q1 q2 q3=>by
    obtain⟨ds,vs,k1,k2,k3⟩:=QV hr l y _ e2 q3;refine⟨d::ds,v::vs,k1,?_,by simp only[bB];exact⟨v,vs,rfl,q2,k3⟩⟩;rw[List.mapM_cons];simp only[Sem.run_bind,q1,Result.andThen_ok,k2,pure,Sem.run]
   cases r with
   |tmp t =>
    simp[crv] at e1;subst e1;simp only[vE,y8] at h;exact step _ _ (by simp[zI,pure,Sem.run]) (hr.tmps t) h
   |cell t ty =>
    simp only[crv] at e1;have ptr:∀id off m cs,iA t env=.loc id off->H[id]? = some (.row m cs)->∃b o,a.tmps.getD t undef=.pointer (some ⟨b,o,none⟩)/\eY J F w b (cs.drop off) o:=λid off m cs q1 q2=>by
     have q3:=hr.tmps t;rw[q1] at q3;exact N8 (P:=P) (env:=env) q2 J F w _ _ hr.ok (λ_ _=>rfl) q3
    split at e1
    ·rename_i pM;cases e1;simp only[vE,y8] at h;split at h
     ·rename_i id off e3;obtain⟨ob,h1,h2⟩:=(lB _ _ _).1 h;split at h2
      ·rename_i m cs;obtain⟨h3,h4⟩:=(Af _ _ _).1 h2;obtain⟨h5,h6⟩:=(BB _ _ _).1 h4;obtain⟨b,o,p1,p2⟩:=ptr id off m cs e3 h1;have p3:=OW p2 0<|P.cellsOf ty;simp only[fQ,uL] at p3;obtain⟨vs,p4,p5,_⟩:=I0 _ _ p3;have hl:vs.length=P.cellsOf ty:=(by rw[nh _ _ p4,gA];omega);refine step _ (.agg vs.toArray) ?_ (by simp only[rep];exact⟨vs,rfl,p4⟩) h6;simp only[zI,p1,asAddr,pure,Sem.run_bind,Sem.run,Result.andThen_ok];exact Vy<|UR pM hl p5
      exact h2.elim
     exact h.elim
    ·rename_i pM;cases e1;simp only[vE,y8] at h;split at h
     ·rename_i id off e3;obtain⟨ob,h1,h2⟩:=(lB _ _ _).1 h;split at h2
      ·rename_i m cs;obtain⟨c,h3,h4⟩:=(vH _ _ _).1 h2;obtain⟨b,o,p1,p2⟩:=ptr id off m cs e3 h1;obtain⟨u,p3,_,p4⟩:=uj _ o 0 c (by rw[xb];exact h3) p2;refine step _ u ?_ p4 h4;simp only[zI,p1,asAddr,pure,Sem.run_bind,Sem.run,Result.andThen_ok];exact Vy<|Vf pM<|by simpa using p3
      exact h2.elim
     exact h.elim
    cases e1
  cases hc
variable{rs:List RV}
theorem NQ{fn:Func}(En:wO P fn.results.toList=some rs)(hr:ju n J F env H a w){R:D->aF->Prop}(he:e=.normal\/e=.ret)(h:Cv rs R e env H) :
  ∃d v,R d H/\(results fn a.tmps).run P w=.ok v w/\rep J F w d v:=by
 have h':vE env H rs (λds=>match ds with
  |[d]=>R d H
  |ds=>R (.aI ds) H):=by rcases he with rfl|rfl<;>exact h
 obtain⟨ds,vs,k1,k2,k3⟩:=QV hr fn.results.toList rs _ En h';have run:(results fn a.tmps).run P w=.ok (if h:vs.length=1 then vs[0] else .tuple vs.toArray) w:=by
  have e1:(fn.results.mapM<|zI a.tmps).run P w=.ok vs.toArray w:=by
   rw[Array.mapM_eq_mapM_toList];simp[k2]
  have e3:results fn a.tmps=fn.results.mapM (zI a.tmps) >>= λvs=>pure (if h:vs.size=1 then vs[0] else .tuple vs):=by
   unfold results
   congr 1
  rw[e3,Sem.run_bind,e1];simp[pure,Sem.run]
 have hl:=nh _ _ k3
 match ds,k1,k3,hl with
 |[d],k1,k3,hl =>
  simp only[bB] at k3;obtain⟨v,us,rfl,q1,rfl⟩:=k3;exact⟨d,v,k1,by rw[run];simp,q1⟩
 |[],k1,k3,hl =>
  refine⟨.aI [],_,k1,run,?_⟩;have:vs=[]:=n8.1 hl;subst this;simp only[rep];exact⟨[],by simp,k3⟩
 |d::d'::r,k1,k3,hl =>
  refine⟨.aI<|d::d'::r,_,k1,run,?_⟩;simp only[bH] at hl;rw[dif_neg<|by omega];simp only[rep];exact⟨vs,rfl,k3⟩
variable{args:bh}
theorem MG{vs:List aP}(hn:args.length<=n)(h:bB J F w args vs)(aC:cH J F w λi=>H[i]?)(hd:∀id,J id≠none->id<H.length) :
  ju n J F (params 0 args) H ⟨vs.toArray++Array.replicate (n-vs.toArray.size) undef,[]⟩ w where
 defers:=rfl
 size:=by simp[nh _ _ h];omega
 tmps t:=by
  rw[US];simp only[jr,if_true,xG];have hl:=nh _ _ h
  cases e:args[t]? with
  |none=>simp only[Option.getD_none,rep]
  |some d =>
   obtain⟨v,h1,h2⟩:=rN _ _ _ _ e h;have ht:t<vs.length:=by
    rcases dY t vs.length with h|h
    ·exact h
    rw[cY h] at h1;cases h1
   simp only[nR,vx];rw[Array.getElem?_append_left<|by simpa using ht];simp[h1,h2]
 ok:=aC
 dom:=hd
variable{f:FuncId}
theorem KL(hf:ud P f n rs p):Az P f:=by
 obtain⟨fn,h1,_,h3,_,h5⟩:=hf.out;refine⟨fn,h1,h3,?_⟩
 cases e:fn.body with
 |none=>rw[e] at h5;cases h5
 |some c=>rfl
theorem PU(h:FOK F w)(G:Nat->Option ao):cH jP F w G:=⟨(λ_ _ h=>by cases h),(λ_ _ _ _ _ h=>by cases h),(λ_ _ _ _ h=>by cases h),h⟩
theorem dC{d:D}(hf:ud P f n rs p)(hn:args.length<=n)(hp:an args)
  (h:PWp P n p (Cv rs λr H=>Deep H r d) (params 0 args) []) (hd:Pure d):ar P f args d:=by
 refine⟨KL hf,λJ F w vs hF iH=>?_⟩;obtain⟨fn,h1,h2,h3,h4,h5⟩:=hf.out;have ZP:bB jP F w args vs:=z6 args vs hp iH
 cases e:fn.body with
 |none=>rw[e] at h5;cases h5
 |some c =>
  rw[e] at h5;simp only[Cq] at h5;refine calls_of_wp h1 e ?_;rw[h2];refine wp_mono (qp h h5<|MG hn ZP (PU hF _) λid hid=>absurd rfl hid) λe' a' w' ⟨env',H',J',F',q1,q2,q3⟩=>?_;have fin:e'=.normal\/e'=.ret->a'.defers=[]/\∃v,(results fn a'.tmps).run P w'=.ok v w'/\∃v' F'',Ending.returned v=Ending.returned v'/\(∀b,F'' b->b<w'.heap.size)/\rep jP F'' w' d v'/\Ext jP F w jP F'' w':=λhe=>by
   obtain⟨r,v,k1,k2,k3⟩:=NQ h4 q2 he q1;refine⟨q2.defers,v,k2,v,λb=>F' b\/jU J' b,rfl,λb hb=>hb.elim (q2.ok.lt b) λ⟨i,s,hi,hs⟩=>q2.ok.jy hi hs,IQ d v hd<|Ip q2.ok (λ_ _ h=>h) _ _ _ k1 k3,?_⟩;exact⟨q3.os,q3.tape,q3.output,q3.size,q3.block,q3.frozen,bf.le_refl _,λb hb=>.inl<|q3.grow b hb,λb hb=>absurd hb<|p' b,λb hb=>by
    rcases hb with hb|hb
    ·exact q3.pc b hb
    exact .inr<|(q3.oQ b hb).imp_left λq=>absurd q<|p' b⟩
  cases e' with
  |normal=>exact fin (.inl rfl)
  |ret=>exact fin (.inr rfl)
  |exit id=>exact q1.elim
  |goto l=>exact q1.elim
  |panic ch=>exact q1.elim
  |outgrown=>exact q1.elim
end
end
section
section
variable{P:bI}{n:Nat}
theorem iV{f:FuncId}{rs:List RV}{p:PC}{args:bh}{H:aF}{d:D}{H2:aF}(hf:ud P f n rs p)(hn:args.length<=n)(hlen:H.length<=H2.length)
  (h:PWp P n p (Cv rs λr Hf=>r=d/\Hf.take H2.length=H2/\H2.length<=Hf.length) (params 0 args) H) (hd:aq H2.length d) (hH:∀o∈H2,o.under H2.length):cp P f args H d H2:=by
 refine⟨KL hf,hlen,λJ F w vs aC kA iH=>?_⟩;obtain⟨fn,h1,h2,h3,h4,h5⟩:=hf.out
 cases e:fn.body with
 |none=>rw[e] at h5;cases h5
 |some c =>
  rw[e] at h5;simp only[Cq] at h5;refine calls_of_wp h1 e ?_;rw[h2];refine wp_mono (qp h h5<|MG hn iH aC kA) λe' a' w' ⟨env',H',J',F',q1,q2,q3⟩=>?_;have fin:e'=.normal\/e'=.ret->a'.defers=[]/\∃v,(results fn a'.tmps).run P w'=.ok v w'/\∃v' J'' F'',Ending.returned v=Ending.returned v'/\cH J'' F'' w' (λi=>H2[i]?)/\(∀id,J'' id≠none->id<H2.length)/\rep J'' F'' w' d v'/\Ext J F w J'' F'' w':=λhe=>by
   obtain⟨r,v,⟨rfl,k1,zg⟩,k2,k3⟩:=NQ h4 q2 he q1;have pq:∀i,i<H2.length->H2[i]? = H'[i]?:=λi hi=>by
    conv=>lhs;rw[<-k1]
    rw[y9,ae hi]
   have kle:(dV H2.length J').le J':=λi s hs=>by
    unfold dV at hs;split at hs
    ·exact⟨s,hs,aT _,λ_=>rfl⟩
    cases hs
   refine⟨q2.defers,v,k2,v,dV H2.length J',F',rfl,⟨λi s hs=>?_,λi i' s s' b g1 g2 g3 g4=>?_,λi s b o g1 g2 g3 g4=>?_,q2.ok.lt⟩,λi hi=>?_,Dk _ _ hd k3,?_⟩
   ·unfold dV at hs;split at hs
    ·rename_i hi;obtain⟨o,g1,g2⟩:=q2.ok.obj i s hs;have Sh:H2[i]? = some o:=(by rw[pq i hi];exact g1);exact⟨o,Sh,ON (hH o<|nB Sh) g2⟩
    cases hs
   ·unfold dV at g1 g2;split at g1<;>split at g2
    ·exact q2.ok.one i i' s s' b g1 g2 g3 g4
    all_goals first|cases g1|cases g2
   ·unfold dV at g1;split at g1
    ·rename_i hi;exact q2.ok.apart i s b o g1 g2 (by rw[<-pq i hi];exact g3) g4
    cases g1
   ·unfold dV at hi;split at hi
    ·assumption
    exact absurd rfl hi
   refine⟨q3.os,q3.tape,q3.output,q3.size,q3.block,q3.frozen,λi s hs=>?_,q3.grow,λb ⟨i,s,hs,hb⟩=>?_,q3.pc⟩
   ·obtain⟨s',g1,g2,g3⟩:=q3.le i s hs;have hi:i<H2.length:=(by have:=kA i (by rw[hs];simp);omega);exact⟨s',by simp[dV,hi,g1],g2,g3⟩
   obtain⟨s',g1,_⟩:=kle i s hs;unfold dV at hs;split at hs
   ·exact q3.oQ b ⟨i,s,hs,hb⟩
   cases hs
  cases e' with
  |normal=>exact fin (.inl rfl)
  |ret=>exact fin (.inr rfl)
  |exit id=>exact q1.elim
  |goto l=>exact q1.elim
  |panic ch=>exact q1.elim
  |outgrown=>exact q1.elim
end
end
section
mutual
inductive gS(S:ay)(H:aF):D->D->Prop
 |refl (d:D):gS S H d d
 |dW (d:D):gS S H d .dW
 |none (ak:Nat):gS S H (.sc (.slice none 0 0)) (.aM ak [])
 |loc (id off:Nat) (q:Bool) (cs ds:bh) (hm:S id=true) (h:H[id]? = some (.row q cs)) (k:kZ S H (cs.drop off) ds):gS S H (.loc id off) (.aB ds)
 |own (id aw lo hi ak:Nat) (q:Bool) (xs ys:fE) (hm:S id=true) (h:H[id]? = some (.vec q aw ak xs)) (k:jJ S H ((xs.take hi).drop lo) ys):gS S H (.own id aw lo hi) (.aM ak ys)
 |fn (f:Fn) (a b c e:bh) (h:kZ S H a b) (k:kZ S H c e):gS S H (.fn f a c) (.fn f b e)
 |ifc (t:bl) (d e:D) (h:gS S H d e):gS S H (.ifc t d) (.ifc t e)
 |agg (a b:bh) (h:kZ S H a b):gS S H (.agg a) (.agg b)
 |aI (a b:bh) (h:kZ S H a b):gS S H (.aI a) (.aI b)
inductive kZ(S:ay)(H:aF):bh->bh->Prop
 |refl (l:bh):kZ S H l l
 |cons (d e:D) (a b:bh) (h:gS S H d e) (k:kZ S H a b):kZ S H (d::a) (e::b)
inductive jJ(S:ay)(H:aF):fE->fE->Prop
 |refl (l:fE):jJ S H l l
 |cons (x y:bh) (a b:fE) (h:kZ S H x y) (k:jJ S H a b):jJ S H (x::a) (y::b)
 |append (x y a b:fE) (h:jJ S H x y) (k:jJ S H a b):jJ S H (x++a) (y++b)
end
def yk(S:ay)(J:bf)(b:Nat):Prop:=∃id s,S id/\J id=some s/\s.c9=some b
section
variable{J:bf}{F:Nat->Prop}{w:ba}{H:aF}{S:ay}
mutual
theorem JK:∀(d e:bh),kZ S H d e->d.length=e.length
 |_,_,.refl _=>rfl
 |_,_,.cons d e a b _ k=>by simp[JK a b k]
theorem AF:∀(d e:fE),jJ S H d e->d.length=e.length
 |_,_,.refl _=>rfl
 |_,_,.cons d e a b _ k=>by simp[AF a b k]
 |_,_,.append x y a b h k=>by simp[AF x y h,AF a b k]
end
theorem Qq{b ak:Nat}:∀(xs ys:fE) (o:Nat),fD J F w b ak (xs++ys) o↔fD J F w b ak xs o/\fD J F w b ak ys (o+xs.length*ak)
 |[],ys,o=>by simp[fD]
 |x::r,ys,o=>by
  simp only[ov,fD,Qq r ys,bH,and_assoc];rw[show o+ak+r.length*ak=o+(r.length+1)*ak by rw[jw];omega]
mutual
theorem CS(aC:cH J F w λi=>H[i]?):∀(d e:D) (v:aP),gS S H d e->rep J F w d v->rep J (λb=>F b\/yk S J b) w e v
 |d,_,v,.refl _,h=>kq (bf.le_refl J) (λ_ h=>.inl h) (λ_ _=>rfl) d v h
 |_,_,v,.dW _,_=>by simp only[rep]
 |_,_,v,.none ak,h=>by
  simp only[rep] at h⊢;exact⟨none,0,0,h,rfl,aT _,.inl rfl⟩
 |_,_,v,.loc id off q cs ds hm h k,hv=>by
  simp only[rep] at hv⊢;obtain⟨s,b,h1,h2,h3,rfl⟩:=hv;have hc:=Ev (Km aC h1 h3 h) off;refine⟨b,off,rfl,.inr ⟨id,s,hm,h1,by simp[Site.c9,h2,h3]⟩,?_⟩;rw[lZ] at hc;exact EC aC _ _ b off k hc
 |_,_,v,.own id aw lo hi ak q xs ys hm h k,hv=>by
  simp only[rep] at hv⊢;obtain⟨s,A,n,c,h1,rfl,h2,h3⟩:=hv;obtain⟨p1,p2,p3,p4,p5,p6⟩:=wq aC h1 h;obtain⟨t1,t2,t3,rfl,rfl,t6⟩:=h3 p2.symm;have hl:ys.length=hi-lo:=by
   rw[<-AF _ _ k];simp;omega
  refine⟨A,_,_,rfl,hl.symm,by omega,?_⟩;rcases t6 with t6|⟨b,o,t6,rfl⟩
  ·exact .inl<|by omega
  rcases p6 with p6|⟨b',o',vals,te,e,q1,q2,q3,q4⟩
  ·exact .inl<|by omega
  rw[t6] at e;cases e;by_cases hz:s.cap=0
  ·exact .inl<|by omega
  refine .inr ⟨b,_,rfl,.inr ⟨id,s,hm,h1,by simp[Site.c9,hz,t6]⟩,?_⟩;rw[p3];exact Dx aC _ _ b ak _ k<|Bh q3 lo hi
 |_,_,v,.fn f a b c e h k,hv=>by
  simp only[rep] at hv⊢;obtain⟨vs,us,rfl,h2,h3⟩:=hv;exact⟨vs,us,rfl,EO aC _ _ vs h h2,EO aC _ _ us k h3⟩
 |_,_,v,.ifc t d e h,hv=>by
  simp only[rep] at hv⊢;obtain⟨u,rfl,h2⟩:=hv;exact⟨u,rfl,CS aC _ _ u h h2⟩
 |_,_,v,.agg a b h,hv=>by
  simp only[rep] at hv⊢;obtain⟨vs,rfl,h2⟩:=hv;exact⟨vs,rfl,EO aC _ _ vs h h2⟩
 |_,_,v,.aI a b h,hv=>by
  simp only[rep] at hv⊢;obtain⟨vs,rfl,h2⟩:=hv;exact⟨vs,rfl,EO aC _ _ vs h h2⟩
theorem EO(aC:cH J F w λi=>H[i]?):∀(d e:bh) (v:List aP),kZ S H d e->bB J F w d v->bB J (λb=>F b\/yk S J b) w e v
 |d,_,v,.refl _,h=>zY (bf.le_refl J) (λ_ h=>.inl h) (λ_ _=>rfl) d v h
 |_,_,v,.cons d e a b h k,hv=>by
  simp only[bB] at hv⊢;obtain⟨u,us,rfl,h2,h3⟩:=hv;exact⟨u,us,rfl,CS aC _ _ u h h2,EO aC _ _ us k h3⟩
theorem EC(aC:cH J F w λi=>H[i]?):∀(d e:bh) (b o:Nat),kZ S H d e->eY J F w b d o->eY J (λb=>F b\/yk S J b) w b e o
 |d,_,b,o,.refl _,h=>EN (bf.le_refl J) (λ_ h=>.inl h) (λ_ _=>rfl) b (λ_=>rfl) d o h
 |_,_,b,o,.cons d e x y h k,hv=>by
  simp only[eY] at hv⊢;obtain⟨⟨u,h1,h2,h3⟩,h4⟩:=hv;exact⟨⟨u,h1,h2,CS aC _ _ u h h3⟩,EC aC _ _ b (o+1) k h4⟩
theorem Dx(aC:cH J F w λi=>H[i]?):∀(d e:fE) (b ak o:Nat),jJ S H d e->fD J F w b ak d o->fD J (λb=>F b\/yk S J b) w b ak e o
 |d,_,b,ak,o,.refl _,h=>Js (bf.le_refl J) (λ_ h=>.inl h) (λ_ _=>rfl) b ak (λ_=>rfl) d o h
 |_,_,b,ak,o,.cons d e x y h k,hv=>by
  simp only[fD] at hv⊢;obtain⟨h1,h2,h3⟩:=hv;exact⟨by rw[<-JK _ _ h];exact h1,EC aC _ _ b o h h2,Dx aC _ _ b ak (o+ak) k h3⟩
 |_,_,b,ak,o,.append x y a c h k,hv=>by
  rw[Qq] at hv⊢;refine⟨Dx aC _ _ b ak o h hv.1,?_⟩;rw[<-AF _ _ h];exact Dx aC _ _ b ak _ k hv.2
end
end
def nK(m:Nat):Nat->Bool:=λi=>Nat.ble m i
variable{m:Nat}
theorem Xf{i:Nat}:nK m i↔m<=i:=by simp[nK]
def St.leB(L n:Nat)(env:Env)(H:aF)(env':Env)(H':aF):Prop:=∀J F a w,ju n J F env H a w->∃J' F',ju n J' F' env' H' a w/\(∀i s,i<L->J i=some s->J' i=some s)/\(∀b,F b->F' b)/\(∀b,jU J' b->jU J b)/\∀b,F' b->F b\/jU J b
variable{L n:Nat}{env env':Env}{H:aF}
theorem o5(h:s9 env env'):St.leB L n env H env' H:=λJ F a w hr =>
 ⟨J,F,⟨hr.defers,hr.size,λt=>by
  rcases MP env' h t with e|e
  ·rw[e];exact hr.tmps t
  rw[e];simp only[rep],hr.ok,hr.dom⟩,λ_ _ _ h=>h,λ_ h=>h,λ_ h=>h,λ_ h=>.inl h⟩
variable{H':aF}
theorem kS{GR:Env}{H'':aF}(h:St.leB L n env H env' H')(k:St.leB L n env' H' GR H''):St.leB L n env H GR H'':=λJ F a w hr=>by
 obtain⟨J',F',h1,h2,h3,h4,h5⟩:=h J F a w hr;obtain⟨J'',F'',k1,k2,k3,k4,k5⟩:=k J' F' a w h1;exact⟨J'',F'',k1,λi s q1 q2=>k2 i s q1<|h2 i s q1 q2,λb hb=>k3 b<|h3 b hb,λb hb=>h4 b<|k4 b hb,λb hb=>(k5 b hb).elim (h5 b) λq=>.inr<|h4 b q⟩
def Ha(m:Nat)(H:aF)(env:Env):Env->Prop
 |[]=>True
 |(t,d)::r=>gS (nK m) H (iA t env) d/\aq m d/\Ha m H env r
def LJ(m:Nat)(H:aF):ao->ao->Prop
 | .row q cs,.row q' gH=>q=q'/\kZ (nK m) H cs gH/\au m gH
 | .vec q v e xs,.vec q' v' e' yX=>q=q'/\v=v'/\e=e'/\jJ (nK m) H xs yX/\bg m yX
 | .eU q I,.eU q' I'=>q=q'/\I=I'
 |_,_=>False
def vZ(m:Nat)(H:aF):aF->aF->Prop
 |_,[]=>True
 |o::r,o'::r'=>LJ m H o o'/\vZ m H r r'
 |[],_::_=>False
theorem Vt{m:Nat}{H:aF}{env:Env}:∀(env':Env),Ha m H env env'->∀t,(gS (nK m) H (iA t env) (iA t env')/\aq m (iA t env'))\/iA t env'=.dW
 |[],_,t=>.inr rfl
 |(k,d)::r,h,t=>by
  simp only[Ha] at h;rw[BM];split
  ·rename_i e;subst e;exact .inl ⟨h.1,h.2.1⟩
  exact Vt r h.2.2 t
theorem FE{m:Nat}{H:aF}:∀(l l':aF),vZ m H l l'->∀i (o:ao),i<l'.length->l[i]? = some o->∃o',l'[i]? = some o'/\LJ m H o o'
 |_,[],_,i,o,hi,_=>by simp at hi
 |[],_::_,h,i,o,hi,_=>by simp only[vZ] at h
 |o::r,o'::r',h,0,x,_,hx=>by
  simp at hx;subst hx;exact⟨o',rfl,h.1⟩
 |o::r,o'::r',h,i+1,x,hi,hx=>by
  simpa using FE r r' h.2 i x (by simpa using hi)<|by simpa using hx
theorem Hr{J:bf}{F:Nat->Prop}{w:ba}(aC:cH J F w λi=>H[i]?){s:Site}{o o':ao}(h:LJ m H o o')(k:oW J F w s o):oW (dV m J) (λb=>F b\/yk (nK m) J b) w s o'/\o'.mut=o.mut:=by
 cases o with
 |row q cs =>
  cases o' with
  |vec=>exact h.elim
  |eU=>exact h.elim
  |row q' gH =>
   obtain⟨rfl,h1,h2⟩:=h;obtain⟨k1,k2,k3,k4,k5,b,vals,te,t1,t2,t3,t4,t5⟩:=k;have hl:=JK _ _ h1;exact⟨⟨k1,k2,k3,by rw[<-hl];exact k4,by rw[<-hl];exact k5,b,vals,te,t1,t2,by rw[<-hl];exact t3,Gg b gH 0 h2<|EC aC _ _ b 0 h1 t4,λe=>.inl<|t5 e⟩,rfl⟩
 |vec q v e xs =>
  cases o' with
  |row=>exact h.elim
  |eU=>exact h.elim
  |vec q' v' e' yX =>
   obtain⟨rfl,rfl,rfl,h1,h2⟩:=h;obtain⟨k1,k2,k3,k4,k5,k6⟩:=k;have hl:=AF _ _ h1;exact⟨⟨k1,k2,k3,by rw[<-hl];exact k4,k5,k6.imp_right λ⟨b,o,vals,te,t1,t2,t3,t4,t5⟩=>⟨b,o,vals,te,t1,t2,t3,Jc b e yX o h2<|Dx aC _ _ b e o h1 t4,λe=>.inl<|t5 e⟩⟩,rfl⟩
 |eU q I =>
  cases o' with
  |row=>exact h.elim
  |vec=>exact h.elim
  |eU q' I' =>
   obtain⟨rfl,rfl⟩:=h;exact⟨k,rfl⟩
theorem aR(m:Nat)(hL:L<=m)(hm:H'.length=m)(hE:Ha m H env env')(hH:vZ m H H H'):St.leB L n env H env' H':=λJ F a w hr=>by
 refine⟨dV m J,λb=>F b\/yk (nK m) J b,⟨hr.defers,hr.size,λt=>?_,⟨λi s hs=>?_,λi i' s s' b g1 g2 g3 g4=>?_,λi s b o g1 g2 g3 g4=>?_,hr.ok.lt.mono (λ_ h=>.inl h) (λ_ _=>rfl) λb hb=>?_⟩,λi hi=>?_⟩,λi s hi hs=>?_,λb hb=>.inl hb,λb ⟨i,s,hs,hb⟩=>?_,λb hb=>hb.imp_right λ⟨i,s,_,h1,h2⟩=>⟨i,s,h1,h2⟩⟩
 ·rcases Vt env' hE t with⟨h1,h2⟩|e
  ·exact Dk _ _ h2<|CS hr.ok _ _ _ h1<|hr.tmps t
  rw[e];simp only[rep]
 ·unfold dV at hs;split at hs
  ·rename_i hi;obtain⟨o,h1,h2⟩:=hr.ok.obj i s hs;obtain⟨o',h3,h4⟩:=FE H H' hH i o (by omega) h1;exact⟨o',h3,(Hr hr.ok h4 h2).1⟩
  cases hs
 ·unfold dV at g1 g2;split at g1<;>split at g2
  ·exact hr.ok.one i i' s s' b g1 g2 g3 g4
  all_goals first|cases g1|cases g2
 ·unfold dV at g1;split at g1
  ·rename_i hi;obtain⟨o1,h1,h2⟩:=hr.ok.obj i s g1;obtain⟨o',h3,h4⟩:=FE H H' hH i o1 (by omega) h1;have KT:H'[i]? = some o:=g3;rw[KT] at h3;cases h3;have za:=(Hr hr.ok h4 h2).2;rintro(hx|⟨i',s',p1,p2,p3⟩)
   ·exact hr.ok.apart i s b o1 g1 g2 h1 (by rw[<-za];exact g4) hx
   have p1:=Xf.1 p1;have:=hr.ok.one i i' s s' b g1 p2 g2 p3;omega
  cases g1
 ·exact hb.elim (hr.ok.lt b) λ⟨i,s,_,h1,h2⟩=>hr.ok.jy h1 h2
 ·unfold dV at hi;split at hi
  ·omega
  exact absurd rfl hi
 ·unfold dV;rw[ae<|by omega];exact hs
 unfold dV at hs;split at hs
 ·exact⟨i,s,hs,hb⟩
 cases hs
theorem Ug(t ak aw:Nat)(hL:L<=H.length)(h:iA t env=ax):St.leB L n env H ((t,.own H.length aw 0 0)::env)<|H++[.vec true aw ak []]:=λJ F a w hr=>by
 have EI:J H.length=none:=by
  cases e:J H.length with
  |none=>rfl
  |some s=>have:=hr.dom H.length (by rw[e];simp);omega
 let J':bf:=λi=>if i=H.length then some ⟨false,aw,none,ak,0,0⟩ else J i
 have hle:J.le J':=λi s hs=>⟨s,by
  have:i≠H.length:=λe=>by subst e;rw[EI] at hs;cases hs
  simp[J',this,hs],aT _,λ_=>rfl⟩
 have pq:∀i,i≠H.length->(H++[ao.vec true aw ak []])[i]? = H[i]?:=λi hi=>by
  rcases dY i H.length with q|q
  ·rw[fv q]
  rw[cY q,cY<|by simp;omega]
 refine⟨J',F,⟨hr.defers,hr.size,λu=>?_,⟨λi s hs=>?_,λi i' s s' b g1 g2 g3 g4=>?_,λi s b o g1 g2 g3 g4=>?_,hr.ok.lt⟩,λi hi=>?_⟩,λi s hi hs=>?_,λb hb=>hb,λb ⟨i,s,hs,hb⟩=>?_,λb hb=>.inl hb⟩
 ·rw[BM];split
  ·rename_i e;subst e;have:=hr.tmps u;rw[h] at this;simp only[rep] at this⊢;exact⟨_,none,0,0,by simp[J'];rfl,this,aT _,λ_=>⟨rfl,aT _,jr _,rfl,rfl,.inl rfl⟩⟩
  exact kq hle (λ_ h=>h) (λ_ _=>rfl) _ _<|hr.tmps u
 ·simp only[J'] at hs;split at hs
  ·rename_i e;subst e;cases hs;exact⟨.vec true aw ak [],by simp,rfl,rfl,rfl,rfl,aT _,.inl rfl⟩
  rename_i e;obtain⟨o,h1,h2⟩:=hr.ok.obj i s hs;exact⟨o,by rw[pq i e];exact h1,rI hle (λ_ h=>h) (λ_ _=>rfl) (λ_ _=>rfl) h2⟩
 ·simp only[J'] at g1 g2;split at g1
  ·cases g1;simp[Site.c9] at g3
  split at g2
  ·cases g2;simp[Site.c9] at g4
  exact hr.ok.one i i' s s' b g1 g2 g3 g4
 ·simp only[J'] at g1;split at g1
  ·cases g1;simp[Site.c9] at g2
  rename_i e;exact hr.ok.apart i s b o g1 g2 (by rw[<-pq i e];exact g3) g4
 ·simp only[J'] at hi;rw[cq,jA];split at hi
  ·omega
  have:=hr.dom i hi;omega
 ·have:i≠H.length:=by omega
  simp[J',this,hs]
 simp only[J'] at hs;split at hs
 ·cases hs;simp[Site.c9] at hb
 exact⟨i,s,hs,hb⟩
theorem fL(t ak:Nat)(hL:L<=H.length)(h:iA t env=ax):St.leB L n env H ((t,.own H.length 0 0 0)::env)<|H++[.vec true 0 ak []]:=Ug t ak 0 hL h
section
variable{P:bI}{n:Nat}
def Mi{ι:Type}(L n:Nat)(Q:iZ)(E:ι->Env)(O:ι->aF)(G:ι->Prop)(m:ι->Nat)(k:Nat):iZ
 | .normal,env,H=>∃j,G j/\m j<k/\St.leB L n env H (E j) (O j)
 |e,env,H=>Q e env H
theorem GC{J J1 J2:bf}{F F1 F2:Nat->Prop}{w w1:ba}(hd:∀id,J id≠none->id<L)(h:Ext J F w J1 F1 w1)(k1:∀i s,i<L->J1 i=some s->J2 i=some s)(k2:∀b,F1 b->F2 b)(k3:∀b,jU J2 b->jU J1 b)(k4:∀b,F2 b->F1 b\/jU J1 b):Ext J F w J2 F2 w1 :=
 ⟨h.os,h.tape,h.output,h.size,h.block,h.frozen,λi s hs=>by
  obtain⟨s',g1,g2⟩:=h.le i s hs;exact⟨s',k1 i s' (hd i<|by rw[hs];simp) g1,g2⟩,λb hb=>k2 b<|h.grow b hb,λb hb=>h.oQ b<|k3 b hb,λb hb=>by
  rcases k4 b hb with q|q
  ·exact h.pc b q
  rcases h.oQ b q with q|q
  ·exact .inr (.inl q)
  exact .inr (.inr q)⟩
theorem wA{p:PC}{Q:iZ}{ι:Type}(E:ι->Env)(O:ι->aF)(G:ι->Prop)(m:ι->Nat)(i:ι)(h0:G i)(h1:St.leB H.length n env H (E i)<|O i)
  (round:∀j,G j->PWp P n p (Mi H.length n Q E O G m<|m j) (E j) (O j)):PWp P n (.loop p) Q env H:=r8 λc hc J F a w hr=>by
 obtain⟨c',rfl,gh⟩:=J8 hc;obtain⟨J0,F0,k1,k2,k3,k4,k5⟩:=h1 J F a w hr;have k6:Ext J F w J0 F0 w:=GC hr.dom (Ext.refl J F w) k2 k3 k4 k5;refine wp_loop_ghost (λk a' w'=>∃j J' F',G j/\m j=k/\ju n J' F' (E j) (O j) a' w'/\Ext J F w J' F' w') (m i) ⟨i,J0,F0,h0,rfl,k1,k6⟩ λk a1 w1 ⟨j,J1,F1,g1,g2,g3,g4⟩=>?_;refine wp_mono (qp (round j g1) gh g3) λe a2 w2 ⟨env',H',J',F',q1,q2,q3⟩=>?_
 cases e with
 |normal =>
  obtain⟨j',r1,r2,r3⟩:=q1;obtain⟨J2,F2,t1,t2,t3,t4,t5⟩:=r3 J' F' a2 w2 q2;exact⟨m j',by omega,j',J2,F2,r1,rfl,t1,GC hr.dom (g4.trans q3) t2 t3 t4 t5⟩
 |_=>exact⟨env',H',J',F',q1,q2,g4.trans q3⟩
def L3(P:bI)(n:Nat)(c:PC)(Q:iZ):Nat->iZ
 |0,e,env,H=>match e with
  | .normal=>False
  |e=>Q e env H
 |k+1,e,env,H=>match e with
  | .normal=>PWp P n c (L3 P n c Q k) env H
  |e=>Q e env H
variable{p:PC}{Q:iZ}
theorem zoE(k:Nat)(h:PWp P n p (L3 P n p Q k) env H):PWp P n (.loop p) Q env H:=r8 λc hc J F a w hr=>by
 obtain⟨c',rfl,gh⟩:=J8 hc;refine wp_loop_rounds (k+1) ?_;have key:∀(k:Nat) (env:Env) (H:aF) (J1:bf) (F1:Nat->Prop) (a1:Act) (w1:ba),PWp P n p (L3 P n p Q k) env H->ju n J1 F1 env H a1 w1->Ext J F w J1 F1 w1->Code.rounds P c' (Bv n J F w Q) (k+1) a1 w1:=by
  intro k
  induction k with
  |zero =>
   intro env H J1 F1 a1 w1 h1 h2 h3;rw[rounds_succ];refine wp_mono (qp h1 gh h2) λe a2 w2 ⟨env',H',J',F',q1,q2,q3⟩=>?_
   cases e with
   |normal=>exact q1.elim
   |_=>exact⟨env',H',J',F',q1,q2,h3.trans q3⟩
  |succ k ih =>
   intro env H J1 F1 a1 w1 h1 h2 h3;rw[rounds_succ];refine wp_mono (qp h1 gh h2) λe a2 w2 ⟨env',H',J',F',q1,q2,q3⟩=>?_
   cases e with
   |normal=>exact ih env' H' J' F' a2 w2 q1 q2<|h3.trans q3
   |_=>exact⟨env',H',J',F',q1,q2,h3.trans q3⟩
 exact key k env H J F a w h hr<|Ext.refl J F w
theorem b8(h:St.leB H.length n env H env' H')(k:PWp P n p Q env' H'):PWp P n p Q env H :=
 r8 λc hc J F a w hr=>by
  obtain⟨J',F',h1,h2,h3,h4,h5⟩:=h J F a w hr;exact wp_mono (qp k hc h1) λe a' w' q=>Pm (GC hr.dom (Ext.refl J F w) h2 h3 h4 h5) q
end
section
variable{P:bI}
variable{args args':bh}
theorem zpN{F:Nat->Prop}{w:ba}(hF:FOK F w){vs:List aP}(h:jg [] args args')(k:bB jP F w args vs):bB jP F w args' vs:=by
 have:=wY (G:=λ_=>none) (PU hF _) (H:=[]) (λi o hi=>by simp at hi) _ _ _ h k;have e:(λb=>F b\/jU jP b)=F:=funext λb=>propext ⟨λh=>h.elim id λq=>absurd q<|p' b,.inl⟩;rwa [e] at this
theorem Rk{f:FuncId}{d:D}(hp:an args)(h:jg [] args args')(k:ar P f args' d):ar P f args d :=
 ⟨k.1,λJ F w vs hF iH=>k.2 jP F w vs hF<|zpN hF h<|z6 args vs hp iH⟩
end
end
section
section
variable{P:bI}{f:FuncId}
variable{args:bh}{H0 H0':aF}{d:D}
theorem QG{H H':aF}(ρ:Nat->Nat)(hA:cp P f args H0 d H0')(inj:∀i j,i<H0'.length->j<H0'.length->ρ i=ρ j->i=j)(hold:∀i o,H0[i]? = some o->H[ρ i]? = some (o.aQ ρ))
  (o7:∀i,H0.length<=i->i<H0'.length->H.length<=ρ i) (hlen:H.length<=H'.length) (h1:∀i o,H0'[i]? = some o->H'[ρ i]? = some (o.aQ ρ)) (h2:∀j,j<H.length->(∀i,i<H0.length->ρ i≠j)->H'[j]? = H[j]?)
  (iH:au H0.length args) (pY:∀o∈H0,o.under H0.length):cp P f (bP ρ args) H (D.aQ ρ d) H':=by
 obtain⟨aC,U',jX⟩:=hA;refine⟨aC,hlen,λJ F w vs cE kA si=>?_⟩;have Kk:∀i,i<H0.length->H0[i]? = some (H0[i]!):=λi hi=>by rw[List.getElem!_eq_getElem?_getD,aJ hi];rfl
 have pH:cH (dV H0.length λi=>J<|ρ i) F w λi=>H0[i]?:=by
  refine⟨λi s hs=>?_,λi i' s s' b g1 g2 g3 g4=>?_,λi s b o g1 g2 g3 g4=>?_,cE.lt⟩
  ·unfold dV at hs;split at hs
   ·rename_i hi;have ho:=Kk i hi;refine⟨_,ho,ON (pY _<|nB ho)<|GB.2 ?_⟩;obtain⟨o',q1,q2⟩:=cE.obj (ρ i) s hs;have W0:H[ρ i]? = some o':=q1;rw[hold i _ ho] at W0;cases W0;exact q2
   cases hs
  ·unfold dV at g1 g2;split at g1<;>split at g2
   ·exact inj i i' (by omega) (by omega)<|cE.one (ρ i) (ρ i') s s' b g1 g2 g3 g4
   all_goals first|cases g1|cases g2
  unfold dV at g1;split at g1
  ·exact cE.apart (ρ i) s b (o.aQ ρ) g1 g2 (hold i o g3)<|by rw[Jq];exact g4
  cases g1
 have vI:∀id,dV H0.length (λi=>J<|ρ i) id≠none->id<H0.length:=λid hid=>by
  unfold dV at hid;split at hid
  ·assumption
  exact absurd rfl hid
 have JW:bB (dV H0.length λi=>J<|ρ i) F w args vs:=Bm _ _ iH<|(s6 args vs).2 si;have own0:∀b,jU (dV H0.length λi=>J<|ρ i) b->∃i s,i<H0.length/\J (ρ i)=some s/\s.c9=some b:=λb ⟨i,s,hs,hb⟩=>by
  unfold dV at hs;split at hs
  ·exact⟨i,s,by assumption,hs,hb⟩
  cases hs
 have main:=jX _ F w vs pH vI JW;refine Calls.mono main λe w' ⟨v,J0',F',he,uC,Kg,J7,ex⟩=>?_
 let J':bf:=λid=>match back ρ H0'.length id with|some i=>J0' i|none=>J id
 have jat:∀i,i<H0'.length->J' (ρ i)=J0' i:=λi hi=>by simp only[J',Ts inj hi]
 have jno:∀id,back ρ H0'.length id=none->J' id=J id:=λid h=>by simp only[J',h]
 have hle:J.le J':=λid s hs=>by
  cases e:back ρ H0'.length id with
  |none=>exact⟨s,by rw[jno id e];exact hs,aT _,λ_=>rfl⟩
  |some i =>
   obtain⟨k1,rfl⟩:=oY e;have hi:i<H0.length:=by
    rcases dY i H0.length with q|q
    ·exact q
    have:=o7 i q k1;have:=kA (ρ i) (by rw[hs];simp);omega
   obtain⟨s',g1,g2⟩:=ex.le i s (by simp only[dV,ae hi];exact hs);exact⟨s',by rw[jat i k1];exact g1,g2⟩
 have hleρ:J0'.le λi=>J'<|ρ i:=λi s hs=>⟨s,by
  dsimp only;rw[jat i<|Kg i<|by rw[hs];simp];exact hs,aT _,λ_=>rfl⟩
 have nown:∀id s b,back ρ H0'.length id=none->J id=some s->s.c9=some b->¬jU (dV H0.length λi=>J<|ρ i) b:=λid s b hb hs kE ho=>by
  obtain⟨i,s',k1,k2,k3⟩:=own0 b ho;exact Ao hb i (by omega)<|cE.one (ρ i) id s' s b k2 hs k3 kE
 refine⟨v,J',F',he,⟨λid s hs=>?_,λid jn s s' b g1 g2 g3 g4=>?_,λid s b o g1 g2 g3 g4=>?_,uC.lt⟩,λid hid=>?_,(yW d v).1<|kq hleρ (λ_ h=>h) (λ_ _=>rfl) _ _ J7,?_⟩
 ·cases e:back ρ H0'.length id with
  |some i =>
   obtain⟨k1,rfl⟩:=oY e;rw[jat i k1] at hs;obtain⟨o,q1,q2⟩:=uC.obj i s hs;exact⟨o.aQ ρ,h1 i o q1,GB.1<|rI hleρ (λ_ h=>h) (λ_ _=>rfl) (λ_ _=>rfl) q2⟩
  |none =>
   rw[jno id e] at hs;obtain⟨o,q1,q2⟩:=cE.obj id s hs;refine⟨o,?_,rI hle ex.grow ex.frozen (λb hb=>ex.block b (cE.jy hs hb)<|nown id s b e hs hb) q2⟩;show H'[id]? = some o;rw[h2 id (kA id<|by rw[hs];simp) λi hi=>Ao e i<|by omega];exact q1
 ·cases e:back ρ H0'.length id with
  |some i =>
   obtain⟨k1,rfl⟩:=oY e;rw[jat i k1] at g1
   cases e':back ρ H0'.length jn with
   |some i' =>
    obtain⟨zg,rfl⟩:=oY e';rw[jat i' zg] at g2;rw[uC.one i i' s s' b g1 g2 g3 g4]
   |none =>
    rw[jno jn e'] at g2;rcases ex.oQ b ⟨i,s,g1,g3⟩ with q|q
    ·exact absurd q<|nown jn s' b e' g2 g4
    have:=cE.jy g2 g4;omega
  |none =>
   rw[jno id e] at g1
   cases e':back ρ H0'.length jn with
   |some i' =>
    obtain⟨zg,rfl⟩:=oY e';rw[jat i' zg] at g2;rcases ex.oQ b ⟨i',s',g2,g4⟩ with q|q
    ·exact absurd q<|nown id s b e g1 g3
    have:=cE.jy g1 g3;omega
   |none =>
    rw[jno jn e'] at g2;exact cE.one id jn s s' b g1 g2 g3 g4
 ·have qN:H'[id]? = some o:=g3
  cases e:back ρ H0'.length id with
  |some i =>
   obtain⟨k1,rfl⟩:=oY e;rw[jat i k1] at g1;obtain⟨o0,q1,_⟩:=uC.obj i s g1;rw[h1 i o0 q1] at qN;cases qN;exact uC.apart i s b o0 g1 g2 q1<|by rw[Jq] at g4;exact g4
  |none =>
   rw[jno id e] at g1;rw[h2 id (kA id<|by rw[g1];simp) λi hi=>Ao e i<|by omega] at qN;intro hx;rcases ex.pc b hx with q|q|q
   ·exact cE.apart id s b o g1 g2 qN g4 q
   ·exact nown id s b e g1 g2 q
   have:=cE.jy g1 g2;omega
 ·cases e:back ρ H0'.length id with
  |some i =>
   obtain⟨k1,rfl⟩:=oY e;have:=h1 i _<|aJ k1;exact nI this
  |none =>
   rw[jno id e] at hid;have:=kA id hid;omega
 refine⟨ex.os,ex.tape,ex.output,ex.size,λb hb hn=>ex.block b hb λho=>?_,ex.frozen,hle,ex.grow,λb ⟨id,s,hs,hb⟩=>?_,λb hb=>?_⟩
 ·obtain⟨i,s,_,k2,k3⟩:=own0 b ho;exact hn ⟨ρ i,s,k2,k3⟩
 ·cases e:back ρ H0'.length id with
  |some i =>
   obtain⟨k1,rfl⟩:=oY e;rw[jat i k1] at hs;refine(ex.oQ b ⟨i,s,hs,hb⟩).imp_left λq=>?_;obtain⟨k,s',_,k2,k3⟩:=own0 b q;exact⟨ρ k,s',k2,k3⟩
  |none =>
   rw[jno id e] at hs;exact .inl ⟨id,s,hs,hb⟩
 rcases ex.pc b hb with q|q|q
 ·exact .inl q
 ·obtain⟨k,s',_,k2,k3⟩:=own0 b q;exact .inr (.inl ⟨ρ k,s',k2,k3⟩)
 exact .inr (.inr q)
variable{pre post cs gH:bh}
theorem rX(h:cp P f (pre++.loc 0 0::post) [.row true cs] d [.row true gH])(y6:an pre)(zp:an post)(yC:an cs)(MI:an gH)(hd:Pure d)
  {H:aF} {id:Nat} (hid:H[id]? = some (.row true cs)):cp P f (pre++.loc id 0::post) H d<|H.set id (.row true gH):=by
 have tv:∀(a b:bh) (ρ:Nat->Nat),bP ρ (a++b)=bP ρ a++bP ρ b:=λa b ρ=>by
  induction a with
  |nil=>simp only[bP,lW]
  |cons x r ih=>simp only[ov,bP,ih]
 have F6:∀(a b:bh),au 1 a->au 1 b->au 1 (a++b):=λa b ha hb=>by
  induction a with
  |nil=>exact hb
  |cons x r ih=>simp only[au,ov] at ha⊢;exact⟨ha.1,ih ha.2⟩
 have one:∀(i:Nat) (x y:ao),[x][i]? = some y->i=0/\y=x:=λi x y h=>by
  cases i with
  |zero=>simp at h;exact⟨rfl,h.symm⟩
  |succ i=>simp at h
 have:=QG (H:=H) (H':=H.set id (.row true gH)) (λ_=>id) h (λi j hi hj _=>by simp at hi hj;omega) (λi o ho=>by
   obtain⟨_,rfl⟩:=one i _ o ho;simp only[ao.aQ,mo cs yC];exact hid) (λi h1 h2=>by simp at h1 h2;omega) (by simp) (λi o ho=>by
   obtain⟨_,rfl⟩:=one i _ o ho;simp only[ao.aQ,mo gH MI];rw[Gm<|nI hid]) (λj hj bT=>by
   rw[yw<|bT 0<|by simp]) (by
   refine F6 _ _ (bu _ y6) ?_;simp only[au,aq];exact⟨by simp,bu _ zp⟩) (λo ho=>by
   simp at ho;subst ho;exact bu _ yC)
 rw[tv,mo _ y6,iT _ hd] at this;simpa only[bP,D.aQ,mo _ zp] using this
def mJ:aF->List Nat->aF->aF
 |H,i::L,o::r=>mJ (H.set i o) L r
 |H,_,_=>H
theorem yu:∀(L:List Nat) (os H:aF),(mJ H L os).length=H.length
 |[],os,H=>by cases os<;>rfl
 |i::L,[],H=>rfl
 |i::L,o::r,H=>by simp only[mJ];rw[yu L r];simp
theorem GI:∀(L:List Nat) (os H:aF) (j:Nat),j ∉ L->(mJ H L os)[j]? = H[j]?
 |[],os,H,j,_=>by cases os<;>rfl
 |i::L,[],H,j,_=>rfl
 |i::L,o::r,H,j,h=>by
  simp only[mJ];rw[GI L r _ j λq=>h<|by simp[q],yw λe=>h<|by simp[e]]
theorem Hh:∀(L:List Nat) (os H:aF) (k:Nat) (o:ao),L.Nodup->(∀i∈L,i<H.length)->k<L.length->os[k]? = some o->(mJ H L os)[L.getD k 0]? = some o
 |[],os,H,k,o,_,_,h,_=>by simp at h
 |i::L,[],H,k,o,_,_,_,h=>by simp at h
 |i::L,x::r,H,0,o,hn,hl,_,h=>by
  simp only[mJ,I2];rw[GI L r _ i (List.nodup_cons.1 hn).1,Gm<|hl i<|by simp];simpa using h
 |i::L,x::r,H,k+1,o,hn,hl,hk,h=>by
  simp only[mJ,xj];exact Hh L r _ k o (List.nodup_cons.1 hn).2 (λj hj=>by simpa using hl j<|by simp[hj]) (by simpa using hk)<|by simpa using h
variable{args0:bh}{d0:D}
theorem FL(hA:cp P f args0 H0 d0 H0')(hl:H0'.length=H0.length)(L:List Nat)(hL:L.length=H0.length)(fm:L.Nodup)
  (iH:au H0.length args0) (pY:fo H0.length H0) {args:bh} {d:D} {H:aF} (e1:bP (λi=>L.getD i 0) args0=args) (e2:D.aQ (λi=>L.getD i 0) d0=d)
  (h1:∀i o,H0[i]? = some o->H[L.getD i 0]? = some (o.aQ λi=>L.getD i 0)):pJ P f args H d (mJ H L<|H0'.map<|ao.aQ λi=>L.getD i 0) L:=by
 subst e1 e2;have mem:∀{j},j∈L↔∃i,i<H0.length/\L.getD i 0=j:=λ{j}=>by
  rw[jN];constructor
  ·rintro⟨i,hi,rfl⟩;exact⟨i,by omega,by rw[aE,aJ hi];rfl⟩
  rintro⟨i,hi,rfl⟩;exact⟨i,by omega,by rw[aE,aJ<|by omega];rfl⟩
 have bC:∀id∈L,id<H.length:=λid hid=>by
  obtain⟨i,hi,rfl⟩:=mem.1 hid;exact nI<|h1 i _<|aJ hi
 have inj:∀i j,i<H0'.length->j<H0'.length->L.getD i 0=L.getD j 0->i=j:=λi j hi hj e=>by
  rw[aE,aE,aJ<|by omega,aJ<|by omega] at e;exact(List.getElem_inj fm).1 e
 refine⟨hA.ok,by rw[yu];exact aT _,λid hid=>GI _ _ _ _ hid,λid hid=>by rw[yu];exact bC id hid,λJ F w vs G cE hG _ si=>?_⟩;have core:=MU (G:=G) (G':=λid=>if id∈L then (mJ H L<|H0'.map<|ao.aQ λi=>L.getD i 0)[id]? else G id) (λi=>L.getD i 0) hA inj cE (λi o ho=>by
   rw[hG _<|mem.2 ⟨i,nI ho,rfl⟩];exact h1 i o ho) (λi h1 h2=>by omega) si (λi o ho=>by
   have hi:=nI ho;rw[ae<|mem.2 ⟨i,by omega,rfl⟩];exact Hh L _ H i _ fm bC (by omega)<|by rw[cU,ho];rfl) (λj hj=>by
   rw[ab λh=>by obtain⟨i,hi,e⟩:=mem.1 h;exact hj i (by omega) e]) iH (AY pY)
 refine core.mono λe w' ⟨v,J',F',q1,q2,q3,q4,q5⟩=>⟨v,J',F',q1,q2,λid hid=>(q3 id hid).imp_right λ⟨i,hi,e⟩=>mem.2 ⟨i,by omega,e⟩,q4,q5⟩
theorem OM(hA:cp P f args0 H0 d0 H0)(L:List Nat)(hL:L.length=H0.length)(fm:L.Nodup)
  (iH:au H0.length args0) (pY:fo H0.length H0) {args:bh} {d:D} {H:aF} (e1:bP (λi=>L.getD i 0) args0=args) (e2:D.aQ (λi=>L.getD i 0) d0=d)
  (h1:∀i o,H0[i]? = some o->H[L.getD i 0]? = some (o.aQ λi=>L.getD i 0)) (m:Nat) {q:Bool} {cs:bh} (hm:D.loc m 0∈args) (dF:H[m]? = some (.row q cs)) (hmL:m∈L) (bp:∀id∈L,id=m\/∃v lo hi,D.own id v lo hi∈cs):Br P f args H d L:=by
 have wi:=FL hA rfl L hL fm iH pY e1 e2 h1;have bC:∀id∈L,id<H.length/\(mJ H L<|H0.map<|ao.aQ λi=>L.getD i 0)[id]? = H[id]?:=λid hid=>by
  obtain⟨i,hi,rfl⟩:=jN.1 hid;have e:L.getD i 0=L[i]:=(by rw[aE,aJ hi];rfl);have hk:=h1 i _<|aJ (by omega);rw[<-e];refine⟨nI hk,?_⟩;rw[hk];refine Hh L _ H i _ fm (λj hj=>?_) hi (by rw[cU,aJ<|by omega];rfl);obtain⟨i',aW,rfl⟩:=jN.1 hj;have:=nI<|h1 i' _<|aJ (by omega);rwa [aE,aJ aW] at this
 refine⟨hA.ok,λJ F w vs G aC hG si=>?_⟩;have Zu:∃s,J m=some s:=by
  have:∀(ds:bh) (us:List aP),D.loc m 0∈ds->bB J F w ds us->∃s,J m=some s:=λds=>by
   induction ds with
   |nil=>intro us h;simp at h
   |cons x r ih =>
    intro us h k;simp only[bB] at k;obtain⟨v,us,rfl,k1,k2⟩:=k;rcases dZ.1 h with rfl|h
    ·simp only[rep] at k1;obtain⟨s,b,k1,_⟩:=k1;exact⟨s,k1⟩
    exact ih us h k2
  exact this _ _ hm si
 have hJ:∀id∈L,J id≠none:=λid hid=>by
  obtain⟨s,hs⟩:=Zu;rcases bp id hid with rfl|⟨v,lo,hi,hc⟩
  ·rw[hs];simp
  obtain⟨o,k1,k2⟩:=aC.obj m s hs;rw[hG m hmL,dF] at k1;cases k1;obtain⟨_,_,_,_,_,b,vals,te,_,_,_,k3,_⟩:=k2;have:∀(ds:bh) (n:Nat),D.own id v lo hi∈ds->eY J F w b ds n->J id≠none:=λds=>by
   induction ds with
   |nil=>intro n h;simp at h
   |cons x r ih =>
    intro n h k;simp only[eY] at k;obtain⟨⟨u,_,_,k1⟩,k2⟩:=k;rcases dZ.1 h with rfl|h
    ·simp only[rep] at k1;obtain⟨s',_,_,_,k1,_⟩:=k1;rw[k1];simp
    exact ih _ h k2
  exact this _ _ hc k3
 refine(wi.run J F w vs G aC hG (λid hid yz=>by have:=(bC id hid).1;omega) si).mono λe w' hR=>?_;obtain⟨v,J',F',rfl,k1,k2,k3,k4⟩:=hR;refine⟨v,J',F',rfl,?_,λid h=>(k2 id h).elim (λh=>h)<|hJ id,k3,k4⟩;have e:(λid=>if id∈L then (mJ H L<|H0.map<|ao.aQ λi=>L.getD i 0)[id]? else G id)=G:=by
  funext id;split
  ·rename_i hid;rw[(bC id hid).2,hG id hid]
  rfl
 rw[e] at k1;exact k1
def AR(L:List Nat)(h n:Nat):List Nat:=L++List.range' h n
theorem SB(hA:cp P f args0 H0 d0 H0')(L:List Nat)(hL:L.length=H0.length)(fm:L.Nodup)
  (iH:au H0.length args0) (pY:fo H0.length H0) {args:bh} {d:D} {H:aF} (W:List Nat) (hW:W=AR L H.length (H0'.length-H0.length)) (e1:bP (λi=>W.getD i 0) args0=args) (e2:D.aQ (λi=>W.getD i 0) d0=d)
  (h1:∀i o,H0[i]? = some o->H[L.getD i 0]? = some (o.aQ λi=>W.getD i 0)) {H2:aF} (e3:mJ H L ((H0'.take H0.length).map<|ao.aQ λi=>W.getD i 0)++(H0'.drop H0.length).map (ao.aQ λi=>W.getD i 0)=H2):pJ P f args H d H2 W:=by
 subst e1 e2 e3;have U':=hA.len;have bC:∀id∈L,id<H.length:=λid hid=>by
  obtain⟨i,hi,rfl⟩:=jN.1 hid;have:=nI<|h1 i _<|aJ (by omega);rwa [aE,aJ hi] at this
 have hWl:W.length=H0'.length:=by rw[hW,AR,cq,List.length_range'];omega
 have hWn:W.Nodup:=by
  rw[hW,AR,yJ];refine⟨fm,List.nodup_range',λa ha b hb e=>?_⟩;have:=bC a ha;have:=(List.mem_range'_1.1 hb).1;omega
 have mem:∀{j},j∈W↔∃i,i<H0'.length/\W.getD i 0=j:=λ{j}=>by
  rw[jN];constructor
  ·rintro⟨i,hi,rfl⟩;exact⟨i,by omega,by rw[aE,aJ hi];rfl⟩
  rintro⟨i,hi,rfl⟩;exact⟨i,by omega,by rw[aE,aJ<|by omega];rfl⟩
 have inj:∀i j,i<H0'.length->j<H0'.length->W.getD i 0=W.getD j 0->i=j:=λi j hi hj e=>by
  rw[aE,aE,aJ<|by omega,aJ<|by omega] at e;exact(List.getElem_inj hWn).1 e
 have wold:∀i,i<L.length->W.getD i 0=L.getD i 0:=λi hi=>by
  rw[hW,AR,aE,fv hi,aE]
 have wnew:∀i,L.length<=i->i<H0'.length->W.getD i 0=H.length+(i-L.length):=λi h1 h2=>by
  rw[hW,AR,aE,gJ h1,List.getElem?_range'<|by omega];simp
 have hN:(mJ H L ((H0'.take H0.length).map<|ao.aQ λi=>W.getD i 0)++(H0'.drop H0.length).map (ao.aQ λi=>W.getD i 0)).length=H.length+(H0'.length-H0.length):=by
  rw[cq,yu,aK,lL]
 have at2:∀i o,H0'[i]? = some o->(mJ H L ((H0'.take H0.length).map<|ao.aQ λi=>W.getD i 0)++(H0'.drop H0.length).map (ao.aQ λi=>W.getD i 0))[W.getD i 0]? = some (o.aQ λi=>W.getD i 0):=λi o ho=>by
  have hi:=nI ho;rcases dY i L.length with q|q
  ·rw[wold i q,fv<|by rw[yu];exact bC _<|by rw[aE,aJ q];exact ib q];refine Hh L _ H i _ fm bC q ?_;rw[cU,List.getElem?_take_of_lt<|by omega,ho];rfl
  rw[wnew i q hi,gJ<|by rw[yu];omega,yu,cU,xb,show H0.length+(H.length+(i-L.length)-H.length)=i by omega,ho];rfl
 refine⟨hA.ok,by rw[hN];omega,λid hid=>?_,λid hid=>?_,λJ F w vs G cE hG Gh si=>?_⟩
 ·have h2:id ∉ L:=λh=>hid (by rw[hW,AR];exact Ep _ h);rcases dY id H.length with q|q
  ·rw[fv<|by rw[yu];exact q,GI _ _ _ _ h2]
  rcases dY id<|H.length+(H0'.length-H0.length) with q2|q2
  ·exact absurd (by rw[hW,AR];exact yN _<|List.mem_range'_1.2 ⟨q,q2⟩) hid
  rw[cY q,cY<|by rw[hN];exact q2]
 ·obtain⟨i,hi,rfl⟩:=mem.1 hid;exact nI<|at2 i _<|aJ hi
 have core:=MU (G:=G) (G':=λid=>if id∈W then (mJ H L ((H0'.take H0.length).map<|ao.aQ λi=>W.getD i 0)++(H0'.drop H0.length).map (ao.aQ λi=>W.getD i 0))[id]? else G id) (λi=>W.getD i 0) hA inj cE (λi o ho=>by
   have hi:=nI ho;rw[hG _<|mem.2 ⟨i,by omega,rfl⟩,wold i<|by omega];exact h1 i o ho) (λi q1 q2=>by
   refine Gh _ (mem.2 ⟨i,q2,rfl⟩) ?_;rw[wnew i (by omega) q2];omega) si (λi o ho=>by
   rw[ae<|mem.2 ⟨i,nI ho,rfl⟩];exact at2 i o ho) (λj hj=>by
   rw[ab λh=>by obtain⟨i,hi,e⟩:=mem.1 h;exact hj i hi e]) iH (AY pY)
 exact core.mono λe w' ⟨v,J',F',q1,q2,q3,q4,q5⟩=>⟨v,J',F',q1,q2,λid hid=>(q3 id hid).imp_right λ⟨i,hi,e⟩=>mem.2 ⟨i,hi,e⟩,q4,q5⟩
theorem ri(hA:cp P f args [] d0 H0')(hp:an args){H H2:aF}(W:List Nat)(hW:W=List.range' H.length H0'.length)(e2:D.aQ (λi=>W.getD i 0) d0=d)
  (e3:H++H0'.map (ao.aQ λi=>W.getD i 0)=H2):pJ P f args H d H2 W :=
 SB hA [] rfl .nil (bu _ hp) trivial W (by rw[hW];rfl) (mo _ hp) e2 (λi o h=>by simp at h) (by rw[<-e3];rfl)
theorem uX(h:cp P f (pre++.loc 0 0::post) [.row true cs] d [.row true gH])(y6:an pre)(zp:an post)(yC:an cs)(MI:an gH)(hd:Pure d)
  {H:aF} {id:Nat} (hid:H[id]? = some (.row true cs)):pJ P f (pre++.loc id 0::post) H d (H.set id (.row true gH)) [id]:=by
 have tv:∀(a b:bh) (ρ:Nat->Nat),bP ρ (a++b)=bP ρ a++bP ρ b:=λa b ρ=>by
  induction a with
  |nil=>simp only[bP,lW]
  |cons x r ih=>simp only[ov,bP,ih]
 have F6:∀(a b:bh),au 1 a->au 1 b->au 1 (a++b):=λa b ha hb=>by
  induction a with
  |nil=>exact hb
  |cons x r ih=>simp only[au,ov] at ha⊢;exact⟨ha.1,ih ha.2⟩
 have:=FL h rfl [id] rfl (by simp) (F6 _ _ (bu _ y6) ⟨by simp[aq],bu _ zp⟩) ⟨bu _ yC,trivial⟩ (H:=H) (args:=pre++.loc id 0::post) (d:=d)
  (by rw[tv,mo _ y6];simp only[bP,D.aQ,mo _ zp];rfl) (iT _ hd) (λi o ho=>by
   cases i with
   |zero=>simp at ho;subst ho;simp only[ao.aQ,mo cs yC];exact hid
   |succ i=>simp at ho)
 simpa only[fi,gm,mJ,ao.aQ,mo gH MI] using this
end
end
section
section
variable{P:bI}{n:Nat}
def endD(d:D)(H2:aF)(r:D)(Hf:aF):Prop:=gS (nK H2.length) Hf r d/\vZ H2.length Hf Hf H2
theorem sy{f:FuncId}{rs:List RV}{p:PC}{args:bh}{H:aF}{d:D}{H2:aF}(hf:ud P f n rs p)(hn:args.length<=n)(hlen:H.length<=H2.length)
  (h:PWp P n p (Cv rs λr Hf=>endD d H2 r Hf) (params 0 args) H) (hd:aq H2.length d):cp P f args H d H2:=by
 refine⟨KL hf,hlen,λJ F w vs aC kA iH=>?_⟩;obtain⟨fn,h1,h2,h3,h4,h5⟩:=hf.out
 cases e:fn.body with
 |none=>rw[e] at h5;cases h5
 |some c =>
  rw[e] at h5;simp only[Cq] at h5;refine calls_of_wp h1 e ?_;rw[h2];refine wp_mono (qp h h5<|MG hn iH aC kA) λe' a' w' ⟨env',H',J',F',q1,q2,q3⟩=>?_;have fin:e'=.normal\/e'=.ret->a'.defers=[]/\∃v,(results fn a'.tmps).run P w'=.ok v w'/\∃v' J'' F'',Ending.returned v=Ending.returned v'/\cH J'' F'' w' (λi=>H2[i]?)/\(∀id,J'' id≠none->id<H2.length)/\rep J'' F'' w' d v'/\Ext J F w J'' F'' w':=λhe=>by
   obtain⟨r,v,⟨Jw,gw⟩,k2,k3⟩:=NQ h4 q2 he q1;have uQ:=q2.ok;have kle:(dV H2.length J').le J':=λi s hs=>by
    unfold dV at hs;split at hs
    ·exact⟨s,hs,aT _,λ_=>rfl⟩
    cases hs
   refine⟨q2.defers,v,k2,v,dV H2.length J',λb=>F' b\/yk (nK H2.length) J' b,rfl,⟨λi s hs=>?_,λi i' s s' b g1 g2 g3 g4=>?_,λi s b o g1 g2 g3 g4=>?_,uQ.lt.mono (λ_ h=>.inl h) (λ_ _=>rfl) λb hb=>?_⟩,λi hi=>?_,Dk _ _ hd<|CS uQ _ _ _ Jw k3,?_⟩
   ·unfold dV at hs;split at hs
    ·rename_i hi;obtain⟨o,g1,g2⟩:=uQ.obj i s hs;obtain⟨o',g3,g4⟩:=FE H' H2 gw i o hi g1;exact⟨o',g3,(Hr uQ g4 g2).1⟩
    cases hs
   ·unfold dV at g1 g2;split at g1<;>split at g2
    ·exact uQ.one i i' s s' b g1 g2 g3 g4
    all_goals first|cases g1|cases g2
   ·unfold dV at g1;split at g1
    ·rename_i hi;obtain⟨o1,t1,t2⟩:=uQ.obj i s g1;obtain⟨o',t3,t4⟩:=FE H' H2 gw i o1 hi t1;have qN:H2[i]? = some o:=g3;rw[qN] at t3;cases t3;have za:=(Hr uQ t4 t2).2;rintro(hx|⟨i',s',p1,p2,p3⟩)
     ·exact uQ.apart i s b o1 g1 g2 t1 (by rw[<-za];exact g4) hx
     have p1:=Xf.1 p1;have:=uQ.one i i' s s' b g1 p2 g2 p3;omega
    cases g1
   ·exact hb.elim (uQ.lt b) λ⟨i,s,_,t1,t2⟩=>uQ.jy t1 t2
   ·unfold dV at hi;split at hi
    ·assumption
    exact absurd rfl hi
   refine⟨q3.os,q3.tape,q3.output,q3.size,q3.block,q3.frozen,λi s hs=>?_,λb hb=>.inl<|q3.grow b hb,λb ⟨i,s,hs,hb⟩=>?_,λb hb=>?_⟩
   ·obtain⟨s',g1,g2,g3⟩:=q3.le i s hs;have hi:i<H2.length:=(by have:=kA i (by rw[hs];simp);omega);exact⟨s',by simp[dV,hi,g1],g2,g3⟩
   ·obtain⟨s',g1,_⟩:=kle i s hs;unfold dV at hs;split at hs
    ·exact q3.oQ b ⟨i,s,hs,hb⟩
    cases hs
   rcases hb with hb|⟨i,s,_,t1,t2⟩
   ·exact q3.pc b hb
   rcases q3.oQ b ⟨i,s,t1,t2⟩ with q|q
   ·exact .inr (.inl q)
   exact .inr (.inr q)
  cases e' with
  |normal=>exact fin (.inl rfl)
  |ret=>exact fin (.inr rfl)
  |exit id=>exact q1.elim
  |goto l=>exact q1.elim
  |panic ch=>exact q1.elim
  |outgrown=>exact q1.elim
end
end
section
abbrev WP:=iZ->Env->aF->Prop
def Ux:WP:=λQ env H=>Q .normal env H
def seqQ(g:WP)(Q:iZ):iZ:=λe env H=>match e with
 | .normal=>g Q env H
 |e=>Q e env H
def seqW(f g:WP):WP:=λQ env H=>f (seqQ g Q) env H
def Wh(c:a8)(f g:WP):WP:=λQ env H=>dK env c λd=>match d with
 | .sc (.bool t)=>ifK t (f Q env H)<|g Q env H
 |_=>False
def YJ(id:Nat)(Q:iZ):iZ:=λe env H=>match e with
 | .exit jn=>match Nat.beq jn id with
  |true=>Q .normal env H
  |false=>Q (.exit jn) env H
 |e=>Q e env H
def Tk(id:Nat)(f:WP):WP:=λQ env H=>f (YJ id Q) env H
def TA(P:bI)(n:Nat)(c:PC):WP:=λQ env H=>PWp P n (.loop c) Q env H
def RP(P:bI)(n:Nat)(c:PC):WP:=λQ env H=>PWp P n c Q env H
def Wo(id:Nat):WP:=λQ env H=>Q (.exit id) env H
def retW:WP:=λQ env H=>Q .ret env H
abbrev WO:=Env->aF->(Env->aF->Prop)->Prop
def nilO:WO:=λenv H K=>K env H
def opO(P:bI)(o:cV)(g:WO):WO:=λenv H K =>
 match o.guard with
 |none=>step P true o.op env H λd H' _ _=>match o.dst with
  |some t=>g ((t,d)::env) H' K
  |none=>g env H' K
 |some (t,b)=>tN t (λq=>match q with
  | .sc (.bool c)=>match b with
   |true=>ifK c
    (step P true o.op env H λd H' _ _=>match o.dst with
     |some u=>g ((u,d)::env) H' K
     |none=>g env H' K)
    (match o.dst with
     |some u=>g ((u,.sc undef)::env) H K
     |none=>g env H K)
   |false=>ifK c
    (match o.dst with
     |some u=>g ((u,.sc undef)::env) H K
     |none=>g env H K)
    (step P true o.op env H λd H' _ _=>match o.dst with
     |some u=>g ((u,d)::env) H' K
     |none=>g env H' K)
  | .sc (.tuple _)=>match o.dst with
   |some u=>g ((u,.sc undef)::env) H K
   |none=>g env H K
  |_=>False) env
def opsW(f:WO):WP:=λQ env H=>f env H λenv H=>Q .normal env H
abbrev WD:=Env->aF->(Env->aF->Trace->Prop)->Prop
def nilD:WD:=λenv H K=>K env H []
def opD(P:bI)(o:cV)(g:WD):WD:=λenv H K =>
 match o.guard with
 |none=>step P false o.op env H λd H' rd wr=>match o.dst with
  |some t=>g ((t,d)::env) H' λe h tr=>K e h<|((rd,wr),(Ac o.op env,d,H'))::tr
  |none=>g env H' λe h tr=>K e h<|((rd,wr),(Ac o.op env,d,H'))::tr
 |some (t,b)=>tN t (λq=>match q with
  | .sc (.bool c)=>match b with
   |true=>ifK c
    (step P false o.op env H λd H' rd wr=>match o.dst with
     |some u=>g ((u,d)::env) H' λe h tr=>K e h<|((rd,wr),(none,d,H'))::tr
     |none=>g env H' λe h tr=>K e h<|((rd,wr),(none,d,H'))::tr)
    (match o.dst with
     |some u=>g ((u,.sc undef)::env) H λe h tr=>K e h<|(([],[]),(none,.sc undef,H))::tr
     |none=>g env H λe h tr=>K e h<|(([],[]),(none,.sc undef,H))::tr)
   |false=>ifK c
    (match o.dst with
     |some u=>g ((u,.sc undef)::env) H λe h tr=>K e h<|(([],[]),(none,.sc undef,H))::tr
     |none=>g env H λe h tr=>K e h<|(([],[]),(none,.sc undef,H))::tr)
    (step P false o.op env H λd H' rd wr=>match o.dst with
     |some u=>g ((u,d)::env) H' λe h tr=>K e h<|((rd,wr),(none,d,H'))::tr
     |none=>g env H' λe h tr=>K e h<|((rd,wr),(none,d,H'))::tr)
  | .sc (.tuple _)=>match o.dst with
   |some u=>g ((u,.sc undef)::env) H λe h tr=>K e h<|(([],[]),(none,.sc undef,H))::tr
   |none=>g env H λe h tr=>K e h<|(([],[]),(none,.sc undef,H))::tr
  |_=>False) env
def Q8(l:List cV)(f:WD):WP:=λQ env H=>f env H λe h tr=>match DA [] l tr with
 |true=>Q .normal e h
 |false=>match DL [] l tr with
  |true=>Dd (Q .normal e h) 0 [] l tr
  |false=>False
section
variable{P:bI}{n:Nat}
def xq(P:bI)(l:List cV)(f:WO):Prop:=f=mE P l
def wQ(P:bI)(l:List cV)(f:WD):Prop:=f=nO P l
def Red(P:bI)(n:Nat)(p:PC)(f:WP):Prop:=f=pw P n p
theorem xq.nil:xq P [] nilO:=rfl
variable(o:cV){l:List cV}
theorem xq.cons{g:WO}(h:xq P l g):xq P (o::l)<|opO P o g:=by
 unfold xq at h⊢;subst h;funext env H K;rfl
theorem wQ.nil:wQ P [] nilD:=rfl
theorem wQ.cons{g:WD}(h:wQ P l g):wQ P (o::l)<|opD P o g:=by
 unfold wQ at h⊢;subst h;funext env H K;rfl
theorem Red.skip:Red P n .skip Ux:=rfl
theorem Red.ops{l:List cV}{f:WO}(h:xq P l f):Red P n (.ops l false)<|opsW f:=by
 unfold xq at h;subst h;rfl
theorem Red.draw{f:WD}(h:wQ P l f):Red P n (.ops l true)<|Q8 l f:=by
 unfold wQ at h;subst h;rfl
theorem Red.seq{a b:PC}{f g:WP}(h:Red P n a f)(k:Red P n b g):Red P n (.seq a b)<|seqW f g:=by
 unfold Red at h k;subst h;subst k;rfl
theorem Red.cond(c:a8){a b:PC}{f g:WP}(h:Red P n a f)(k:Red P n b g):Red P n (.cond c a b)<|Wh c f g:=by
 unfold Red at h k;subst h;subst k;rfl
theorem Red.block(id:Nat){a:PC}{f:WP}(h:Red P n a f):Red P n (.block id a)<|Tk id f:=by
 unfold Red at h;subst h;rfl
theorem Red.loop(c:PC):Red P n (.loop c)<|TA P n c:=rfl
theorem Red.stop(c:PC):Red P n (.stop c)<|RP P n c:=rfl
theorem Red.exit(id:Nat):Red P n (.exit id)<|Wo id:=rfl
theorem Red.ret:Red P n .ret retW:=rfl
variable{f:WP}{p:PC}{Q:iZ}{env:Env}{H:aF}
theorem zsc(h:Red P n p f)(k:f Q env H):PWp P n p Q env H :=
 B0 _ _ _ _ (by unfold Red at h;subst h;exact k)
inductive RdO(P:bI):List cV->WO->Prop
 |nil:RdO P [] nilO
 |cons {o:cV} {l:List cV} {g:WO} (h:RdO P l g):RdO P (o::l) (opO P o g)
inductive RdD(P:bI):List cV->WD->Prop
 |nil:RdD P [] nilD
 |cons {o:cV} {l:List cV} {g:WD} (h:RdD P l g):RdD P (o::l) (opD P o g)
inductive Rd(P:bI)(n:Nat):PC->WP->Prop
 |skip:Rd P n .skip Ux
 |ret:Rd P n .ret retW
 |exit {id:Nat}:Rd P n (.exit id) (Wo id)
 |loop {c:PC}:Rd P n (.loop c) (TA P n c)
 |stop {c:PC}:Rd P n (.stop c) (RP P n c)
 |ops {l:List cV} {f:WO} (h:RdO P l f):Rd P n (.ops l false) (opsW f)
 |draw {l:List cV} {f:WD} (h:RdD P l f):Rd P n (.ops l true) (Q8 l f)
 |seq {a b:PC} {f g:WP} (h:Rd P n a f) (k:Rd P n b g):Rd P n (.seq a b) (seqW f g)
 |cond {c:a8} {a b:PC} {f g:WP} (h:Rd P n a f) (k:Rd P n b g):Rd P n (.cond c a b) (Wh c f g)
 |block {id:Nat} {a:PC} {f:WP} (h:Rd P n a f):Rd P n (.block id a) (Tk id f)
theorem RdO.red{f:WO}(h:RdO P l f):xq P l f:=by
 induction h with
 |nil=>exact .nil
 |cons _ ih=>exact .cons _ ih
theorem RdD.red{f:WD}(h:RdD P l f):wQ P l f:=by
 induction h with
 |nil=>exact .nil
 |cons _ ih=>exact .cons _ ih
theorem Rd.red{p:PC}{f:WP}(h:Rd P n p f):Red P n p f:=by
 induction h with
 |skip=>exact .skip
 |ret=>exact .ret
 |exit=>exact .exit _
 |loop=>exact .loop _
 |stop=>exact .stop _
 |ops h=>exact .ops h.red
 |draw h=>exact .draw h.red
 |seq _ _ ih ik=>exact .seq ih ik
 |cond _ _ ih ik=>exact .cond _ ih ik
 |block _ ih=>exact .block _ ih
theorem uK(h:Rd P n p f)(k:f Q env H):PWp P n p Q env H:=zsc h.red k
end
end
section
theorem iq{L n:Nat}(id j ak:Nat){env:Env}{H:aF}{cs:bh}(hL:L<=H.length)(hid:H[id]? = some (.row true cs))(hj:cs[j]? = some ax) :
  St.leB L n env H env (H.set id (.row true<|cs.set j (.own H.length 0 0 0))++[.vec true 0 ak []]):=λJ F a w hr=>by
 have EI:J H.length=none:=by
  cases e:J H.length with
  |none=>rfl
  |some s=>have:=hr.dom H.length (by rw[e];simp);omega
 have wT:=nI hid
 let J':bf:=λi=>if i=H.length then some ⟨false,0,none,ak,0,0⟩ else J i
 have hle:J.le J':=λi s hs=>⟨s,by
  have:i≠H.length:=λe=>by subst e;rw[EI] at hs;cases hs
  simp[J',this,hs],aT _,λ_=>rfl⟩
 have pq:∀i,i≠H.length->i≠id->(H.set id (.row true<|cs.set j (.own H.length 0 0 0))++[ao.vec true 0 ak []])[i]? = H[i]?:=λi hi bT=>by
  rcases dY i H.length with q|q
  ·rw[fv<|by simpa using q,yw λe=>bT e.symm]
  rw[cY q,cY<|by simp;omega]
 have Oa:(H.set id (.row true<|cs.set j (.own H.length 0 0 0))++[ao.vec true 0 ak []])[id]? = some (.row true<|cs.set j (.own H.length 0 0 0)):=by
  rw[fv<|by simpa using wT,Gm wT]
 have o7:∀v,v=Value.slice none 0 0->rep J' F w (.own H.length 0 0 0) v:=λv hv=>by
  simp only[rep];exact⟨_,none,0,0,by simp[J'];rfl,hv,aT _,λ_=>⟨rfl,aT _,jr _,rfl,rfl,.inl rfl⟩⟩
 refine⟨J',F,⟨hr.defers,hr.size,λu=>kq hle (λ_ h=>h) (λ_ _=>rfl) _ _<|hr.tmps u,⟨λi s hs=>?_,λi i' s s' b g1 g2 g3 g4=>?_,λi s b o g1 g2 g3 g4=>?_,hr.ok.lt⟩,λi hi=>?_⟩,λi s hi hs=>?_,λb hb=>hb,λb ⟨i,s,hs,hb⟩=>?_,λb hb=>.inl hb⟩
 ·simp only[J'] at hs;split at hs
  ·rename_i e;subst e;cases hs;exact⟨.vec true 0 ak [],by simp,rfl,rfl,rfl,rfl,aT _,.inl rfl⟩
  rename_i e;obtain⟨o,h1,h2⟩:=hr.ok.obj i s hs;by_cases e2:i=id
  ·subst e2;have Ez:H[i]? = some o:=h1;rw[hid] at Ez;cases Ez;obtain⟨k1,k2,k3,k4,k5,b,vals,te,t1,t2,t3,t4,t5⟩:=h2;refine⟨_,Oa,k1,k2,k3,by rw[tD];exact k4,by rw[tD];exact k5,b,vals,te,t1,t2,by rw[tD];exact t3,rv _ _ λq c hq=>?_,t5⟩;by_cases e3:q=j
   ·subst e3;rw[Gm<|nI hj] at hq;cases hq;obtain⟨u,p1,p2,p3⟩:=uj _ _ _ _ hj t4;simp only[rep] at p3;exact⟨u,p1,p2,o7 u p3⟩
   rw[yw λe=>e3 e.symm] at hq;obtain⟨u,p1,p2,p3⟩:=uj _ _ _ _ hq t4;exact⟨u,p1,p2,kq hle (λ_ h=>h) (λ_ _=>rfl) _ _ p3⟩
  exact⟨o,by rw[pq i e e2];exact h1,rI hle (λ_ h=>h) (λ_ _=>rfl) (λ_ _=>rfl) h2⟩
 ·simp only[J'] at g1 g2;split at g1
  ·cases g1;simp[Site.c9] at g3
  split at g2
  ·cases g2;simp[Site.c9] at g4
  exact hr.ok.one i i' s s' b g1 g2 g3 g4
 ·simp only[J'] at g1;split at g1
  ·cases g1;simp[Site.c9] at g2
  rename_i e;by_cases e2:i=id
  ·subst e2;exact hr.ok.apart i s b _ g1 g2 hid rfl
  exact hr.ok.apart i s b o g1 g2 (by rw[<-pq i e e2];exact g3) g4
 ·simp only[J'] at hi;rw[cq,jA,tD];split at hi
  ·omega
  have:=hr.dom i hi;omega
 ·have:i≠H.length:=by omega
  simp[J',this,hs]
 simp only[J'] at hs;split at hs
 ·cases hs;simp[Site.c9] at hb
 exact⟨i,s,hs,hb⟩
end
section
def HU(S:ay)(H:aF)(env:Env):Env->Prop
 |[]=>True
 |(t,d)::r=>gS S H (iA t env) d/\HU S H env r
def W5(S:ay)(H:aF)(i:Nat):ao->ao->Prop
 | .row q cs,.row q' gH=>(q'=q\/(S i=true/\q'=false))/\(S i=true->q'=false)/\kZ S H cs gH
 | .vec q v e xs,.vec q' v' e' yX=>(q'=q\/(S i=true/\q'=false))/\(S i=true->q'=false)/\v=v'/\e=e'/\jJ S H xs yX
 | .eU q I,.eU q' I'=>(q'=q\/(S i=true/\q'=false))/\(S i=true->q'=false)/\I=I'
 |_,_=>False
def Df(S:ay)(H:aF):Nat->aF->aF->Prop
 |_,[],[]=>True
 |i,o::r,o'::r'=>W5 S H i o o'/\Df S H (i+1) r r'
 |_,_,_=>False
theorem SU{S:ay}{H:aF}{env:Env}:∀(env':Env),HU S H env env'->∀t,gS S H (iA t env) (iA t env')\/iA t env'=.dW
 |[],_,t=>.inr rfl
 |(k,d)::r,h,t=>by
  simp only[HU] at h;rw[BM];split
  ·rename_i e;subst e;exact .inl h.1
  exact SU r h.2 t
theorem W7{S:ay}{H:aF}:∀(l l':aF) (k:Nat),Df S H k l l'->l.length=l'.length/\∀i (o:ao),l[i]? = some o->∃o',l'[i]? = some o'/\W5 S H (k+i) o o'
 |[],[],k,_=>⟨rfl,λi o h=>by simp at h⟩
 |[],_::_,k,h=>by simp only[Df] at h
 |_::_,[],k,h=>by simp only[Df] at h
 |o::r,o'::r',k,h=>by
  simp only[Df] at h;obtain⟨h1,h2⟩:=W7 r r' (k+1) h.2;refine⟨by simp[h1],λi x hx=>?_⟩
  cases i with
  |zero=>simp at hx;subst hx;exact⟨o',rfl,h.1⟩
  |succ i =>
   obtain⟨y,q1,q2⟩:=h2 i x (by simpa using hx);exact⟨y,by simpa using q1,by rw[show k+(i+1)=k+1+i by omega];exact q2⟩
theorem rZ{L n:Nat}(S:ay){env env':Env}{H H':aF}(hE:HU S H env env')(hH:Df S H 0 H H'):St.leB L n env H env' H':=λJ F a w hr=>by
 obtain⟨hlen,pq⟩:=W7 H H' 0 hH;have aC:=hr.ok;refine⟨J,λb=>F b\/yk S J b,⟨hr.defers,hr.size,λt=>?_,⟨λi s hs=>?_,aC.one,λi s b o g1 g2 g3 g4=>?_,aC.lt.mono (λ_ h=>.inl h) (λ_ _=>rfl) λb hb=>hb.elim (aC.lt b) λ⟨i,s,_,h1,h2⟩=>aC.jy h1 h2⟩,λi hi=>by rw[<-hlen];exact hr.dom i hi⟩,λi s hi hs=>hs,λb hb=>.inl hb,λb hb=>hb,λb hb=>hb.imp_right λ⟨i,s,_,h1,h2⟩=>⟨i,s,h1,h2⟩⟩
 ·rcases SU env' hE t with h1|e
  ·exact CS aC _ _ _ h1<|hr.tmps t
  rw[e];simp only[rep]
 ·obtain⟨o,h1,h2⟩:=aC.obj i s hs;obtain⟨o',h3,h4⟩:=pq i o h1;rw[lZ] at h4;refine⟨o',h3,?_⟩
  cases o with
  |row q cs =>
   cases o' with
   |vec=>exact h4.elim
   |eU=>exact h4.elim
   |row q' gH =>
    obtain⟨p1,_,p2⟩:=h4;obtain⟨k1,k2,k3,k4,k5,b,vals,te,t1,t2,t3,t4,t5⟩:=h2;have hl:=JK _ _ p2;refine⟨k1,k2,k3,by rw[<-hl];exact k4,by rw[<-hl];exact k5,b,vals,te,t1,t2,by rw[<-hl];exact t3,EC aC _ _ b 0 p2 t4,λe=>?_⟩;rcases p1 with rfl|⟨p1,_⟩
    ·exact .inl<|t5 e
    exact .inr ⟨i,s,p1,hs,by simp[Site.c9,k1,t1]⟩
  |vec q v e xs =>
   cases o' with
   |row=>exact h4.elim
   |eU=>exact h4.elim
   |vec q' v' e' yX =>
    obtain⟨p1,_,rfl,rfl,p2⟩:=h4;obtain⟨k1,k2,k3,k4,k5,k6⟩:=h2;have hl:=AF _ _ p2;refine⟨k1,k2,k3,by rw[<-hl];exact k4,k5,?_⟩;by_cases hz:s.cap=0
    ·exact .inl hz
    rcases k6 with k6|⟨b,o,vals,te,t1,t2,t3,t4,t5⟩
    ·exact .inl k6
    refine .inr ⟨b,o,vals,te,t1,t2,t3,Dx aC _ _ b e o p2 t4,λe=>?_⟩;rcases p1 with rfl|⟨p1,_⟩
    ·exact .inl<|t5 e
    exact .inr ⟨i,s,p1,hs,by simp[Site.c9,k1,hz,t1]⟩
  |eU q I =>
   cases o' with
   |row=>exact h4.elim
   |vec=>exact h4.elim
   |eU q' I' =>
    obtain⟨_,_,rfl⟩:=h4;exact h2
 obtain⟨o0,h1,h2⟩:=aC.obj i s g1;obtain⟨o',h3,h4⟩:=pq i o0 h1;rw[lZ] at h4;have qN:H'[i]? = some o:=g3;rw[h3] at qN;cases qN;have hm:¬S i=true/\o0.mut=true:=by
  cases o0 with
  |row q cs =>
   cases o with
   |vec=>exact h4.elim
   |eU=>exact h4.elim
   |row q' gH =>
    obtain⟨p1,p2,_⟩:=h4;simp only[ao.mut] at g4⊢;refine⟨λh=>?_,?_⟩
    ·rw[p2 h] at g4;cases g4
    rcases p1 with rfl|⟨_,rfl⟩
    ·exact g4
    cases g4
  |vec q v e xs =>
   cases o with
   |row=>exact h4.elim
   |eU=>exact h4.elim
   |vec q' v' e' yX =>
    obtain⟨p1,p2,_⟩:=h4;simp only[ao.mut] at g4⊢;refine⟨λh=>?_,?_⟩
    ·rw[p2 h] at g4;cases g4
    rcases p1 with rfl|⟨_,rfl⟩
    ·exact g4
    cases g4
  |eU q I =>
   cases o with
   |row=>exact h4.elim
   |vec=>exact h4.elim
   |eU q' I' =>
    obtain⟨p1,p2,_⟩:=h4;simp only[ao.mut] at g4⊢;refine⟨λh=>?_,?_⟩
    ·rw[p2 h] at g4;cases g4
    rcases p1 with rfl|⟨_,rfl⟩
    ·exact g4
    cases g4
 rintro(hx|⟨i',s',p1,p2,p3⟩)
 ·exact aC.apart i s b o0 g1 g2 h1 hm.2 hx
 have:=aC.one i i' s s' b g1 p2 g2 p3;subst this;exact hm.1 p1
end
def F7(env:Env):List Nat->(Env->Prop)->Prop
 |[],K=>K []
 |t::ts,K=>tN t (λd=>F7 env ts λe=>K<|(t,d)::e) env
def Er:Env->Env->(Env->Prop)->Prop
 |[],e,K=>K e
 |p::r,e,K=>Er r e λE=>K<|p::E
def DI:List (Nat×ao)->aF->aF
 |[],H=>H
 |(i,o)::r,H=>DI r<|H.set i o
def GQ:List (Nat×ao)->aF->(aF->Prop)->Prop
 |[],H,K=>K H
 |(i,o)::r,H,K=>pN H i o λH'=>GQ r H' K
theorem L8(env:Env):∀(ts:List Nat) (K:Env->Prop),F7 env ts K=K (ts.map λt=>(t,iA t env))
 |[],K=>rfl
 |t::ts,K=>by simp only[F7,y8,L8 env ts,fi]
theorem Oe:∀(a e:Env) (K:Env->Prop),Er a e K=K (a++e)
 |[],e,K=>rfl
 |p::r,e,K=>by simp only[Er,Oe r e,ov]
theorem UI:∀(l:List<|Nat×ao) (H:aF) (K:aF->Prop),GQ l H K->K (DI l H)
 |[],H,K,h=>h
 |(i,o)::r,H,K,h=>by
  simp only[GQ,vU] at h;simp only[DI];exact UI r _ K h.2
theorem ND{env:Env}:∀(a e:Env),s9 env a->s9 env e->s9 env (a++e)
 |[],e,_,k=>k
 |(t,d)::r,e,h,k=>⟨h.1,ND r e h.2 k⟩
theorem Nn{env:Env}:∀ts:List Nat,s9 env (ts.map λt=>(t,iA t env))
 |[]=>trivial
 |t::ts=>⟨rfl,Nn ts⟩
variable{n:Nat}{env:Env}{H:aF}
theorem aL{L:Nat}{env':Env}{H':aF}(h:s9 env env')(e:H=H'):St.leB L n env H env' H':=e▸o5 h
structure ForK(P:bI)(n:Nat)(p:PC)(Q:iZ)(env:Env)(H:aF){ι:Type}(upd:ι->Env)(B2:ι->List (Nat×ao))(G:ι->Prop)(m:ι->Nat)(i:ι)(e:Env):Prop where
 fx:G i
 start:s9 env<|upd i
 heap:H=DI (B2 i) H
 round:∀j,G j->Er (upd j) e λE=>GQ (B2 j) H λO=>PWp P n p (Mi H.length n Q (λj=>upd j++e) (λj=>DI (B2 j) H) G m<|m j) E O
variable{ι:Type}
theorem bt{P:bI}{n:Nat}{p:PC}{Q:iZ}{env:Env}{H:aF}(kept:List Nat)(upd:ι->Env)(B2:ι->List (Nat×ao))(G:ι->Prop)(m:ι->Nat)(i:ι)
  (h:F7 env kept λe=>ForK P n p Q env H upd B2 G m i e):PWp P n (.loop p) Q env H:=by
 rw[L8] at h;refine wA (λj=>upd j++kept.map λt=>(t,iA t env)) (λj=>DI (B2 j) H) G m i h.fx (aL (ND _ _ h.start<|Nn _) h.heap) λj hj=>?_;have:=h.round j hj;rw[Oe] at this;exact UI _ _ _ this
section
variable{w w':ba}{B B' size n:Nat}{A:Option Addr}{xs:List aP}
end
section
variable{w w':ba}{g:Nat}{t:bl}{cs:Array aP}
end
inductive Tree where
 |node (kind n:Int) (kids:List Tree)
namespace Tree
instance:Inhabited Tree:=⟨.node 0 0 []⟩
def kind:Tree->Int|.node k _ _=>k
def num:Tree->Int|.node _ n _=>n
def kids:Tree->List Tree|.node _ _ ks=>ks
def az(t:Tree)(j:Nat):Tree:=t.kids.getD j default
def width(t:Tree):Nat:=t.kids.length
theorem om{t:Tree}{j:Nat}(h:j<t.kids.length):t.az j=t.kids[j]:=by simp[az,List.getD,aJ h]
theorem eta(t:Tree):Tree.node t.kind t.num t.kids=t:=by cases t;rfl
theorem ind{p:Tree->Prop}(h:∀t:Tree,(∀j,j<t.width->p (t.az j))->p t):∀t,p t:=by
 intro t;refine Tree.rec (motive_1:=p) (motive_2:=λks=>∀t∈ks,p t) ?_ ?_ ?_ t
 ·intro k n ks ih;refine h _ λj hj=>?_;rw[om (t:=.node k n ks) hj];exact ih _<|ib hj
 ·intro t ht;cases ht
 intro t ts h1 h2 u hu;rcases dZ.1 hu with rfl|hu
 ·exact h1
 exact h2 u hu
end Tree
def bz(k:Int):Int:=if k=1\/k=2\/k=3 then 0 else if k=4\/k=7\/k=10\/k=11 then 1 else if k=5\/k=6\/k=8\/k=9 then 2 else -1
def dp(k:Int):Int:=if k=1\/k=2\/k=3 then 0 else if k=4\/k=7\/k=8\/k=9\/k=11\/k=12\/k=13 then 1 else if k=5\/k=6\/k=10\/k=14 then 2 else -1
def fq(kd:Int->Int)(t:Tree):Prop:=kd t.kind≠(t.width:Int)\/t.num<0\/63<t.num\/(t.kind≠3/\t.num≠0)
instance (kd:Int->Int) (t:Tree):Decidable<|fq kd t:=by unfold fq;infer_instance
mutual
def dG(kd:Int->Int):Tree->Int->Int->Int×Int
 | .node k x ks,d,n =>
  if 60<n+1 then (2,n+1) else if 20<d then (5,n+1) else if fq kd (.node k x ks) then (1,n+1) else jz kd ks (d+1)<|n+1
def jz(kd:Int->Int):List Tree->Int->Int->Int×Int
 |[],_,n=>(0,n)
 |t::ts,d,n=>if (dG kd t d n).1=0 then jz kd ts d (dG kd t d n).2 else dG kd t d n
end
theorem Hj(kd:Int->Int)(t:Tree)(d n:Int) :
  dG kd t d n=if 60<n+1 then (2,n+1) else if 20<d then (5,n+1) else if fq kd t then (1,n+1) else jz kd t.kids (d+1)<|n+1:=by
 cases t;rw[dG];rfl
variable{t:Tree}{j:Nat}
theorem JP(kd:Int->Int)(hj:j<t.width)(d n:Int) :
  jz kd (t.kids.drop j) d n=if (dG kd (t.az j) d n).1=0 then jz kd (t.kids.drop<|j+1) d (dG kd (t.az j) d n).2 else dG kd (t.az j) d n:=by
 rw[zZ hj,jz,Tree.om hj]
variable(kd:Int->Int)
theorem IN(t:Tree)(d n:Int):jz kd (t.kids.drop t.width) d n=(0,n):=by
 rw[Tree.width,tf,jz]
def aS(kd:Int->Int)(t:Tree):Int:=(dG kd t 1 0).1
mutual
theorem D3(kd:Int->Int):∀(t:Tree) (d n:Int),n+1<=(dG kd t d n).2/\(n<=60->(dG kd t d n).2<=61)
 | .node k x ks,d,n=>by
  have:=Uk kd ks (d+1)<|n+1;rw[dG];split
  ·simp;omega
  split
  ·simp;omega
  split
  ·simp;omega
  omega
theorem Uk(kd:Int->Int):∀(ts:List Tree) (d n:Int),n<=(jz kd ts d n).2/\(n<=60->(jz kd ts d n).2<=61)
 |[],_,n=>by rw[jz];simp;omega
 |t::ts,d,n=>by
  have h1:=D3 kd t d n;have h2:=Uk kd ts d (dG kd t d n).2;have h3:=DJ kd t d n;rw[jz];split
  ·rename_i h;have:=h3 h;omega
  omega
theorem DJ(kd:Int->Int):∀(t:Tree) (d n:Int),(dG kd t d n).1=0->(dG kd t d n).2<=60
 | .node k x ks,d,n=>by
  have:=Uh kd ks (d+1)<|n+1;rw[dG];split
  ·simp
  split
  ·simp
  split
  ·simp
  intro h;exact this (by omega) h
theorem Uh(kd:Int->Int):∀(ts:List Tree) (d n:Int),n<=60->(jz kd ts d n).1=0->(jz kd ts d n).2<=60
 |[],_,n=>by rw[jz];simp
 |t::ts,d,n=>by
  have h1:=DJ kd t d n;have h2:=Uh kd ts d (dG kd t d n).2;intro hn;rw[jz];split
  ·rename_i h;exact h2<|h1 h
  intro h;contradiction
end
variable{a b:Tree}
theorem Tree.Mj(h1:a.kind=b.kind)(h2:a.num=b.num)(h3:a.width=b.width)(h4:∀j,j<a.width->a.az j=b.az j):a=b:=by
 rw[<-Tree.eta a,<-Tree.eta b,h1,h2]
 congr 1
 refine Du h3 λi hi aW=>?_;have:=h4 i hi;rwa [Tree.om hi,Tree.om aW] at this
open Classical in
noncomputable def dR(a b:Tree):Bool:=decide (a=b)
theorem N3(h:a=b):true=dR a b:=by simp[dR,h]
theorem Dp(h:a≠b):false=dR a b:=by simp[dR,h]
theorem AA:dR a b↔a=b:=by simp[dR]
mutual
def Tree.size:Tree->Nat
 | .node _ _ ks=>1+Tree.nQ ks
def Tree.nQ:List Tree->Nat
 |[]=>0
 |t::ts=>t.size+Tree.nQ ts
end
mutual
def Tree.depth:Tree->Nat
 | .node _ _ ks=>1+Tree.Di ks
def Tree.Di:List Tree->Nat
 |[]=>0
 |t::ts=>max t.depth<|Tree.Di ts
end
mutual
def Tree.wf(kd:Int->Int):Tree->Prop
 | .node k n ks=>¬fq kd (.node k n ks)/\Tree.wfs kd ks
def Tree.wfs(kd:Int->Int):List Tree->Prop
 |[]=>True
 |t::ts=>t.wf kd/\Tree.wfs kd ts
end
theorem Tree.zrj:∀t:Tree,1<=t.depth:=λt=>by cases t;rw[Tree.depth];omega
mutual
theorem Qo(kd:Int->Int):∀(t:Tree) (d n:Int),(dG kd t d n).1=0↔(n+t.size<=60/\d+t.depth<=21/\t.wf kd)
 | .node k x ks,d,n=>by
  have h1:=SX kd ks (d+1)<|n+1;rw[dG,Tree.size,Tree.depth,Tree.wf];by_cases c1:60<n+1
  ·rw[ae c1];simp;omega
  rw[ab c1];by_cases c2:20<d
  ·rw[ae c2];simp;omega
  rw[ab c2];by_cases c3:fq kd (.node k x ks)
  ·rw[ae c3];simp[c3]
  rw[ab c3,h1];constructor
  ·rintro⟨a,b,c⟩
   cases ks with
   |nil=>rw[Tree.nQ,Tree.Di] at *;exact⟨by omega,by omega,c3,c⟩
   |cons t ts=>have:=a (by simp);have:=b (by simp);exact⟨by omega,by omega,c3,c⟩
  rintro⟨a,b,_,c⟩;exact⟨by omega,λ_=>by omega,c⟩
theorem SX(kd:Int->Int):∀(ts:List Tree) (d n:Int),(jz kd ts d n).1=0↔((ts≠[]->n+Tree.nQ ts<=60)/\(ts≠[]->d+Tree.Di ts<=21)/\Tree.wfs kd ts)
 |[],_,n=>by rw[jz,Tree.wfs];simp
 |t::ts,d,n=>by
  have h1:=Qo kd t d n;have h3:=Rj kd t d n;have h2:=SX kd ts d (dG kd t d n).2;rw[jz,Tree.nQ,Tree.Di,Tree.wfs];have hd:=Tree.zrj t;by_cases c:(dG kd t d n).1=0
  ·rw[ae c,h2,h3 c];rw[h1] at c;obtain⟨c1,c2,c3⟩:=c
   cases ts with
   |nil=>rw[Tree.nQ,Tree.Di,Tree.wfs];simp[c3];omega
   |cons u us =>
    simp only[ne_eq,reduceCtorEq,not_false_eq_true,true_implies,c3,true_and];constructor
    ·rintro⟨a,b,e⟩;exact⟨by omega,by omega,e⟩
    rintro⟨a,b,e⟩;exact⟨by omega,by omega,e⟩
  rw[ab c];constructor
  ·intro h;exact absurd h c
  rintro⟨a,b,e⟩;refine absurd (h1.2 ⟨?_,?_,e.1⟩) c
  ·have:=a (by simp);omega
  have:=b (by simp);omega
theorem Rj(kd:Int->Int):∀(t:Tree) (d n:Int),(dG kd t d n).1=0->(dG kd t d n).2=n+t.size
 | .node k x ks,d,n=>by
  have h1:=XA kd ks (d+1)<|n+1;rw[dG,Tree.size];split
  ·simp
  split
  ·simp
  split
  ·simp
  intro h;rw[h1 h];omega
theorem XA(kd:Int->Int):∀(ts:List Tree) (d n:Int),(jz kd ts d n).1=0->(jz kd ts d n).2=n+Tree.nQ ts
 |[],_,n=>by rw[jz,Tree.nQ];simp
 |t::ts,d,n=>by
  have h1:=Rj kd t d n;have h2:=XA kd ts d (dG kd t d n).2;rw[jz,Tree.nQ];split
  ·rename_i h;intro h';rw[h2 h',h1 h];omega
  intro h;contradiction
end
theorem qM(t:Tree):aS kd t=0↔(t.size<=60/\t.depth<=20/\t.wf kd):=by
 unfold aS;rw[Qo];constructor
 ·rintro⟨a,b,c⟩;exact⟨by omega,by omega,c⟩
 rintro⟨a,b,c⟩;exact⟨by omega,by omega,c⟩
theorem UF(kd:Int->Int):∀ts:List Tree,Tree.wfs kd ts↔∀t∈ts,t.wf kd
 |[]=>by simp[Tree.wfs]
 |t::ts=>by rw[Tree.wfs,UF kd ts];simp
theorem jG(t:Tree):t.wf kd↔¬fq kd t/\∀u∈t.kids,u.wf kd:=by
 cases t;rw[Tree.wf,UF];rfl
theorem gD{kd:Int->Int}(h:t.wf kd)(hj:j<t.width):(t.az j).wf kd:=by
 rw[Tree.om hj];exact((jG kd t).1 h).2 _ (ib hj)
def cv(k n:Int):Tree:=.node k n []
def bO(k:Int)(a:Tree):Tree:=.node k 0 [a]
def cX(k:Int)(a b:Tree):Tree:=.node k 0 [a,b]
theorem tR(h:¬fq bz t):(t.kind=1\/t.kind=2\/t.kind=3)/\t.width=0\/(t.kind=4\/t.kind=7\/t.kind=10\/t.kind=11)/\t.width=1\/(t.kind=5\/t.kind=6\/t.kind=8\/t.kind=9)/\t.width=2:=by
 unfold fq bz at h
 (repeat' split at h)<;>omega
def EP(b:Bool):D:=aD b
@[simp] theorem zzG(b:Bool):Pure<|EP b:=by simp[EP,Pure]
def aO(l:ah):D:=.aM 1<|l.map λn=>[aa n]
def bY(g:aj):D:=.aM 1<|g.map λl=>[aO l]
theorem db{α:Type}(f:α->bh)(h:∀a,an<|f a):∀l:List α,fc (l.map f)
 |[]=>by simp only[gm,fc]
 |a::l=>by simp only[fi,fc];exact⟨h a,db f h l⟩
variable(l:ah)
@[simp] theorem cG:Pure<|aO l:=by
 simp only[aO,Pure];exact db _ (λn=>by simp[an,Pure]) l
@[simp] theorem mj(g:aj):Pure<|bY g:=by
 simp only[bY,Pure];exact db _ (λl=>by simp[an,cG]) g
mutual
def gO:Tree->bh
 | .node k n ks=>[.sc (.int .i64 k),.sc (.int .i64 n),.aM 3<|y0 ks]
def y0:List Tree->fE
 |[]=>[]
 |t::r=>gO t::y0 r
end
def aN(t:Tree):bh:=[aa t.kind,aa t.num,.aM 3<|t.kids.map gO]
def aY(t:Tree):D:=.agg<|aN t
theorem Rf:∀l,y0 l=l.map gO
 |[]=>by simp only[y0,gm]
 |t::r=>by simp only[y0,fi,Rf r]
variable(t:Tree)
theorem vR:gO t=aN t:=by
 cases t;simp only[gO,Rf];rfl
mutual
theorem DB:∀t:Tree,an (gO t)
 | .node k n ks=>by simp only[gO,an,Pure,true_and,and_true];exact Qe ks
theorem Qe:∀l:List Tree,fc (y0 l)
 |[]=>by simp only[y0,fc]
 |t::r=>by simp only[y0,fc];exact⟨DB t,Qe r⟩
end
@[simp] theorem c7:Pure<|aY t:=by simp only[aY,Pure];rw[<-vR];exact DB t
theorem oN{H:aF}:∀l:bh,jg H l l
 |[]=>.nil
 |d::r=>.cons _ _ _ _ (.refl d)<|oN r
theorem iX{H:aF}:∀l:fE,n4 H l l
 |[]=>.nil
 |d::r=>.cons _ _ _ _ (oN d)<|iX r
theorem LG:jg H (aN t)<|gO t:=by rw[vR];exact oN _
inductive Small:Tree->Prop where
 |mk (t:Tree) (h:t.width<=9223372036854775807) (k:∀j,j<t.width->Small (t.az j)):Small t
theorem Small.width{t:Tree}(h:Small t):t.kids.length<=9223372036854775807:=by cases h;assumption
theorem Small.az{t:Tree}(h:Small t){j:Nat}(hj:j<t.width):Small<|t.az j:=by cases h with|mk _ _ k=>exact k j hj
theorem uw:∀t:Tree,t.wf bz->Small t:=by
 intro t
 induction t using Tree.ind with
 |h t ih =>
  intro hw;refine .mk t ?_ λj hj=>ih j hj<|gD hw hj;have:=tR ((jG _ _).1 hw).1;omega
theorem aZ{m:ay}{xs ys:fE}(h:xs=ys):jJ m H xs ys:=h▸.refl xs
@[simp] theorem cM:an<|aN t:=by rw[<-vR];exact DB t
@[simp] theorem lr:fc<|t.kids.map gO:=db _ DB _
variable{α:Type}
theorem Mf{β:Type}(f:α->β){l:List α}{k:Nat}{a:α}(h:l[k]? = some a):List.drop 0 (List.take k<|(l.take k).map f)++[f a]=(l.take<|k+1).map f:=by
 rw[fQ,jd<|by simp;omega,lI,h];simp
theorem kid_get? {t:Tree} {j:Nat} (h:j<t.width):t.kids[j]? = some (t.az j):=by rw[Tree.om h,aJ h]
variable{t:Tree}
theorem RS(f:Tree->α)(h:j<t.width):((t.kids.take t.width).map f)[j]? = some (f<|t.az j):=by
 rw[Tree.width,eZ,cU,kid_get? h];rfl
theorem dk(h:j<t.width):(t.kids.map gO)[j]? = some (aN<|t.az j):=by
 rw[cU,Tree.om h,aJ h,<-vR];rfl
variable{d:D}
theorem cd{e:D}(h:d=e):Deep H d e:=h▸.refl d
theorem mM{u:Tree}(h:t=u)(k:Deep H d<|aY u):Deep H d<|aY t:=h▸k
section
variable{P:bI}{f:FuncId}
variable{args:bh}{H0 H0':aF}
theorem r9(hA:cp P f args H0 d H0')(L R:aF)(hlen:H0'.length=H0.length)(iH:au H0.length args)(pY:fo H0.length H0)
  {args2:bh} {d2:D} {H H2:aF} (e1:bP (λi=>L.length+i) args=args2) (e2:D.aQ (λi=>L.length+i) d=d2) (e3:L++(H0.map (ao.aQ λi=>L.length+i)++R)=H) (e4:L++(H0'.map (ao.aQ λi=>L.length+i)++R)=H2) :
  cp P f args2 H d2 H2:=by
 subst e1 e2 e3 e4;refine QG (λi=>L.length+i) hA (λi j _ _ h=>by omega) (λi o h=>?_) (λi h1 h2=>by omega) (by simp[hlen]) (λi o h=>?_) (λj hj bT=>?_) iH<|AY pY
 ·rw[gJ<|by omega,Cz,fv<|by simpa using nI h,cU,h];rfl
 ·rw[gJ<|by omega,Cz,fv<|by simpa using nI h,cU,h];rfl
 rcases dY j L.length with h|h
 ·rw[fv h,fv h]
 have:H0.length<=j-L.length:=by
  rcases dY (j-L.length) H0.length with q|q
  ·exact absurd (by omega)<|bT (j-L.length) q
  exact q
 rw[gJ h,gJ h,gJ<|by simp;omega,gJ<|by simp;omega];simp[hlen]
theorem mS(hA:cp P f args H0 d H0')(R:aF)(hlen:H0'.length=H0.length)(iH:au H0.length args)(pY:fo H0.length H0):cp P f args (H0++R) d<|H0'++R:=by
 have h:(λi=>([]:aF).length+i)=λi=>i:=by funext i;simp
 refine r9 hA [] R hlen iH pY ?_ ?_ ?_ ?_<;>rw[h]
 ·exact vl _
 ·exact HC _
 ·rw[show(ao.aQ λi=>i)=id from funext G9];simp
 rw[show(ao.aQ λi=>i)=id from funext G9];simp
end
variable{c:Bool}{A B:Prop}
theorem CG(h:c)(k:A):ifK c A B:=by subst h;exact k
theorem Dn(h:c=false)(k:B):ifK c A B:=by subst h;exact k
def cutQ{ι:Type}(L n:Nat)(Q:iZ)(E:ι->Env)(O:ι->aF)(G:ι->Prop):iZ
 | .normal,env,H=>∃i,G i/\St.leB L n env H (E i) (O i)
 |e,env,H=>Q e env H
variable{P:bI}{p:PC}{Q:iZ}
theorem px(E:ι->Env)(O:ι->aF)(G:ι->Prop)(h1:PWp P n p (cutQ H.length n Q E O G) env H)
  (h2:∀i,G i->Q .normal (E i) (O i)):PWp P n p Q env H:=r8 λc hc J F a w hr=>by
 refine wp_mono (qp h1 hc hr) λe a2 w2 ⟨env',H',J',F',q1,q2,q3⟩=>?_
 cases e with
 |normal =>
  obtain⟨i,r1,r2⟩:=q1;obtain⟨J2,F2,t1,t2,t3,t4,t5⟩:=r2 J' F' a2 w2 q2;exact⟨E i,O i,J2,F2,h2 i r1,t1,GC hr.dom q3 t2 t3 t4 t5⟩
 |_=>exact⟨env',H',J',F',q1,q2,q3⟩
variable(t:Tree){m:Nat}
@[simp] theorem zxU:aq m (aY t)↔True:=⟨λ_=>trivial,λ_=>bw _<|c7 t⟩
@[simp] theorem zxX:au m (aN t)↔True:=⟨λ_=>trivial,λ_=>bu _<|cM t⟩
@[simp] theorem ztI(l:List Tree):bg m (l.map gO)↔True:=⟨λ_=>trivial,λ_=>aV _<|db _ DB _⟩
@[simp] theorem zvV:au m (gO t)↔True:=⟨λ_=>trivial,λ_=>bu _<|DB t⟩
variable{ρ:Nat->Nat}
@[simp] theorem zz5:D.aQ ρ (aY t)=aY t:=iT _<|c7 t
instance (n:Nat):OfNat a8 n:=⟨.tmp n⟩
def cI(n:Int):a8:=.const (.int .i64 n)
def cS(l:Array UInt8):a8:=.const (.string ⟨l⟩)
def cT:a8:=.const (.bool true)
def cF:a8:=.const (.bool false)
def cN:a8:=.const (.slice none 0 0)
def GT(d g:Nat)(o:POp):cV:=⟨some d,o,some (g,true),0⟩
def GF(d g:Nat)(o:POp):cV:=⟨some d,o,some (g,false),0⟩
def Fa(d k:Nat)(x:a8):cV:=q d (.dO k x)
def Lo(d:Nat)(x:a8):cV:=q d (.cg x)
def LA(d n:Nat)(x:a8):cV:=q d (.mF n x)
def Xt(d k:Nat)(x:a8):cV:=q d (.ext k x)
def Bx(d:Nat)(x:a8):cV:=q d (.box x)
def Nt(d:Nat)(x:a8):cV:=q d (.un .not x)
def Ln(d:Nat)(x:a8):cV:=q d (.len x)
def Mv(d:Nat)(x:a8):cV:=q d (.move x)
def Bi(d:Nat)(o:BinOp)(x y:a8):cV:=q d (.bin o x y)
def Ia(d e:Nat)(x y:a8):cV:=q d (.gZ e x y)
def Ap(d e b:Nat)(x y:a8):cV:=q d (.append e b x y)
def Pk(d:Nat)(c x y:a8):cV:=q d (.pick c x y)
def Ca(d:Nat)(f:FuncId)(l:List a8):cV:=q d (.call f l)
def Bs(d e n:Nat)(l:List a8):cV:=q d (.oP e n l)
def So(n:Nat)(x y:a8):cV:=qn (.store n x y)
abbrev OP(l:List cV):PC:=.ops l false
abbrev SO(l:List cV)(p:PC):PC:=.seq (.ops l false) p
abbrev If(c:a8)(p:PC):PC:=.cond c p .skip
abbrev CX(c:a8)(n:Nat):PC:=.cond c .skip (.exit n)
abbrev BL(n:Nat)(p:PC):PC:=.block n (.loop p)
def Ld(d:Nat)(x:a8)(m:Nat):cV:=qd d (.cg x) m
def Ja(d e:Nat)(x y:a8)(m:Nat):cV:=qd d (.gZ e x y) m
def Bd(d:Nat)(o:BinOp)(x y:a8)(m:Nat):cV:=qd d (.bin o x y) m
def Fd(d k:Nat)(x:a8)(m:Nat):cV:=qd d (.dO k x) m
def Md(d:Nat)(x:a8)(m:Nat):cV:=qd d (.move x) m
def Cd(d:Nat)(f:FuncId)(l:List a8)(m:Nat):cV:=qd d (.call f l) m
def K0:a8:=.const (.int .i64 0)
def K1:a8:=.const (.int .i64 1)
def K2:a8:=.const (.int .i64 2)
def K3:a8:=.const (.int .i64 3)
def K4:a8:=.const (.int .i64 4)
def K5:a8:=.const (.int .i64 5)
def K6:a8:=.const (.int .i64 6)
def K7:a8:=.const (.int .i64 7)
def K8:a8:=.const (.int .i64 8)
def K9:a8:=.const (.int .i64 9)
abbrev vN:aP:=.slice none 0 0
abbrev v0:aP:=.int .i64 0
abbrev v8:aP:=.int .i8 0
abbrev vF:aP:=.bool false
abbrev vS:aP:=.string ⟨#[]⟩
theorem fK {P : Program} {f : FuncId} {n : Nat} {rs : List RV} {p : PC} {fn : Func} (h : P.funcs[f]? = some fn) (a : fn.ntmps = n := by rfl) (b : (fn.name == "runtime.NumGoroutine") = false := by kernel_rfl) (c : wO P fn.results.toList = some rs := by rfl) (d : fn.body.bind (comp P n) = some p.bare := by kernel_rfl) : ud P f n rs p := ⟨⟨fn, h, a, b, c, d⟩⟩
theorem fJ {P : Program} {f : FuncId} (n : Nat) (rs : List RV) (p : PC) {fn : Func} (h : P.funcs[f]? = some fn) (a : fn.ntmps = n := by rfl) (b : (fn.name == "runtime.NumGoroutine") = false := by kernel_rfl) (c : wO P fn.results.toList = some rs := by rfl) (d : fn.body.bind (comp P n) = some p.bare := by kernel_rfl) : ud P f n rs p := ⟨⟨fn, h, a, b, c, d⟩⟩
variable{f:FuncId}{rs:List RV}{args:bh}
theorem bK(hf:ud P f n rs p)(h:PWp P n p (Cv rs λr H=>Deep H r d) (params 0 args) [])(hn:args.length<=n:=by simp)(hp:an args:=by simp[an,Pure])(hd:Pure d:=by simp[an,Pure]):ar P f args d:=dC hf hn hp h hd
theorem sO(h:A:=by((try simp only[oo,reduceCtorEq]at*)<;>omega)):A:=h
theorem zo(h:A:=by omega):A:=h
theorem zs(h:A:=by simp):A:=h
theorem zd(h:A:=by(dsimp only;omega)):A:=h
theorem zc(h:A:=by decide):A:=h
theorem sW(b:B)(e:B->A:=by(intro h;((conv=>whnf);repeat(refine⟨rfl,?_⟩;conv=>whnf));exact h)):A:=e b
theorem sR{f:WP}(b:B)(h:Rd P n p f:=by(focus (repeat' constructor)))(e:B->f Q env H:=by(intro h;((conv=>whnf);repeat(refine⟨rfl,?_⟩;conv=>whnf));exact h)):PWp P n p Q env H:=uK h<|e b
theorem sS{A' B':Prop}(a:c->A')(b:c=false->B')(e:c->A'->A:=by(intro h k;rw[h];((conv=>whnf);repeat(refine⟨rfl,?_⟩;conv=>whnf));exact k))(g:c=false->B'->B:=by(intro h k;rw[h];((conv=>whnf);repeat(refine⟨rfl,?_⟩;conv=>whnf));exact k)):ifK c A B:=ub (λh=>e h<|a h) λh=>g h<|b h
variable{K:D->Prop}{R:Prop}
theorem sC(t:ar P f args d)(b:B)(e:B->K d:=by(intro h;((conv=>whnf);repeat(refine⟨rfl,?_⟩;conv=>whnf));exact h)):(∃d,ar P f args d/\K d)\/R:=.inl ⟨d,t,e b⟩
variable{H2:aF}{X Y:Prop}
theorem sA{K:D->aF->Prop}(t:cp P f args H d H2)(b:B)(e:B->K d H2:=by(intro h;((conv=>whnf);repeat(refine⟨rfl,?_⟩;conv=>whnf));exact h)):X\/Y\/(true=true/\∃d H2,cp P f args H d H2/\K d H2)\/R:=.inr (.inr (.inl ⟨rfl,d,H2,t,e b⟩))
variable{L:List Nat}
theorem sE{K:D->aF->List Nat->Prop}{Z U:Prop}(t:pJ P f args H d H2 L)(b:B)(e:B->K d H2 L:=by(intro h;((conv=>whnf);repeat(refine⟨rfl,?_⟩;conv=>whnf));exact h)):X\/Y\/Z\/U\/(∃d H2 L,pJ P f args H d H2 L/\K d H2 L)\/R:=.inr (.inr (.inr (.inr (.inl ⟨d,H2,L,t,e b⟩))))
theorem sX{K:D->List Nat->Prop}{Z U V W:Prop}(t:Br P f args H d L)(b:B)(e:B->K d L:=by(intro h;((conv=>whnf);repeat(refine⟨rfl,?_⟩;conv=>whnf));exact h)):X\/Y\/Z\/U\/V\/W\/(∃d L,Br P f args H d L/\K d L):=.inr (.inr (.inr (.inr (.inr (.inr ⟨d,L,t,e b⟩)))))
theorem PG{l:fE}(h:l.length<=n):n4 H (List.drop 0<|List.take n l) l:=by rw[fQ,jd h];exact iX _
variable{args':bh}
theorem sN(t:ar P f args' d)(b:B)(h:jg H args args':=by(repeat' (first|exact Deep.refl _|exact Deep.none _|exact LG _|exact jg.nil|exact n4.nil|refine Deep.agg _ _ ?_|refine Deep.aI _ _ ?_|refine Deep.own _ _ _ _ _ _ _ _ rfl ?_|refine Deep.loc _ _ _ _ _ rfl ?_|refine Deep.ifc _ _ _ ?_|refine Deep.fn _ _ _ _ _ ?_ ?_|refine jg.cons _ _ _ _ ?_ ?_|refine n4.cons _ _ _ _ ?_ ?_|exact iX _|exact PG (by first|(simp;done)|(simp[aA];done)))))(r:Gq d:=by rfl)(e:B->K d:=by(intro h;((conv=>whnf);repeat(refine⟨rfl,?_⟩;conv=>whnf));exact h)):X\/(∃args' d,jg H args args'/\ar P f args' d/\Gq d/\K d)\/R:=.inr (.inl ⟨args',d,h,t,r,e b⟩)
theorem sV{Z U V:Prop}(t:ar P f args' d)(b:B)(h:jg H args args':=by(repeat' (first|exact Deep.refl _|exact Deep.none _|exact LG _|exact jg.nil|exact n4.nil|refine Deep.agg _ _ ?_|refine Deep.aI _ _ ?_|refine Deep.own _ _ _ _ _ _ _ _ rfl ?_|refine Deep.loc _ _ _ _ _ rfl ?_|refine Deep.ifc _ _ _ ?_|refine Deep.fn _ _ _ _ _ ?_ ?_|refine jg.cons _ _ _ _ ?_ ?_|refine n4.cons _ _ _ _ ?_ ?_|exact iX _|exact PG (by first|(simp;done)|(simp[aA];done)))))(e:B->K d:=by(intro h;((conv=>whnf);repeat(refine⟨rfl,?_⟩;conv=>whnf));exact h)):X\/Y\/Z\/U\/V\/(true=true/\∃args' d,jg H args args'/\ar P f args' d/\K d)\/R:=.inr (.inr (.inr (.inr (.inr (.inl ⟨rfl,args',d,h,t,e b⟩)))))
theorem sL{o:Option α}{a:α}{K:α->Prop}(t:o=some a)(b:B)(h:X:=by omega)(e:B->K a:=by(intro h;((conv=>whnf);repeat(refine⟨rfl,?_⟩;conv=>whnf));exact h)):X/\∃a,o=some a/\K a:=⟨h,a,t,e b⟩
variable{K:Prop}
theorem sJ(b:B)(h:A:=by(unfold je;simp only[ll];omega))(e:B->K:=by(intro h;((conv=>whnf);repeat(refine⟨rfl,?_⟩;conv=>whnf));exact h)):A/\K:=⟨h,e b⟩
theorem sI{k:IntKind}{z:Int}(b:B)(h:dQ k z:=by(unfold dQ;rw[gf];omega))(e:B->K:=by(intro h;((conv=>whnf);repeat(refine⟨rfl,?_⟩;conv=>whnf));exact h)):(dQ k z/\K)\/R:=.inl ⟨h,e b⟩
theorem sB(b:B)(h:X:=by omega)(g:Y:=by(first|omega|(simp;done)|(simp;omega)|(simp only[ll];omega)))(e:B->K:=by(intro h;((conv=>whnf);repeat(refine⟨rfl,?_⟩;conv=>whnf));exact h)):X/\Y/\K:=⟨h,g,e b⟩
theorem sP(h:A:=by(repeat' (first|exact Deep.refl _|exact Deep.none _|exact LG _|exact jg.nil|exact n4.nil|refine Deep.agg _ _ ?_|refine Deep.aI _ _ ?_|refine Deep.own _ _ _ _ _ _ _ _ rfl ?_|refine Deep.loc _ _ _ _ _ rfl ?_|refine Deep.ifc _ _ _ ?_|refine Deep.fn _ _ _ _ _ ?_ ?_|refine jg.cons _ _ _ _ ?_ ?_|refine n4.cons _ _ _ _ ?_ ?_|exact iX _))):A:=h
theorem sD(h:A:=by(repeat' (first|exact trivial|exact gS.none _|refine And.intro ?_ ?_|exact Or.inl rfl|exact Or.inr ⟨rfl,rfl⟩|exact λ_=>rfl|exact(λh=>by cases h)|refine gS.loc _ _ _ _ _ rfl rfl ?_|refine gS.own _ _ _ _ _ _ _ _ rfl rfl ?_|refine gS.fn _ _ _ _ _ ?_ ?_|refine gS.agg _ _ ?_|refine gS.aI _ _ ?_|refine gS.ifc _ _ _ ?_|exact gS.refl _|refine kZ.cons _ _ _ _ ?_ ?_|exact kZ.refl _|refine jJ.cons _ _ _ _ ?_ ?_|exact jJ.refl _|exact rfl))):A:=h
theorem sQ(h:A:=by(repeat' (first|exact trivial|exact rfl|exact gS.refl _|exact kZ.refl _|exact jJ.refl _|refine And.intro ?_ ?_|(simp[aq,au,bg,-List.map_take,-List.map_drop];done)))):A:=h
theorem sU(b:B)(e:B->A:=by(intro h;(repeat' (first|exact trivial|exact rfl|exact gS.refl _|exact kZ.refl _|exact jJ.refl _|refine And.intro ?_ ?_|(simp[aq,au,bg,-List.map_take,-List.map_drop];done)|exact h)))):A:=e b
theorem sK(h:A:=by(repeat' (first|exact trivial|refine And.intro rfl ?_))):A:=h
theorem c6(b:B)(e:B->A:=by(intro h;((conv=>whnf);repeat(refine⟨rfl,?_⟩;conv=>whnf));(apply uK;focus (repeat' constructor));((conv=>whnf);repeat(refine⟨rfl,?_⟩;conv=>whnf));exact h)):A:=e b
theorem bb(b:B)(e:B->A:=by(intro h;((conv=>whnf);repeat(refine⟨rfl,?_⟩;conv=>whnf));refine .inl ⟨by(clear h;unfold dQ;rw[gf];omega),?_⟩;((conv=>whnf);repeat(refine⟨rfl,?_⟩;conv=>whnf));exact h)):A:=e b
theorem bE(b:B)(e:B->A:=by(intro h;((conv=>whnf);repeat(refine⟨rfl,?_⟩;conv=>whnf));refine⟨by(clear h;omega),(by(clear h;first|omega|(simp;done)|(simp;omega)|(simp only[ll];omega))),?_⟩;((conv=>whnf);repeat(refine⟨rfl,?_⟩;conv=>whnf));exact h)):A:=e b
theorem sWJ(b:B)(e:B->A:=by(intro h;((conv=>whnf);repeat(refine⟨rfl,?_⟩;conv=>whnf));refine⟨by(clear h;unfold je;simp only[ll];omega),?_⟩;((conv=>whnf);repeat(refine⟨rfl,?_⟩;conv=>whnf));exact h)):A:=e b
theorem fA(b:B)(e:B->A:=by(intro h;refine⟨by(clear h;unfold je;simp only[ll];omega),?_⟩;((conv=>whnf);repeat(refine⟨rfl,?_⟩;conv=>whnf));refine .inl ⟨by(clear h;unfold dQ;rw[gf];omega),?_⟩;((conv=>whnf);repeat(refine⟨rfl,?_⟩;conv=>whnf));exact h)):A:=e b
theorem lh(b:B)(e:B->A:=by(intro h;((conv=>whnf);repeat(refine⟨rfl,?_⟩;conv=>whnf));refine⟨by(clear h;unfold je;simp only[ll];omega),?_⟩;((conv=>whnf);repeat(refine⟨rfl,?_⟩;conv=>whnf));refine .inl ⟨by(clear h;unfold dQ;rw[gf];omega),?_⟩;((conv=>whnf);repeat(refine⟨rfl,?_⟩;conv=>whnf));exact h)):A:=e b
theorem sIB(b:B)(e:B->A:=by(intro h;refine .inl ⟨by(clear h;unfold dQ;rw[gf];omega),?_⟩;((conv=>whnf);repeat(refine⟨rfl,?_⟩;conv=>whnf));refine⟨by(clear h;omega),(by(clear h;first|omega|(simp;done)|(simp;omega)|(simp only[ll];omega))),?_⟩;((conv=>whnf);repeat(refine⟨rfl,?_⟩;conv=>whnf));exact h)):A:=e b
variable{C:Prop}
theorem br(a:c->B)(b:c=false->C)(e:(c=true->B)->(c=false->C)->A:=by(intro h k;((conv=>whnf);repeat(refine⟨rfl,?_⟩;conv=>whnf));(apply uK;focus (repeat' constructor));((conv=>whnf);repeat(refine⟨rfl,?_⟩;conv=>whnf));exact ub (λq=>by(rw[q];((conv=>whnf);repeat(refine⟨rfl,?_⟩;conv=>whnf));exact h q)) λq=>by(rw[q];((conv=>whnf);repeat(refine⟨rfl,?_⟩;conv=>whnf));exact k q))):A:=e a b
theorem sRS(a:c->B)(b:c=false->C)(e:(c=true->B)->(c=false->C)->A:=by(intro h k;(apply uK;focus (repeat' constructor));((conv=>whnf);repeat(refine⟨rfl,?_⟩;conv=>whnf));exact ub (λq=>by(rw[q];((conv=>whnf);repeat(refine⟨rfl,?_⟩;conv=>whnf));exact h q)) λq=>by(rw[q];((conv=>whnf);repeat(refine⟨rfl,?_⟩;conv=>whnf));exact k q))):A:=e a b
theorem sWS(a:c->B)(b:c=false->C)(e:(c=true->B)->(c=false->C)->A:=by(intro h k;((conv=>whnf);repeat(refine⟨rfl,?_⟩;conv=>whnf));exact ub (λq=>by(rw[q];((conv=>whnf);repeat(refine⟨rfl,?_⟩;conv=>whnf));exact h q)) λq=>by(rw[q];((conv=>whnf);repeat(refine⟨rfl,?_⟩;conv=>whnf));exact k q))):A:=e a b
theorem eC(b:B)(e:B->A:=by(intro h;((conv=>whnf);repeat(refine⟨rfl,?_⟩;conv=>whnf));exact⟨by(clear h;omega),by exact sK,rfl,h⟩)):A:=e b
theorem fZ {P : Program} {f : FuncId} {n : Nat} {rs : List RV} {p : PC} {fn : Func} (h : P.funcs[f]? = some fn := by (conv=>lhs;whnf)) (a : fn.ntmps = n := by (conv=>lhs;whnf)) (b : (fn.name == "runtime.NumGoroutine") = false := by kernel_rfl) (c : wO P fn.results.toList = some rs := by (conv=>lhs;reduce)) (d : fn.body.bind (comp P n) = some p := by (conv=>lhs;reduce;(try simp only [Int.reduceOfNat, Int.reduceNegSucc]))) (e : p.bare = p := by rfl) : ud P f n rs p := ⟨⟨fn, h, a, b, c, by rw [e]; exact d⟩⟩
theorem bL{w:WP}(b:B)(hf:ud P f n rs p:=by exact fZ)(g:Rd P n p w:=by(focus (repeat' constructor)))(e:B->w (Cv rs λr H=>Deep H r d) (params 0 args) []:=by(intro h;((conv=>whnf);repeat(refine⟨rfl,?_⟩;conv=>whnf));exact h))(hn:args.length<=n:=by simp)(hp:an args:=by simp[an,Pure])(hd:Pure d:=by simp[an,Pure]):ar P f args d:=bK hf (uK g<|e b) hn hp hd
mutual
def lens{H:Type}(L:Nat):DataW H->Prop
 | .lit (.string b)=>b.length<=L
 | .lit _=>True
 | .slice elems _=>elems.length<=L/\zq L elems
 | .agg parts=>zq L parts
 |_=>True
def zq{H:Type}(L:Nat):List (DataW H)->Prop
 |[]=>True
 |d::r=>lens L d/\zq L r
end
theorem Oy{H:Type}{L:Nat}:∀{l:List<|DataW H},zq L l->∀d∈l,lens L d
 |[],_,_,h=>by cases h
 |x::r,h,d,hd=>by
  simp only[zq] at h;rcases dZ.1 hd with rfl|hd
  ·exact h.1
  exact Oy h.2 d hd
mutual
inductive kH(P:bI)(L:Nat):bl->bh->Prop
 |bool (t:bl) (b:Bool) (ht:P.underlying t=some .bool):kH P L t [.sc (.bool b)]
 |int (t:bl) (k:IntKind) (n:Int) (ht:P.underlying t=some (.int k)) (h:k.min<=n/\n<=k.max):kH P L t [.sc (.int k n)]
 |str (t:bl) (s:aX) (ht:P.underlying t=some .string) (h:s.size<=140737488351232) (hL:L=0\/s.size<=L):kH P L t [.sc (.string s)]
 |slice (t e:bl) (xs:fE) (ht:P.underlying t=some (.slice e)) (hn:xs.length<=9223372036854775807/\xs.length*P.bytesOf e<=140737488351232) (hL:L=0\/xs.length<=L) (h:vu P L e xs):kH P L t [.aM (P.cellsOf e) xs]
 |struct (t:bl) (fs:Array Field) (cs:bh) (ht:P.underlying t=some (.struct fs)) (h:qf P L (fs.toList.map (·.type)) cs):kH P L t cs
inductive qf(P:bI)(L:Nat):List bl->bh->Prop
 |nil:qf P L [] []
 |cons (t:bl) (ts:List bl) (a b:bh) (h:kH P L t a) (k:qf P L ts b):qf P L (t::ts) (a++b)
inductive vu(P:bI)(L:Nat):bl->fE->Prop
 |nil (e:bl):vu P L e []
 |cons (e:bl) (x:bh) (r:fE) (h:kH P L e x) (k:vu P L e r):vu P L e (x::r)
end
abbrev OfT(P:bI):=kH P 0
abbrev OfTL(P:bI):=vu P 0
section
variable{P:bI}{L:Nat}{t:bl}{cs:bh}
variable{k:IntKind}
theorem of_int(ht:P.underlying t=some (.int k))(h:kH P L t cs):∃n,cs=[.sc (.int k n)]/\k.min<=n/\n<=k.max:=by
 cases h<;>simp_all
theorem zwO(ht:P.underlying t=some .string)(h:kH P L t cs):∃s:aX,cs=[.sc (.string s)]/\s.size<=140737488351232:=by
 cases h<;>simp_all
theorem Yr(ht:P.underlying t=some .string)(h:kH P L t cs):∃s:aX,cs=[.sc (.string s)]/\s.size<=9223372036854775807:=by
 obtain⟨s,e,h⟩:=zwO ht h;exact⟨s,e,by omega⟩
variable{e:bl}
theorem zry(ht:P.underlying t=some (.slice e))(h:kH P L t cs):∃xs,cs=[.aM (P.cellsOf e) xs]/\(xs.length<=9223372036854775807/\xs.length*P.bytesOf e<=140737488351232)/\vu P L e xs:=by
 cases h<;>simp_all
theorem of_slice(ht:P.underlying t=some (.slice e))(h:kH P L t cs):∃xs,cs=[.aM (P.cellsOf e) xs]/\xs.length<=9223372036854775807/\vu P L e xs:=by
 obtain⟨xs,e,h,k⟩:=zry ht h;exact⟨xs,e,h.1,k⟩
theorem of_struct{fs:Array Field}(ht:P.underlying t=some (.struct fs))(h:kH P L t cs):qf P L (fs.toList.map (·.type)) cs:=by
 cases h<;>simp_all
theorem A2(h:qf P L [] cs):cs=[]:=by cases h;rfl
variable{ts:List bl}
theorem ve(h:qf P L (t::ts) cs):∃a b,cs=a++b/\kH P L t a/\qf P L ts b:=by
 cases h with
 |cons t ts a b h k=>exact⟨a,b,rfl,h,k⟩
theorem pX(ht:P.underlying t=some (.int k))(h:qf P L (t::ts) cs):∃n b,cs=.sc (.int k n)::b/\(k.min<=n/\n<=k.max)/\qf P L ts b:=by
 obtain⟨a,b,rfl,ha,hb⟩:=ve h;obtain⟨n,rfl,hn⟩:=of_int ht ha;exact⟨n,b,rfl,hn,hb⟩
theorem Wq(ht:P.underlying t=some .string)(h:qf P L (t::ts) cs):∃(s:aX) (b:bh),cs=.sc (.string s)::b/\s.size<=9223372036854775807/\qf P L ts b:=by
 obtain⟨a,b,rfl,ha,hb⟩:=ve h;obtain⟨n,rfl,hn⟩:=Yr ht ha;exact⟨n,b,rfl,hn,hb⟩
theorem R1(ht:P.underlying t=some (.slice e))(h:qf P L (t::ts) cs):∃xs b,cs=.aM (P.cellsOf e) xs::b/\xs.length<=9223372036854775807/\vu P L e xs/\qf P L ts b:=by
 obtain⟨a,b,rfl,ha,hb⟩:=ve h;obtain⟨n,rfl,h1,h2⟩:=of_slice ht ha;exact⟨n,b,rfl,h1,h2,hb⟩
end
def EZ(P:bI):List Field->Nat->Nat->Bool
 |[],o,n=>o==n
 |f::r,o,n=>f.offset==o&&EZ P r (o+P.cellsOf f.type) n
def Fq(P:bI)(S:List bl):Bool:=S.all λt=>match P.underlying t with
 |some .bool|some .string=>true
 |some (.int _)=>true
 |some (.slice e)=>S.contains e&&decide (0<P.cellsOf e)
 |some (.struct fs)=>EZ P fs.toList 0 (P.cellsOf t)&&fs.toList.all λf=>S.contains f.type
 |_=>false
section
variable{P:bI}
theorem SN{L:Nat}{e:bl}:∀{xs:fE},(∀x∈xs,kH P L e x)->vu P L e xs
 |[],_=>.nil e
 |x::r,h=>.cons e x r (h x<|by simp)<|SN λy hy=>h y<|by simp[hy]
theorem Xb{L:Nat}{e:bl}:∀{xs:fE},vu P L e xs->∀x∈xs,kH P L e x
 |_,.nil _,x,h=>by cases h
 |_,.cons _ y r h k,x,hx=>by
  rcases dZ.1 hx with rfl|hx
  ·exact h
  exact Xb k x hx
variable{H:Type}{enc:bl×aP->H}{W:ba}{spare:ay}{held:Bool}
def rK(W:ba):Nat->Prop:=λb=>b<W.heap.size
theorem W2{L:Nat}{cs:List aP}{N:Nat}(hl:cs.length=N):∀(l:List Field) (o:Nat),EZ P l o N=true ->
  (∀f∈l,∃ds,kH P L f.type ds/\bB jP (rK W) W ds ((cs.drop f.offset).take<|P.cellsOf f.type)/\(∀v∈(cs.drop f.offset).take (P.cellsOf f.type),gE v)) ->
  ∃ds,qf P L (l.map (·.type)) ds/\bB jP (rK W) W ds (cs.drop o)/\∀v∈cs.drop o,gE v=true
 |[],o,ho,_=>by
  simp only[EZ,gG] at ho;refine⟨[],.nil,?_,?_⟩
  ·simp only[bB];exact Ci<|by omega
  rw[Ci<|by omega];intro v hv;cases hv
 |f::r,o,ho,h=>by
  simp only[EZ,fY,gG] at ho;obtain⟨Om,JY⟩:=ho;obtain⟨a,h1,h2,h3⟩:=h f (by simp);obtain⟨b,k1,k2,k3⟩:=W2 hl r (o+P.cellsOf f.type) JY λg hg=>h g (by simp[hg]);rw[Om] at h2 h3;have e:cs.drop o=(cs.drop o).take (P.cellsOf f.type)++cs.drop (o+P.cellsOf f.type):=by
   rw[<-List.drop_drop,List.take_append_drop]
  refine⟨a++b,.cons _ _ _ _ h1 k1,?_,?_⟩
  ·rw[e];exact Gu h2 k2
  intro v hv;rw[e] at hv;rcases dt.1 hv with hv|hv
  ·exact h3 v hv
  exact k3 v hv
theorem Sf{e:bl}:∀{ds:List<|DataW H} {d:DataW H},d∈ds->∀n∈d.weights P e,n∈DataW.weightsAll P e ds
 |d0::ds,d,hd,n,hn=>by
  simp only[DataW.weightsAll,dt];rcases dZ.1 hd with rfl|hd
  ·exact .inl hn
  exact .inr<|Sf hd n hn
 |[],_,hd,_,_=>by cases hd
variable{L:Nat}{S:List bl}
theorem zq6(hS:Fq P S):∀(fuel:Nat) (t:bl) (cs:List aP) (x:DataW H×List MemPlace),t∈S->DataW.trod enc P W 0 spare held fuel t cs=some x->(∀n∈x.1.weights P t,n<=reachBytes)->(L=0\/lens L x.1) ->
  ∃ds,kH P L t ds/\bB jP (rK W) W ds cs/\∀v∈cs,gE v:=by
 intro fuel
 induction fuel using Nat.strongRecOn with
 |ind fuel ih =>
  intro t cs x ht h hz hL;have hT:=ki.1 hS t ht;split at hT
  ·rename_i hu;obtain⟨b,rfl,_⟩:=DataW.trod_bool hu h;exact⟨_,.bool t b hu,by simp[bB,rep],by simp[gE]⟩
  ·rename_i hu;obtain⟨s,rfl,hx,hs⟩:=DataW.trod_string hu h;subst hx;have hw:=hz s.size (by simp[DataW.weights]);exact⟨_,.str t s hu (by unfold reachBytes at hw;omega) (hL.imp_right λq=>by
    simp only[lens] at q;have e:s.data.toList.length=s.size:=(by rw[Array.length_toList];rfl);omega),by simp[bB,rep],by simp[gE]⟩
  ·rename_i k hu;obtain⟨n,rfl,_,hw⟩:=DataW.trod_int hu h;simp only[Lit.wf,fY,ja] at hw;exact⟨_,.int t k n hu hw,by simp[bB,rep],by simp[gE]⟩
  ·rename_i e hu;simp only[fY,po,ja] at hT;obtain⟨he,l5⟩:=hT;rcases DataW.trod_slice hu h with⟨rfl,_⟩|⟨a,len,cap,elems,rest,n',fk,rfl,hx,_,hl,hm,FI,gb,_,_⟩
   ·refine⟨_,.slice t e [] hu (by simp) (.inr<|jr _) (.nil e),?_,by simp[gE]⟩;simp only[bB,rep];exact⟨_,_,rfl,⟨none,0,0,rfl,rfl,aT _,.inl rfl⟩,rfl⟩
   have Oj:x.1=.slice (elems.map (·.1)) (rest.map (·.1)):=(by rw[hx]);rw[Oj] at hz hL;have Jk:L=0\/(elems.length<=L/\∀d∈elems.map (·.1),lens L d):=hL.imp_right λq=>by
    simp only[lens,aK] at q;exact⟨q.1,Oy q.2⟩
   have hw:=hz ((elems.length+rest.length)*P.bytesOf e) (by simp[DataW.weights,hu]);have Yh:∀d∈elems.map (·.1),∀n∈d.weights P e,n<=reachBytes:=λd hd n hn=>hz n (by
    have:=Sf hd n hn;simp[DataW.weights,hu,this])
   have each:∀i,i<len->∃ds,kH P L e ds/\ds.length=P.cellsOf e/\(∀j c,ds[j]? = some c->∃u,W.cell? ((a.add<|i*P.cellsOf e).add j)=some u/\gE u/\rep jP (rK W) W c u):=λi hi=>by
    have aW:=gb i hi;rw[aJ<|by omega] at aW;obtain⟨gH,M3,w8⟩:=Option.bind_eq_some_iff.1 aW;obtain⟨ds,q1,q2,q3⟩:=ih n' (by omega) e gH _ he w8 (Yh _<|List.mem_map_of_mem<|ib _)<|Jk.imp_right λq=>q.2 _<|List.mem_map_of_mem<|ib _;obtain⟨_,gw,hc⟩:=World.cells?_some M3;have hlen:=nh _ _ q2;refine⟨ds,q1,by omega,λj c hj=>?_⟩;have uI:j<ds.length:=by
     rcases dY j ds.length with q|q
     ·exact q
     rw[cY q] at hj;cases hj
    obtain⟨v,k1,k2⟩:=rN _ _ j c hj q2;exact⟨v,by rw[hc j<|by omega];exact k1,q3 v<|nB k1,k2⟩
   obtain⟨R,hR⟩:∃R:Nat->bh,∀i,i<len->kH P L e (R i)/\(R i).length=P.cellsOf e/\(∀j c,(R i)[j]? = some c->∃u,W.cell? ((a.add (i*P.cellsOf e)).add j)=some u/\gE u/\rep jP (rK W) W c u):=by
    refine⟨λi=>if h:i<len then Classical.choose<|each i h else [],λi hi=>?_⟩;simp only[dif_pos hi];exact Classical.choose_spec<|each i hi
   refine⟨_,.slice t e ((List.range len).map R) hu (by
    rw[aK,List.length_range];refine⟨by unfold maxLen at hm;omega,iv (tl _ ?_) hw⟩;omega) (Jk.imp_right λq=>by
     rw[aK,List.length_range];omega) (SN λx hx=>?_),?_,by simp[gE]⟩
   ·obtain⟨i,hi,rfl⟩:=dq.1 hx;exact(hR i<|fX.1 hi).1
   simp only[bB,rep];refine⟨_,_,rfl,⟨some a,len,cap,rfl,by simp,hl,?_⟩,rfl⟩;rcases xp len with h0|h0
   ·exact .inl h0
   refine .inr ?_;obtain⟨_,g2,g3⟩:=hR 0 h0;obtain⟨u,hu,_⟩:=g3 0 _<|aJ (by omega);obtain⟨b,o,sp⟩:=a;have xO:sp=none:=by
    simp only[Addr.add,World.cell?] at hu;split at hu
    ·cases sp with
     |none=>rfl
     |some q=>simp at hu
    cases hu
   subst xO;rw[oa,oa] at hu;have hb:b<W.heap.size:=World.block_lt_of_cell? _ _ hu;refine⟨b,o,rfl,hb,vg _ o λi x hx=>?_⟩;have hi:i<len:=by
    rcases dY i len with q|q
    ·exact q
    rw[cY<|by simpa using q] at hx;cases hx
   rw[cU,qI hi] at hx;simp at hx;subst hx;obtain⟨_,w2,w3⟩:=hR i hi;exact⟨w2,rv _ _ λj c hc=>by
    have:=w3 j c hc;rwa [oa,oa] at this⟩
  ·rename_i fs hu;simp only[fY] at hT;obtain⟨ho,hf⟩:=hT;obtain⟨ys,n,hn,hx,hlen,hyl,pq⟩:=DataW.trod_struct hu h;have Oj:x.1=.agg (ys.map (·.1)):=(by rw[hx]);rw[Oj] at hz hL;obtain⟨ds,k1,k2,k3⟩:=W2 (P:=P) (W:=W) (L:=L) hlen fs.toList 0 ho λf j8=>by
    obtain⟨i,hi,rfl⟩:=jN.1 j8;have aW:i<fs.size:=(by simpa using hi);have hg:=pq i _<|rF aW;rw[aJ<|by omega] at hg;have bp:(fs[i]).type∈S:=by
     have:=ki.1 hf _ j8;simpa using this
    have e:fs.toList[i]=fs[i]:=(by simp);rw[e];refine ih n (by omega) _ _ _ bp hg (λm hm=>hz m ?_) (hL.imp_right λq=>by
     simp only[lens] at q;exact Oy q _<|List.mem_map_of_mem<|ib _)
    have ZC:=DataW.weights_mem_each (P:=P) (ts:=fs.toList.map (·.type)) (ds:=ys.map (·.1)) (j:=i) (t:=(fs[i]).type) (d:=(ys[i]'(by omega)).1) (by rw[cU,E4,rF aW];rfl) (by rw[cU,aJ<|by omega];rfl) m hm;simpa [DataW.weights,hu] using ZC
   rw[fQ] at k2 k3;exact⟨ds,.struct t fs ds hu k1,k2,k3⟩
  cases hT
theorem XC(hS:Fq P S){t:bl}(ht:t∈S){v:aP}{d:DataW H}{ps:List MemPlace}(h:DataW.Trod enc P W 0 spare held t v d ps)(hz:∀n∈d.weights P t,n<=reachBytes)(hL:L=0\/lens L d):∃ds,kH P L t ds/\bB jP (rK W) W ds v.cells.toList/\∀u∈v.cells.toList,gE u:=by
 obtain⟨fuel,hf⟩:=h;exact zq6 hS fuel t _ _ ht hf hz hL
theorem Zo{cs:bh}{xs:Array aP}(h:bB jP (rK W) W cs (Value.agg xs).cells.toList):rep jP (rK W) W (.agg cs) (.agg xs):=by
 simp only[rep];exact⟨xs.toList,by simp,h⟩
end
section
open Go.ChangeShapes Go.WideShapes Go.ChangeAt Go.RowKit Go.Deep
def BP(P:bI)(L:Nat)(t:bl)(d:D):Prop:=match P.underlying t with
 |some (.struct _)=>∃cs,d=.agg cs/\kH P L t cs
 |_=>kH P L t [d]
def NK(P:bI)(L:Nat):List bl->bh->Prop
 |[],[]=>True
 |t::ts,d::ds=>BP P L t d/\NK P L ts ds
 |_,_=>False
abbrev OfA(P:bI):=BP P 0
abbrev OfAs(P:bI):=NK P 0
section
variable{H:Type}{enc:bl×aP->H}{P:bI}{W:ba}
theorem Yt{L:Nat}{t:bl}{ds:bh}(hu:∀fs,P.underlying t≠some (.struct fs))(h:kH P L t ds):∃d,ds=[d]:=by
 cases h with
 |struct=>rename_i ht _;exact absurd ht<|hu _
 |_=>exact⟨_,rfl⟩
theorem P5{L:Nat}{S:List bl}(hS:Fq P S){base:Nat}:∀(ts:List bl) (vs:List aP) (ds:List<|DataW H) (ps:List MemPlace),(∀t∈ts,t∈S)->(∀(j:Nat) (t:bl) (v:aP),ts[j]? = some t->vs[j]? = some v->Value.okWide P W .any base t v) ->
  DataW.TrodAll enc P W 0 (λ_=>true) true ts vs ds ps->(∀n∈DataW.weightsEach P ts ds,n<=reachBytes)->(L=0\/zq L ds)->∃Ds,NK P L ts Ds/\bB jP (rK W) W Ds vs
 |[],[],[],_,_,_,_,_,_=>⟨[],trivial,by simp only[bB]⟩
 |t::ts,v::vs,d::ds,ps,ko,BI,h,hz,hL=>by
  obtain⟨p,q,h1,h2,_⟩:=h;obtain⟨cs,k1,k2,k3⟩:=XC hS (ko t<|by simp) h1 (λn hn=>hz n<|by simp[DataW.weightsEach,hn]) (hL.imp_right λq=>by simp only[zq] at q;exact q.1);obtain⟨Ds,g1,g2⟩:=P5 hS ts vs ds q (λu hu=>ko u<|by simp[hu]) (λj u x hj hx=>BI (j+1) u x (by simpa using hj)<|by simpa using hx) h2 (λn hn=>hz n<|by simp[DataW.weightsEach,hn]) (hL.imp_right λq=>by simp only[zq] at q;exact q.2);have hv:=BI 0 t v rfl rfl;have one:∃c,BP P L t c/\rep jP (rK W) W c v:=by
   unfold BP;split
   ·rename_i fs hu;obtain⟨xs,rfl,_⟩:=okWide_struct hu hv;exact⟨_,⟨cs,rfl,k1⟩,Zo k2⟩
   rename_i hu;obtain⟨c,rfl⟩:=Yt hu k1;have h1v:v.cells.toList=[v]:=by
    have hlen:=nh _ _ k2
    cases v with
    |agg xs =>
     exfalso;have hT:=ki.1 hS t<|ko t (by simp);unfold Value.okWide at hv;split at hT
     ·rename_i e;rw[e] at hv;simp[Cell.okWide,Cell.ok,e] at hv
     ·rename_i e;rw[e] at hv;simp[Cell.okWide,Cell.ok,e] at hv
     ·rename_i e;rw[e] at hv;simp[Cell.okWide,Cell.ok,e] at hv
     ·rename_i e;rw[e] at hv;simp[Cell.okWide,Cell.ok,e] at hv
     ·rename_i fs e;exact hu fs e
     cases hT
    |_=>rfl
   refine⟨c,k1,?_⟩;rw[h1v] at k2;simp only[bB] at k2;obtain⟨u,us,e,k,_⟩:=k2;simp at e;rw[e.1];exact k
  obtain⟨c,c1,c2⟩:=one;exact⟨c::Ds,⟨c1,g1⟩,by simp only[bB];exact⟨v,vs,rfl,c2,g2⟩⟩
 |[],_::_,_,_,_,_,h,_,_=>by simp[DataW.TrodAll] at h
 |[],[],_::_,_,_,_,h,_,_=>by simp[DataW.TrodAll] at h
 |_::_,[],_,_,_,_,h,_,_=>by simp[DataW.TrodAll] at h
 |_::_,_::_,[],_,_,_,h,_,_=>by simp[DataW.TrodAll] at h
theorem zvk{S:List bl}(hS:Fq P S){base:Nat}(ts:List bl)(vs:List aP)(ds:List<|DataW H)(ps:List MemPlace)(h1:∀t∈ts,t∈S)(h2:∀(j:Nat) (t:bl) (v:aP),ts[j]? = some t->vs[j]? = some v->Value.okWide P W .any base t v)
  (h3:DataW.TrodAll enc P W 0 (λ_=>true) true ts vs ds ps) (h4:∀n∈DataW.weightsEach P ts ds,n<=reachBytes):∃Ds,OfAs P ts Ds/\bB jP (rK W) W Ds vs:=P5 hS ts vs ds ps h1 h2 h3 h4 (.inl rfl)
theorem SR:∀(ts Kx:List bl) (ds LZ:List<|DataW H),ts.length=ds.length->∀n∈DataW.weightsEach P ts ds,n∈DataW.weightsEach P (ts++Kx) (ds++LZ)
 |[],_,[],_,_,n,hn=>by simp[DataW.weightsEach] at hn
 |t::ts,Kx,d::ds,LZ,hl,n,hn=>by
  simp only[ov,DataW.weightsEach,dt] at hn⊢;exact hn.imp_right (SR ts Kx ds LZ (by simpa using hl) n)
theorem Wk(hl:laidOutB P){W':ba}{sp:ay}(hb:Below W.heap.size W W'):∀(ts:List bl) (vs:List aP) (ds:List<|DataW H) (ps:List MemPlace),(∀t∈ts,P.readableRec t/\t<P.types.size) ->
  (∀x∈ps,x.block<W.heap.size)->(∀x∈ps,sp x.block)->DataW.TrodAll enc P W 0 (λ_=>true) true ts vs ds ps->DataW.TrodAll enc P W' 0 sp true ts vs ds ps
 |[],[],[],_,_,_,_,h=>h
 |t::ts,v::vs,d::ds,ps,ko,ck,xO,h=>by
  obtain⟨p,q,h1,h2,rfl⟩:=h;refine⟨p,q,WideElems.Trod_stays hl (ko t<|by simp).1 (ko t<|by simp).2 h1 (λx hx=>hb.same<|ck x<|by simp[hx]) λx hx=>xO x<|by simp[hx],Wk hl hb ts vs ds q (λu hu=>ko u<|by simp[hu]) (λx hx=>ck x<|by simp[hx]) (λx hx=>xO x<|by simp[hx]) h2,rfl⟩
 |[],_::_,_,_,_,_,_,h=>by simp[DataW.TrodAll] at h
 |[],[],_::_,_,_,_,_,h=>by simp[DataW.TrodAll] at h
 |_::_,[],_,_,_,_,_,h=>by simp[DataW.TrodAll] at h
 |_::_,_::_,[],_,_,_,_,h=>by simp[DataW.TrodAll] at h
theorem KE{sp:ay}{hd:Bool}{b:Nat}:∀(ts:List bl) (vs:List aP) (ds:List<|DataW H) (ps:List MemPlace),DataW.TrodAll enc P W b sp hd ts vs ds ps->ds.length=ts.length
 |[],[],[],_,_=>rfl
 |t::ts,v::vs,d::ds,ps,h=>by
  obtain⟨p,q,_,h2,_⟩:=h;simp[KE ts vs ds q h2]
 |[],_::_,_,_,h=>by simp[DataW.TrodAll] at h
 |[],[],_::_,_,h=>by simp[DataW.TrodAll] at h
 |_::_,[],_,_,h=>by simp[DataW.TrodAll] at h
 |_::_,_::_,[],_,h=>by simp[DataW.TrodAll] at h
theorem zkr{F':Nat->Prop}{W':ba}(h:Ext jP (rK W) W jP F' W'):Below W.heap.size W W':=⟨h.os,h.tape,h.output,h.size,λk hk=>h.block k hk<|p' k⟩
theorem zuw{f:Func}{s:ChangeSpec}{apart fresh handsOn again:Bool}{W':ba}{args:Array aP}{ds gs:List<|DataW H}{before:List MemPlace}{tb:bl}
  (hW:DataW.Whole enc P f.params.toList s.vars apart W args.toList ds gs before) (P0:s.vars=[]) (mf:f.resultTypes=#[tb]) (htb:P.underlying tb=some .bool)
  (hl:laidOutB P) (hr:∀t∈f.params.toList,P.readableRec t/\t<P.types.size)
  (hs:∀ds:List<|DataW H,ds.length=f.params.toList.length->s.fn H ds={ results:=[.lit (.bool true)],args:=ds })
  (hb:Below W.heap.size W W') (aC:∀(j:Nat) (t:bl) (r:aP),f.resultTypes[j]? = some t->((Value.bool true).resultList f.resultTypes.size)[j]? = some r->Value.okWide P W' .any 0 t r) :
  s.post enc P f apart fresh handsOn again W args (.bool true) W':=by
 have ck:∀p∈before,p.block<W.heap.size:=λp hp=>hW.lt p hp;have hold:∀p∈before,(λb=>decide (b<W.heap.size)) p.block=true:=λp hp=>by simpa using ck p hp
 obtain⟨pa,pv,hA,hV,rR,hz,hn⟩:=id hW;rw[P0] at hV;have Zd:gs=[]/\pv=[]:=by
  cases gs with
  |nil=>exact⟨rfl,hV⟩
  |cons _ _=>simp[DataW.TrodVars] at hV
 obtain⟨rfl,rfl⟩:=Zd;simp only[kM] at rR;subst rR;have MD:=hs ds<|KE _ _ _ _ hA;have zME:((Value.bool true).resultList f.resultTypes.size)=[.bool true]:=by rw[mf];rfl
 have TU:∀(b:Nat) (sp:ay) (hd:Bool),DataW.TrodAll enc P W' b sp hd f.resultTypes.toList ((Value.bool true).resultList f.resultTypes.size) (s.fn H<|ds++[]).results []:=λb sp hd=>by
  rw[kM,MD,mf];exact trodAll_cons_mk (shut_bool htb _) trodAll_mk0
 have iH:∀sp:Nat->Bool,(∀p∈before,sp p.block)->DataW.TrodAll enc P W' 0 sp true f.params.toList args.toList (s.fn H<|ds++[]).args before:=λsp xO=>by
  rw[kM,MD];exact Wk hl hb _ _ _ _ hr ck xO hA
 have Sz:∀sp:Nat->Bool,DataW.TrodVars enc P W' sp s.vars (s.fn H<|ds++[]).vars []:=λsp=>by
  rw[kM,MD,P0];rfl
 refine⟨ds,[],before,[],before,[],hW,TU _ _ _,iH _ hold,Sz _,World.keptBut_mono (λp hp=>⟨hp,Or.inr<|Or.inl hp⟩) (hb.frame (·∈before)),λ_=>?_⟩;refine⟨aC,_,_,([]++before)++[],⟨[]++before,[],trodAll_append (iH _ λ_ _=>rfl)<|TU _ _ _,Sz _,rfl,?_,?_⟩,?_⟩
 ·intro b off hp;have bp:MemPlace.cell b off∈before:=(by simpa using hp);rw[hb.frozen<|ck _ bp];exact hz b off bp
 ·intro ha;have:=hn ha;simpa using this
 intro p hp _;simpa using hp
end
end
noncomputable abbrev ai : Program := Tryz.prog
variable(n:Int)
theorem yA(k n:Int):Small<|cv k n:=.mk _ (by simp[cv,Tree.width,Tree.kids]) λj hj=>by simp[cv,Tree.width,Tree.kids] at hj
variable{k:Int}
theorem tX(h:Small a):Small<|bO k a:=.mk _ (by simp[bO,Tree.width,Tree.kids]) λj hj=>by
 simp[bO,Tree.width,Tree.kids] at hj;subst hj;exact h
theorem y5(h:Small a)(h':Small b):Small<|cX k a b:=.mk _ (by simp[cX,Tree.width,Tree.kids]) λj hj=>by
 simp[cX,Tree.width,Tree.kids] at hj
 match j with
 |0=>exact h
 |1=>exact h'
theorem Dg(p:Prop) [Decidable p] (h:Small a) (k:Small b):Small<|if p then a else b:=by split<;>assumption
variable(k:Int)
theorem V2(a b:Tree):ar ai 264 [aa k,aY a,aY b]<|aY<|cX k a b:=by
 refine bL ?_;exact sP
theorem oc(a:Tree):ar ai 149 [aa k,aY a]<|aY<|bO k a:=by
 refine bL ?_;exact sP
theorem vB(a b:Tree):ar ai 150 [aa k,aY a,aY b]<|aY<|cX k a b:=by
 refine bL ?_;exact sP
theorem BH(a:Tree):ar ai 204 [aa k,aY a]<|aY<|bO k a:=by
 refine bL ?_;exact sP
theorem JB(a b:Tree):ar ai 200 [aa k,aY a,aY b]<|aY<|cX k a b:=by
 refine bL ?_;exact sP
theorem Ag(a:Tree):ar ai 185 [aa k,aY a]<|aY<|bO k a:=by
 refine bL ?_;exact sP
theorem MX(a b:Tree):ar ai 256 [aa k,aY a,aY b]<|aY<|cX k a b:=by
 refine bL ?_;exact sP
theorem Xo:ar ai 265 [aa k]<|aY<|cv k 0:=by
 refine bL ?_;exact sP
theorem Mo(k n:Int):ar ai 151 [aa k,aa n]<|aY<|cv k n:=by
 refine bL ?_;exact sP
theorem wz:ar ai 182 [aa n]<|aY<|cv 3 n:=by
 refine bL ?_;exact sP
theorem NY:ar ai 203 [aa n]<|aY<|cv 3 n:=by
 refine bL ?_;exact sP
theorem yc:ar ai 230 [aa n]<|aY<|cv 3 n:=by
 refine bL ?_;refine sC (Mo 3 n) ?_;exact sP
variable(a:Tree)
theorem BR:ar ai 78 [aY a]<|aY<|bO 4 a:=by
 refine bL ?_;refine sC (oc 4 a) ?_;exact sP
variable(b:Tree)
theorem yG:ar ai 232 [aY a,aY b]<|aY<|cX 5 a b:=by
 refine bL ?_;refine sC (vB 5 a b) ?_;exact sP
theorem Cx:ar ai 229 [aY a,aY b]<|aY<|cX 6 a b:=by
 refine bL ?_;refine sC (vB 6 a b) ?_;exact sP
theorem Ji:ar ai 197 [aY a]<|aY<|bO 4 a:=by
 refine bL ?_;refine sC (BH 4 a) ?_;exact sP
theorem JE:ar ai 198 [aY a]<|aY<|bO 10 a:=by
 refine bL ?_;refine sC (BH 10 a) ?_;exact sP
theorem NO:ar ai 195 [aY a]<|aY<|bO 11 a:=by
 refine bL ?_;refine sC (BH 11 a) ?_;exact sP
theorem N':ar ai 202 [aY a,aY b]<|aY<|cX 5 a b:=by
 refine bL ?_;refine sC (JB 5 a b) ?_;exact sP
theorem ML:ar ai 196 [aY a,aY b]<|aY<|cX 6 a b:=by
 refine bL ?_;refine sC (JB 6 a b) ?_;exact sP
theorem zK:ar ai 183 [aY a]<|aY<|bO 4 a:=by
 refine bL ?_;refine sC (Ag 4 a) ?_;exact sP
theorem GW:ar ai 187 [aY a]<|aY<|bO 11 a:=by
 refine bL ?_;refine sC (Ag 11 a) ?_;exact sP
theorem DP:ar ai 189 [aY a,aY b]<|aY<|cX 5 a b:=by
 refine bL ?_;refine sC (MX 5 a b) ?_;exact sP
theorem zJ:ar ai 184 [aY a,aY b]<|aY<|cX 6 a b:=by
 refine bL ?_;refine sC (MX 6 a b) ?_;exact sP
theorem CF:ar ai 188 [aY a,aY b]<|aY<|cX 8 a b:=by
 refine bL ?_;refine sC (MX 8 a b) ?_;exact sP

def ix(l:ah):D:=.aM 1<|l.map λn=>[.sc (.int .u64 n)]
@[simp] theorem vT:Pure<|ix l:=by
 simp only[ix,Pure];exact db _ (λn=>by simp[an,Pure]) l
section
open Go.RowKit Go.ChangeShapes Go.WideShapes Go.ChangeAt
def sT(l:ah):Prop:=∀x∈l,0<=x/\x<18446744073709551616
theorem Vc{t:bl}(ht:P.underlying t=some (.int .i64))(h:OfA P t d):∃i:Int,d=aa i/\-9223372036854775808<=i/\i<=9223372036854775807:=by
 unfold OfA BP at h;rw[ht] at h;obtain⟨n,e,h1,h2⟩:=of_int ht h;cases e;refine⟨n,rfl,?_⟩;simp[IntKind.min,IntKind.max,IntKind.signed,IntKind.bits] at h1 h2;omega
end
def oh(x n:Int):Bool:=(x.fdiv<|2^min n.toNat 64).tmod 2==1
theorem zxf{y:Int}(h:0<=y)(h':y<18446744073709551616):jv .and .u64 y 1=y.tmod 2:=by
 obtain⟨n,rfl⟩:∃n:Nat,y=n:=⟨y.toNat,zo⟩;have e:(BitVec.ofInt 64 (n:Int) &&& BitVec.ofInt 64 1).toNat=n%2:=by
  rw[BitVec.toNat_and];have e1:(BitVec.ofInt 64 (n:Int)).toNat=n:=(by rw[BitVec.toNat_ofInt];omega);have e2:(BitVec.ofInt 64 1).toNat=1:=zc;rw[e1,e2,Nat.and_one_is_mod]
 show IntKind.u64.wrap ((BitVec.ofInt 64 (n:Int) &&& BitVec.ofInt 64 1).toNat:Int)=_;rw[e,show((n:Int).tmod 2)=((n%2:Nat):Int) from(Int.ofNat_tmod n 2).symm];unfold IntKind.wrap;simp[IntKind.bits,IntKind.signed];omega
theorem zoS{x:Int}(h:0<=x)(h':x<18446744073709551616)(k:Nat):0<=x.fdiv (2^k)/\x.fdiv (2^k)<18446744073709551616:=by
 have hp:(0:Int)<2^k:=Int.pow_pos zc;rw[Int.fdiv_eq_ediv_of_nonneg _ zo];exact⟨Int.ediv_nonneg h zo,Int.lt_of_le_of_lt (Int.ediv_le_self _ h) h'⟩
def uk(k a b c:Int):D:=.agg [aa k,aa a,aa b,aa c]
variable(a b c:Int)
@[simp] theorem zxS:Pure<|uk k a b c:=by simp[uk,Pure,an]
def jT(k a b c:Int):Int :=
 if k<1\/14<k\/a<0\/62<a\/b<0\/62<b\/(k<=4/\b≠0) then 1
 else if (k<=3/\(c<1\/3<c))\/(3<k/\c≠0) then 1 else 0
theorem zmF:ar ai 171 [aa k]<|aD<|decide (1<=k)&&decide (k<=3):=by
 refine bL ?_;repeat' (first|refine sS (λh=>?_) λh=>?_|exact cd<|by simp_all)
theorem L9:ar ai 97 [uk k a b c]<|aa<|jT k a b c:=by
 refine bL ?_
 repeat' (first
  |refine sS (λh=>?_) λh=>?_
  |refine sC (zmF k) ?_
  |exact cd (by unfold jT;congr 2;(repeat' split)<;>first|rfl|exact sO))
theorem SA:ar ai 52 [uk k a b c]<|aa<|jT k a b c:=by
 refine bL ?_
 repeat' (first
  |refine sS (λh=>?_) λh=>?_
  |exact cd (by unfold jT;congr 2;(repeat' split)<;>first|rfl|exact sO))
def gx(n:Int):Tree:=cX 5 (cv 3 n)<|bO 4<|cv 3 63
def nC(a:Int):Nat->Tree
 |0=>bO 10<|gx a
 |n+1=>bO 10<|cX 5 (gx a)<|bO 7<|nC a n
def FW(a b:Int):Tree:=bO 11<|cX 6 (bO 4<|gx a)<|bO 10<|gx b
def FM(a b:Int):Tree:=cX 6 (cX 8 (bO 4<|gx b)<|gx a)<|bO 11<|bO 4<|gx b
def tw(k a b c:Int):Tree :=
 if k=1 then nC a (c-1).toNat else if k=2 then bO 4<|nC a (c-1).toNat
 else if k=3 then cX 5 (nC a (c-1).toNat)<|bO 4<|nC a c.toNat
 else if k=4 then cX 6 (cX 8 (cv 3 63)<|gx a)<|bO 11<|cv 3 63
 else if k=5 then cX 6 (bO 10<|gx a)<|bO 10<|gx b
 else if k=6 then cX 6 (bO 4<|bO 10<|gx a)<|bO 10<|gx b
 else if k=7 then cX 5 (cX 6 (bO 4<|bO 10<|gx a)<|bO 10<|gx b)<|cX 6 (bO 4<|bO 10<|gx b)<|bO 10<|gx a
 else if k=13 then bO 4<|cX 5 (bO 10<|gx a)<|bO 10<|gx b
 else if k=8 then FW a b else if k=9 then FM a b else if k=10 then cX 5 (FW a b)<|FM a b
 else if k=11 then bO 11<|cX 6 (bO 4<|gx a)<|bO 7<|cX 8 (bO 4<|gx a)<|gx b
 else if k=12 then bO 11<|cX 6 (bO 4<|gx a)<|bO 7<|cX 8 (cv 3 63)<|gx b
 else bO 11<|cX 6 (bO 4<|gx a)<|bO 4<|bO 7<|bO 10<|gx b
theorem Hg:ar ai 192 [aa n]<|aY<|gx n:=by
 refine bL ?_;refine sC (NY n) ?_;refine sC (NY 63) ?_;refine sC (Ji<|cv 3 63) ?_;refine sC (N' (cv 3 n)<|bO 4<|cv 3 63) ?_;exact sP
theorem Q5:∀n:Nat,n<=3->ar ai 201 [aa a,aa<|n+1] (aY<|nC a n):=by
 intro n
 induction n with
 |zero =>
  intro _;refine bL ?_;refine sC (Hg a) ?_
  first|refine sC (JE<|gx a) ?_|refine sC (BH 10<|gx a) ?_
  exact sP
 |succ n ih =>
  intro hn;refine bL ?_;refine sC (Hg a) ?_;refine .inl ⟨by unfold dQ;rw[gf];omega,?_⟩;rw[show((n+1:Nat):Int)+1-1=(n:Int)+1 by omega];refine sW ?_;refine sC (ih zo) ?_;refine sC (BH 7<|nC a n) ?_;refine sC (N' (gx a)<|bO 7<|nC a n) ?_
  first|refine sC (JE<|cX 5 (gx a)<|bO 7<|nC a n) ?_|refine sC (BH 10<|cX 5 (gx a)<|bO 7<|nC a n) ?_
  exact sP
theorem MM:ar ai 234 [aa n]<|aY<|gx n:=by
 refine bL ?_;refine sC (yc n) ?_;refine sC (yc 63) ?_;refine sC (BR<|cv 3 63) ?_;refine sC (yG (cv 3 n)<|bO 4<|cv 3 63) ?_;exact sP
theorem WS:∀n:Nat,n<=3->ar ai 235 [aa a,aa<|n+1] (aY<|nC a n):=by
 intro n
 induction n with
 |zero =>
  intro _;refine bL ?_;refine sC (MM a) ?_
  first|refine sC (ref_some<|gx a) ?_|refine sC (oc 10<|gx a) ?_
  exact sP
 |succ n ih =>
  intro hn;refine bL ?_;refine sC (MM a) ?_;refine .inl ⟨by unfold dQ;rw[gf];omega,?_⟩;rw[show((n+1:Nat):Int)+1-1=(n:Int)+1 by omega];refine sW ?_;refine sC (ih zo) ?_;refine sC (oc 7<|nC a n) ?_;refine sC (yG (gx a)<|bO 7<|nC a n) ?_
  first|refine sC (ref_some<|cX 5 (gx a)<|bO 7<|nC a n) ?_|refine sC (oc 10<|cX 5 (gx a)<|bO 7<|nC a n) ?_
  exact sP
def c117:PC:=SO [Bx 1 0,q 2 (.alloc [v0,v0,vN])]<|SO [q 7 (.jD (.func 191) [] [1]),q 3 (.alloc [(.nilFunc)]),So 1 3 7]<|SO [q 8 (.jD (.func 193) [] [1]),q 4 (.alloc [(.nilFunc)]),So 1 4 8]<|SO [q 9 (.jD (.func 194) [] [3,4]),qm 5 9]<|SO [q 10 (.jD (.func 199) [] [4,3]),qm 6 10] (.seq (.seq (.stop<|OP [Fa 11 0 1,Lo 12 11]) (.block 0<|SO [Bi 14 .eql 12 K1,qm 13 14] (.cond 13 (SO [Fa 15 1 1,Lo 16 15,Fa 17 3 1,Lo 18 17,Ca 19 201 [16,18],So 3 2 19] .ret)<|SO [Bi 21 .eql 12 K2,qm 20 21] (.cond 20 (SO [Fa 22 1 1,Lo 23 22,Fa 24 3 1,Lo 25 24,Ca 26 201 [23,25],Ca 27 197 [26],So 3 2 27] .ret)<|SO [Bi 29 .eql 12 K3,qm 28 29] (.cond 28 (.seq (.ops [Fa 30 1 1,Ld 31 30 1,Fa 32 3 1,Ld 33 32 4,Cd 34 201 [31,33] 15,Fa 35 1 1,Ld 36 35 32,Fa 37 3 1,Ld 38 37 128,Bd 39 .add 38 K1 384,Cd 40 201 [36,39] 1023,Cd 41 197 [40] 2047,Cd 42 202 [34,41] 4095,qk (.store 3 2 42) 8191] true) .ret)<|SO [Bi 44 .eql 12 K4,qm 43 44] (.cond 43 (.seq (.ops [Ca 45 203 [(cI 63)],Lo 46 3,qd 47 (.dN 46 []) 3,Cd 48 200 [K8,45,47] 7,Cd 49 203 [(cI 63)] 15,Cd 50 195 [49] 31,Cd 51 196 [48,50] 63,qk (.store 3 2 51) 127] true) .ret)<|SO [Bi 53 .eql 12 K5,qm 52 53] (.cond 52 (.seq (.ops [Lo 54 3,qd 55 (.dN 54 []) 1,Cd 56 198 [55] 3,Lo 57 4,qd 58 (.dN 57 []) 15,Cd 59 198 [58] 31,Cd 60 196 [56,59] 63,qk (.store 3 2 60) 127] true) .ret)<|SO [Bi 62 .eql 12 K6,qm 61 62] (.cond 61 (.seq (.ops [Lo 63 3,qd 64 (.dN 63 []) 1,Cd 65 198 [64] 3,Cd 66 197 [65] 7,Lo 67 4,qd 68 (.dN 67 []) 31,Cd 69 198 [68] 63,Cd 70 196 [66,69] 127,qk (.store 3 2 70) 255] true) .ret)<|SO [Bi 72 .eql 12 K7,qm 71 72] (.cond 71 (.seq (.ops [Lo 73 3,qd 74 (.dN 73 []) 1,Cd 75 198 [74] 3,Cd 76 197 [75] 7,Lo 77 4,qd 78 (.dN 77 []) 31,Cd 79 198 [78] 63,Cd 80 196 [76,79] 127,Lo 81 4,qd 82 (.dN 81 []) 511,Cd 83 198 [82] 1023,Cd 84 197 [83] 2047,Lo 85 3,qd 86 (.dN 85 []) 8191,Cd 87 198 [86] 16383,Cd 88 196 [84,87] 32767,Cd 89 202 [80,88] 65535,qk (.store 3 2 89) 131071] true) .ret)<|SO [Bi 91 .eql 12<|cI 13,qm 90 91] (.cond 90 (.seq (.ops [Lo 92 3,qd 93 (.dN 92 []) 1,Cd 94 198 [93] 3,Lo 95 4,qd 96 (.dN 95 []) 15,Cd 97 198 [96] 31,Cd 98 202 [94,97] 63,Cd 99 197 [98] 127,qk (.store 3 2 99) 255] true) .ret)<|SO [Bi 101 .eql 12 K8,qm 100 101] (.cond 100 (SO [qm 102 5,q 103 (.dN 102 []),So 3 2 103] .ret)<|SO [Bi 105 .eql 12 K9,qm 104 105] (.cond 104 (SO [qm 106 6,q 107 (.dN 106 []),So 3 2 107] .ret)<|SO [Bi 109 .eql 12<|cI 10,qm 108 109] (.cond 108 (SO [qm 110 5,q 111 (.dN 110 []),qm 112 6,q 113 (.dN 112 []),Ca 114 202 [111,113],So 3 2 114] .ret)<|SO [Bi 116 .eql 12<|cI 11,qm 115 116] (.cond 115 (.seq (.ops [Lo 117 3,qd 118 (.dN 117 []) 1,Cd 119 197 [118] 3,Lo 120 3,qd 121 (.dN 120 []) 15,Cd 122 197 [121] 31,Lo 123 4,qd 124 (.dN 123 []) 127,Cd 125 200 [K8,122,124] 255,Cd 126 204 [K7,125] 511,Cd 127 196 [119,126] 1023,Cd 128 195 [127] 2047,qk (.store 3 2 128) 4095] true) .ret)<|SO [Bi 130 .eql 12<|cI 12,qm 129 130]<|If 129 (.seq (.ops [Lo 131 3,qd 132 (.dN 131 []) 1,Cd 133 197 [132] 3,Cd 134 203 [(cI 63)] 7,Lo 135 4,qd 136 (.dN 135 []) 31,Cd 137 200 [K8,134,136] 63,Cd 138 204 [K7,137] 127,Cd 139 196 [133,138] 255,Cd 140 195 [139] 511,qk (.store 3 2 140) 1023] true) .ret))))))))))))))) (.seq (.ops [Lo 141 3,qd 142 (.dN 141 []) 1,Cd 143 197 [142] 3,Lo 144 4,qd 145 (.dN 144 []) 15,Cd 146 198 [145] 31,Cd 147 204 [K7,146] 63,Cd 148 197 [147] 127,Cd 149 196 [143,148] 255,Cd 150 195 [149] 511,qk (.store 3 2 150) 1023] true) .ret))
def iN(k a b c:Int):bh:=[aa k,aa a,aa b,aa c]
theorem OR:ar ai 191 [.aB<|iN k a b c]<|aY<|gx a:=by
 refine dC fZ zs (by simp[an,Pure,iN]) ?_<|c7 _;refine sR ?_;refine sC (Hg a) ?_;exact sP
theorem MQ:ar ai 193 [.aB<|iN k a b c]<|aY<|gx b:=by
 refine dC fZ zs (by simp[an,Pure,iN]) ?_<|c7 _;refine sR ?_;refine sC (Hg b) ?_;exact sP
def fnA(k a b c:Int):D:=.fn (.func 191) [] [.aB<|iN k a b c]
def fnB(k a b c:Int):D:=.fn (.func 193) [] [.aB<|iN k a b c]
theorem Z7:ar ai 194 [.aB [fnA k a b c],.aB [fnB k a b c]]<|aY<|FW a b:=by
 refine dC fZ zs (by simp[an,Pure,iN,fnA,fnB]) ?_<|c7 _;refine sR ?_;refine sC (OR k a b c) ?_;refine sC (Ji<|gx a) ?_;refine sC (MQ k a b c) ?_;refine sC (JE<|gx b) ?_;refine sC (ML _ _) ?_;refine sC (NO _) ?_;exact sP
theorem ztz:ar ai 199 [.aB [fnB k a b c],.aB [fnA k a b c]]<|aY<|FM a b:=by
 refine dC fZ zs (by simp[an,Pure,iN,fnA,fnB]) ?_<|c7 _;refine sR ?_
 repeat' (first
  |refine sC (OR k a b c) ?_
  |refine sC (MQ k a b c) ?_
  |refine sC (Ji _) ?_
  |refine sC (NO _) ?_
  |refine sC (ML _ _) ?_
  |refine sC (JB 8 _ _) ?_
  |exact mM rfl (.refl _))
theorem zuK(h:jT k a b c=0):ar ai 117 [uk k a b c]<|aY<|tw k a b c:=by
 have hc:(k=1\/k=2\/k=3)->1<=c/\c<=3:=λhk=>by
  unfold jT at h;split at h
  ·omega
  split at h
  ·omega
  omega
 have m1:(k=1\/k=2\/k=3)->ar ai 201 [aa a,aa c] (aY<|nC a (c-1).toNat):=λhk=>by
  have:=Q5 a (c-1).toNat (by have:=hc hk;omega);rwa [show(((c-1).toNat:Int))+1=c by have:=hc hk;omega] at this
 have m2:(k=1\/k=2\/k=3)->ar ai 201 [aa a,aa<|c+1] (aY<|nC a c.toNat):=λhk=>by
  have:=Q5 a c.toNat (by have:=hc hk;omega);rwa [show((c.toNat:Int))+1=c+1 by have:=hc hk;omega] at this
 refine bK (fJ 151 [.agg 2 3] c117 Tryz.func117) ?_;refine sR ?_
 refine b8 (rZ (λi=>!(Nat.beq i 1)) (env':=[(1,.aB<|iN k a b c),(2,.loc 1 0),(3,.aB [fnA k a b c]),(4,.aB [fnB k a b c]),(5,.fn (.func 194) [] [.aB [fnA k a b c],.aB [fnB k a b c]]),(6,.fn (.func 199) [] [.aB [fnB k a b c],.aB [fnA k a b c]])])
  (H':=[.row false<|iN k a b c,.row true [aa 0,aa 0,ax],.row false [fnA k a b c],.row false [fnB k a b c]]) ?_ ?_) ?_
 ·exact sD
 ·exact sD
 refine sR ?_
 repeat' (first
  |refine sS (λh=>?_) λh=>?_
  |refine sC (m1 (sO)) ?_
  |refine sC (m2 (sO)) ?_
  |refine sC (OR k a b c) ?_
  |refine sC (MQ k a b c) ?_
  |refine sC (Z7 k a b c) ?_
  |refine sC (ztz k a b c) ?_
  |refine sC (Ji _) ?_
  |refine sC (JE _) ?_
  |refine sC (NO _) ?_
  |refine sC (NY _) ?_
  |refine sC (ML _ _) ?_
  |refine sC (N' _ _) ?_
  |refine sC (JB 8 _ _) ?_
  |refine sC (BH 7 _) ?_
  |(refine .inl ⟨by unfold dQ;rw[gf];have:=hc (sO);omega,?_⟩;refine sW ?_)
  |exact mM (by simp_all [tw]) (.refl _))
theorem KS:Small<|gx n:=y5 (yA _ _)<|tX<|yA _ _
theorem WV(a:Int):∀n,Small (nC a n)
 |0=>tX<|KS a
 |n+1=>tX<|y5 (KS a)<|tX<|WV a n
theorem LF:Small<|tw k a b c:=by
 unfold tw FW FM;repeat' (first|exact KS _|exact WV _ _|exact yA _ _|apply tX|apply y5|refine Dg _ ?_ ?_)
theorem zpx(h:jT k a b c=0):ar ai 148 [uk k a b c]<|aY<|tw k a b c:=by
 have hc:(k=1\/k=2\/k=3)->1<=c/\c<=3:=λhk=>by
  unfold jT at h;split at h
  ·omega
  split at h
  ·omega
  omega
 have m1:(k=1\/k=2\/k=3)->ar ai 235 [aa a,aa c] (aY<|nC a (c-1).toNat):=λhk=>by
  have:=WS a (c-1).toNat (by have:=hc hk;omega);rwa [show(((c-1).toNat:Int))+1=c by have:=hc hk;omega] at this
 have m2:(k=1\/k=2\/k=3)->ar ai 235 [aa a,aa<|c+1] (aY<|nC a c.toNat):=λhk=>by
  have:=WS a c.toNat (by have:=hc hk;omega);rwa [show((c.toNat:Int))+1=c+1 by have:=hc hk;omega] at this
 refine bL ?_
 repeat' (first
  |refine sS (λh=>?_) λh=>?_
  |refine sC (m1 (sO)) ?_
  |refine sC (m2 (sO)) ?_
  |refine sC (MM _) ?_
  |refine sC (BR _) ?_
  |refine sC (yc _) ?_
  |refine sC (Cx _ _) ?_
  |refine sC (yG _ _) ?_
  |refine sC (vB 8 _ _) ?_
  |refine sC (oc 7 _) ?_
  |refine sC (oc 10 _) ?_
  |refine sC (oc 11 _) ?_
  |(refine .inl ⟨by unfold dQ;rw[gf];have:=hc (sO);omega,?_⟩;refine sW ?_)
  |exact mM (by simp_all [tw,FW,FM]) (.refl _))
set_option maxHeartbeats 4000000
structure cC where
 kind:Int
 scope:Int
 p:Int
 s:Int
 q:Int
 r:Int
 count:Int
def cc(x:cC):bh:=[aa x.kind,aa x.scope,aa x.p,aa x.s,aa x.q,aa x.r,aa x.count]
def jc(x:cC):D:=.agg<|cc x
variable(x:cC)
@[simp] theorem zzU:Pure<|jc x:=by simp[jc,cc,Pure,an]
def ew(x:cC):Int :=
 if x.kind<1\/6<x.kind\/x.scope<1\/5<x.scope\/x.p<0\/63<x.p\/x.s<0\/63<x.s\/(x.kind<5/\x.s≠0)
  \/ x.q<0\/63<x.q\/(x.scope<3/\x.q≠0)\/x.r<0\/63<x.r\/(x.scope≠2/\x.scope<4/\x.r≠0)
  \/ x.count<0\/3<x.count\/(x.kind≠4/\x.count≠0) then 1 else 0
theorem zrg(has:Bool):ar ai 170 [aa n,aD has]<|aD<|decide (0<=n)&&decide (n<=63)&&(has||n==0):=by
 refine bL ?_;repeat' (first|refine sS (λh=>?_) λh=>?_|exact cd<|by simp_all)
theorem wP:ar ai 95 [jc x]<|aa<|ew x:=by
 refine bL ?_
 repeat' (first
  |refine sS (λh=>?_) λh=>?_
  |refine sC (zrg _ _) ?_
  |exact cd (by unfold ew;congr 2;(repeat' split)<;>first|rfl|exact sO))
theorem We:ar ai 50 [jc x]<|aa<|ew x:=by
 refine bL ?_
 repeat' (first
  |refine sS (λh=>?_) λh=>?_
  |(refine zoE 5 ?_;(apply uK;focus (repeat' constructor));refine sW ?_)
  |((apply uK;focus (repeat' constructor));refine sW ?_)
  |(refine⟨zo,zo,?_⟩;refine sW ?_)
  |(refine⟨_,rfl,?_⟩;refine sW ?_)
  |(refine .inl ⟨by unfold dQ;rw[gf];omega,?_⟩;refine sW ?_)
  |exact cd (by unfold ew;congr 2;(repeat' split)<;>first|rfl|exact sO))
set_option maxHeartbeats 4000000
def noP(x:cC):Tree:=bO 4<|cv 3 x.p
def noR(x:cC):Tree:=bO 4<|cv 3 x.r
def wX(x:cC)(more:Bool)(T:Tree):Tree :=
 if x.kind=2 then bO 11<|cv 3 x.p else if x.kind=3 then bO 10<|cv 3 x.p
 else if x.kind=5 then cX 6 (cX 8 (noP x)<|cv 3 x.s)<|bO 11<|noP x
 else if x.kind=6 then bO 11<|cX 6 (noP x)<|bO 10<|cv 3 x.s
 else if x.kind=4/\more=true then cX 6 (cX 8 (noP x)<|cX 5 (cv 3 x.p)<|bO 7 T)<|bO 11<|noP x else bO 11<|noP x
def qD(x:cC):Nat->Tree
 |0=>wX x false<|cv 0 0
 |n+1=>wX x true<|qD x n
def sx(weak:Bool)(a b:Tree):Tree:=if weak=true then cX 6 (cX 8 a b)<|bO 11 a else cX 8 a b
def DH(x:cC):Tree:=cX 6 (noP x)<|cX 8 (noR x)<|cX 5 (cv 3 x.s)<|noR x
def Da(x:cC)(T:Tree):Tree:=cX 6 (cv 3 x.r)<|cX 5 (cX 5 (cv 3 x.p)<|noR x)<|bO 7 T
def upN(x:cC)(weak more:Bool)(T:Tree):Tree :=
 if x.kind=2 then sx weak (cv 3 x.p)<|cv 3 x.r else if x.kind=3 then cX 8 (noR x)<|cX 5 (cv 3 x.p)<|noR x
 else if x.kind=5 then sx weak (noP x)<|cX 6 (cv 3 x.s)<|cv 3 x.r else if x.kind=6 then sx weak (DH x)<|cv 3 x.r
 else if x.kind=4/\more=true then sx weak (noP x)<|Da x T
 else sx weak (noP x)<|cv 3 x.r
def upT(x:cC)(weak:Bool):Nat->Tree
 |0=>upN x weak false<|cv 0 0
 |n+1=>upN x weak true<|upT x weak n
def tI(x:cC):Tree :=
 let n:=x.count.toNat
 if x.scope=2 then cX 6 (bO 4<|bO 10<|cv 3 x.r)<|upT x false n
 else if x.scope=3 then cX 6 (bO 11<|bO 4<|cv 3 x.q)<|cX 8 (bO 4<|cv 3 x.q)<|cX 5 (cv 3 x.q)<|qD x n
 else if x.scope=4 then bO 11<|cX 6 (bO 4<|cX 5 (cX 5 (cv 3 x.q)<|noR x)<|bO 10<|cv 3 x.r)<|upT x false n
 else if x.scope=5 then bO 11<|cX 6 (bO 4<|cX 5 (cv 3 x.q)<|noR x)<|upT x true n
 else qD x n
theorem RY(x:cC):∀n,Small (qD x n)
 |0=>by
  unfold qD wX noP;repeat' (first|exact yA _ _|apply tX|apply y5|refine Dg _ ?_ ?_)
 |n+1=>by
  have:=RY x n;unfold qD wX noP;repeat' (first|assumption|exact yA _ _|apply tX|apply y5|refine Dg _ ?_ ?_)
theorem VX(x:cC)(weak:Bool):∀n,Small (upT x weak n)
 |0=>by
  unfold upT upN sx DH Da noP noR;repeat' (first|exact yA _ _|apply tX|apply y5|refine Dg _ ?_ ?_)
 |n+1=>by
  have:=VX x weak n;unfold upT upN sx DH Da noP noR;repeat' (first|assumption|exact yA _ _|apply tX|apply y5|refine Dg _ ?_ ?_)
theorem OQ:Small<|tI x:=by
 unfold tI noR;repeat' (first|exact RY _ _|exact VX _ _ _|exact yA _ _|apply tX|apply y5|refine Dg _ ?_ ?_)
def c186:PC:=SO [Bx 3 0,Bx 4 1,Bx 5 2,q 6 (.alloc [v0,v0,vN])]<|SO [q 10 (.jD (.func 257) [] [3]),q 7 (.alloc [(.nilFunc)]),So 1 7 10]<|SO [q 11 (.jD (.func 258) [] [3]),q 8 (.alloc [(.nilFunc)]),So 1 8 11] (.seq (.seq (.stop<|OP [Fa 12 0 3,Lo 13 12]) (.block 0<|SO [Bi 15 .eql 13 K2,qm 14 15] (.cond 14 (SO [Lo 16 5,q 17 (.jD (.func 260) [] [3]),Lo 18 8,Ca 19 259 [16,17,18],So 3 6 19] .ret)<|SO [Bi 21 .eql 13 K3,qm 20 21] (.cond 20 (.seq (.ops [Lo 22 8,qd 23 (.dN 22 []) 1,Cd 24 183 [23] 3,Fa 25 2 3,Ld 26 25 8,Cd 27 182 [26] 31,Lo 28 8,qd 29 (.dN 28 []) 127,Cd 30 183 [29] 255,Cd 31 189 [27,30] 511,Cd 32 188 [24,31] 1023,qk (.store 3 6 32) 2047] true) .ret)<|SO [Bi 34 .eql 13 K5,qm 33 34] (.cond 33 (SO [Lo 35 5,Lo 36 7,q 37 (.jD (.func 261) [] [3,8]),Ca 38 259 [35,36,37],So 3 6 38] .ret)<|SO [Bi 40 .eql 13 K6,qm 39 40] (.cond 39 (SO [q 41 (.jD (.func 262) [] [7,8,3]),qm 9 41]<|SO [Lo 42 5,qm 43 9,Lo 44 8,Ca 45 259 [42,43,44],So 3 6 45] .ret)<|SO [Bi 47 .eql 13 K4,qm 46 47]<|If 46<|SO [Lo 48 4,Bi 49 .gtr 48 K0]<|If 49<|SO [Lo 50 5,Lo 51 7,q 52 (.jD (.func 263) [] [8,3,4,5]),Ca 53 259 [50,51,52],So 3 6 53] .ret))))))<|SO [Lo 54 5,Lo 55 7,Lo 56 8,Ca 57 259 [54,55,56],So 3 6 57] .ret)
theorem zpi:∀n:Nat,n<=3->ar ai 190 [jc x,aa n] (aY<|qD x n):=by
 intro n
 induction n with
 |zero =>
  intro _;refine bL ?_
  repeat' (first
   |refine sS (λh=>?_) λh=>?_
   |refine sC (wz _) ?_
   |refine sC (zK _) ?_
   |refine sC (GW _) ?_
   |refine sC (zJ _ _) ?_
   |refine sC (DP _ _) ?_
   |refine sC (CF _ _) ?_
   |refine sC (Ag 10 _) ?_
   |exact mM (by simp_all [qD,wX,noP]) (.refl _))
 |succ n ih =>
  intro hn;have ih:=ih zo;refine bL ?_
  repeat' (first
   |refine sS (λh=>?_) λh=>?_
   |refine sC (wz _) ?_
   |refine sC (zK _) ?_
   |refine sC (GW _) ?_
   |refine sC (zJ _ _) ?_
   |refine sC (DP _ _) ?_
   |refine sC (CF _ _) ?_
   |refine sC (Ag 10 _) ?_
   |refine sC (Ag 7 _) ?_
   |refine sC ih ?_
   |(refine .inl ⟨by unfold dQ;rw[gf];omega,?_⟩;rw[show(((n+1:Nat):Int)-1)=(n:Int) by omega];refine sW ?_)
   |exact mM (by simp_all [qD,wX,noP]) (.refl _))
theorem ES(weak:Bool)(f g:FuncId)(c1 c2:bh)(h1:an c1)(h2:an c2)(a b:Tree)(hA:ar ai f c1<|aY a)(hB:ar ai g c2<|aY b) :
  ar ai 259 [aD weak,.fn (.func f) [] c1,.fn (.func g) [] c2] (aY<|sx weak a b):=by
 refine dC fZ zs (by simp[an,Pure,h1,h2]) ?_<|c7 _;refine sR ?_
 repeat' (first
  |refine sS (λh=>?_) λh=>?_
  |refine sC hA ?_
  |refine sC hB ?_
  |refine sC (GW _) ?_
  |refine sC (zJ _ _) ?_
  |refine sC (CF _ _) ?_
  |exact mM (by simp_all [sx]) (.refl _))
def DU(x:cC):D:=.fn (.func 257) [] [.aB<|cc x]
def fnR(x:cC):D:=.fn (.func 258) [] [.aB<|cc x]
theorem D9:ar ai 257 [.aB<|cc x]<|aY<|noP x:=by
 refine dC fZ zs (by simp[an,Pure,cc]) ?_<|c7 _;refine sR ?_;refine sC (wz _) ?_;refine sC (zK _) ?_;exact .refl _
theorem As:ar ai 258 [.aB<|cc x]<|aY<|cv 3 x.r:=by
 refine dC fZ zs (by simp[an,Pure,cc]) ?_<|c7 _;refine sR ?_;refine sC (wz _) ?_;exact .refl _
theorem zyQ:ar ai 260 [.aB<|cc x]<|aY<|cv 3 x.p:=by
 refine dC fZ zs (by simp[an,Pure,cc]) ?_<|c7 _;refine sR ?_;refine sC (wz _) ?_;exact .refl _
theorem zyD:ar ai 261 [.aB<|cc x,.aB [fnR x]]<|aY<|cX 6 (cv 3 x.s)<|cv 3 x.r:=by
 refine dC fZ zs (by simp[an,Pure,cc,fnR]) ?_<|c7 _;refine sR ?_
 repeat' (first
  |refine sC (wz _) ?_
  |refine sC (As x) ?_
  |refine sC (zJ _ _) ?_
  |exact mM rfl (.refl _))
theorem YM:ar ai 262 [.aB [DU x],.aB [fnR x],.aB<|cc x]<|aY<|DH x:=by
 refine dC fZ zs (by simp[an,Pure,cc,fnR,DU]) ?_<|c7 _;refine sR ?_
 repeat' (first
  |refine sC (wz _) ?_
  |refine sC (D9 x) ?_
  |refine sC (As x) ?_
  |refine sC (zJ _ _) ?_
  |refine sC (DP _ _) ?_
  |refine sC (CF _ _) ?_
  |refine sC (zK _) ?_
  |exact mM rfl (.refl _))
theorem zzv(n:Nat)(hn:n<=3)(weak:Bool)(T:Tree)(h:ar ai 186 [jc x,aa n,aD weak]<|aY T) :
  ar ai 263 [.aB [fnR x],.aB<|cc x,.aB [aa ((n+1:Nat):Int)],.aB [aD weak]] (aY<|Da x T):=by
 refine dC fZ zs (by simp[an,Pure,cc,fnR]) ?_<|c7 _;refine sR ?_
 repeat' (first
  |refine sC (wz _) ?_
  |refine sC (As x) ?_
  |refine sC (zJ _ _) ?_
  |refine sC (DP _ _) ?_
  |refine sC (Ag 7 _) ?_
  |refine sC (zK _) ?_
  |refine sC h ?_
  |(refine .inl ⟨by unfold dQ;rw[gf];omega,?_⟩;rw[show(((n+1:Nat):Int)-1)=(n:Int) by omega];refine sW ?_)
  |exact mM rfl (.refl _))
theorem Qu(n:Nat)(weak:Bool)(T:Tree)(h6:0<n->ar ai 263 [.aB [fnR x],.aB<|cc x,.aB [aa n],.aB [aD weak]] (aY<|Da x T)) :
  ar ai 186 [jc x,aa n,aD weak] (aY<|upN x weak (decide (0<n)) T):=by
 refine bK (fJ 58 [.agg 6 3] c186 Tryz.func186) ?_;refine sR ?_
 refine b8 (rZ (λi=>!(Nat.beq i 3)) (env':=[(3,.aB<|cc x),(4,.aB [aa n]),(5,.aB [aD weak]),(6,.loc 3 0),(7,.aB [DU x]),(8,.aB [fnR x])])
  (H':=[.row false<|cc x,.row false [aa n],.row false [aD weak],.row true [aa 0,aa 0,ax],.row false [DU x],.row false [fnR x]]) ?_ ?_) ?_
 ·exact sD
 ·exact sD
 refine sR ?_
 repeat' (first
  |refine sS (λh=>?_) λh=>?_
  |refine sC (wz _) ?_
  |refine sC (D9 x) ?_
  |refine sC (As x) ?_
  |refine sC (zK _) ?_
  |refine sC (DP _ _) ?_
  |refine sC (CF _ _) ?_
  |refine sC (ES weak _ _ _ _ (by simp[an,Pure,cc]) (by simp[an,Pure,cc]) _ _ (zyQ x) (As x)) ?_
  |refine sC (ES weak _ _ _ _ (by simp[an,Pure,cc]) (by simp[an,Pure,cc,fnR]) _ _ (D9 x) (zyD x)) ?_
  |refine sC (ES weak _ _ _ _ (by simp[an,Pure,cc,fnR,DU]) (by simp[an,Pure,cc]) _ _ (YM x) (As x)) ?_
  |refine sC (ES weak _ _ _ _ (by simp[an,Pure,cc]) (by simp[an,Pure,cc,fnR]) _ _ (D9 x) (h6 (sO))) ?_
  |refine sC (ES weak _ _ _ _ (by simp[an,Pure,cc]) (by simp[an,Pure,cc]) _ _ (D9 x) (As x)) ?_
  |exact mM (by simp_all [upN,sx,noR]) (.refl _))
theorem zt3(weak:Bool):∀n:Nat,n<=3->ar ai 186 [jc x,aa n,aD weak] (aY<|upT x weak n):=by
 intro n
 induction n with
 |zero=>exact λ_=>Qu x 0 weak (cv 0 0) λh=>zo
 |succ n ih =>
  intro hn;have:=Qu x (n+1) weak (upT x weak n) λ_=>zzv x n zo weak _<|ih zo;rw[show decide (0<n+1)=true from rfl] at this;exact this
theorem Yd(h:ew x=0):ar ai 116 [jc x]<|aY<|tI x:=by
 have hc:0<=x.count/\x.count<=3:=by
  unfold ew at h;split at h<;>omega
 have hn:x.count=(x.count.toNat:Int):=zo;have hg:=zpi x x.count.toNat zo;have hu:=λweak=>zt3 x weak x.count.toNat zo;rw[<-hn] at hg hu;clear hn hc h;refine bL ?_
 repeat' (first
  |refine sS (λh=>?_) λh=>?_
  |refine sC hg ?_
  |refine sC (hu true) ?_
  |refine sC (hu false) ?_
  |refine sC (wz _) ?_
  |refine sC (zK _) ?_
  |refine sC (GW _) ?_
  |refine sC (zJ _ _) ?_
  |refine sC (DP _ _) ?_
  |refine sC (CF _ _) ?_
  |refine sC (Ag 10 _) ?_
  |exact mM (by simp_all [tI,noR]) (.refl _))
set_option maxHeartbeats 4000000
theorem zpo(hk:1<=x.kind/\x.kind<=6):∀n:Nat,n<=3->ar ai 233 [jc x,aa n] (aY<|qD x n):=by
 intro n
 induction n with
 |zero =>
  intro _;refine bL ?_
  repeat' (first
   |refine sS (λh=>?_) λh=>?_
   |refine sC (yc _) ?_
   |refine sC (BR _) ?_
   |refine sC (Cx _ _) ?_
   |refine sC (yG _ _) ?_
   |refine sC (vB 8 _ _) ?_
   |refine sC (oc 10 _) ?_
   |refine sC (oc 11 _) ?_
   |exact mM (by unfold qD wX noP;(repeat' split)<;>first|rfl|(exfalso;exact sO)) (.refl _)
   |(exfalso;exact sO))
 |succ n ih =>
  intro hn;have ih:=ih zo;refine bL ?_
  repeat' (first
   |refine sS (λh=>?_) λh=>?_
   |refine sC (yc _) ?_
   |refine sC (BR _) ?_
   |refine sC (Cx _ _) ?_
   |refine sC (yG _ _) ?_
   |refine sC (vB 8 _ _) ?_
   |refine sC (oc 10 _) ?_
   |refine sC (oc 11 _) ?_
   |refine sC (oc 7 _) ?_
   |refine sC ih ?_
   |(refine .inl ⟨by unfold dQ;rw[gf];omega,?_⟩;rw[show(((n+1:Nat):Int)-1)=(n:Int) by omega];refine sW ?_)
   |exact mM (by rw[show qD x (n+1)=wX x true (qD x n) from rfl];generalize qD x n=T;unfold wX noP;(repeat' split)<;>first|rfl|(exfalso;exact sO)) (.refl _)
   |(exfalso;exact sO))
theorem zvJ(w:Bool)(n:Nat):upT x w (n+1)=upN x w true (upT x w n):=rfl
theorem zt2(weak:Bool):∀n:Nat,n<=3->ar ai 231 [jc x,aa n,aD weak] (aY<|upT x weak n):=by
 intro n
 induction n with
 |zero =>
  intro _;refine bL ?_
  repeat' (first
   |refine sS (λh=>?_) λh=>?_
   |refine sC (yc _) ?_
   |refine sC (BR _) ?_
   |refine sC (Cx _ _) ?_
   |refine sC (yG _ _) ?_
   |refine sC (vB 8 _ _) ?_
   |refine sC (oc 11 _) ?_
   |exact mM (by unfold upT upN sx DH noP noR;(repeat' split)<;>first|rfl|(exfalso;exact sO)) (.refl _)
   |(exfalso;exact sO))
 |succ n ih =>
  intro hn;have ih:=ih zo;refine bL ?_
  repeat' (first
   |refine sS (λh=>?_) λh=>?_
   |refine sC (yc _) ?_
   |refine sC (BR _) ?_
   |refine sC (Cx _ _) ?_
   |refine sC (yG _ _) ?_
   |refine sC (vB 8 _ _) ?_
   |refine sC (oc 11 _) ?_
   |refine sC (oc 7 _) ?_
   |refine sC ih ?_
   |(refine .inl ⟨by unfold dQ;rw[gf];omega,?_⟩;rw[show(((n+1:Nat):Int)-1)=(n:Int) by omega];refine sW ?_)
   |exact mM (by rw[zvJ];generalize upT x _ n=T;unfold upN sx DH Da noP noR;(repeat' split)<;>first|rfl|(exfalso;exact sO)) (.refl _)
   |(exfalso;exact sO))
theorem zpv(h:ew x=0):ar ai 147 [jc x]<|aY<|tI x:=by
 have hc:(0<=x.count/\x.count<=3)/\1<=x.kind/\x.kind<=6:=by
  unfold ew at h;split at h<;>omega
 have hn:x.count=(x.count.toNat:Int):=zo;have hg:=zpo x hc.2 x.count.toNat zo;have hu:=λweak=>zt2 x weak x.count.toNat zo;rw[<-hn] at hg hu;clear hn hc h;refine bL ?_
 repeat' (first
  |refine sS (λh=>?_) λh=>?_
  |refine sC hg ?_
  |refine sC (hu true) ?_
  |refine sC (hu false) ?_
  |refine sC (yc _) ?_
  |refine sC (BR _) ?_
  |refine sC (Cx _ _) ?_
  |refine sC (yG _ _) ?_
  |refine sC (vB 8 _ _) ?_
  |refine sC (oc 10 _) ?_
  |refine sC (oc 11 _) ?_
  |exact mM (by simp_all [tI,noR]) (.refl _))
def wg:D:=.fn (.func 141) [] [.loc 0 0,.loc 1 0]
@[simp] theorem zv1:aq m wg↔0<m/\1<m:=by simp[wg,aq,au]
theorem zl5:ar ai 142 [aa k]<|aa<|bz k:=by
 refine bL ?_;repeat' (first|refine sS (λh=>?_) λh=>?_|exact cd<|by unfold bz;congr 2;(repeat' split)<;>first|rfl|exact sO)
theorem ztM:∀(t:Tree) (d n:Int),Small t->0<=d->d<=21->0<=n->n<=60->cp ai 141 [aY t,aa d,.loc 0 0,.loc 1 0] [.row true [aa n],.row true [wg]] (.sc (.int .i64 (dG bz t d n).1)) [.row true [.sc (.int .i64 (dG bz t d n).2)],.row true [wg]]:=by
 intro t
 induction t using Tree.ind with
 |h t ih =>
  intro d n hs hd CV hn fk;have fT:=hs.width;refine iV fZ zs zs ?_ (by simp[aq]) (by simp[ao.under,au,aq,wg]);refine sR ?_;refine .inl ⟨by unfold dQ;rw[gf];omega,?_⟩;refine sW ?_;have e:=Hj bz t d n;refine sS (λh1=>?_) λh1=>?_
  ·simp at h1;rw[e,ae h1];exact⟨rfl,rfl,zs⟩
  rw[ab<|by simpa using h1] at e;refine sS (λh2=>?_) λh2=>?_
  ·simp at h2;rw[e,ae h2];exact⟨rfl,rfl,zs⟩
  rw[ab<|by simpa using h2] at e;refine sC (zl5 t.kind) ?_;have odd:fq bz t->dG bz t d n=(1,n+1):=λh=>by rw[e,ae h]
  have bad:fq bz t->(aa 1=.sc (.int .i64 (dG bz t d n).1)/\List.take [ao.row true [D.sc<|Value.int IntKind.i64 (dG bz t d n).2],.row true [wg]].length [ao.row true [aa<|n+1],.row true [wg],ao.row true<|aN t]=[ao.row true [D.sc<|Value.int IntKind.i64 (dG bz t d n).2],.row true [wg]]/\[ao.row true [D.sc<|Value.int IntKind.i64 (dG bz t d n).2],.row true [wg]].length<=3):=λh=>by
   rw[odd h];exact⟨rfl,rfl,zs⟩
  repeat' (first
   |refine sS (λh=>?_) λh=>?_
   |exact bad (by unfold fq Tree.width;exact sO))
  all_goals
   have da:¬fq bz t:=(by unfold fq Tree.width;exact sO);rw[ab da] at e;have ye:n+1<=60:=(by simp at h1;omega);have C2:d<=20:=by simp at h2;omega
   refine wA (λx:Nat×Int=>[(1,aa d),(2,.loc 0 0),(3,.loc 1 0),(4,.loc 2 0),(7,aa x.1)])
    (λx=>[.row true [aa x.2],.row true [wg],.row true<|aN t]) (λx=>x.1<=t.width/\0<=x.2/\x.2<=60/\jz bz t.kids (d+1) (n+1)=jz bz (t.kids.drop x.1) (d+1) x.2) (λx=>t.width-x.1) (0,n+1)
    ⟨zs,by simp;omega,ye,rfl⟩ (o5 ⟨rfl,rfl,rfl,rfl,rfl,trivial⟩) ?_
   clear h1 h2;rintro⟨k,m⟩ ⟨hk,AS,Bz,hF⟩;refine sRS (λh4=>?_) λh4=>?_
   ·have al:k<t.width:=(by simpa [Tree.width] using h4);rw[JP _ al] at hF;refine sL (dk al) ?_;refine .inl ⟨by unfold dQ;rw[gf];omega,?_⟩;refine sW ?_
    (refine .inr (.inr (.inr (.inl ⟨_,_,by simp[au,bg,fo,ao.under,aq],by simp[au,bg,fo,ao.under,aq],(mS (ih k al (d+1) m (hs.az al) zo zo AS Bz) [.row true<|aN t] rfl (by simp[au,aq]) (by simp[fo,ao.under,au,aq])),?_⟩)));((conv=>whnf);repeat(refine⟨rfl,?_⟩;conv=>whnf)))
    refine sS (λh5=>?_) λh5=>?_
    ·rw[e,hF,ab<|by simpa using h5];exact⟨rfl,rfl,zs⟩
    have uy:(dG bz (t.az k) (d+1) m).1=0:=(by simpa using h5);rw[ae uy] at hF;have b1:=(D3 bz (t.az k) (d+1) m).1;have b2:=DJ bz (t.az k) (d+1) m uy;refine .inl ⟨by unfold dQ;rw[gf];unfold Tree.width at *;omega,?_⟩;refine sW ?_;refine⟨(k+1,(dG bz (t.az k) (d+1) m).2),⟨by dsimp only at *;omega,by dsimp only at *;omega,b2,hF⟩,by dsimp only at *;omega,o5 ⟨rfl,rfl,rfl,rfl,rfl,trivial⟩⟩
   have al:k=t.width:=by have:¬k<t.width:=by simpa [Tree.width] using h4
                         dsimp only at hk;omega
   rw[e,hF,al,IN];exact⟨rfl,rfl,zs⟩
theorem xe(hs:Small t):ar ai 53 [aY t]<|aa<|aS bz t:=by
 refine bL ?_;refine sA (r9 (ztM t 1 0 hs zo zo zo zo) [.row true<|aN t] [] rfl (by simp[au,aq]) (by simp[fo,ao.under,au,aq]) (args2:=[aY t,aa 1,.loc 1 0,.loc 2 0]) (by simp[bP,D.aQ]) rfl rfl rfl) ?_;exact .refl _
def wE:D:=.fn (.func 143) [] [.loc 0 0,.loc 1 0]
@[simp] theorem zvR:aq m wE↔0<m/\1<m:=by simp[wE,aq,au]
theorem znz:ar ai 144 [aa k]<|aa<|dp k:=by
 refine bL ?_;repeat' (first|refine sS (λh=>?_) λh=>?_|exact cd<|by unfold dp;congr 2;(repeat' split)<;>first|rfl|exact sO)
theorem zuh:∀(t:Tree) (d n:Int),Small t->0<=d->d<=21->0<=n->n<=60->cp ai 143 [aY t,aa d,.loc 0 0,.loc 1 0] [.row true [aa n],.row true [wE]] (.sc (.int .i64 (dG dp t d n).1)) [.row true [.sc (.int .i64 (dG dp t d n).2)],.row true [wE]]:=by
 intro t
 induction t using Tree.ind with
 |h t ih =>
  intro d n hs hd CV hn fk;have fT:=hs.width;refine iV fZ zs zs ?_ (by simp[aq]) (by simp[ao.under,au,aq,wE]);refine sR ?_;refine .inl ⟨by unfold dQ;rw[gf];omega,?_⟩;refine sW ?_;have e:=Hj dp t d n;refine sS (λh1=>?_) λh1=>?_
  ·simp at h1;rw[e,ae h1];exact⟨rfl,rfl,zs⟩
  rw[ab<|by simpa using h1] at e;refine sS (λh2=>?_) λh2=>?_
  ·simp at h2;rw[e,ae h2];exact⟨rfl,rfl,zs⟩
  rw[ab<|by simpa using h2] at e;refine sC (znz t.kind) ?_;have odd:fq dp t->dG dp t d n=(1,n+1):=λh=>by rw[e,ae h]
  have bad:fq dp t->(aa 1=.sc (.int .i64 (dG dp t d n).1)/\List.take [ao.row true [D.sc<|Value.int IntKind.i64 (dG dp t d n).2],.row true [wE]].length [ao.row true [aa<|n+1],.row true [wE],ao.row true<|aN t]=[ao.row true [D.sc<|Value.int IntKind.i64 (dG dp t d n).2],.row true [wE]]/\[ao.row true [D.sc<|Value.int IntKind.i64 (dG dp t d n).2],.row true [wE]].length<=3):=λh=>by
   rw[odd h];exact⟨rfl,rfl,zs⟩
  repeat' (first
   |refine sS (λh=>?_) λh=>?_
   |exact bad (by unfold fq Tree.width;exact sO))
  all_goals
   have da:¬fq dp t:=(by unfold fq Tree.width;exact sO);rw[ab da] at e;have ye:n+1<=60:=(by simp at h1;omega);have C2:d<=20:=by simp at h2;omega
   refine wA (λx:Nat×Int=>[(1,aa d),(2,.loc 0 0),(3,.loc 1 0),(4,.loc 2 0),(7,aa x.1)])
    (λx=>[.row true [aa x.2],.row true [wE],.row true<|aN t]) (λx=>x.1<=t.width/\0<=x.2/\x.2<=60/\jz dp t.kids (d+1) (n+1)=jz dp (t.kids.drop x.1) (d+1) x.2) (λx=>t.width-x.1) (0,n+1)
    ⟨zs,by simp;omega,ye,rfl⟩ (o5 ⟨rfl,rfl,rfl,rfl,rfl,trivial⟩) ?_
   clear h1 h2;rintro⟨k,m⟩ ⟨hk,AS,Bz,hF⟩;refine sRS (λh4=>?_) λh4=>?_
   ·have al:k<t.width:=(by simpa [Tree.width] using h4);rw[JP _ al] at hF;refine sL (dk al) ?_;refine .inl ⟨by unfold dQ;rw[gf];omega,?_⟩;refine sW ?_
    (refine .inr (.inr (.inr (.inl ⟨_,_,by simp[au,bg,fo,ao.under,aq],by simp[au,bg,fo,ao.under,aq],(mS (ih k al (d+1) m (hs.az al) zo zo AS Bz) [.row true<|aN t] rfl (by simp[au,aq]) (by simp[fo,ao.under,au,aq])),?_⟩)));((conv=>whnf);repeat(refine⟨rfl,?_⟩;conv=>whnf)))
    refine sS (λh5=>?_) λh5=>?_
    ·rw[e,hF,ab<|by simpa using h5];exact⟨rfl,rfl,zs⟩
    have uy:(dG dp (t.az k) (d+1) m).1=0:=(by simpa using h5);rw[ae uy] at hF;have b1:=(D3 dp (t.az k) (d+1) m).1;have b2:=DJ dp (t.az k) (d+1) m uy;refine .inl ⟨by unfold dQ;rw[gf];unfold Tree.width at *;omega,?_⟩;refine sW ?_;refine⟨(k+1,(dG dp (t.az k) (d+1) m).2),⟨by dsimp only at *;omega,by dsimp only at *;omega,b2,hF⟩,by dsimp only at *;omega,o5 ⟨rfl,rfl,rfl,rfl,rfl,trivial⟩⟩
   have al:k=t.width:=by have:¬k<t.width:=by simpa [Tree.width] using h4
                         dsimp only at hk;omega
   rw[e,hF,al,IN];exact⟨rfl,rfl,zs⟩
theorem XQ(hs:Small t):ar ai 55 [aY t]<|aa<|aS dp t:=by
 refine bL ?_;refine sA (r9 (zuh t 1 0 hs zo zo zo zo) [.row true<|aN t] [] rfl (by simp[au,aq]) (by simp[fo,ao.under,au,aq]) (args2:=[aY t,aa 1,.loc 1 0,.loc 2 0]) (by simp[bP,D.aQ]) rfl rfl rfl) ?_;exact .refl _
theorem zve:ar ai 205 [aa k]<|aa<|bz k:=by
 refine bL ?_;repeat' (first|refine sS (λh=>?_) λh=>?_|exact cd<|by simp_all [bz])
theorem zrX:∀(t:Tree) (d n:Int),Small t->0<=d->d<=21->0<=n->n<=60->cp ai 118 ([aY t,aa d]++.loc 0 0::[]) [.row true [aa n]] (.sc (.int .i64 (dG bz t d n).1)) [.row true [.sc (.int .i64 (dG bz t d n).2)]]:=by
 intro t
 induction t using Tree.ind with
 |h t ih =>
  intro d n hs hd CV hn fk;have fT:=hs.width;refine iV fZ zs zs ?_ (by simp[aq]) (by simp[ao.under,au,aq]);refine sR ?_;refine .inl ⟨by unfold dQ;rw[gf];omega,?_⟩;refine sW ?_;have e:=Hj bz t d n;refine sS (λh1=>?_) λh1=>?_
  ·simp at h1;rw[e,ae h1];exact⟨rfl,rfl,zs⟩
  rw[ab<|by simpa using h1] at e;refine sS (λh2=>?_) λh2=>?_
  ·simp at h2;rw[e,ae h2];exact⟨rfl,rfl,zs⟩
  rw[ab<|by simpa using h2] at e;refine sC (zve t.kind) ?_;have odd:fq bz t->dG bz t d n=(1,n+1):=λh=>by rw[e,ae h]
  have bad:fq bz t->(aa 1=.sc (.int .i64 (dG bz t d n).1)/\List.take [ao.row true [D.sc<|Value.int IntKind.i64 (dG bz t d n).2]].length [ao.row true [aa<|n+1],ao.row true<|aN t]=[ao.row true [D.sc<|Value.int IntKind.i64 (dG bz t d n).2]]/\[ao.row true [D.sc<|Value.int IntKind.i64 (dG bz t d n).2]].length<=2):=λh=>by
   rw[odd h];exact⟨rfl,rfl,zs⟩
  repeat' (first
   |refine sS (λh=>?_) λh=>?_
   |exact bad (by unfold fq Tree.width;simp_all;try omega))
  all_goals
   have da:¬fq bz t:=by unfold fq Tree.width;simp_all;try omega
   rw[ab da] at e;have ye:n+1<=60:=(by simp at h1;omega);have C2:d<=20:=by simp at h2;omega
   refine wA (λx:Nat×Int=>[(1,aa d),(2,.loc 0 0),(48,.aM 3<|t.kids.map gO),(49,.sc (.int .i64 (t.kids.map gO).length)),(50,aa x.1)])
    (λx=>[.row true [aa x.2],.row true<|aN t]) (λx=>x.1<=t.width/\0<=x.2/\x.2<=60/\jz bz t.kids (d+1) (n+1)=jz bz (t.kids.drop x.1) (d+1) x.2) (λx=>t.width-x.1) (0,n+1)
    ⟨zs,by simp;omega,ye,rfl⟩ (o5 ⟨rfl,rfl,rfl,rfl,rfl,trivial⟩) ?_
   clear h1 h2;rintro⟨k,m⟩ ⟨hk,AS,Bz,hF⟩;refine sRS (λh4=>?_) λh4=>?_
   ·have al:k<t.width:=(by simpa [Tree.width] using h4);rw[JP _ al] at hF;refine sL (dk al) ?_;refine .inl ⟨by unfold dQ;rw[gf];omega,?_⟩;refine sW ?_;refine sA (rX (ih k al (d+1) m (hs.az al) zo zo AS Bz) (by simp[an,c7,Pure]) (by simp[an]) (by simp[an,Pure]) (by simp[an,Pure]) (by simp[Pure]) (id:=0) rfl) ?_;refine sS (λh5=>?_) λh5=>?_
    ·rw[e,hF,ab<|by simpa using h5];exact⟨rfl,rfl,zs⟩
    have uy:(dG bz (t.az k) (d+1) m).1=0:=(by simpa using h5);rw[ae uy] at hF;have b1:=(D3 bz (t.az k) (d+1) m).1;have b2:=DJ bz (t.az k) (d+1) m uy;refine .inl ⟨by unfold dQ;rw[gf];unfold Tree.width at *;omega,?_⟩;refine sW ?_
    refine⟨(k+1,(dG bz (t.az k) (d+1) m).2),⟨by dsimp only at *;omega,by dsimp only at *;omega,b2,hF⟩,by dsimp only at *;omega,aR 2 zs rfl ⟨.refl _,by simp[aq],.refl _,by simp[aq],.refl _,by simp only[aq];exact aV _<|lr t,.refl _,by simp[aq],.refl _,by simp[aq],trivial⟩
     ⟨⟨rfl,.refl _,by simp[au,aq]⟩,⟨rfl,.refl _,bu _<|cM t⟩,trivial⟩⟩
   have al:k=t.width:=by have:¬k<t.width:=by simpa [Tree.width] using h4
                         dsimp only at hk;omega
   rw[e,hF,al,IN];exact⟨rfl,rfl,zs⟩
theorem Ad(hs:Small t):ar ai 42 [aY t]<|aa<|aS bz t:=by
 refine bL ?_;refine sA (rX (zrX t 1 0 hs zo zo zo zo) (by simp[an,c7,Pure]) (by simp[an]) (by simp[an,Pure]) (by simp[an,Pure]) (by simp[Pure]) (H:=[.row true<|aN t,.row true [aa 0]]) (id:=1) rfl) ?_;exact .refl _
theorem zuG:ar ai 254 [aa k]<|aa<|dp k:=by
 refine bL ?_;repeat' (first|refine sS (λh=>?_) λh=>?_|exact cd<|by simp_all [dp])
theorem zsm:∀(t:Tree) (d n:Int),Small t->0<=d->d<=21->0<=n->n<=60->cp ai 175 ([aY t,aa d]++.loc 0 0::[]) [.row true [aa n]] (.sc (.int .i64 (dG dp t d n).1)) [.row true [.sc (.int .i64 (dG dp t d n).2)]]:=by
 intro t
 induction t using Tree.ind with
 |h t ih =>
  intro d n hs hd CV hn fk;have fT:=hs.width;refine iV fZ zs zs ?_ (by simp[aq]) (by simp[ao.under,au,aq]);refine sR ?_;refine .inl ⟨by unfold dQ;rw[gf];omega,?_⟩;refine sW ?_;have e:=Hj dp t d n;refine sS (λh1=>?_) λh1=>?_
  ·simp at h1;rw[e,ae h1];exact⟨rfl,rfl,zs⟩
  rw[ab<|by simpa using h1] at e;refine sS (λh2=>?_) λh2=>?_
  ·simp at h2;rw[e,ae h2];exact⟨rfl,rfl,zs⟩
  rw[ab<|by simpa using h2] at e;refine sC (zuG t.kind) ?_;have odd:fq dp t->dG dp t d n=(1,n+1):=λh=>by rw[e,ae h]
  have bad:fq dp t->(aa 1=.sc (.int .i64 (dG dp t d n).1)/\List.take [ao.row true [D.sc<|Value.int IntKind.i64 (dG dp t d n).2]].length [ao.row true [aa<|n+1],ao.row true<|aN t]=[ao.row true [D.sc<|Value.int IntKind.i64 (dG dp t d n).2]]/\[ao.row true [D.sc<|Value.int IntKind.i64 (dG dp t d n).2]].length<=2):=λh=>by
   rw[odd h];exact⟨rfl,rfl,zs⟩
  repeat' (first
   |refine sS (λh=>?_) λh=>?_
   |exact bad (by unfold fq Tree.width;simp_all;try omega))
  all_goals
   have da:¬fq dp t:=by unfold fq Tree.width;simp_all;try omega
   rw[ab da] at e;have ye:n+1<=60:=(by simp at h1;omega);have C2:d<=20:=by simp at h2;omega
   refine wA (λx:Nat×Int=>[(1,aa d),(2,.loc 0 0),(48,.aM 3<|t.kids.map gO),(49,.sc (.int .i64 (t.kids.map gO).length)),(50,aa x.1)])
    (λx=>[.row true [aa x.2],.row true<|aN t]) (λx=>x.1<=t.width/\0<=x.2/\x.2<=60/\jz dp t.kids (d+1) (n+1)=jz dp (t.kids.drop x.1) (d+1) x.2) (λx=>t.width-x.1) (0,n+1)
    ⟨zs,by simp;omega,ye,rfl⟩ (o5 ⟨rfl,rfl,rfl,rfl,rfl,trivial⟩) ?_
   clear h1 h2;rintro⟨k,m⟩ ⟨hk,AS,Bz,hF⟩;refine sRS (λh4=>?_) λh4=>?_
   ·have al:k<t.width:=(by simpa [Tree.width] using h4);rw[JP _ al] at hF;refine sL (dk al) ?_;refine .inl ⟨by unfold dQ;rw[gf];omega,?_⟩;refine sW ?_;refine sA (rX (ih k al (d+1) m (hs.az al) zo zo AS Bz) (by simp[an,c7,Pure]) (by simp[an]) (by simp[an,Pure]) (by simp[an,Pure]) (by simp[Pure]) (id:=0) rfl) ?_;refine sS (λh5=>?_) λh5=>?_
    ·rw[e,hF,ab<|by simpa using h5];exact⟨rfl,rfl,zs⟩
    have uy:(dG dp (t.az k) (d+1) m).1=0:=(by simpa using h5);rw[ae uy] at hF;have b1:=(D3 dp (t.az k) (d+1) m).1;have b2:=DJ dp (t.az k) (d+1) m uy;refine .inl ⟨by unfold dQ;rw[gf];unfold Tree.width at *;omega,?_⟩;refine sW ?_
    refine⟨(k+1,(dG dp (t.az k) (d+1) m).2),⟨by dsimp only at *;omega,by dsimp only at *;omega,b2,hF⟩,by dsimp only at *;omega,aR 2 zs rfl ⟨.refl _,by simp[aq],.refl _,by simp[aq],.refl _,by simp only[aq];exact aV _<|lr t,.refl _,by simp[aq],.refl _,by simp[aq],trivial⟩
     ⟨⟨rfl,.refl _,by simp[au,aq]⟩,⟨rfl,.refl _,bu _<|cM t⟩,trivial⟩⟩
   have al:k=t.width:=by have:¬k<t.width:=by simpa [Tree.width] using h4
                         dsimp only at hk;omega
   rw[e,hF,al,IN];exact⟨rfl,rfl,zs⟩
theorem Xc(hs:Small t):ar ai 103 [aY t]<|aa<|aS dp t:=by
 refine bL ?_;refine sA (rX (zsm t 1 0 hs zo zo zo zo) (by simp[an,c7,Pure]) (by simp[an]) (by simp[an,Pure]) (by simp[an,Pure]) (by simp[Pure]) (H:=[.row true<|aN t,.row true [aa 0]]) (id:=1) rfl) ?_;exact .refl _
theorem JX:Deep H (.agg [aa 0,aa 0,ax])<|aY<|cv 0 0:=by exact sP
theorem Nh:∀a b:Tree,Small a->ar ai 58 [aY a,aY b] (aD<|dR a b):=by
 intro a
 induction a using Tree.ind with
 |h a ih =>
  intro b hs;refine bL ?_;have no:a.kind≠b.kind\/a.num≠b.num\/a.kids.length≠b.kids.length->false=dR a b:=λh=>Dp (by rintro rfl;simp at h);refine sS (λh1=>?_) λh1=>?_
  ·exact cd<|bJ (λx=>aD x)<|no (.inl<|by simpa using h1)
  refine sS (λh2=>?_) λh2=>?_
  ·exact cd<|bJ (λx=>aD x)<|no (.inr (.inl<|by simpa using h2))
  refine sS (λh3=>?_) λh3=>?_
  ·exact cd<|bJ (λx=>aD x)<|no (.inr (.inr<|by simp at h3;omega))
  simp at h1 h2 h3;have fT:=hs.width
  refine Bo (λk:Nat=>[(2,.loc 0 0),(3,.loc 1 0),(5,aa k)]) (λ_=>[.row true<|aN a,.row true<|aN b])
   (λk=>k<=a.width/\∀j,j<k->a.az j=b.az j) (λk=>a.width-k) 0 ⟨zo,λj h=>zo⟩ (rh ⟨rfl,rfl,rfl,trivial⟩) ?_
  rintro k ⟨hk,bR⟩;refine sRS (λh4=>?_) λh4=>?_
  ·have al:k<a.width:=(by simpa [Tree.width] using h4);refine sL (dk al) ?_;refine sL (dk (t:=b)<|by unfold Tree.width at *;omega) ?_;refine sC (ih k al (b.az k)<|hs.az al) ?_;refine sS (λh5=>?_) λh5=>?_
   ·exact cd<|bJ (λx=>aD x)<|Dp<|by rintro rfl;simp[dR] at h5
   simp[AA] at h5;refine .inl ⟨by unfold dQ;rw[gf];unfold Tree.width at *;omega,?_⟩;refine sW ?_;refine⟨k+1,⟨zo,λj hj=>?_⟩,zd,rh ⟨rfl,rfl,rfl,trivial⟩⟩;by_cases e:j=k
   ·subst e;exact h5
   exact bR j zo
  have al:¬k<a.width:=(by simpa [Tree.width] using h4);exact cd<|bJ (λx=>aD x)<|N3<|Tree.Mj h1 h2 (by unfold Tree.width;omega) λj hj=>bR j zo
variable(dA:Tree)
theorem zlD(hg:Small dA):ar ai 58 [aY dA,.agg [aa 0,aa 0,ax]] (aD<|dR dA<|cv 0 0) :=
 Rk (by simp[an,Pure,c7]) (.cons _ _ _ _ (.refl _) (.cons _ _ _ _ JX .nil)) (Nh dA (cv 0 0) hg)
theorem znd:∀a b:Tree,Small a->ar ai 59 [aY a,aY b] (aD<|dR a b):=by
 intro a
 induction a using Tree.ind with
 |h a ih =>
  intro b hs;refine bL ?_;have no:a.kind≠b.kind\/a.num≠b.num\/a.kids.length≠b.kids.length->false=dR a b:=λh=>Dp (by rintro rfl;simp at h);refine sS (λh1=>?_) λh1=>?_
  ·exact cd<|bJ (λx=>aD x)<|no (.inl<|by simpa using h1)
  refine sS (λh2=>?_) λh2=>?_
  ·exact cd<|bJ (λx=>aD x)<|no (.inr (.inl<|by simpa using h2))
  refine sS (λh3=>?_) λh3=>?_
  ·exact cd<|bJ (λx=>aD x)<|no (.inr (.inr<|by simp at h3;omega))
  simp at h1 h2 h3;have fT:=hs.width
  refine Bo (λk:Nat=>[(2,.loc 0 0),(3,.loc 1 0),(5,aa k)]) (λ_=>[.row true<|aN a,.row true<|aN b])
   (λk=>k<=a.width/\∀j,j<k->a.az j=b.az j) (λk=>a.width-k) 0 ⟨zo,λj h=>zo⟩ (rh ⟨rfl,rfl,rfl,trivial⟩) ?_
  rintro k ⟨hk,bR⟩;refine sRS (λh4=>?_) λh4=>?_
  ·have al:k<a.width:=(by simpa [Tree.width] using h4);refine sL (dk al) ?_;refine sL (dk (t:=b)<|by unfold Tree.width at *;omega) ?_;refine sC (ih k al (b.az k)<|hs.az al) ?_;refine sS (λh5=>?_) λh5=>?_
   ·exact cd<|bJ (λx=>aD x)<|Dp<|by rintro rfl;simp[dR] at h5
   simp[AA] at h5;refine .inl ⟨by unfold dQ;rw[gf];unfold Tree.width at *;omega,?_⟩;refine sW ?_;refine⟨k+1,⟨zo,λj hj=>?_⟩,zd,rh ⟨rfl,rfl,rfl,trivial⟩⟩;by_cases e:j=k
   ·subst e;exact h5
   exact bR j zo
  have al:¬k<a.width:=(by simpa [Tree.width] using h4);exact cd<|bJ (λx=>aD x)<|N3<|Tree.Mj h1 h2 (by unfold Tree.width;omega) λj hj=>bR j zo
theorem zlC(hg:Small dA):ar ai 59 [aY dA,.agg [aa 0,aa 0,ax]] (aD<|dR dA<|cv 0 0) :=
 Rk (by simp[an,Pure,c7]) (.cons _ _ _ _ (.refl _) (.cons _ _ _ _ JX .nil)) (znd dA (cv 0 0) hg)
def ee{α:Type}(p:α->Bool)(l:List α):Int:=match l.findIdx? p with|some i=>(i:Int)|none=>-1
variable{k:Nat}
theorem wK{p:α->Bool}{l:List α}(hk:k<l.length)(h:p l[k])(no:∀j (hj:j<k),p (l[j]'zo)=false):ee p l=k:=by
 have:l.findIdx? p=some k:=by
  rw[HR];exact⟨hk,h,λj hj=>by simp[no j hj]⟩
 unfold ee;rw[this]
theorem AT{p:α->Bool}{l:List α}(no:∀j (hj:j<l.length),p l[j]=false):ee p l=-1:=by
 have:l.findIdx? p=none:=by
  rw[List.findIdx?_eq_none_iff];intro x hx;obtain⟨j,hj,rfl⟩:=jN.1 hx;exact no j hj
 unfold ee;rw[this]
theorem rW(p:α->Bool)(l:List α):decide (ee p l>=0)=l.any p:=by
 unfold ee
 cases e:l.findIdx? p with
 |none =>
  rw[List.findIdx?_eq_none_iff] at e;have:l.any p=false:=by rw[pd];intro x hx;simp[e x hx]
  rw[this];rfl
 |some i =>
  rw[HR] at e;obtain⟨h1,h2,_⟩:=e;have:l.any p=true:=by rw[kJ];exact⟨_,ib h1,h2⟩
  rw[this];exact ia<|by show(0:Int)<=(i:Int);omega
theorem Gb{p:α->Bool}{l:List α}(h:0<=ee p l):∃k:Nat,ee p l=(k:Int)/\∃hk:k<l.length,p l[k]/\∀j (hj:j<k),p (l[j]'zo)=false:=by
 unfold ee at h⊢
 cases e:l.findIdx? p with
 |none=>rw[e] at h;exact absurd h zc
 |some i =>
  rw[HR] at e;obtain⟨h1,h2,h3⟩:=e;exact⟨i,rfl,h1,h2,λj hj=>by simpa using h3 j hj⟩
theorem yL{c:α->D}{l:List α}{z:Nat}(hz:z=k)(h:k<l.length):(l.map λa=>[c a])[z]? = some [c l[k]]:=by
 subst hz;rw[cU,aJ h];rfl
variable{n:Nat}
theorem zuJ(h:k<n)(hn:n<=9223372036854775807):dQ .i64<|(k:Int)+1:=by unfold dQ;rw[gf];omega
@[simp] theorem Wb(f:α->bh)(l:List α):bg m (l.map f)↔∀a∈l,au m<|f a:=by
 induction l with
 |nil=>simp[bg]
 |cons a r ih=>simp[bg,ih]
@[simp] theorem zyh(f:α->bh)(l:List α):fc (l.map f)↔∀a∈l,an<|f a:=by
 induction l with
 |nil=>simp[fc]
 |cons a r ih=>simp[fc,ih]
@[simp] theorem zzV(f:α->bh)(l:List α):lz ρ (l.map f)=l.map λa=>bP ρ<|f a:=by
 induction l with
 |nil=>simp[lz]
 |cons a r ih=>simp[lz,ih]
@[simp] theorem Z6:aq m (aO l)↔True:=⟨λ_=>trivial,λ_=>bw _<|cG l⟩
@[simp] theorem znf(l:aj):aq m (bY l)↔True:=⟨λ_=>trivial,λ_=>bw _<|mj l⟩
@[simp] theorem tp:D.aQ ρ (aO l)=aO l:=iT _<|cG l
@[simp] theorem Sx(l:aj):D.aQ ρ (bY l)=bY l:=iT _<|mj l
theorem cx{l:List α}(h:l.length<=n):List.drop 0 (List.take n l)=l:=by rw[fQ,jd h]
def zAD:PC:=SO [Mv 2 cN] (.seq (SO [qm 3 0,q 4 (.EH 3 false 3)]<|If 4 (.seq (.stop<|OP [Mv 2 cN]) .ret))<|SO [Bs 5 1 0 [],qm 6 0,Ap 7 1 8 5 6,qm 2 7] .ret)
theorem MC(hl:l.length<=17592186044416):cp ai 127 [.aM 1<|l.map λn=>[aa n]] [] (.own 0 1 0 l.length) [.vec true 1 1<|l.map λn=>[aa n]]:=by
 refine iV (fJ 8 [.tmp 2] zAD Tryz.func127) zs zs ?_ (by simp[aq]) (by simp[ao.under,au,aq]);refine sR ?_;intro b hb;cases b
 ·refine sWJ ?_;simp
 refine sW ?_;have hb:=hb rfl;obtain rfl:l=[]:=by simpa using hb
 refine px (λ_:Unit=>[(2,.own 0 1 0 0)]) (λ_=>[.vec true 1 1 []]) (λ_=>True) ?_ ?_
 ·refine sR ?_;exact⟨(),trivial,kS (Ug 2 1 1 zs rfl)<|o5<|by exact sK⟩
 rintro _ _;refine sW ?_;simp
theorem zpr(c:α->D)(kT:∀a,Pure<|c a)(l:List α)(hl:l.length<=9223372036854775807)(p:α->Bool)(cl:FuncId)(cap:bh)(hp:an cap)(hc:∀a∈l,ar ai cl (c a::cap)<|aD<|p a) :
  ar ai 146 [.aM 1<|l.map λa=>[c a],.fn (.func cl) [] cap] (aa<|ee p l):=by
 have jh:fc<|l.map λa=>[c a]:=db _ (λa=>by simp[an,kT]) l;refine dC fZ zs (by simp[an,Pure,hp,jh]) ?_ (by simp[Pure]);refine sR ?_;rw[aK];have fin:∀{z:Int},z=ee p l->Deep [] (aa z) (aa<|ee p l):=λh=>h▸.refl _;refine bt [0,1,7] (λk:Nat=>[(8,aa k)]) (λ_=>[]) (λk=>k<=l.length/\∀j (hj:j<k) (hl:j<l.length),p l[j]=false) (λk=>l.length-k) 0 ?_;refine sW ?_;refine⟨⟨zo,λj hj=>zo⟩,by exact sK,rfl,?_⟩;rintro k ⟨hk,da⟩;refine br (λh=>?_) λh=>?_
 ·have al:k<l.length:=sO;refine sL (yL (k:=k) zo al) ?_;refine sC (hc _<|ib al) ?_;refine sS (λh2=>?_) λh2=>?_
  ·exact fin (wK al h2 λj hj=>da j hj zo).symm
  refine sI ?_;refine⟨k+1,⟨zo,λj hj hl=>?_⟩,zd,aL (by exact sK) rfl⟩;by_cases e:j=k
  ·subst e;exact h2
  exact da j zo hl
 have al:¬k<l.length:=sO;exact fin (AT λj hj=>da j zo hj).symm
theorem mC(c:α->D)(kT:∀a,Pure<|c a)(l:List α)(hl:l.length<=9223372036854775807)(p:α->Bool)(cl:FuncId)(cap:bh)(hp:an cap)(hc:∀a∈l,ar ai cl (c a::cap)<|aD<|p a) :
  ar ai 69 [.aM 1<|l.map λa=>[c a],.fn (.func cl) [] cap] (aD<|l.any p):=by
 have jh:fc<|l.map λa=>[c a]:=db _ (λa=>by simp[an,kT]) l;refine dC fZ zs (by simp[an,Pure,hp,jh]) ?_ (by simp[Pure]);refine sR ?_;refine sC (zpr c kT l hl p cl cap hp hc) ?_;rw[rW];exact .refl _
theorem XS(c:α->D)(kT:∀a,Pure<|c a)(l:List α)(hl:l.length<=9223372036854775807)(p:α->Bool)(cl:FuncId)(cap:bh)(hp:an cap)(hc:∀a∈l,ar ai cl (c a::cap)<|aD<|p a) :
  ar ai 207 [.aM 1<|l.map λa=>[c a],.fn (.func cl) [] cap] (aa<|ee p l):=by
 have jh:fc<|l.map λa=>[c a]:=db _ (λa=>by simp[an,kT]) l;refine dC fZ zs (by simp[an,Pure,hp,jh]) ?_ (by simp[Pure]);refine sR ?_;rw[aK];have fin:∀{z:Int},z=ee p l->Deep [] (aa z) (aa<|ee p l):=λh=>h▸.refl _;refine bt [0,1,7] (λk:Nat=>[(8,aa k)]) (λ_=>[]) (λk=>k<=l.length/\∀j (hj:j<k) (hl:j<l.length),p l[j]=false) (λk=>l.length-k) 0 ?_;refine sW ?_;refine⟨⟨zo,λj hj=>zo⟩,by exact sK,rfl,?_⟩;rintro k ⟨hk,da⟩;refine br (λh=>?_) λh=>?_
 ·have al:k<l.length:=sO;refine sL (yL (k:=k) zo al) ?_;refine sC (hc _<|ib al) ?_;refine sS (λh2=>?_) λh2=>?_
  ·exact fin (wK al h2 λj hj=>da j hj zo).symm
  refine sI ?_;refine⟨k+1,⟨zo,λj hj hl=>?_⟩,zd,aL (by exact sK) rfl⟩;by_cases e:j=k
  ·subst e;exact h2
  exact da j zo hl
 have al:¬k<l.length:=sO;exact fin (AT λj hj=>da j zo hj).symm
theorem Kn(c:α->D)(kT:∀a,Pure<|c a)(l:List α)(hl:l.length<=9223372036854775807)(p:α->Bool)(cl:FuncId)(cap:bh)(hp:an cap)(hc:∀a∈l,ar ai cl (c a::cap)<|aD<|p a) :
  ar ai 120 [.aM 1<|l.map λa=>[c a],.fn (.func cl) [] cap] (aD<|l.any p):=by
 have jh:fc<|l.map λa=>[c a]:=db _ (λa=>by simp[an,kT]) l;refine dC fZ zs (by simp[an,Pure,hp,jh]) ?_ (by simp[Pure]);refine sR ?_;refine sC (XS c kT l hl p cl cap hp hc) ?_;rw[rW];exact .refl _
theorem Up(hl:l.length<=9223372036854775807)(b:Int) :
  ar ai 266 [.aM 1<|l.map λa=>[aa a],aa b] (aa<|ee (λa=>b==a) l):=by
 have jh:fc<|l.map λa=>[aa a]:=db _ (λa=>by simp[an,Pure]) l;refine dC fZ zs (by simp[an,Pure,jh]) ?_ (by simp[Pure]);refine sR ?_;rw[aK];have fin:∀{z:Int},z=ee (λa=>b==a) l->Deep [] (aa z) (aa<|ee (λa=>b==a) l):=λh=>h▸.refl _;refine bt [0,1,7] (λk:Nat=>[(8,aa k)]) (λ_=>[]) (λk=>k<=l.length/\∀j (hj:j<k) (hl:j<l.length),(b==l[j])=false) (λk=>l.length-k) 0 ?_;refine sW ?_;refine⟨⟨zo,λj hj=>zo⟩,by exact sK,rfl,?_⟩;rintro k ⟨hk,da⟩;refine br (λh=>?_) λh=>?_
 ·have al:k<l.length:=sO;refine sL (yL (c:=λa=>aa a) (k:=k) zo al) ?_;refine sS (λh2=>?_) λh2=>?_
  ·exact fin (wK al h2 λj hj=>da j hj zo).symm
  refine sI ?_;refine⟨k+1,⟨zo,λj hj hl=>?_⟩,zd,aL (by exact sK) rfl⟩;by_cases e:j=k
  ·subst e;exact h2
  exact da j zo hl
 have al:¬k<l.length:=sO;exact fin (AT λj hj=>da j zo hj).symm
theorem zku(hl:l.length<=9223372036854775807)(b:Int) :
  ar ai 210 [.aM 1<|l.map λa=>[aa a],aa b] (aD<|l.contains b):=by
 have jh:fc<|l.map λa=>[aa a]:=db _ (λa=>by simp[an,Pure]) l;refine dC fZ zs (by simp[an,Pure,jh]) ?_ (by simp[Pure]);refine sR ?_;refine sC (Up l hl b) ?_;rw[rW];exact cd<|by rw[List.contains_eq_any_beq]
variable(l:List Bool)
theorem Ul(hl:l.length<=9223372036854775807)(b:Bool) :
  ar ai 224 [.aM 1<|l.map λa=>[aD a],aD b] (aa<|ee (λa=>b==a) l):=by
 have jh:fc<|l.map λa=>[aD a]:=db _ (λa=>by simp[an,Pure]) l;refine dC fZ zs (by simp[an,Pure,jh]) ?_ (by simp[Pure]);refine sR ?_;rw[aK];have fin:∀{z:Int},z=ee (λa=>b==a) l->Deep [] (aa z) (aa<|ee (λa=>b==a) l):=λh=>h▸.refl _;refine bt [0,1,7] (λk:Nat=>[(8,aa k)]) (λ_=>[]) (λk=>k<=l.length/\∀j (hj:j<k) (hl:j<l.length),(b==l[j])=false) (λk=>l.length-k) 0 ?_;refine sW ?_;refine⟨⟨zo,λj hj=>zo⟩,by exact sK,rfl,?_⟩;rintro k ⟨hk,da⟩;refine br (λh=>?_) λh=>?_
 ·have al:k<l.length:=sO;refine sL (yL (c:=λa=>aD a) (k:=k) zo al) ?_;refine sS (λh2=>?_) λh2=>?_
  ·exact fin (wK al h2 λj hj=>da j hj zo).symm
  refine sI ?_;refine⟨k+1,⟨zo,λj hj hl=>?_⟩,zd,aL (by exact sK) rfl⟩;by_cases e:j=k
  ·subst e;exact h2
  exact da j zo hl
 have al:¬k<l.length:=sO;exact fin (AT λj hj=>da j zo hj).symm
theorem Zn(hl:l.length<=9223372036854775807)(b:Bool) :
  ar ai 158 [.aM 1<|l.map λa=>[aD a],aD b] (aD<|l.contains b):=by
 have jh:fc<|l.map λa=>[aD a]:=db _ (λa=>by simp[an,Pure]) l;refine dC fZ zs (by simp[an,Pure,jh]) ?_ (by simp[Pure]);refine sR ?_;refine sC (Ul l hl b) ?_;rw[rW];exact cd<|by rw[List.contains_eq_any_beq]
theorem SQ(a b:ah)(ha:a.length<=9223372036854775807):ar ai 27 [aO a,aO b]<|aD<|decide (a=b):=by
 refine bK fZ ?_;unfold aO;refine sR ?_;rw[aK,aK];have fin:∀{c:Bool},c=decide (a=b)->Deep [] (aD c) (aD<|decide (a=b)):=λh=>h▸.refl _;refine sS (λh1=>?_) λh1=>?_
 ·exact fin<|by rw[eq_comm,zf];rintro rfl;simp at h1
 have hl:a.length=b.length:=sO;rw[aK];refine bt [0,1,12] (λk:Nat=>[(13,aa k)]) (λ_=>[]) (λk=>k<=a.length/\∀j (hj:j<k) (h1:j<a.length) (h2:j<b.length),a[j]=b[j]) (λk=>a.length-k) 0 ?_;refine sW ?_;refine⟨⟨zo,λj h=>zo⟩,by exact sK,rfl,?_⟩;rintro k ⟨hk,bR⟩;refine br (λh2=>?_) λh2=>?_
 ·have al:k<a.length:=sO;refine sL (yL (c:=λn=>aa n) (k:=k) zo al) ?_;refine sL (yL (c:=λn=>aa n) (l:=b) (k:=k) zo zo) ?_;refine sS (λh3=>?_) λh3=>?_
  ·exact fin<|by rw[eq_comm,zf];rintro rfl;simp at h3
  refine sI ?_;refine⟨k+1,⟨zo,λj hj h1 h2=>?_⟩,zd,aL (by exact sK) rfl⟩;by_cases e:j=k
  ·subst e;simpa using h3
  exact bR j zo h1 h2
 refine fin ?_;rw[eq_comm,ja];have al:¬k<a.length:=sO;exact Du hl λi h1 h2=>bR i zo h1 h2
noncomputable def oA(e:Int)(t:Tree):D:=.aI [aY<|if e=0 then t else cv 0 0,aa e]
@[simp] theorem zy0(e:Int)(t:Tree):Pure<|oA e t:=by simp[oA,Pure,an,c7]
variable{e:Int}
theorem tn(h:e≠0)(t:Tree):Deep H (.aI [.agg [aa 0,aa 0,ax],aa e])<|oA e t:=by
 unfold oA;rw[ab h];exact .aI _ _ (.cons _ _ _ _ JX (.cons _ _ _ _ (.refl _) .nil))
variable{t:Tree}
theorem DC(h:e=0)(k:Deep H d<|aY t):Deep H (.aI [d,aa 0])<|oA e t:=by
 subst h;unfold oA;rw[ae rfl];exact .aI _ _ (.cons _ _ _ _ k (.cons _ _ _ _ (.refl _) .nil))
noncomputable def vp(x:cC):Int:=if ew x=0 then aS bz<|tI x else ew x
noncomputable def vM(k a b c:Int):Int:=if jT k a b c=0 then aS bz<|tw k a b c else jT k a b c
theorem zsd(k a b c:Int):ar ai 41 [uk k a b c]<|oA (vM k a b c)<|tw k a b c:=by
 refine bK fZ ?_;unfold vM;refine sR ?_;refine sC (L9 k a b c) ?_;refine sS (λh1=>?_) λh1=>?_
 ·rw[ab<|sO];exact tn (sO) _
 have h0:jT k a b c=0:=sO;rw[ae h0];refine sC (zuK k a b c h0) ?_;refine sC (Ad _<|LF k a b c) ?_;refine sS (λh2=>?_) λh2=>?_
 ·exact tn (sO) _
 exact DC (sO) (.refl _)
theorem zd2(k a b c:Int)(h0:jT k a b c=0):ar ai 77 [uk k a b c]<|oA (vM k a b c)<|tw k a b c:=by
 refine bK fZ ?_;unfold vM;rw[ae h0];refine sR ?_;refine sC (zpx k a b c h0) ?_;refine sC (xe _<|LF k a b c) ?_;refine sS (λh2=>?_) λh2=>?_
 ·exact tn (sO) _
 exact DC (sO) (.refl _)
theorem zq0:ar ai 40 [jc x]<|oA (vp x)<|tI x:=by
 refine bK fZ ?_;unfold vp;refine sR ?_;refine sC (wP x) ?_;refine sS (λh1=>?_) λh1=>?_
 ·rw[ab<|sO];exact tn (sO) _
 have h0:ew x=0:=sO;rw[ae h0];refine sC (Yd x h0) ?_;refine sC (Ad _<|OQ x) ?_;refine sS (λh2=>?_) λh2=>?_
 ·exact tn (sO) _
 exact DC (sO) (.refl _)
theorem zfm(h0:ew x=0):ar ai 76 [jc x]<|oA (vp x)<|tI x:=by
 refine bK fZ ?_;unfold vp;rw[ae h0];refine sR ?_;refine sC (zpv x h0) ?_;refine sC (xe _<|OQ x) ?_;refine sS (λh2=>?_) λh2=>?_
 ·exact tn (sO) _
 exact DC (sO) (.refl _)
theorem zrH(hk:k<t.width):List.drop 0 (List.take k<|(t.kids.take k).map gO)++[aN<|t.az k]=(t.kids.take<|k+1).map gO:=by
 have:=Mf gO<|kid_get? hk;rwa [vR] at this
theorem ZR:∀t:Tree,t.wf bz->ar ai 43 [aY t] (aY t):=by
 intro t
 induction t using Tree.ind with
 |h t ih =>
  intro cu;have hs:=uw t cu;have fT:=hs.width;have tE:=tR ((jG _ _).1 cu).1;refine bL ?_;rw[aK];refine b8 (iq 2 2 3 zs rfl rfl) ?_;refine bt [2,3,12,13] (λk:Nat=>[(14,aa k)]) (λk=>[(2,.row true [aa t.kind,aa t.num,.own 3 k 0 k]),(3,.vec true k 3<|(t.kids.take k).map gO)]) (λk=>k<=t.width) (λk=>t.width-k) 0 ?_;refine eC ?_;rintro k hk;refine br (λh1=>?_) λh1=>?_
  ·have al:k<t.width:=(by simpa [Tree.width] using h1);refine sL (dk al) ?_;refine sC (ih k al<|gD cu al) ?_;refine fA ?_;refine⟨k+1,zo,zd,?_⟩;refine aR 4 zs rfl sQ (sU ?_);exact aZ<|zrH al
  have al:k=t.width:=by have:¬k<t.width:=by simpa [Tree.width] using h1
                        omega
  subst al;refine .agg _ _ (.cons _ _ _ _ (.refl _) (.cons _ _ _ _ (.refl _) (.cons _ _ _ _ (.own _ _ _ _ _ _ _ _ rfl ?_) .nil)));rw[cx<|by simp[Tree.width],Tree.width,eZ];exact iX _
def jC(name:aX)(sort:Int)(x:cC)(k a b c:Int)(f g:Tree):bh:=.sc (.string name)::aa sort::(cc x++(iN k a b c++(aN f++aN g)))
def cK(name:aX)(sort:Int)(x:cC)(k a b c:Int)(f g:Tree):D:=.agg<|jC name sort x k a b c f g
theorem Lc{a b:bh}(h:an a)(k:an b):an<|a++b:=by
 induction a with
 |nil=>exact k
 |cons d r ih=>exact⟨h.1,ih h.2⟩
@[simp] theorem wR(name:aX)(sort:Int)(x:cC)(k a b c:Int)(f g:Tree):Pure<|cK name sort x k a b c f g:=by
 simp only[cK,Pure,jC,an,true_and];exact Lc (by simp[cc,an,Pure])<|Lc (by simp[iN,an,Pure])<|Lc (cM f)<|cM g
noncomputable def gP(sort:Int)(x:cC)(k a b c:Int)(f:Tree):Int:=if sort=1 then vp x else if sort=2 then vM k a b c else if sort=3 then aS bz f else 1
noncomputable def cy(sort:Int)(x:cC)(k a b c:Int)(f:Tree):Tree:=if sort=1 then tI x else if sort=2 then tw k a b c else f
theorem Xl(name:aX)(sort:Int)(x:cC)(k a b c:Int)(f g:Tree)(hf:Small f) :
  ar ai 11 [cK name sort x k a b c f g] (oA (gP sort x k a b c f)<|cy sort x k a b c f):=by
 refine bK fZ ?_;refine sRS (λh1=>?_) λh1=>?_
 ·have h1:sort=1:=sO;have e:gP sort x k a b c f=vp x:=(by simp[gP,h1]);have t:cy sort x k a b c f=tI x:=(by simp[cy,h1]);rw[e,t];refine sC (zq0 x) ?_;exact .refl _
 have h1:sort≠1:=sO;refine sS (λh2=>?_) λh2=>?_
 ·have h2:sort=2:=sO;have e:gP sort x k a b c f=vM k a b c:=(by simp[gP,h2]);have t:cy sort x k a b c f=tw k a b c:=(by simp[cy,h2]);rw[e,t];refine sC (zsd k a b c) ?_;exact .refl _
 have h2:sort≠2:=sO;refine sS (λh3=>?_) λh3=>?_
 ·have h3:sort=3:=sO;refine sC (Ad f hf) ?_;have e:gP sort x k a b c f=aS bz f:=(by simp[gP,h1,h2,h3]);have t:cy sort x k a b c f=f:=(by simp[cy,h1,h2]);rw[e,t];refine sS (λh4=>?_) λh4=>?_
  ·exact tn (sO) _
  have h4:aS bz f=0:=sO;refine sC (ZR f ((qM _ _).1 h4).2.2) ?_;exact DC h4 (.refl _)
 have h3:sort≠3:=sO;have e:gP sort x k a b c f=1:=by simp[gP,h1,h2,h3]
 rw[e];exact tn zc _
theorem Rb(name:aX)(sort:Int)(x:cC)(k a b c:Int)(f g:Tree)(hf:Small f) :
  ar ai 19 [cK name sort x k a b c f g] (oA (gP sort x k a b c f)<|cy sort x k a b c f):=by
 refine bK fZ ?_;refine sRS (λh1=>?_) λh1=>?_
 ·have h1:sort=1:=sO;have e:gP sort x k a b c f=vp x:=(by simp[gP,h1]);have t:cy sort x k a b c f=tI x:=(by simp[cy,h1]);rw[e,t];refine sC (We x) ?_;refine sS (λh4=>?_) λh4=>?_
  ·have h4:ew x=0:=sO;refine sC (zfm x h4) ?_;exact .refl _
  have h4:ew x≠0:=sO;have:vp x=ew x:=by unfold vp;rw[ab h4]
  rw[this];exact tn h4 _
 have h1:sort≠1:=sO;refine sS (λh2=>?_) λh2=>?_
 ·have h2:sort=2:=sO;have e:gP sort x k a b c f=vM k a b c:=(by simp[gP,h2]);have t:cy sort x k a b c f=tw k a b c:=(by simp[cy,h2]);rw[e,t];refine sC (SA k a b c) ?_;refine sS (λh4=>?_) λh4=>?_
  ·have h4:jT k a b c=0:=sO;refine sC (zd2 k a b c h4) ?_;exact .refl _
  have h4:jT k a b c≠0:=sO;have:vM k a b c=jT k a b c:=by unfold vM;rw[ab h4]
  rw[this];exact tn h4 _
 have h2:sort≠2:=sO;refine sS (λh3=>?_) λh3=>?_
 ·have h3:sort=3:=sO;have e:gP sort x k a b c f=aS bz f:=(by simp[gP,h1,h2,h3]);have t:cy sort x k a b c f=f:=(by simp[cy,h1,h2]);rw[e,t];refine sC (xe f hf) ?_;refine sS (λh4=>?_) λh4=>?_
  ·exact DC (sO) (.refl _)
  exact tn (sO) _
 have h3:sort≠3:=sO;have e:gP sort x k a b c f=1:=by simp[gP,h1,h2,h3]
 rw[e];exact tn zc _
theorem Po(sort:Int)(x:cC)(k a b c:Int)(f:Tree)(hf:Small f):Small<|cy sort x k a b c f:=by
 unfold cy;split
 ·exact OQ x
 split
 ·exact LF k a b c
 exact hf
def ff(a b:aX):Bool:=a.toList==b.toList
variable(a:aX)
theorem Vo(a b:aX):ff a b=ff b a:=by
 unfold ff;exact BEq.comm
@[simp] theorem zAG:ff a a=true:=by simp[ff]
theorem Im:ff a ⟨#[]⟩=true↔a.size=0:=by
 unfold ff;rw[gG,ByteArray.toList_eq,ByteArray.toList_eq];show a.data.toList=[]↔a.data.size=0;rw[List.eq_nil_iff_length_eq_zero,Array.length_toList]
theorem dg(l:Array UInt8):(⟨l⟩:aX).size=l.size:=rfl
def yZ:aX:=⟨#[116,114,117,101]⟩
def yS:aX:=⟨#[102,97,108,115,101]⟩
def vi:aX:=⟨#[115,105,108,101,110,116]⟩
def tY(s:aX)(i:Nat):Bool:=match s[i]? with
 |some b=>decide (97<=b.toNat)&&decide (b.toNat<=122)
 |none=>true
def BK(s:aX):Bool:=(List.range s.size).all<|tY s
variable{s:aX}
theorem Sl(h:∀i,i<s.size->tY s i):BK s:=by
 unfold BK;rw[ki];exact λi hi=>h i<|fX.1 hi
variable{i:Nat}
theorem LR(hi:i<s.size)(h:tY s i=false):BK s=false:=by
 unfold BK;rw[List.all_eq_false];exact⟨i,fX.2 hi,by simp[h]⟩
def iQ(s:aX):Bool:=!(ff s ⟨#[]⟩)&&decide (s.size<=8)&&!(ff s yZ)&&!(ff s yS)&&!(ff s vi)&&BK s
def o8(names:List aX)(n:Nat)(s:aX):Bool:=(List.range n).any λi=>ff (names.getD i ⟨#[]⟩) s
variable{names:List aX}
theorem zoy(h:∀i,i<n->ff (names.getD i ⟨#[]⟩) s=false):o8 names n s=false:=by
 unfold o8;rw[pd];exact λi hi=>by rw[h i<|fX.1 hi];simp
theorem SM(hi:i<n)(h:ff (names.getD i ⟨#[]⟩) s):o8 names n s:=by
 unfold o8;rw[kJ];exact⟨i,fX.2 hi,h⟩
def nm(names:List aX)(n:Int):aX :=
 if n=63 then vi
 else if (names.length:Int)<=n then ⟨#[]⟩
 else if iQ (names.getD n.toNat ⟨#[]⟩)=false then ⟨#[]⟩
 else if o8 names n.toNat (names.getD n.toNat ⟨#[]⟩)=true then ⟨#[]⟩
 else names.getD n.toNat ⟨#[]⟩
variable(names:List aX)
theorem Xp(n:Int):(nm names n).size<=8:=by
 unfold nm;split
 ·decide
 split
 ·decide
 split
 ·decide
 split
 ·decide
 rename_i h _;have:iQ<|names.getD n.toNat ⟨#[]⟩:=by simpa using h
 unfold iQ at this;simp only[fY,ja] at this;exact this.1.1.1.1.2
def oD(b:Bool)(s:aX):aX:=if b then s else ⟨#[40]⟩++s++⟨#[41]⟩
theorem vW(b:Bool)(s:aX):(oD b s).size<=s.size+2:=by
 unfold oD;split
 ·omega
 simp only[df];have:(⟨#[40]⟩:aX).size=1:=rfl;have:(⟨#[41]⟩:aX).size=1:=rfl;omega
def qQ(k i c:Int):Bool:=if c=5 then k==6||(k==5&&i==0) else if c=6 then k==6&&i==0 else if c=8\/c=9 then k==c&&i==1 else true
def DV(k i c:Int):Bool:=if c=5 then k==6||(k==5&&i==0) else if c=6 then k==6&&i==0 else true
def oI(k i c:Int):Bool:=if k=10\/k=14 then true else DV k i c
def wb(names:List aX)(k n:Int)(a b:aX):aX :=
 if k=1 then yZ else if k=2 then yS else if k=3 then nm names n
 else if k=4 then ⟨#[33]⟩++a else if k=7 then ⟨#[88,32]⟩++a else if k=10 then ⟨#[70,32]⟩++a else if k=11 then ⟨#[71,32]⟩++a
 else if k=5 then a++⟨#[32,38,32]⟩++b else if k=6 then a++⟨#[32,47,32]⟩++b else if k=8 then a++⟨#[32,85,32]⟩++b else a++⟨#[32,82,32]⟩++b
def xi(names:List aX)(k n:Int)(a b:aX):aX :=
 if k=1 then yZ else if k=2 then yS else if k=3 then nm names n
 else if k=5 then a++⟨#[32,38,32]⟩++b else if k=6 then a++⟨#[32,47,32]⟩++b
 else if k=10 then ⟨#[69,32,91]⟩++a++⟨#[32,85,32]⟩++b++⟨#[93]⟩ else if k=14 then ⟨#[65,32,91]⟩++a++⟨#[32,85,32]⟩++b++⟨#[93]⟩
 else if k=4 then ⟨#[33]⟩++a else if k=7 then ⟨#[69,88,32]⟩++a else if k=8 then ⟨#[69,70,32]⟩++a else if k=9 then ⟨#[69,71,32]⟩++a
 else if k=11 then ⟨#[65,88,32]⟩++a else if k=12 then ⟨#[65,70,32]⟩++a else ⟨#[65,71,32]⟩++a
theorem P8{p:Prop} [Decidable p] {a b:aX} (h:p->a.size<=n) (k:¬p->b.size<=n):(if p then a else b).size<=n:=by
 split
 ·exact h ‹_›
 exact k ‹_›
theorem G2(k n:Int)(ks:List Tree):(Tree.node k n ks).kind=k:=rfl
theorem DO(k n:Int)(ks:List Tree):(Tree.node k n ks).kids=ks:=rfl
theorem zpb(k n:Int)(a b:aX):(wb names k n a b).size<=a.size+b.size+8:=by
 have:=Xp names n;unfold wb yZ yS;generalize nm names n=z at this⊢;repeat' (refine P8 (λ_=>?_) (λ_=>?_))
 all_goals ((try simp only[df]);(try simp only[dg,dh,bH,bU]);omega)
theorem zoB(k n:Int)(a b:aX):(xi names k n a b).size<=a.size+b.size+8:=by
 have:=Xp names n;unfold xi yZ yS;generalize nm names n=z at this⊢;repeat' (refine P8 (λ_=>?_) (λ_=>?_))
 all_goals ((try simp only[df]);(try simp only[dg,dh,bH,bU]);omega)
mutual
def iz(names:List aX):Tree->aX
 | .node k n ks=>wb names k n ((o9 names k 0 ks).getD 0 ⟨#[]⟩)<|(o9 names k 0 ks).getD 1 ⟨#[]⟩
def o9(names:List aX)(k i:Int):List Tree->List aX
 |[]=>[]
 |t::r=>oD (qQ k i t.kind) (iz names t)::o9 names k (i+1) r
end
def jO(names:List aX)(t:Tree)(j:Nat):aX:=oD (qQ t.kind j (t.az j).kind)<|iz names<|t.az j
theorem Ii(names:List aX)(k:Int):∀(ks:List Tree) (i:Int) (j:Nat),j<ks.length->(o9 names k i ks).getD j ⟨#[]⟩=oD (qQ k (i+j) (ks.getD j default).kind) (iz names<|ks.getD j default)
 |[],_,_,h=>by simp at h
 |t::r,i,0,_=>by simp[o9]
 |t::r,i,j+1,h=>by
  have:=Ii names k r (i+1) j (by simpa using h);simp only[o9,xj];rw[this,show i+1+(j:Int)=i+((j+1:Nat):Int) by omega]
theorem IL(names:List aX)(k:Int):∀(ks:List Tree) (i:Int) (j:Nat),ks.length<=j->(o9 names k i ks).getD j ⟨#[]⟩=⟨#[]⟩
 |[],_,_,_=>by simp[o9]
 |t::r,i,0,h=>by simp at h
 |t::r,i,j+1,h=>by
  simp only[o9,xj];exact IL names k r (i+1) j<|by simpa using h
theorem JA(t:Tree):iz names t=wb names t.kind t.num ((o9 names t.kind 0 t.kids).getD 0 ⟨#[]⟩) ((o9 names t.kind 0 t.kids).getD 1 ⟨#[]⟩):=by
 cases t;simp only[iz];rfl
theorem GU(h:t.width=0):iz names t=wb names t.kind t.num ⟨#[]⟩ ⟨#[]⟩:=by
 rw[JA,IL _ _ _ _ _ (by unfold Tree.width at h;omega),IL _ _ _ _ _<|by unfold Tree.width at h;omega]
theorem Em(h:t.width=1):iz names t=wb names t.kind t.num (jO names t 0) ⟨#[]⟩:=by
 rw[JA,Ii _ _ _ _ _ (by unfold Tree.width at h;omega),IL _ _ _ _ _<|by unfold Tree.width at h;omega];simp[jO,Tree.az]
theorem EG(h:t.width=2):iz names t=wb names t.kind t.num (jO names t 0) (jO names t 1):=by
 rw[JA,Ii _ _ _ _ _ (by unfold Tree.width at h;omega),Ii _ _ _ _ _<|by unfold Tree.width at h;omega];simp[jO,Tree.az]
theorem Rq(t:Tree):(iz names t).size<=12*t.size:=by
 induction t using Tree.ind with
 |h t ih =>
  rw[JA];have hj:=zpb names t.kind t.num ((o9 names t.kind 0 t.kids).getD 0 ⟨#[]⟩)<|(o9 names t.kind 0 t.kids).getD 1 ⟨#[]⟩;refine iv hj ?_;have e0:(⟨#[]⟩:aX).size=0:=rfl;obtain⟨k,n,ks⟩:=t
  match ks with
  |[]=>simp only[DO,o9,List.getD_nil,e0,Tree.size];omega
  |[a] =>
   have h0:=ih 0 (by simp[Tree.width,Tree.kids]);have w0:=vW (qQ k 0 a.kind) (iz names a);simp only[DO,G2,o9,I2,xj,List.getD_nil,e0,Tree.size,Tree.nQ,Tree.az] at h0⊢;omega
  |a::b::r =>
   have h0:=ih 0 (by simp[Tree.width,Tree.kids]);have h1:=ih 1 (by simp[Tree.width,Tree.kids]);have w0:=vW (qQ k 0 a.kind) (iz names a);have w1:=vW (qQ k (0+1) b.kind) (iz names b);simp only[DO,G2,o9,I2,xj,Tree.size,Tree.nQ,Tree.az] at h0 h1⊢;omega
mutual
def gC(names:List aX):Tree->aX
 | .node k n ks=>xi names k n ((pG names k 0 ks).getD 0 ⟨#[]⟩)<|(pG names k 0 ks).getD 1 ⟨#[]⟩
def pG(names:List aX)(k i:Int):List Tree->List aX
 |[]=>[]
 |t::r=>oD (oI k i t.kind) (gC names t)::pG names k (i+1) r
end
def jL(names:List aX)(t:Tree)(j:Nat):aX:=oD (oI t.kind j (t.az j).kind)<|gC names<|t.az j
theorem Ht(names:List aX)(k:Int):∀(ks:List Tree) (i:Int) (j:Nat),j<ks.length->(pG names k i ks).getD j ⟨#[]⟩=oD (oI k (i+j) (ks.getD j default).kind) (gC names<|ks.getD j default)
 |[],_,_,h=>by simp at h
 |t::r,i,0,_=>by simp[pG]
 |t::r,i,j+1,h=>by
  have:=Ht names k r (i+1) j (by simpa using h);simp only[pG,xj];rw[this,show i+1+(j:Int)=i+((j+1:Nat):Int) by omega]
theorem GA(names:List aX)(k:Int):∀(ks:List Tree) (i:Int) (j:Nat),ks.length<=j->(pG names k i ks).getD j ⟨#[]⟩=⟨#[]⟩
 |[],_,_,_=>by simp[pG]
 |t::r,i,0,h=>by simp at h
 |t::r,i,j+1,h=>by
  simp only[pG,xj];exact GA names k r (i+1) j<|by simpa using h
theorem JQ(t:Tree):gC names t=xi names t.kind t.num ((pG names t.kind 0 t.kids).getD 0 ⟨#[]⟩) ((pG names t.kind 0 t.kids).getD 1 ⟨#[]⟩):=by
 cases t;simp only[gC];rfl
theorem G3(h:t.width=0):gC names t=xi names t.kind t.num ⟨#[]⟩ ⟨#[]⟩:=by
 rw[JQ,GA _ _ _ _ _ (by unfold Tree.width at h;omega),GA _ _ _ _ _<|by unfold Tree.width at h;omega]
theorem VY(h:t.width=1):gC names t=xi names t.kind t.num (jL names t 0) ⟨#[]⟩:=by
 rw[JQ,Ht _ _ _ _ _ (by unfold Tree.width at h;omega),GA _ _ _ _ _<|by unfold Tree.width at h;omega];simp[jL,Tree.az]
theorem Eh(h:t.width=2):gC names t=xi names t.kind t.num (jL names t 0) (jL names t 1):=by
 rw[JQ,Ht _ _ _ _ _ (by unfold Tree.width at h;omega),Ht _ _ _ _ _<|by unfold Tree.width at h;omega];simp[jL,Tree.az]
theorem UN(t:Tree):(gC names t).size<=12*t.size:=by
 induction t using Tree.ind with
 |h t ih =>
  rw[JQ];have hj:=zoB names t.kind t.num ((pG names t.kind 0 t.kids).getD 0 ⟨#[]⟩)<|(pG names t.kind 0 t.kids).getD 1 ⟨#[]⟩;refine iv hj ?_;have e0:(⟨#[]⟩:aX).size=0:=rfl;obtain⟨k,n,ks⟩:=t
  match ks with
  |[]=>simp only[DO,pG,List.getD_nil,e0,Tree.size];omega
  |[a] =>
   have h0:=ih 0 (by simp[Tree.width,Tree.kids]);have w0:=vW (oI k 0 a.kind) (gC names a);simp only[DO,G2,pG,I2,xj,List.getD_nil,e0,Tree.size,Tree.nQ,Tree.az] at h0⊢;omega
  |a::b::r =>
   have h0:=ih 0 (by simp[Tree.width,Tree.kids]);have h1:=ih 1 (by simp[Tree.width,Tree.kids]);have w0:=vW (oI k 0 a.kind) (gC names a);have w1:=vW (oI k (0+1) b.kind) (gC names b);simp only[DO,G2,pG,I2,xj,Tree.size,Tree.nQ,Tree.az] at h0 h1⊢;omega
def qg(names:List aX)(k n:Int):Bool:=k != 3||!(ff (nm names n) ⟨#[]⟩)
mutual
def cO(names:List aX):Tree->Bool
 | .node k n ks=>qg names k n&&Ed names ks
def Ed(names:List aX):List Tree->Bool
 |[]=>true
 |t::r=>cO names t&&Ed names r
end
theorem PX(names:List aX):∀ks,Ed names ks=ks.all (cO names)
 |[]=>by simp only[Ed,List.all_nil]
 |t::r=>by simp only[Ed,List.all_cons,PX names r]
theorem Ab(t:Tree):cO names t=(qg names t.kind t.num&&t.kids.all (cO names)):=by
 cases t;simp only[cO,PX];rfl
theorem zyE(h:t.width=1):t.kids=[t.az 0]:=by
 unfold Tree.width at h;unfold Tree.az
 match e:t.kids,h with
 |[a],_=>rfl
theorem ZE(h:t.width=2):t.kids=[t.az 0,t.az 1]:=by
 unfold Tree.width at h;unfold Tree.az
 match e:t.kids,h with
 |[a,b],_=>rfl
theorem Jr(h:t.width=0):cO names t=qg names t.kind t.num:=by
 rw[Ab,n8.1 h];simp
theorem Xy(h:t.width=1)(hk:t.kind≠3):cO names t=cO names (t.az 0):=by
 rw[Ab,zyE h];simp[hk,qg]
theorem Pj(h:t.width=2)(hk:t.kind≠3):cO names t=(cO names (t.az 0)&&cO names (t.az 1)):=by
 rw[Ab,ZE h];simp[hk,qg]
theorem dr{a b:Int}(h:a≠b):(a==b)=false:=by simpa using h
theorem gI{a b:Int}(h:a=b):(a==b):=by simpa using h
def rnm(names:List aX)(silent:Bool)(n:Int):aX :=
 if n=63/\silent=true then vi
 else if n<0\/(names.length:Int)<=n\/63<=n then ⟨#[]⟩
 else if iQ (names.getD n.toNat ⟨#[]⟩)=false then ⟨#[]⟩
 else if o8 names n.toNat (names.getD n.toNat ⟨#[]⟩)=true then ⟨#[]⟩
 else names.getD n.toNat ⟨#[]⟩
def kg(x:cC):ah:=if x.kind=5\/x.kind=6 then [x.s,x.p] else [x.p]
def kC(x:cC):ah:=if x.scope=2 then [x.r] else if x.scope=3 then [x.q] else if x.scope=4\/x.scope=5 then [x.q,x.r] else []
def xf(k a b:Int):ah:=if k<=4 then [a] else [a,b]
def gU(names:List aX)(silent:Bool)(n:Int):Bool:=ff (rnm names silent n) ⟨#[]⟩
def eJ(names:List aX)(sort:Int)(x:cC)(k a b c:Int)(f g:Tree):Int :=
 if sort=1 then (if ew x=0/\(kg x++kC x).any (gU names true)=true then 4 else ew x)
 else if sort=2 then (if jT k a b c=0/\(xf k a b).any (gU names false)=true then 4 else jT k a b c)
 else if sort=3 then (if aS bz f=0 then (if cO names f then 0 else 4) else aS bz f)
 else if sort=4 then (if aS dp g=0 then (if cO names g then 0 else 4) else aS dp g) else 0
def wZ(sort:Int)(x:cC)(k a b c:Int)(f g:Tree):Bool :=
 decide (sort≠1)&&!(x.kind==0&&x.scope==0&&x.p==0&&x.s==0&&x.q==0&&x.r==0&&x.count==0)||decide (sort≠2)&&!(k==0&&a==0&&b==0&&c==0) ||
  decide (sort≠3)&&(f.kind != 0||f.num != 0||decide (f.width>0))||decide (sort≠4)&&(g.kind != 0||g.num != 0||decide (g.width>0))
def fH(names:List aX)(name:aX)(sort:Int)(x:cC)(k a b c:Int)(f g:Tree):Int :=
 if iQ name=false\/sort<1\/4<sort then 1 else if eJ names sort x k a b c f g≠0 then eJ names sort x k a b c f g else if wZ sort x k a b c f g=true then 1 else 0
def dz(l:List aX):D:=.aM 1<|l.map λs=>[.sc (.string s)]
@[simp] theorem jK(l:List aX):Pure<|dz l:=by
 simp only[dz,Pure];exact db _ (λs=>by simp[an,Pure]) l
def oK(l:List aX):Prop:=l.length<=9223372036854775807/\∀s∈l,s.size<=9223372036854775807
variable{l:List aX}
theorem qH(h:k<l.length):(l.map λs=>[D.sc (.string s)])[k]? = some [.sc (.string<|l.getD k ⟨#[]⟩)]:=by
 rw[cU,aJ h,aE,aJ h];rfl
theorem oK.at(h:oK l)(hk:k<l.length):(l.getD k ⟨#[]⟩).size<=9223372036854775807:=by
 rw[aE,aJ hk];exact h.2 _<|ib _
theorem T1(h:k<s.size):∃b,s[k]? = some b:=⟨s[k],by simp[getElem?_pos,h]⟩
def zA3:PC:=SO [Bi 26 .lss 25 24] (.seq (CX 26 0) (.seq (.block 1<|SO [qm 27 25,qm 3 27]<|SO [qm 28 0,qm 29 3,q 30 (.Ai 28 29),q 31 (.bin .lss 30 (.const (.int .u8 97))),qm 32 31,GF 33 32 (.move 0),GF 34 32 (.move 3),GF 35 32 (.Ai 33 34),GF 36 32 (.bin .gtr 35 (.const (.int .u8 122))),Pk 37 32 cT 36]<|If 37<|SO [Mv 2 cF] .ret)<|OP [Bi 38 .add 25 K1,qm 25 38]))
def c35:PC:=SO [Mv 2 cF] (.seq (SO [qm 4 0,Bi 5 .eql 4<|cS #[],qm 6 5,GF 7 6 (.move 0),GF 8 6 (.zF 7),GF 9 6 (.bin .gtr 8 K8),Pk 10 6 cT 9,qm 11 10,GF 12 11 (.move 0),GF 13 11 (.bin .eql 12<|cS #[116,114,117,101]),Pk 14 11 cT 13,qm 15 14,GF 16 15 (.move 0),GF 17 15 (.bin .eql 16<|cS #[102,97,108,115,101]),Pk 18 15 cT 17,qm 19 18,GF 20 19 (.move 0),GF 21 19 (.bin .eql 20<|cS #[115,105,108,101,110,116]),Pk 22 19 cT 21]<|If 22<|SO [Mv 2 cF] .ret) (.seq (SO [qm 23 0,q 24 (.zF 23),Mv 25 K0]<|BL 0 zA3)<|SO [Mv 2 cT] .ret))
def zAc:PC:=.seq (SO [qm 4 3,qm 5 0,q 6 (.zF 5),Bi 7 .lss 4 6]<|CX 7 0) (.seq (.block 1<|SO [qm 10 0,qm 11 3,q 12 (.Ai 10 11),q 13 (.bin .lss 12 (.const (.int .u8 97))),qm 14 13,GF 15 14 (.move 0),GF 16 14 (.move 3),GF 17 14 (.Ai 15 16),GF 18 14 (.bin .gtr 17 (.const (.int .u8 122))),Pk 19 14 cT 18]<|If 19<|SO [Mv 2 cF] .ret)<|OP [qm 8 3,Bi 9 .add 8 K1,qm 3 9])
def c49:PC:=SO [Mv 2 cF] (.seq (SO [Mv 3 K0]<|BL 0 zAc)<|SO [qm 20 0,q 21 (.zF 20),Bi 22 .geq 21 K1,qm 23 22,GT 24 23 (.move 0),GT 25 23 (.zF 24),GT 26 23 (.bin .leq 25 K8),Pk 27 23 26 cF,qm 28 27,GT 29 28 (.move 0),GT 30 28 (.bin .neq 29<|cS #[116,114,117,101]),Pk 31 28 30 cF,qm 32 31,GT 33 32 (.move 0),GT 34 32 (.bin .neq 33<|cS #[102,97,108,115,101]),Pk 35 32 34 cF,qm 36 35,GT 37 36 (.move 0),GT 38 36 (.bin .neq 37<|cS #[115,105,108,101,110,116]),Pk 39 36 38 cF,qm 2 39] .ret)
variable(s:aX)
theorem FQ(hs:s.size<=9223372036854775807):ar ai 35 [.sc (.string s)]<|aD<|iQ s:=by
 refine bK (fJ 39 [.tmp 2] c35 Tryz.func35) ?_;refine sRS (λh1=>?_) λh1=>?_
 ·exact cd<|bJ (λb=>aD b)<|by have:ff s ⟨#[]⟩=true:=h1;simp[iQ,this]
 refine sS (λh2=>?_) λh2=>?_
 ·exact cd (congrArg (λb=>D.sc (.bool b)) (by have:¬s.size≤8:=sO
                                              simp[iQ,this]))
 refine sS (λh3=>?_) λh3=>?_
 ·exact cd<|bJ (λb=>aD b)<|by have:ff s yZ=true:=h3;simp[iQ,this]
 refine sS (λh4=>?_) λh4=>?_
 ·exact cd<|bJ (λb=>aD b)<|by have:ff s yS=true:=h4;simp[iQ,this]
 refine sS (λh5=>?_) λh5=>?_
 ·exact cd<|bJ (λb=>aD b)<|by have:ff s vi=true:=h5;simp[iQ,this]
 have hn:iQ s=BK s:=by
  have g1:ff s ⟨#[]⟩=false:=h1;have g2:s.size<=8:=sO;have g3:ff s yZ=false:=h3;have g4:ff s yS=false:=h4;have g5:ff s vi=false:=h5;simp[iQ,g1,g2,g3,g4,g5]
 rw[hn];clear hn h1 h2 h3 h4 h5
 refine Bo (λk:Nat=>[(0,.sc (.string s)),(24,aa s.size),(25,aa k)]) (λ_=>[])
  (λk=>k<=s.size/\∀j,j<k->tY s j=true) (λk=>s.size-k) 0 ⟨zo,λj h=>zo⟩ (rh ⟨rfl,rfl,rfl,trivial⟩) ?_
 rintro k ⟨hk,bR⟩;refine sRS (λh1=>?_) λh1=>?_
 ·have al:k<s.size:=sO;obtain⟨b,hb⟩:=T1 al;refine⟨zo,b,hb,?_⟩;refine sWS (λh2=>?_) λh2=>?_
  ·exact cd<|bJ (λb=>aD b) (LR al<|by simp only[tY,hb];simp only[ja] at h2;simp;omega).symm
  refine⟨zo,b,hb,?_⟩;refine sWS (λh3=>?_) λh3=>?_
  ·exact cd<|bJ (λb=>aD b) (LR al<|by simp only[tY,hb];simp only[ja] at h3;simp;omega).symm
  refine .inl ⟨by unfold dQ;rw[gf];omega,?_⟩;refine sW ?_;refine⟨k+1,⟨zo,λj hj=>?_⟩,zd,rh ⟨rfl,rfl,rfl,trivial⟩⟩;by_cases e:j=k
  ·subst e;simp only[tY,hb];simp only[zf] at h2 h3;simp;omega
  exact bR j zo
 have al:¬k<s.size:=sO;exact cd<|bJ (λb=>aD b) (Sl λi hi=>bR i zo).symm
theorem KR(hs:s.size<=9223372036854775807):ar ai 49 [.sc (.string s)]<|aD<|iQ s:=by
 refine bK (fJ 40 [.tmp 2] c49 Tryz.func49) ?_;refine sR ?_
 refine Bo (λk:Nat=>[(0,.sc (.string s)),(3,aa k)]) (λ_=>[])
  (λk=>k<=s.size/\∀j,j<k->tY s j=true) (λk=>s.size-k) 0 ⟨zo,λj h=>zo⟩ (rh ⟨rfl,rfl,trivial⟩) ?_
 rintro k ⟨hk,bR⟩;refine sR ?_;have low:∀{i:Nat},i<s.size->tY s i=false->false=iQ s:=λhi h=>by simp[iQ,LR hi h]
 refine sS (λh1=>?_) λh1=>?_
 ·have al:k<s.size:=sO;obtain⟨b,hb⟩:=T1 al;refine⟨zo,b,hb,?_⟩;refine sWS (λh2=>?_) λh2=>?_
  ·exact cd<|bJ (λb=>aD b)<|low al<|by simp only[tY,hb];simp only[ja] at h2;simp;omega
  refine⟨zo,b,hb,?_⟩;refine sWS (λh3=>?_) λh3=>?_
  ·exact cd<|bJ (λb=>aD b)<|low al<|by simp only[tY,hb];simp only[ja] at h3;simp;omega
  refine .inl ⟨by unfold dQ;rw[gf];omega,?_⟩;refine sW ?_;refine⟨k+1,⟨zo,λj hj=>?_⟩,zd,rh ⟨rfl,rfl,trivial⟩⟩;by_cases e:j=k
  ·subst e;simp only[tY,hb];simp only[zf] at h2 h3;simp;omega
  exact bR j zo
 have al:¬k<s.size:=sO;have hl:BK s:=Sl λi hi=>bR i zo;have he:=Im s;clear low h1
 repeat' (first
  |refine sS (λh=>?_) λh=>?_
  |exact cd (bJ (λb=>D.sc (.bool b)) (by
    unfold iQ;rw[hl];have e0:ff s ⟨#[]⟩=decide (s.size=0):=(by rw[kb,he];simp);rw[e0];simp_all [ff,yZ,yS,vi,-ByteArray.size_eq_zero_iff];try omega)))
theorem MN(l:List aX)(s:aX)(hl:l.length<=9223372036854775807):ar ai 174 [dz l,.sc (.string s)]<|aa<|match l.findIdx? (ff s) with|some i=>(i:Int)|none=>-1:=by
 refine bK fZ ?_;unfold dz;refine sR ?_;rw[aK]
 refine Bo (λk:Nat=>[(0,dz l),(1,.sc (.string s)),(7,aa l.length),(8,aa k)]) (λ_=>[]) (λk=>k<=l.length/\∀j (h:j<k) (h2:j<l.length),ff s l[j]=false) (λk=>l.length-k) 0 ⟨zo,λ_ h=>zo⟩
  (rh ⟨rfl,rfl,rfl,rfl,trivial⟩) ?_
 rintro k ⟨hk,da⟩;unfold dz;refine sRS (λh=>?_) λh=>?_
 ·have al:k<l.length:=sO;refine sL (qH al) ?_;have hg:l.getD k ⟨#[]⟩=l[k]:=(by rw[aE,aJ al];rfl);refine sS (λh2=>?_) λh2=>?_
  ·have:l.findIdx? (ff s)=some k:=by
    rw[HR];exact⟨zo,by rw[<-hg];exact h2,λj hj=>by simp[da j hj zo]⟩
   rw[this];exact Deep.refl _
  refine .inl ⟨by unfold dQ;rw[gf];omega,?_⟩;refine sW ?_;refine⟨k+1,⟨zo,λj hj hl=>?_⟩,zd,rh ⟨rfl,rfl,rfl,rfl,trivial⟩⟩;by_cases e:j=k
  ·subst e;rw[<-hg];exact h2
  exact da j zo hl
 have:l.findIdx? (ff s)=none:=by
  have al:¬k<l.length:=sO;rw[List.findIdx?_eq_none_iff];intro x hx;obtain⟨j,hj,rfl⟩:=jN.1 hx;simp[da j zo hj]
 rw[this];exact Deep.refl _
theorem OL(hn:n<l.length):((match l.findIdx? (ff<|l.getD n ⟨#[]⟩) with|some i=>(i:Int)|none=>-1):Int)≠(n:Int)↔o8 l n (l.getD n ⟨#[]⟩):=by
 have hg:∀j (h:j<l.length),l.getD j ⟨#[]⟩=l[j]:=λj h=>by rw[aE,aJ h];rfl
 cases h:l.findIdx?<|ff<|l.getD n ⟨#[]⟩ with
 |none =>
  rw[List.findIdx?_eq_none_iff] at h;have:=h l[n]<|ib _;rw[hg n hn] at this;simp at this
 |some i =>
  rw[HR] at h;obtain⟨h1,h2,h3⟩:=h;constructor
  ·intro bT;have bT:(i:Int)≠n:=bT;have:i<n:=by
    rcases yR i n with q|q|q
    ·exact q
    ·omega
    have:=h3 n q;rw[hg n hn] at this;simp at this
   exact SM this<|by rw[Vo,hg i h1];exact h2
  intro hd;show(i:Int)≠n;unfold o8 at hd;rw[kJ] at hd;obtain⟨j,hj,hd⟩:=hd;rw[fX] at hj;rintro e;have:=h3 j zo;rw[<-hg j zo,Vo,hd] at this;simp at this
def c249:PC:=SO [Mv 4<|cS #[]] (.seq (SO [qm 5 0,Bi 6 .eql 5<|cI 63]<|If 6<|SO [Mv 4<|cS #[115,105,108,101,110,116]] .ret) (.seq (SO [qm 7 0,qm 8 1,Ln 9 8,Bi 10 .geq 7 9,qm 11 10,GF 12 11 (.move 1),GF 13 11 (.move 0),GF 14 11 (.gZ 1 12 13),GF 15 11 (.cg 14),GF 16 11 (.call 35 [15]),GF 17 11 (.un .not 16),Pk 18 11 cT 17,qm 19 18,GF 20 19 (.move 1),GF 21 19 (.move 1),GF 22 19 (.move 0),GF 23 19 (.gZ 1 21 22),GF 24 19 (.cg 23),GF 25 19 (.call 174 [20,24]),GF 26 19 (.move 0),GF 27 19 (.bin .neq 25 26),Pk 28 19 cT 27]<|If 28<|SO [Mv 4<|cS #[]] .ret)<|SO [qm 29 1,qm 30 0,Ia 31 1 29 30,Lo 32 31,qm 4 32] .ret))
theorem ztJ(hs:oK names)(n:Int)(hn:0<=n):ar ai 249 [aa n,dz names] (.sc (.string<|nm names n)):=by
 refine bK (fJ 33 [.tmp 4] c249 Tryz.func249) ?_;unfold dz;refine sR ?_;have eq:∀{s:aX},s=nm names n->Deep [] (D.sc (.string s)) (.sc (.string<|nm names n)):=λh=>h▸.refl _;refine sS (λh1=>?_) λh1=>?_
 ·exact eq<|by simp only[gG] at h1;simp[nm,h1,vi]
 have h1:n≠63:=sO;rw[aK];refine sS (λh2=>?_) λh2=>?_
 ·exact eq (by have:(names.length:Int)≤n:=sO
               simp[nm,h1,this])
 have h2:¬(names.length:Int)<=n:=sO;have hk:n.toNat<names.length:=zo;refine⟨hn,_,qH hk,?_⟩;refine sW ?_;refine sC (FQ _<|hs.at hk) ?_;refine sS (λh3=>?_) λh3=>?_
 ·exact eq (by have:iQ (names.getD n.toNat ⟨#[]⟩)=false:=by simpa using h3
               unfold nm;rw[ab h1,ab h2,ae this])
 have h3:¬iQ (names.getD n.toNat ⟨#[]⟩)=false:=by simpa using h3
 refine⟨hn,_,qH hk,?_⟩;refine sW ?_;refine sC (MN names _ hs.1) ?_;have hd:=OL hk;rw[show(n.toNat:Int)=n by omega] at hd;refine sS (λh4=>?_) λh4=>?_
 ·exact eq (by have:o8 names n.toNat<|names.getD n.toNat ⟨#[]⟩:=hd.1 (by simpa using h4)
               unfold nm;rw[ab h1,ab h2,ab h3,ae this])
 refine⟨hn,_,qH hk,?_⟩;refine sW ?_
 exact eq (by have:¬o8 names n.toNat (names.getD n.toNat ⟨#[]⟩):=λh=>hd.2 h (by simpa using h4)
              unfold nm;rw[ab h1,ab h2,ab h3,ab this])
def zA2:PC:=.seq (SO [qm 24 5,qm 25 0,Bi 26 .lss 24 25]<|CX 26 0) (.seq (.block 1 (.seq (.ops [qm 29 1,qm 30 5,Ja 31 1 29 30 3,Ld 32 31 7,qm 33 1,qm 34 0,Ja 35 1 33 34 48,Ld 36 35 112,Bd 37 .eql 32 36 255] true)<|If 37<|SO [Mv 4<|cS #[]] .ret))<|OP [qm 27 5,Bi 28 .add 27 K1,qm 5 28])
def c57:PC:=SO [Mv 4<|cS #[]] (.seq (SO [qm 6 0,Bi 7 .eql 6<|cI 63]<|If 7<|SO [Mv 4<|cS #[115,105,108,101,110,116]] .ret) (.seq (SO [qm 8 0,Bi 9 .lss 8 K0,qm 10 9,GF 11 10 (.move 0),GF 12 10 (.move 1),GF 13 10 (.len 12),GF 14 10 (.bin .geq 11 13),Pk 15 10 cT 14,qm 16 15,GF 17 16 (.move 1),GF 18 16 (.move 0),GF 19 16 (.gZ 1 17 18),GF 20 16 (.cg 19),GF 21 16 (.call 49 [20]),GF 22 16 (.un .not 21),Pk 23 16 cT 22]<|If 23<|SO [Mv 4<|cS #[]] .ret) (.seq (SO [Mv 5 K0]<|BL 0 zA2)<|SO [qm 38 1,qm 39 0,Ia 40 1 38 39,Lo 41 40,qm 4 41] .ret)))
theorem Oi(hs:oK names)(n:Int)(hn:0<=n):ar ai 57 [aa n,dz names] (.sc (.string<|nm names n)):=by
 refine bK (fJ 42 [.tmp 4] c57 Tryz.func57) ?_;unfold dz;refine sR ?_;have eq:∀{s:aX},s=nm names n->Deep [] (D.sc (.string s)) (.sc (.string<|nm names n)):=λh=>h▸.refl _;refine sS (λh1=>?_) λh1=>?_
 ·exact eq<|by simp only[gG] at h1;simp[nm,h1,vi]
 have h1:n≠63:=sO;refine sS (λh0=>?_) λh0=>?_
 ·exfalso;exact sO
 rw[aK];refine sS (λh2=>?_) λh2=>?_
 ·exact eq (by have:(names.length:Int)≤n:=sO
               simp[nm,h1,this])
 have h2:¬(names.length:Int)<=n:=sO;have hk:n.toNat<names.length:=zo;refine⟨hn,_,qH hk,?_⟩;refine sW ?_;refine sC (KR _<|hs.at hk) ?_;refine sS (λh3=>?_) λh3=>?_
 ·exact eq (by have:iQ (names.getD n.toNat ⟨#[]⟩)=false:=by simpa using h3
               unfold nm;rw[ab h1,ab h2,ae this])
 have h3:¬iQ (names.getD n.toNat ⟨#[]⟩)=false:=by simpa using h3
 have hl:=hs.1;clear h0;refine Bo (λk:Nat=>[(0,aa n),(1,dz names),(5,aa k)]) (λ_=>[]) (λk=>k<=n.toNat/\∀j,j<k->ff (names.getD j ⟨#[]⟩) (names.getD n.toNat ⟨#[]⟩)=false) (λk=>n.toNat-k) 0 ⟨zo,λj h=>zo⟩ (rh ⟨rfl,rfl,rfl,trivial⟩) ?_;rintro k ⟨IS,bR⟩;unfold dz;refine sRS (λh4=>?_) λh4=>?_
 ·have RL:k<n.toNat:=sO;refine sL (qH zo) ?_;refine sL (qH hk) ?_;refine sS (λh5=>?_) λh5=>?_
  ·exact eq (by have:o8 names n.toNat<|names.getD n.toNat ⟨#[]⟩:=SM RL h5
                unfold nm;rw[ab h1,ab h2,ab h3,ae this])
  refine .inl ⟨by unfold dQ;rw[gf];omega,?_⟩;refine sW ?_;refine⟨k+1,⟨zo,λj hj=>?_⟩,zd,rh ⟨rfl,rfl,rfl,trivial⟩⟩;by_cases e:j=k
  ·subst e;exact h5
  exact bR j zo
 have RL:¬k<n.toNat:=sO;refine⟨hn,_,qH hk,?_⟩;refine sW ?_
 exact eq (by have:¬o8 names n.toNat (names.getD n.toNat ⟨#[]⟩):=by rw[zoy λi hi=>bR i zo];simp
              unfold nm;rw[ab h1,ab h2,ab h3,ab this])
end Go.Proofs.YtolilnhippapaaaGreat
