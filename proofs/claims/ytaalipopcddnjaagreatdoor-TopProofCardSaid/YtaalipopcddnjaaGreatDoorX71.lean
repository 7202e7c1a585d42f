/-
  Parts of a proof, joined. No statement is proved here.
-/
import Derived.Laws.Tables
import Derived.Orders
import Derived.Still
import Derived.Deep.LoopGhost
import Derived.LoopN
import Derived.Test.YtaalipopcddnjaaGreatDoorX70
import Derived.WalkKit
import Derived.Laws.OwnMore
import Derived.Laws.Rows
import Derived.Deep.AppendLies
import Derived.Deep.Draws
import Derived.Lib.Hide
import Derived.ProofKit
import Derived.ChangeArms
import Derived.ChangeSame
import Derived.OpenShut
import Derived.ShutString
import Derived.Deep.Slices
import Derived.Deep.Fields
import Derived.Lib.SmallJoins
import Derived.Test.YtaalipopcddnjaaGreatDoorProg
namespace Go.Proofs.YtaalipopcddnjaaGreatDoor
set_option linter.unusedSimpArgs false
set_option linter.unusedVariables false
set_option maxRecDepth 100000
set_option linter.unusedSectionVars false
abbrev fp := List (List D)
abbrev aZ := List D
abbrev aB := List an
abbrev bC:D:=.sc (.slice none 0 0)
abbrev ab (n : Int) : D := .sc (.int .i64 n)
abbrev aF (b : Bool) : D := .sc (.bool b)
open Go.RowKit
section
section
variable{P:bt}{seq:Bool}{o:Oper}{env:Env}{H:aB}{K:oW}
variable{t:aY}
theorem zA{u v:aH}{w:aU}{b:Bool}(h:(Op.equalIn (9999+1) t u v).run P w=.ok b w):(Op.equal t u v).run P w=.ok b w:=h
variable{y:aT}
theorem ztA{kind:Nat}(h:yZ P t y=some kind) :
  (kind=0/\(∃e,P.underlying t=some (.pointer e))/\y=.const (.pointer none))\/(kind=1/\(∃e,P.underlying t=some (.interface e))/\y=.const .nilIface) \/
  (kind=2/\(∃a b c,P.underlying t=some (.func a b c))/\y=.const .nilFunc)\/(kind=3/\(∃e,P.underlying t=some (.slice e))/\y=.const (.slice none 0 0)):=by
 unfold yZ at h;split at h;all_goals (first|cases h|skip)
 ·rename_i h1;exact .inl ⟨rfl,⟨_,h1⟩,rfl⟩
 ·rename_i h1;exact .inr (.inl ⟨rfl,⟨_,h1⟩,rfl⟩)
 ·rename_i h1;exact .inr (.inr (.inl ⟨rfl,⟨_,_,_,h1⟩,rfl⟩))
 rename_i h1;exact .inr (.inr (.inr ⟨rfl,⟨_,h1⟩,rfl⟩))
def Su:aT->Option aH
 | .const v=>some v
 |_=>none
theorem UB{neq:Bool}{op:BinOp}{yt:aY}{x:aT}{kind:Nat}(kB:op=if neq then .neq else .eql)(hk:yZ P t y=some kind)(ho:o.op=.binOp op t x y yt)(h:step P seq (.Bb kind neq x) env H K):Sound P o env H K\/(seq=true/\vL P o env H K):=by
 simp only[step,fz] at h;have fin:∀(b:Bool) (v:aH),Su y=some v->K (aF<|if neq then !b else b) H [] []->(∀(J:aX) (F:Nat->Prop) (w:aU) (u:aH),rep J F w (fh env x) u->(∀z w,(Op.equal t u v).run P w=.ok b w/\(eqGuard op t x y u v).run P w=.ok z w/\z=())/\(∀k n,u≠.int k n)/\(∀s,u≠.string s)/\(∀k n,u≠.float k n)/\(∀k n m,u≠.complex k n m))->Sound P o env H K:=by
  intro b v hv hK dg;refine fj hK λJ F w a G _ aR _=>⟨.bool<|if neq then !b else b,?_,by simp only[rep]⟩;obtain⟨h1,h4,h5,h6,h7⟩:=dg J F w _<|aR x (by simp[ho,Op.operands]);obtain⟨h1,h2,_⟩:=h1 () w;have hy:a.eval y=v:=by
   cases y<;>simp[Su] at hv;subst hv;rfl
  have hb:(binOp op t (a.eval x) v).run P w=.ok (.bool<|if neq then !b else b) w:=by
   revert h1 h4 h5 h6 h7;generalize a.eval x=u;intro q1 q2 q3 q4 q5;subst kB;cases neq<;>cases u<;>simp_all [binOp,pure,Sem.run]
  simp only[execOp,ho,hy,Sem.run_bind,h2,Result.andThen_ok,hb,pure,Sem.run]
 have hold:=@fin;clear fin;have fin:=λb v h1 h2 h3=>Or.inl (b:=seq=true/\vL P o env H K)<|hold b v h1 h2 h3;have g1:∀(A:Option Addr) (w:aU),(eqGuard op t x y (.pointer A) (.pointer none)).run P w=.ok () w:=by
  intro A w;subst kB;cases neq<;>simp[eqGuard,pure,Sem.run]
 have g2:∀(c:aH) (w:aU),y=.const c->(eqGuard op t x y .nilIface .nilIface).run P w=.ok () w:=by
  intro c w hc;subst kB;subst hc;cases neq<;>simp[eqGuard,pure,Sem.run]
 have g3:∀(d:aY) (v:aH) (w:aU),(eqGuard op t x y (.iface d v) .nilIface).run P w=.ok () w:=by
  intro d v w;subst kB;cases neq<;>simp[eqGuard,pure,Sem.run]
 have g4:∀(w:aU),(eqGuard op t x y .nilFunc .nilFunc).run P w=.ok () w:=by
  intro w;subst kB;cases neq<;>simp[eqGuard,pure,Sem.run]
 have g5:∀(f:Fn) (a b:Array aH) (w:aU),(eqGuard op t x y (.func f a b) .nilFunc).run P w=.ok () w:=by
  intro f a b w;subst kB;cases neq<;>simp[eqGuard,pure,Sem.run]
 have g6:∀(w:aU),(eqGuard op t x y (.slice none 0 0) (.slice none 0 0)).run P w=.ok () w:=by
  intro w;subst kB;cases neq<;>simp[eqGuard,pure,Sem.run]
 rcases ztA hk with⟨rfl,⟨e,ht⟩,rfl⟩|⟨rfl,⟨e,ht⟩,rfl⟩|⟨rfl,⟨e1,e2,e3,ht⟩,rfl⟩|⟨rfl,⟨e,ht⟩,rfl⟩
 ·have eq1:∀(A:Option Addr) (w:aU),(Op.equal t (.pointer A) (.pointer none)).run P w=.ok A.isNone w:=λA w=>by
   refine zA ?_;unfold Op.equalIn;cases A<;>simp[underlying,program,Sem.run,ht,pure]
  simp only[Dj] at h;split at h
  ·rename_i ex;refine fin true _ rfl (by cases neq<;>exact h) λJ F w u hu=>?_;rw[ex] at hu;simp only[rep] at hu;subst hu;exact⟨λ_ w=>⟨eq1 none w,g1 none w,rfl⟩,by simp,by simp,by simp,by simp⟩
  ·rename_i ex;refine fin false _ rfl (by cases neq<;>exact h) λJ F w u hu=>?_;rw[ex] at hu;simp only[rep] at hu;obtain⟨_,_,_,_,_,rfl⟩:=hu;exact⟨λ_ w=>⟨eq1 (some _) w,g1 (some _) w,rfl⟩,by simp,by simp,by simp,by simp⟩
  ·rename_i ex;refine fin false _ rfl (by cases neq<;>exact h) λJ F w u hu=>?_;rw[ex] at hu;simp only[rep] at hu;obtain⟨_,_,rfl,_⟩:=hu;exact⟨λ_ w=>⟨eq1 (some _) w,g1 (some _) w,rfl⟩,by simp,by simp,by simp,by simp⟩
  ·rename_i ex;refine fin false _ rfl (by cases neq<;>exact h) λJ F w u hu=>?_;rw[ex] at hu;simp only[rep] at hu;obtain⟨_,_,_,rfl,_⟩:=hu;exact⟨λ_ w=>⟨eq1 (some _) w,g1 (some _) w,rfl⟩,by simp,by simp,by simp,by simp⟩
  exact h.elim
 ·have eq1:∀(w:aU),(Op.equal t .nilIface .nilIface).run P w=.ok true w:=λw=>by
   refine zA ?_;unfold Op.equalIn;simp[underlying,program,Sem.run,ht,pure]
  have eq2:∀(d:aY) (v:aH) (w:aU),(Op.equal t (.iface d v) .nilIface).run P w=.ok false w:=λd v w=>by
   refine zA ?_;unfold Op.equalIn;simp[underlying,program,Sem.run,ht,pure]
  simp only[Dj] at h;split at h
  ·rename_i ex;refine fin true _ rfl (by cases neq<;>exact h) λJ F w u hu=>?_;rw[ex] at hu;simp only[rep] at hu;subst hu;exact⟨λ_ w=>⟨eq1 w,g2 _ w rfl,rfl⟩,by simp,by simp,by simp,by simp⟩
  ·rename_i ex;refine fin false _ rfl (by cases neq<;>exact h) λJ F w u hu=>?_;rw[ex] at hu;simp only[rep] at hu;obtain⟨_,rfl,_⟩:=hu;exact⟨λ_ w=>⟨eq2 _ _ w,g3 _ _ w,rfl⟩,by simp,by simp,by simp,by simp⟩
  exact h.elim
 ·have eq1:∀(w:aU),(Op.equal t .nilFunc .nilFunc).run P w=.ok true w:=λw=>by
   refine zA ?_;unfold Op.equalIn;simp[underlying,program,Sem.run,ht,pure]
  have eq2:∀(f:Fn) (a b:Array aH) (w:aU),(Op.equal t (.func f a b) .nilFunc).run P w=.ok false w:=λf a b w=>by
   refine zA ?_;unfold Op.equalIn;simp[underlying,program,Sem.run,ht,pure]
  simp only[Dj] at h;split at h
  ·rename_i ex;refine fin true _ rfl (by cases neq<;>exact h) λJ F w u hu=>?_;rw[ex] at hu;simp only[rep] at hu;subst hu;exact⟨λ_ w=>⟨eq1 w,g4 w,rfl⟩,by simp,by simp,by simp,by simp⟩
  ·rename_i ex;refine fin false _ rfl (by cases neq<;>exact h) λJ F w u hu=>?_;rw[ex] at hu;simp only[rep] at hu;obtain⟨_,_,rfl,_⟩:=hu;exact⟨λ_ w=>⟨eq2 _ _ _ w,g5 _ _ _ w,rfl⟩,by simp,by simp,by simp,by simp⟩
  exact h.elim
 have eq1:∀(w:aU),(Op.equal t (.slice none 0 0) (.slice none 0 0)).run P w=.ok true w:=λw=>by
  refine zA ?_;unfold Op.equalIn;simp[underlying,program,Sem.run,ht,pure]
 simp only[Dj] at h;split at h
 ·rename_i ex;refine fin true _ rfl (by cases neq<;>exact h) λJ F w u hu=>?_;rw[ex] at hu;simp only[rep] at hu;subst hu;exact⟨λ_ w=>⟨eq1 w,g6 w,rfl⟩,by simp,by simp,by simp,by simp⟩
 ·rename_i ai xs ex;obtain⟨hs,h⟩:=h;refine .inr ⟨hs,λJ F w a aA jm aR K2 Q EI=>?_⟩;have hu:=aR x (by simp[ho,Op.operands]);rw[ex] at hu;simp only[rep] at hu;obtain⟨A,n,c,hu,hn,hc,hx⟩:=hu;have hb:A.isNone=true->xs=[]:=λhA=>by
   rcases hx with hx|⟨b,o',rfl,_⟩
   ·exact nh.1<|by omega
   cases hA
  have eq2:(Op.equal t (.slice A n c) (.slice none 0 0)).run P w=.ok A.isNone w:=by
   refine zA ?_;unfold Op.equalIn;cases A<;>simp[underlying,program,Sem.run,ht,pure]
  have g7:(eqGuard op t x (.const (.slice none 0 0)) (.slice A n c) (.slice none 0 0)).run P w=.ok () w:=by
   subst kB;cases neq<;>simp[eqGuard,pure,Sem.run]
  have iz:(execOp a.eval o).run P w=.ok (.value (.bool<|uo neq A.isNone)) w:=by
   have hbo:(binOp op t (.slice A n c) (.slice none 0 0)).run P w=.ok (.bool<|uo neq A.isNone) w:=by
    clear hold fin h;subst kB;cases neq<;>simp_all [binOp,pure,Sem.run,uo]
   have hy:a.eval (.const (.slice none 0 0))=.slice none 0 0:=rfl;simp only[execOp,ho,hu,hy,Sem.run_bind,g7,Result.andThen_ok,hbo,pure,Sem.run]
  unfold Oper.wp;rw[iz,Oper.upon_value];exact EI _ H [] [] _ w J F (h A.isNone hb) (by simp only[rep]) aA (Ext.refl _ _ _) jm
 exact h.elim
theorem XU(place:Nat->Option (Nat×Nat)):∀(l:List<|Nat×aT) (l':List<|Nat×Nat×aT) (cs:aZ) (K':aZ->Prop),vD place l=some l'->Jb env l' cs K'->∃fC,K' fC /\
  ∀(J:aX) (F:Nat->Prop) (w:aU) (a:Act) (cells:Array aH),(∀p∈l,rep J F w (fh env p.2)<|a.eval p.2)->bj J F w cs cells.toList ->
   ∃tn,Instr.fill place cells (l.map λp=>(p.1,a.eval p.2))=some tn/\bj J F w fC tn.toList
 |[],l',cs,K',hl,h=>by
  simp[vD] at hl;subst hl;exact⟨cs,h,λJ F w a cells _ hr=>⟨cells,rfl,hr⟩⟩
 |(i,x)::r,l',cs,K',hl,h=>by
  simp only[vD] at hl;split at hl
  ·rename_i off n rl e1 e2;cases hl;simp only[Jb,fz,HK,po] at h;obtain⟨h1,h2,h3⟩:=h;obtain⟨h4,h5⟩:=(Cy _ _ _ _).1 h3;obtain⟨fC,h6,h7⟩:=XU place r rl _ K' e2 h5;refine⟨fC,h6,λJ F w a cells aR hr=>?_⟩;obtain⟨k1,_⟩:=B4 h1<|aR (i,x) (by simp);have BA:=lJ _ _ k1;have Iw:=lJ _ _ hr;have gT:(a.eval x).cells.size=n:=(by rw[h2,<-BA];simp);obtain⟨c1,f1,f2,f3⟩:=D4 place cells i (a.eval x) (r.map λp=>(p.1,a.eval p.2)) off (by rw[gT];exact e1) (by rw[gT];simp at Iw;omega);have Fp:bj J F w (cs.take off++(fh env x).cells++cs.drop (off+(fh env x).cells.length)) c1.toList:=by
    have ec:c1.toList=cells.toList.take off++(a.eval x).cells.toList++cells.toList.drop (off+(a.eval x).cells.toList.length):=by
     apply qX;intro j;have yN:off+(a.eval x).cells.size<=cells.toList.length:=(by rw[gT,Iw];omega);rw[DH,f3];by_cases q1:j<off
     ·rw[aa (by omega),l8,dJ (by simp at yN⊢;omega),xv,ae q1];simp
     by_cases q2:j<off+(a.eval x).cells.size
     ·rw[ae (by omega),l8,fc (by simp at yN⊢;omega),dJ (by simp at yN⊢;omega)];simp at yN⊢;rw[show j-min off cells.size=j-off by omega]
     rw[aa (by omega),fc (by simp at yN⊢;omega),vq];simp at yN⊢;rw[show off+(a.eval x).cells.size+(j-(min off cells.size+(a.eval x).cells.size))=j by omega]
    rw[ec];have e3:(a.eval x).cells.toList.length=(fh env x).cells.length:=BA;rw[e3];exact En (En (NR hr _) k1)<|KC hr _
   obtain⟨c2,g1,g2⟩:=h7 J F w a c1 (λp hp=>aR p<|by simp[hp]) Fp;exact⟨c2,by simp only[dR];rw[f1];exact g1,g2⟩
  cases hl
theorem Ut{parts:Array<|Nat×aT}{z:aH}{place:Nat->Option (Nat×Nat)}{l':List<|Nat×Nat×aT}(hz:(P.info? t).bind (·.zero)=some z)(hb:∀l cells,Instr.fill place z.cells l=some cells->P.built t l=some cells)(hl:vD place parts.toList=some l')
  (ho:o.op=.build t parts) (h:step P seq (.build z.cells.toList l') env H K):Sound P o env H K:=by
 simp only[step,Gk] at h;obtain⟨fC,h1,h2⟩:=XU place parts.toList l' _ _ hl h;refine fj h1 λJ F w a G aA aR cW=>?_;obtain⟨c',h3,h4⟩:=h2 J F w a z.cells (λp hp=>aR p.2 (by
  simp only[ho,Op.operands,List.mem_toArray,cU];exact⟨p,hp,rfl⟩)) (B1 z.cells.toList)
 refine⟨.agg c',?_,by simp only[rep];exact⟨c'.toList,by simp,h4⟩⟩;have e1:(parts.map λ(i,x)=>(i,a.eval x)).toList=parts.toList.map λp=>(p.1,a.eval p.2):=by rw[Array.toList_map]
 have:=run_build (P:=P) w t (parts.map λ(i,x)=>(i,a.eval x)) c' (by rw[e1];exact hb _ _ h3);simp only[execOp,ho,Sem.run_bind,this,Result.andThen_ok,pure,Sem.run]
end
end
section
section
variable{P:bt}{seq:Bool}{o:Oper}{env:Env}{H:aB}{K:oW}
theorem J6{p:POp}(hc:cop P o=some p)(h:step P seq p env H K):Sound P o env H K\/(seq=true/\vL P o env H K):=by
 unfold cop at hc;split at hc
 ·rename_i x ho;cases hc;exact .inl<|V6 (.inl ho) h
 ·rename_i x ho;cases hc;exact .inl<|V6 (.inr ho) h
 ·rename_i c a b ho;cases hc;exact .inl<|zCI ho h
 ·rename_i t ho;split at hc
  ·rename_i z hz;split at hc
   ·rename_i zO;cases hc;exact .inl<|zyR hz zO ho h
   cases hc
  cases hc
 ·rename_i t x ho;cases hc;exact .inl<|zDL ho h
 ·rename_i t parts ho;split at hc
  ·rename_i z fs hz hu;split at hc
   ·rename_i places hp
    cases e:vD (places.toArray[·]?) parts.toList with
    |none=>rw[e] at hc;cases hc
    |some l' =>
     rw[e] at hc;cases hc;refine .inl<|Ut hz (λl cells hf=>?_) e ho h;unfold Program.built
     cases hi:P.info? t with
     |none=>rw[hi] at hz;cases hz
     |some it =>
      have sZ:it.zero=some z:=(by simpa [hi] using hz);simp only[hu,sZ,hp];exact hf
   cases hc
  ·rename_i z n e hz hu;split at hc
   ·rename_i ie hie
    cases e':vD (λi=>some (i*ie.size,ie.size)) parts.toList with
    |none=>rw[e'] at hc;cases hc
    |some l' =>
     rw[e'] at hc;cases hc;refine .inl<|Ut hz (λl cells hf=>?_) e' ho h;unfold Program.built
     cases hi:P.info? t with
     |none=>rw[hi] at hz;cases hz
     |some it =>
      have sZ:it.zero=some z:=(by simpa [hi] using hz);simp only[hu,sZ,hie];exact hf
   cases hc
  cases hc
 ·rename_i t n parts ho;split at hc
  ·rename_i e ht;split at hc
   ·rename_i z hz;split at hc
    ·rename_i hq
     cases e':wH 0 parts.toList with
     |none =>
      rw[e'] at hc
      cases e2:j8 z 0 n parts.toList with
      |none=>rw[e2] at hc;cases hc
      |some ys=>rw[e2] at hc;cases hc;exact .inl<|O5 ht hz hq.1 hq.2 (.inr e2) ho h
     |some xs=>rw[e'] at hc;cases hc;exact .inl<|O5 ht hz hq.1 hq.2 (.inl e') ho h
    cases hc
   cases hc
  cases hc
 ·rename_i t x ho;split at hc
  ·rename_i ht;cases hc;exact .inl<|zyi ht ho h
  ·rename_i ht;cases hc;exact .inl<|zzC ht ho h
  cases hc
 ·rename_i t x y ho;split at hc
  ·cases hc
  rename_i hz;cases hc;exact .inl<|zzo hz ho h
 ·rename_i x ho;cases hc;exact .inl<|zvR ho h
 ·rename_i op t x y yt ho;split at hc
  ·cases hc;exact .inl<|Zx ho h
  split at hc
  ·split at hc
   ·rename_i hb;cases hc;refine .inl<|SC (op:=.eql) rfl ?_ ho h;unfold G8 at hb;split at hb
    ·assumption
    cases hb
   split at hc
   ·rename_i ks ye;cases hc;exact .inl<|XJ (op:=.eql) rfl ye ho h
   cases e:yZ P t y with
   |none=>rw[e] at hc;cases hc
   |some k=>rw[e] at hc;cases hc;exact UB (op:=.eql) rfl e ho h
  ·split at hc
   ·rename_i hb;cases hc;refine .inl<|SC (op:=.neq) rfl ?_ ho h;unfold G8 at hb;split at hb
    ·assumption
    cases hb
   split at hc
   ·rename_i ks ye;cases hc;exact .inl<|XJ (op:=.neq) rfl ye ho h
   cases e:yZ P t y with
   |none=>rw[e] at hc;cases hc
   |some k=>rw[e] at hc;cases hc;exact UB (op:=.neq) rfl e ho h
  cases hc
 ·rename_i op t x ho;cases hc;exact .inl<|s_un ho h
 ·rename_i x i ho;cases hc;exact .inl<|zDN ho h
 ·rename_i s x f ho;split at hc
  ·rename_i fs hs;split at hc
   ·rename_i fd hf;split at hc
    ·cases hc
    rename_i hz;cases hc;exact .inl<|zyD hs hf hz ho h
   cases hc
  cases hc
 ·rename_i s x f ho;split at hc
  ·rename_i fs hs;split at hc
   ·rename_i fd hf;split at hc
    ·rename_i ag oH;cases hc;exact .inl<|zz9 hs hf oH ho h
    cases hc
   cases hc
  cases hc
 ·rename_i t x i ho;split at hc
  ·rename_i e ht;split at hc
   ·cases hc
   rename_i hz;cases hc;exact .inl<|Yi ht hz ho h
  ·rename_i n e ht;split at hc
   ·cases hc
   rename_i hz;cases hc;exact .inl<|zys ht hz ho h
  cases hc
 ·rename_i t x i ho;split at hc
  ·rename_i ht;cases hc;exact .inl<|zB5 ht ho h
  ·rename_i n e ht;split at hc
   ·rename_i ag oH;cases hc;exact .inl<|zCu ht oH ho h
   cases hc
  cases hc
 ·rename_i f first cap ho;cases hc;exact .inl<|ZB ho h
 ·rename_i t l c ho;split at hc
  ·rename_i e ht;split at hc
   ·rename_i z hz;split at hc
    ·rename_i hq;cases hc;exact .inl<|zwL ht hz hq.1 hq.2.1 hq.2.2.1 hq.2.2.2 ho h
    cases hc
   cases hc
  cases hc
 ·rename_i t x lo hi mx ho;split at hc
  ·rename_i e ht;split at hc
   ·rename_i hz;cases hc;exact .inl<|zDT ht hz ho h
   cases hc
  ·rename_i ht;split at hc
   ·cases hc;exact .inl<|zA3 ht ho h
   cases hc
  cases hc
 ·rename_i args ts ho;split at hc
  ·rename_i x t ha jy;split at hc
   ·rename_i e ht;cases hc;exact .inl<|zDp ha jy ht ho h
   ·rename_i ht;cases hc;exact .inl<|zBH ha jy ht ho h
   cases hc
  cases hc
 ·rename_i args ts ho;split at hc
  ·rename_i x y t u ha jy;split at hc
   ·rename_i e e' ht hu;split at hc
    ·rename_i z hz;split at hc
     ·rename_i hq;cases hc;exact .inl<|ZN ha jy ht hu hz hq.1 hq.2.1 hq.2.2 ho h
     cases hc
    cases hc
   cases hc
  cases hc
 ·rename_i args ts ho;split at hc
  ·rename_i x t ha jy;split at hc
   ·rename_i e ht;split at hc
    ·rename_i z hz;split at hc
     ·rename_i u hu;split at hc
      ·rename_i hq;cases hc;exact .inl<|zDo ha jy ht hz hu hq ho h
      cases hc
     cases hc
    cases hc
   cases hc
  cases hc
 ·rename_i args ts _ ho;split at hc
  ·rename_i x y ha;cases hc;exact .inl<|zDe ha ho h
  cases hc
 ·rename_i args ts _ ho;split at hc
  ·rename_i x y ha;cases hc;exact .inl<|zC7 ha ho h
  cases hc
 ·rename_i f args ts ho;split at hc
  ·split at hc
   ·cases hc
   cases hc;exact YA ho h
  cases hc
 ·rename_i x args ts _ ho;cases hc;exact zzu ho h
 ·rename_i src dst x ho;split at hc
  ·rename_i k0 k hs hd;cases hc;exact .inl<|Yn hs hd ho h
  ·rename_i e hs hd;split at hc
   ·rename_i he;cases hc;exact .inl<|zA8 hs hd he ho h
   cases hc
  cases hc
 ·rename_i t ho;split at hc
  ·rename_i k e ht;cases hc;exact .inl<|Zu ho h
  cases hc
 ·rename_i t m x ho;split at hc
  ·rename_i k e ht;split at hc
   ·rename_i z hz;split at hc
    ·rename_i h1;cases hc;exact .inl<|Ze ht hz h1 ho h
    cases hc
   cases hc
  cases hc
 ·rename_i t m x ho;split at hc
  ·rename_i k e ht;cases hc;exact .inl<|Zy ht ho h
  cases hc
 ·rename_i t m x v ho;split at hc
  ·rename_i k e ht;cases hc;exact .inl<|zBX ht ho h
  cases hc
 ·rename_i t x ho;split at hc
  ·cases hc
  ·rename_i d hd ht;cases hc;exact .inl<|zCg (λms e=>by rw[e] at ht;cases ht;exact hd _ rfl) (λe=>by rw[e] at ht;cases ht) ho h
  cases hc
 cases hc
end
end
section
theorem AA(t k:Nat)(d:D)(env:Env):gj t ((k,d)::env)=if t=k then d else gj t env:=by
 simp only[gj];cases e:Nat.beq t k
 ·rw[aa];intro h;subst h;simp at e
 rw[ae<|Ch e]
theorem TT(a:Array aH)(t u:Nat)(v:aH)(ht:t<a.size):(a.setIfInBounds t v).getD u undef=if u=t then v else a.getD u undef:=by
 simp only[uJ];by_cases h:u=t
 ·subst h;simp[Gn,ht]
 rw[aa h,HB λe=>h e.symm]
section
variable{P:bt}{n:Nat}{J J':aX}{F F':Nat->Prop}{env:Env}{H H':aB}{a:Act}{w w':aU}
theorem iE.Q5(h:iE n J F env H a w)(hx:Ext J F w J' F' w'):∀t,rep J' F' w' (gj t env)<|a.tmps.getD t undef:=λt=>Hr hx<|h.tmps t
theorem iE.put(h:iE n J F env H a w)(hx:Ext J F w J' F' w'){t:Nat}{d:D}{v:aH}(ht:t<n)(hv:rep J' F' w' d v)(aA:cr J' F' w' λi=>H'[i]?)(hd:∀id,J' id≠none->id<H'.length):iE n J' F' ((t,d)::env) H' (a.put (some t) v) w' where
 defers:=h.defers
 size:=by simp[Act.put,h.size]
 tmps u:=by
  rw[AA];simp only[Act.put];rw[TT _ _ _ _<|by rw[h.size];exact ht];split
  ·exact hv
  exact h.Q5 hx u
 ok:=aA
 dom:=hd
theorem iE.skip(h:iE n J F env H a w)(hx:Ext J F w J' F' w')(aA:cr J' F' w' λi=>H'[i]?)(hd:∀id,J' id≠none->id<H'.length):iE n J' F' env H' a w' where
 defers:=h.defers
 size:=h.size
 tmps:=h.Q5 hx
 ok:=aA
 dom:=hd
theorem iE.eval(h:iE n J F env H a w)(x:aT):rep J F w (fh env x)<|a.eval x:=by
 cases x with
 |tmp t=>exact h.tmps t
 |const v =>
  cases v<;>simp only[fh,lift,Act.eval,rep];rename_i cs;exact⟨cs.toList,by simp,B1 cs.toList⟩
 |global g=>exact V3 h.ok.lt g
 |func f=>simp only[fh,Act.eval,rep];exact⟨[],[],rfl,by simp only[bj],by simp only[bj]⟩
variable{o:Oper}
theorem LO{ops:Array Oper}{mask:Nat}{p:cE}(h:Mc P n ops mask o=some p) :
  cop P o=some p.op/\p.dst=o.dst/\(∀t,o.dst=some t->t<n)/\((o.guard=none/\p.guard=none)\/∃j b t,o.guard=some (j,b)/\(ops[j]?).bind (·.dst)=some t/\p.guard=some (t,b)) /\
   p.mask=mask:=by
 unfold Mc at h;split at h
 ·rename_i q hd hq hg;cases h;exact⟨hq,rfl,λt ht=>by unfold MH at hd;rw[ht] at hd;simpa using hd,.inl ⟨hg,rfl⟩,rfl⟩
 ·rename_i q j b hd hq hg;split at h
  ·rename_i t ht;cases h;exact⟨hq,rfl,λt ht=>by unfold MH at hd;rw[ht] at hd;simpa using hd,.inr ⟨j,b,t,hg,ht,rfl⟩,rfl⟩
  cases h
 cases h
def JY(b:Bool):aH->Bool
 | .bool c=>c != b
 | .tuple _=>true
 |_=>false
variable{tmps:Array aH}{j t:Nat}{b:Bool}
theorem ztr{ops:Array Oper}(h1:o.guard=some (j,b))(h2:(ops[j]?).bind (·.dst)=some t)(h:tmps.getD t undef=.bool b):Region.wanted o<|yielded ops tmps:=by
 have h4:tmps[t]? = some (.bool b):=by
  rw[uJ] at h
  cases e:tmps[t]? with
  |none=>rw[e] at h;simp[undef] at h
  |some v=>rw[e] at h;simp at h;rw[h]
 simp only[Region.wanted,h1,yielded,h2,C0,h4];cases b<;>rfl
theorem T1{ops:Array Oper}(h1:o.guard=some (j,b))(h2:(ops[j]?).bind (·.dst)=some t)(h:JY b<|tmps.getD t undef):Region.wanted o (yielded ops tmps)=false:=by
 rw[uJ] at h
 cases e:tmps[t]? with
 |none=>simp only[Region.wanted,h1,yielded,h2,C0,e];cases b<;>rfl
 |some v =>
  rw[e] at h;simp only[pe] at h;simp only[Region.wanted,h1,yielded,h2,C0,e];cases v<;>simp[JY] at h⊢;exact h
theorem ZJ{ops:Array Oper}(h:iE n J F env H a w){c:Bool}(h1:o.guard=some (j,b))(h2:(ops[j]?).bind (·.dst)=some t)(hc:gj t env=aF c) :
  Region.wanted o (yielded ops a.tmps)=(c==b):=by
 have h3:=h.tmps t;rw[hc] at h3;simp only[rep] at h3;have h4:a.tmps[t]? = some (.bool c):=by
  rw[uJ] at h3
  cases e:a.tmps[t]? with
  |none=>rw[e] at h3;simp[undef] at h3
  |some v=>rw[e] at h3;simp at h3;rw[h3]
 simp only[Region.wanted,h1,yielded,h2,C0,h4];cases b<;>cases c<;>rfl
end
section
variable{P:bt}{n:Nat}{ops:Array Oper}{K':Env->aB->Prop}{Q:Exit->Act->aU->Prop}
theorem Eg{c:Bool}{A B:Prop}:ifK c A B↔(c=true->A)/\(c=false->B):=by
 cases c<;>simp[ifK]
theorem Zo{o:Oper}{p:POp}{env:Env}{H:aB}{K:oW}(hc:cop P o=some p)(h:step P true p env H K):vL P o env H K :=
 (J6 hc h).elim ztG (·.2)
theorem Si:∀(l:List Oper) (i:Nat) (ms:List Nat) (pl:List cE),(∀j,l[j]? = ops[i+j]?)->oD P n ops ms l=some pl->∀(env:Env) (H:aB) (J:aX) (F:Nat->Prop) (a:Act) (w:aU),lf P pl env H K'->iE n J F env H a w ->
  (∀env' H' J' F' a' w',K' env' H'->iE n J' F' env' H' a' w'->Ext J F w J' F' w'->Q .normal a' w')->wpOps P ops Q (List.range' i l.length) a w
 |[],i,ms,pl,hl,hc,env,H,J,F,a,w,h,hr,hQ=>by
  simp[oD] at hc;subst hc;simp only[dE,List.range'_zero,wpOps];exact hQ env H J F a w h hr<|Ext.refl _ _ _
 |o::l,i,ms,pl,hl,hc,env,H,J,F,a,w,h,hr,hQ=>by
  simp only[oD] at hc;split at hc
  ·rename_i p pr h1 h2;cases hc;have ho:ops[i]? = some o:=(by simpa using (hl 0).symm);have jY:∀j,l[j]? = ops[i+1+j]?:=λj=>by have:=hl<|j+1;simpa [nT,Nat.add_comm 1 j] using this
   obtain⟨k1,k2,k3,k4,_⟩:=LO h1
   have go:∀env' H' J' F' a' w',Ext J F w J' F' w'->lf P pr env' H' K'->iE n J' F' env' H' a' w'->wpOps P ops Q (List.range' (i+1) l.length) a' w':=λenv' H' J' F' a' w' hx h' Dp =>
    Si l (i+1) ms.tail pr jY h2 env' H' J' F' a' w' h' Dp λI0 H'' J'' F'' a'' w'' q1 q2 q3=>hQ I0 H'' J'' F'' a'' w'' q1 q2<|hx.trans q3
   have exec:(step P true p.op env H λd H' _ _=>match p.dst with
     |some t=>lf P pr ((t,d)::env) H' K'
     |none=>lf P pr env H' K')->o.wp P a w (wpOps P ops Q<|List.range' (i+1) l.length) Q:=λhs=>by
    refine Zo k1 hs J F w a hr.ok hr.dom (λx _=>hr.eval x) _ _ λd H2 rd wr v w' J' F' hK q1 q2 q3 q4=>?_;rw[k2] at hK
    cases hd:o.dst with
    |none =>
     rw[hd] at hK;exact go env H2 J' F' _ w' q3 hK<|hr.skip q3 q2 q4
    |some t =>
     rw[hd] at hK;exact go _ H2 J' F' _ w' q3 hK<|hr.put q3 (k3 t hd) q1 q2 q4
   have skip:(match p.dst with
     |some t=>lf P pr ((t,.sc undef)::env) H K'
     |none=>lf P pr env H K')->wpOps P ops Q (List.range' (i+1) l.length) (a.put o.dst undef) w:=λhs=>by
    rw[k2] at hs
    cases hd:o.dst with
    |none =>
     rw[hd] at hs;exact go env H J F _ w (Ext.refl _ _ _) hs hr
    |some t =>
     rw[hd] at hs;exact go _ H J F _ w (Ext.refl _ _ _) hs<|hr.put (Ext.refl _ _ _) (k3 t hd) (by simp only[rep]) hr.ok hr.dom
   simp only[cj,List.range'_succ,wpOps,ho];simp only[lf] at h;rcases k4 with⟨g1,g2⟩|⟨j,b,t,g1,g2,g3⟩
   ·rw[g2] at h;rw[ae<|by simp[Region.wanted,g1]];exact .inl<|exec h
   rw[g3] at h;simp only[xV] at h;split at h
   ·rename_i c tT;have hw:=ZJ hr g1 g2 tT
    cases b with
    |true =>
     obtain⟨hA,hB⟩:=Eg.1 h
     cases c with
     |true=>rw[ae<|by rw[hw];rfl];exact .inl<|exec<|hA rfl
     |false=>rw[aa<|by rw[hw];simp];exact skip (hB rfl)
    |false =>
     obtain⟨hA,hB⟩:=Eg.1 h
     cases c with
     |true=>rw[aa<|by rw[hw];simp];exact skip (hA rfl)
     |false=>rw[ae<|by rw[hw];rfl];exact .inl<|exec<|hB rfl
   ·rename_i xs tT;have h3:=hr.tmps t;rw[tT] at h3;simp only[rep] at h3;rw[aa<|by rw[T1 g1 g2<|by rw[h3];rfl];simp];exact skip h
   exact h.elim
  cases hc
end
end
section
theorem Vr{ms:List Nat}{i:Nat}:∀(l:List Nat),(yj ms l).testBit i->∃a∈l,a=i\/(ms.getD a 0).testBit i=true
 |[],h=>by simp[yj] at h
 |a::r,h=>by
  simp only[yj,Nat.testBit_or,jh] at h;rcases h with(h|h)|h
  ·rw[Nat.testBit_two_pow] at h;exact⟨a,by simp,.inl<|by simpa using h⟩
  ·exact⟨a,by simp,.inr h⟩
  obtain⟨b,hb,k⟩:=Vr r h;exact⟨b,by simp[hb],k⟩
theorem Uc:∀(l:List Oper) (acc:List Nat),(∀k,k<acc.length->(qE acc l).getD k 0=acc.getD k 0)/\(qE acc l).length=acc.length+l.length /\
  ∀k o,l[k]? = some o->∃E',(∀a,a<acc.length+k->E'.getD a 0=(qE acc l).getD a 0)/\(∀a,acc.length+k<=a->E'.getD a 0=0)/\(qE acc l).getD (acc.length+k) 0=yj E' (mU o)
 |[],acc=>⟨λ_ _=>rfl,by simp[qE],λk o h=>by simp at h⟩
 |x::r,acc=>by
  obtain⟨h1,h2,h3⟩:=Uc r<|acc++[yj acc<|mU x];simp only[qE];simp only[cL,jt] at h1 h2 h3;have QV:∀k,k<acc.length->(acc++[yj acc<|mU x]).getD k 0=acc.getD k 0:=λk hk=>by
   simp[List.getD,dJ hk]
  refine⟨λk hk=>by rw[h1 k<|by omega,QV k hk],by rw[h2];simp;omega,λk o hk=>?_⟩
  cases k with
  |zero =>
   simp at hk;subst hk;refine⟨acc,λa ha=>by rw[h1 a<|by omega,QV a<|by omega],λa ha=>by simp[List.getD,db (by omega:acc.length<=a)],?_⟩;rw[kN,h1 _<|by omega];simp[List.getD]
  |succ k =>
   obtain⟨E',k1,k2,k3⟩:=h3 k o (by simpa using hk);rw[show acc.length+1+k=acc.length+(k+1) by omega] at k1 k2 k3;exact⟨E',k1,k2,k3⟩
theorem Sc{ops:Array Oper}{m:Nat}{o:Oper}:∀(l:List Oper) (i:Nat),Hq ops m o i l->∀k x,l[k]? = some x->m.testBit (i+k)\/x.apart ops o=true
 |[],i,_,k,x,h=>by simp at h
 |y::r,i,h,k,x,hk=>by
  simp only[Hq,dL,jh] at h
  cases k with
  |zero=>simp at hk;subst hk;exact h.1
  |succ k =>
   have:=Sc r (i+1) h.2 k x (by simpa using hk);rwa [show i+1+k=i+(k+1) by omega] at this
theorem Fi{ops:Array Oper}{ms:List Nat}:∀(l pre:List Oper),zp ops ms pre l->∀k o,l[k]? = some o->(∀a∈mU o,a<pre.length+k) /\
  ∀i x,i<pre.length+k->(pre++l)[i]? = some x->(ms.getD (pre.length+k) 0).testBit i\/x.apart ops o=true
 |[],pre,_,k,o,h=>by simp at h
 |y::r,pre,h,k,o,hk=>by
  simp only[zp,dL] at h;obtain⟨⟨h1,h2⟩,h3⟩:=h
  cases k with
  |zero =>
   simp at hk;subst hk;refine⟨λa ha=>by simpa using kv.1 h1 a ha,λi x hi hx=>?_⟩;rw[dJ<|by omega] at hx;have:=Sc pre 0 h2 i x hx;simpa using this
  |succ k =>
   have:=Fi r (pre++[y]) h3 k o (by simpa using hk);simp only[cL,jt,l8,List.singleton_append] at this;rw[show pre.length+1+k=pre.length+(k+1) by omega] at this;exact this
section
variable{ops:Array Oper}
def Bef(ops:Array Oper)(i j:Nat):Prop:=((qE [] ops.toList).getD j 0).testBit i=true
def vu(ops:Array Oper)(S:aq):Prop:=∀j o,ops[j]? = some o->S j->∀a∈mU o,S a=true
theorem Ki(Nr:zp ops (qE [] ops.toList) [] ops.toList):∀(j:Nat) (o:Oper),ops[j]? = some o->∀i,Bef ops i j->i<j/\∀S:Nat->Bool,vu ops S->(∀a∈mU o,S a)->S i:=by
 intro j
 induction j using Nat.strongRecOn with
 |_ j ih =>
  intro o ho i hb;obtain⟨acc,h1,h2,h3⟩:=(Uc ops.toList []).2.2 j o (by simpa using ho);simp only[dE,jP] at h1 h2 h3;unfold Bef at hb;rw[h3] at hb;have bF:=(Fi ops.toList [] Nr j o<|by simpa using ho).1;simp only[dE,jP] at bF;obtain⟨a,ha,rfl|Us⟩:=Vr _ hb
  ·exact⟨bF _ ha,λS _ hS=>hS _ ha⟩
  have Sx:=bF a ha;rw[h1 a Sx] at Us;have hj:j<ops.size:=by
   rcases c7 j ops.size with h|h
   ·exact h
   rw[x' h] at ho;cases ho
  have Vf:ops[a]? = some ops[a]:=qH (by omega);obtain⟨q1,q2⟩:=ih a Sx _ Vf i Us;exact⟨by omega,λS hC hS=>q2 S hC<|hC a _ Vf<|hS a ha⟩
end
structure Rec where
 d:D
 rd:List Nat
 wr:List Nat
 H2:aB
 lt:Option<|Nat×Nat
instance:Inhabited Rec:=⟨⟨.dB,[],[],[],none⟩⟩
def Rec.entry(r:Rec):(List Nat×List Nat)×(Option (Nat×Nat)×D×aB):=((r.rd,r.wr),(r.lt,r.d,r.H2))
def rR(x:(List Nat×List Nat)×(Option (Nat×Nat)×D×aB)):List Nat×List Nat:=match x.2.1 with
 |some _=>([],x.1.2)
 |none=>x.1
section
variable{P:bt}{n:Nat}{ops:Array Oper}
def KN(P:bt)(o:Oper)(env:Env)(H:aB)(r:Rec):Prop:=∀id k,r.lt=some (id,k)->r.rd=[id]/\r.wr=[]/\r.H2=H/\(∃m cs,H[id]? = some (.row m cs)/\cs[k]? = some r.d) /\
 ∀(H':aB) m' fC,H'[id]? = some (.row m' fC)->fC[k]? = some r.d->OpS P o env [id] [] H' r.d H'
variable{o:Oper}{p:POp}{k:Nat}
theorem zpF(k1:cop P o=some p){env:Env}{H:aB}{K:D->aB->List Nat->List Nat->Prop}(h:step P false p env H K){id:Nat}(hl:yV p env=some (id,k)) :
  ∃c,K c H [id] []/\(∃m cs,H[id]? = some (.row m cs)/\cs[k]? = some c)/\∀(H':aB) m' fC,H'[id]? = some (.row m' fC)->fC[k]? = some c->OpS P o env [id] [] H' c H':=by
 unfold yV at hl;split at hl
 ·rename_i a;split at hl
  ·rename_i ij k' e;cases hl;simp only[step,fz] at h;rw[e] at h;obtain⟨ob,h1,h2⟩:=(kr _ _ _).1 h;split at h2
   ·rename_i m cs;obtain⟨c,h3,h4⟩:=(uC _ _ _).1 h2;refine⟨c,h4,⟨m,cs,h1,h3⟩,λH' m' fC g1 g2=>?_⟩;have hs:step P false (.fu a) env H' λd h rd wr=>d=c/\h=H'/\rd=[id]/\wr=[]:=by
     simp only[step,fz];rw[e];exact(kr _ _ _).2 ⟨_,g1,(uC _ _ _).2 ⟨c,g2,by simp⟩⟩
    rcases J6 k1 hs with⟨d,H2,rd,wr,q,rfl,rfl,rfl,rfl⟩|⟨q,_⟩
    ·exact q
    cases q
   exact h2.elim
  cases hl
 cases hl
def zj(P:bt)(n:Nat)(ops:Array Oper)(o:Oper)(env:Env)(H:aB)(r:Rec):Prop :=
 (∀t,o.dst=some t->t<n)/\(∀cs b,o.op≠.select cs b)/\KN P o env H r /\
 ((o.guard=none/\OpS P o env r.rd r.wr H r.d r.H2) \/
  ∃j b t c,o.guard=some (j,b)/\(ops[j]?).bind (·.dst)=some t/\gj t env=.sc c /\
   ((c=.bool b/\OpS P o env r.rd r.wr H r.d r.H2)\/(JY b c=true/\r=⟨.sc undef,[],[],H,none⟩)))
def CO(o:Oper)(r:Rec)(env:Env):Env:=match o.dst with
 |some t=>(t,r.d)::env
 |none=>env
inductive Run(P:bt)(n:Nat)(ops:Array Oper):List Oper->Env->aB->List Rec->Env->aB->Prop
 |nil (env:Env) (H:aB):Run P n ops [] env H [] env H
 |cons (o:Oper) (l:List Oper) (env:Env) (H:aB) (r:Rec) (rs:List Rec) (env':Env) (H':aB) (h:zj P n ops o env H r) (k:Run P n ops l (CO o r env) r.H2 rs env' H'):Run P n ops (o::l) env H (r::rs) env' H'
theorem zf(h:cop P o=some p):∀cs b,o.op≠.select cs b:=λcs b e=>by
 unfold cop at h;rw[e] at h;simp at h
theorem KN.none{o:Oper}{env:Env}{H:aB}{d:D}{rd wr:List Nat}{H2:aB}:KN P o env H ⟨d,rd,wr,H2,.none⟩:=λ_ _ h=>by cases h
theorem VI:∀(l:List Oper) (ms:List Nat) (pl:List cE),oD P n ops ms l=some pl->∀(env:Env) (H:aB) (K:Env->aB->Trace->Prop),mF P pl env H K ->
  ∃rs env' H',Run P n ops l env H rs env' H'/\K env' H' (rs.map Rec.entry)/\rs.length=l.length
 |[],ms,pl,hc,env,H,K,h=>by
  simp[oD] at hc;subst hc;exact⟨[],env,H,.nil env H,h,rfl⟩
 |o::l,ms,pl,hc,env,H,K,h=>by
  simp only[oD] at hc;split at hc
  ·rename_i p pr h1 h2;cases hc;obtain⟨k1,k2,k3,k4,_⟩:=LO h1
   have fin:∀(r:Rec),zj P n ops o env H r->(match p.dst with
     |some t=>mF P pr ((t,r.d)::env) r.H2 λe h tr=>K e h<|((r.rd,r.wr),(r.lt,r.d,r.H2))::tr
     |none=>mF P pr env r.H2 λe h tr=>K e h<|((r.rd,r.wr),(r.lt,r.d,r.H2))::tr)->∃rs env' H',Run P n ops (o::l) env H rs env' H'/\K env' H' (rs.map Rec.entry)/\rs.length=(o::l).length:=λr hr hs=>by
    have CW:mF P pr (CO o r env) r.H2 λe h tr=>K e h<|((r.rd,r.wr),(r.lt,r.d,r.H2))::tr:=by
     unfold CO;rw[k2] at hs
     cases hd:o.dst with
     |none=>rw[hd] at hs;exact hs
     |some t=>rw[hd] at hs;exact hs
    obtain⟨rs,env',H',q1,q2,q3⟩:=VI l ms.tail pr h2 _ _ _ CW;exact⟨r::rs,env',H',.cons o l env H r rs env' H' hr q1,q2,by simp[q3]⟩
   have exec:∀{K':D->aB->List Nat->List Nat->Prop},step P false p.op env H K'->∃d H2 rd wr,OpS P o env rd wr H d H2/\K' d H2 rd wr:=λhs=>by
    rcases J6 k1 hs with q|⟨q,_⟩
    ·exact q
    cases q
   simp only[mF] at h;rcases k4 with⟨g1,g2⟩|⟨j,b,t,g1,g2,g3⟩
   ·rw[g2] at h
    cases hl:yV p.op env with
    |none =>
     simp only[hl] at h;obtain⟨d,H2,rd,wr,q1,q2⟩:=exec h;exact fin ⟨d,rd,wr,H2,none⟩ ⟨k3,zf k1,.none,.inl ⟨g1,q1⟩⟩ q2
    |some q =>
     obtain⟨id,k⟩:=q;simp only[hl] at h;obtain⟨c,q1,⟨m,cs,q2,q3⟩,q4⟩:=zpF k1 h hl;refine fin ⟨c,[id],[],H,some (id,k)⟩ ⟨k3,zf k1,λij k' e=>?_,.inl ⟨g1,q4 H m cs q2 q3⟩⟩ q1;cases e;exact⟨rfl,rfl,rfl,⟨m,cs,q2,q3⟩,q4⟩
   rw[g3] at h;simp only[xV] at h;split at h
   ·rename_i c tT
    cases b with
    |true =>
     obtain⟨hA,hB⟩:=Eg.1 h
     cases c with
     |true =>
      obtain⟨d,H2,rd,wr,q1,q2⟩:=exec<|hA rfl;exact fin ⟨d,rd,wr,H2,none⟩ ⟨k3,zf k1,.none,.inr ⟨j,true,t,.bool true,g1,g2,tT,.inl ⟨rfl,q1⟩⟩⟩ q2
     |false=>exact fin ⟨.sc undef,[],[],H,none⟩ ⟨k3,zf k1,.none,.inr ⟨j,true,t,.bool false,g1,g2,tT,.inr ⟨rfl,rfl⟩⟩⟩<|hB rfl
    |false =>
     obtain⟨hA,hB⟩:=Eg.1 h
     cases c with
     |true=>exact fin ⟨.sc undef,[],[],H,none⟩ ⟨k3,zf k1,.none,.inr ⟨j,false,t,.bool true,g1,g2,tT,.inr ⟨rfl,rfl⟩⟩⟩<|hA rfl
     |false =>
      obtain⟨d,H2,rd,wr,q1,q2⟩:=exec<|hB rfl;exact fin ⟨d,rd,wr,H2,none⟩ ⟨k3,zf k1,.none,.inr ⟨j,false,t,.bool false,g1,g2,tT,.inl ⟨rfl,q1⟩⟩⟩ q2
   ·rename_i xs tT;exact fin ⟨.sc undef,[],[],H,none⟩ ⟨k3,zf k1,.none,.inr ⟨j,b,t,.tuple xs,g1,g2,tT,.inr ⟨rfl,rfl⟩⟩⟩ h
   exact h.elim
  cases hc
def oB(l:List Oper)(k:Nat):Option Tmp:=(l[k]?).bind (·.dst)
def recAt(rs:List Rec)(k:Nat):Rec:=(rs[k]?).getD default
def Et(l:List Oper)(rs:List Rec)(env:Env)(S:aq):Nat->Nat->D
 |0,t=>gj t env
 |k+1,t=>if S k=true/\oB l k=some t then (recAt rs k).d else Et l rs env S k t
def Gt(rs:List Rec)(H:aB)(S:aq):Nat->Nat->Option an
 |0,id=>H[id]?
 |k+1,id=>if S k=true/\id∈(recAt rs k).wr then (recAt rs k).H2[id]? else Gt rs H S k id
theorem DX{l:List Oper}{rs:List Rec}{env:Env}{S S':aq}{t:Nat}:∀(k:Nat),(∀i,i<k->oB l i=some t->S i=S' i)->Et l rs env S k t=Et l rs env S' k t
 |0,_=>rfl
 |k+1,h=>by
  simp only[Et];by_cases hd:oB l k=some t
  ·rw[h k (by omega) hd,DX k λi hi hd=>h i (by omega) hd]
  rw[aa λq=>hd q.2,aa λq=>hd q.2,DX k λi hi hd=>h i (by omega) hd]
theorem AQ{rs:List Rec}{H:aB}{S S':aq}{id:Nat}:∀(k:Nat),(∀i,i<k->id∈(recAt rs i).wr->S i=S' i)->Gt rs H S k id=Gt rs H S' k id
 |0,_=>rfl
 |k+1,h=>by
  simp only[Gt];by_cases hd:id∈(recAt rs k).wr
  ·rw[h k (by omega) hd,AQ k λi hi hd=>h i (by omega) hd]
  rw[aa λq=>hd q.2,aa λq=>hd q.2,AQ k λi hi hd=>h i (by omega) hd]
def upto(j:Nat):Nat->Bool:=λi=>decide (i<j)
theorem TM{l:List Oper}{rs:List Rec}{env:Env}{j t:Nat}:∀(k:Nat),j<=k->Et l rs env (upto j) k t=Et l rs env (λ_=>true) j t
 |0,h=>by have:j=0:=by omega
          subst this;rfl
 |k+1,h=>by
  by_cases e:j=k+1
  ·subst e;exact DX (k+1) λi hi _=>by simp[upto,hi]
  simp only[Et];rw[aa<|by simp[upto];omega,TM k<|by omega]
theorem KE{rs:List Rec}{H:aB}{j id:Nat}:∀(k:Nat),j<=k->Gt rs H (upto j) k id=Gt rs H (λ_=>true) j id
 |0,h=>by have:j=0:=by omega
          subst this;rfl
 |k+1,h=>by
  by_cases e:j=k+1
  ·subst e;exact AQ (k+1) λi hi _=>by simp[upto,hi]
  simp only[Gt];rw[aa<|by simp[upto];omega,KE k<|by omega]
def pG(l:List Oper)(rs:List Rec)(env:Env):Nat->Env
 |0=>env
 |k+1=>match l[k]?,rs[k]? with
  |some o,some r=>CO o r<|pG l rs env k
  |_,_=>pG l rs env k
def ki(rs:List Rec)(H:aB):Nat->aB
 |0=>H
 |k+1=>match rs[k]? with
  |some r=>r.H2
  |none=>ki rs H k
theorem JM{o:Oper}{l:List Oper}{r:Rec}{rs:List Rec}{env:Env}:∀k,pG (o::l) (r::rs) env (k+1)=pG l rs (CO o r env) k
 |0=>rfl
 |k+1=>by
  rw[pG];rw[JM k];rfl
theorem Nc{r:Rec}{rs:List Rec}{H:aB}:∀k,ki (r::rs) H (k+1)=ki rs r.H2 k
 |0=>rfl
 |k+1=>by
  rw[ki];rw[Nc k];rfl
theorem Run.at{l:List Oper}{env env':Env}{H H':aB}{rs:List Rec}(h:Run P n ops l env H rs env' H'):rs.length=l.length/\pG l rs env l.length=env'/\ki rs H l.length=H' /\
  ∀k o,l[k]? = some o->∃r,rs[k]? = some r/\zj P n ops o (pG l rs env k) (ki rs H k) r:=by
 induction h with
 |nil env H=>exact⟨rfl,rfl,rfl,λk o h=>by simp at h⟩
 |cons o l env H r rs env' H' h k ih =>
  obtain⟨i1,i2,i3,i4⟩:=ih;refine⟨by simp[i1],by rw[cj,JM];exact i2,by rw[cj,Nc];exact i3,λm x hx=>?_⟩
  cases m with
  |zero=>simp at hx;subst hx;exact⟨r,rfl,h⟩
  |succ m =>
   obtain⟨r',q1,q2⟩:=i4 m x (by simpa using hx);exact⟨r',by simpa using q1,by rw[JM,Nc];exact q2⟩
theorem CU{rs:List Rec}{r:Rec}(h:rs[k]? = some r):recAt rs k=r:=by simp[recAt,h]
theorem I3{l:List Oper}(h:l[k]? = some o):oB l k=o.dst:=by simp[oB,h]
theorem zj.frame{o:Oper}{env:Env}{H:aB}{r:Rec}(h:zj P n ops o env H r):(∀id,id ∉ r.wr->r.H2[id]? = H[id]?)/\H.length<=r.H2.length/\∀id∈r.wr,id<r.H2.length:=by
 rcases h.2.2.2 with⟨_,q⟩|⟨j,b,t,c,_,_,_,⟨_,q⟩|⟨_,rfl⟩⟩
 ·exact⟨q.frame,q.len,q.lt⟩
 ·exact⟨q.frame,q.len,q.lt⟩
 exact⟨λ_ _=>rfl,aI _,λ_ h=>by cases h⟩
section
variable{l:List Oper}{rs:List Rec}{env:Env}{H:aB}
variable(hA:∀k o,l[k]? = some o->∃r,rs[k]? = some r/\zj P n ops o (pG l rs env k) (ki rs H k) r)
include hA
theorem I4:∀k,k<=l.length->∀t,Et l rs env (λ_=>true) k t=gj t (pG l rs env k)
 |0,_,t=>rfl
 |k+1,hk,t=>by
  have hl:l[k]? = some l[k]:=aG (by omega);obtain⟨r,h1,_⟩:=hA k _ hl;simp only[Et,pG,hl,h1,CU h1,I3 hl,true_and,CO]
  cases hd:l[k].dst with
  |none=>simp;exact I4 k (by omega) t
  |some u =>
   simp only[Option.some.injEq];rw[AA];by_cases e:t=u
   ·rw[ae e.symm,ae e]
   rw[aa λq=>e q.symm,aa e];exact I4 k (by omega) t
theorem IZ:∀k,k<=l.length->∀id,Gt rs H (λ_=>true) k id=(ki rs H k)[id]?
 |0,_,id=>rfl
 |k+1,hk,id=>by
  have hl:l[k]? = some l[k]:=aG (by omega);obtain⟨r,h1,h2⟩:=hA k _ hl;simp only[Gt,ki,h1,CU h1,true_and];split
  ·rfl
  rename_i hn;rw[IZ k (by omega) id];exact(h2.frame.1 id hn).symm
theorem Jj:∀k j,j<=k->k<=l.length->(ki rs H j).length<=(ki rs H k).length
 |0,j,hj,_=>by have:j=0:=by omega
               subst this;exact aI _
 |k+1,j,hj,hk=>by
  have hl:l[k]? = some l[k]:=aG (by omega);obtain⟨r,h1,h2⟩:=hA k _ hl;by_cases e:j=k+1
  ·rw[e];exact aI _
  refine ia (Jj k j (by omega)<|by omega) ?_;simp only[ki,h1];exact h2.frame.2.1
theorem V7{i:Nat}(hik:i<k)(hk:k<=l.length){id:Nat}(h:id∈(recAt rs i).wr):id<(ki rs H k).length:=by
 have hl:l[i]? = some l[i]:=aG (by omega);obtain⟨r,h1,h2⟩:=hA i _ hl;rw[CU h1] at h;have h3:=h2.frame.2.2 id h;have h4:=Jj hA k (i+1) (by omega) hk;simp only[ki,h1] at h4;omega
end
theorem Gd(x:Nat):∀l:List Nat,pO x l↔x∈l
 |[]=>by simp[pO]
 |y::r=>by
  simp only[pO]
  cases e:Nat.beq x y with
  |true=>simp[Ch e]
  |false =>
   have:x≠y:=λh=>by subst h;simp at e
   simp[Gd x r,this]
theorem UG:∀(a b:List Nat),meets a b↔∃x∈a,x∈b
 |[],b=>by simp[meets]
 |x::r,b=>by
  simp only[meets]
  cases e:pO x b with
  |true=>simp[(Gd x b).1 e]
  |false =>
   have:x ∉ b:=λh=>by rw[(Gd x b).2 h] at e;cases e
   simp[UG r b,this]
theorem KB{m:Nat}{b:List Nat×List Nat}:∀(tr:List<|List Nat×List Nat) (i:Nat),Bt m b i tr->∀k a,tr[k]? = some a->tB a b->uI m (i+k)=true
 |[],i,_,k,a,h,_=>by simp at h
 |x::r,i,h,k,a,hk,hc=>by
  simp only[Bt] at h;split at h
  ·rename_i h1
   cases k with
   |zero =>
    simp at hk;subst hk;simpa [hc] using h1
   |succ k =>
    have:=KB r (i+1) h k a (by simpa using hk) hc;rwa [show i+1+k=i+(k+1) by omega] at this
  cases h
theorem QN:∀(pl:List cE) (pre:List<|List Nat×List Nat) (tr:Trace),Cr pre pl tr->∀k o b,pl[k]? = some o->tr[k]? = some b->∀i a,i<pre.length+k->(pre++tr.map (·.1))[i]? = some a->tB a b.1->uI o.mask i=true
 |[],pre,tr,_,k,o,b,h,_,_,_,_,_,_=>by simp at h
 |p::pl,pre,[],_,k,o,b,_,h,_,_,_,_,_=>by simp at h
 |p::pl,pre,(t,y)::tr,h,k,o,b,hk,hb,i,a,hi,ha,hc=>by
  simp only[Cr] at h;split at h
  ·rename_i h1
   cases k with
   |zero =>
    simp at hk hb;subst hk;subst hb;rw[dJ<|by omega] at ha;have:=KB pre 0 h1 i a ha hc;simpa using this
   |succ k =>
    refine QN pl (pre++[t]) tr h k o b (by simpa using hk) (by simpa using hb) i a (by simp;omega) ?_ hc;simpa using ha
  cases h
theorem KU:∀(pl:List cE) (pre:List<|List Nat×List Nat) (tr:Trace),Bm pre pl tr->∀k o b,pl[k]? = some o->tr[k]? = some b->∀i a,i<pre.length+k->(pre++tr.map rR)[i]? = some a->tB a b.1->uI o.mask i=true
 |[],pre,tr,_,k,o,b,h,_,_,_,_,_,_=>by simp at h
 |p::pl,pre,[],_,k,o,b,_,h,_,_,_,_,_=>by simp at h
 |p::pl,pre,(t,q,y)::tr,h,k,o,b,hk,hb,i,a,hi,ha,hc=>by
  simp only[Bm] at h;split at h
  ·rename_i h1
   cases k with
   |zero =>
    simp at hk hb;subst hk;subst hb;rw[dJ<|by omega] at ha;have:=KB pre 0 h1 i a ha hc;simpa using this
   |succ k =>
    have e:pre++((t,q,y)::tr).map rR=(pre++[rR (t,q,y)])++tr.map rR:=(by simp);rw[e] at ha
    cases q with
    |none=>exact KU pl (pre++[t]) tr h k o b (by simpa using hk) (by simpa using hb) i a (by simp;omega) ha hc
    |some q=>exact KU pl (pre++[([],t.2)]) tr h k o b (by simpa using hk) (by simpa using hb) i a (by simp;omega) ha hc
  cases h
def Kz(m:Nat)(wr:List Nat)(H:aB)(w:Nat×(Nat×Nat)×D):Prop:=uI m w.1=true\/w.2.1.1 ∉ wr\/∃mm cs,H[w.2.1.1]? = some (.row mm cs)/\cs[w.2.1.2]? = some w.2.2
theorem Lz{m:Nat}{wr:List Nat}{H:aB}{K:Prop}:∀ws,Ek m wr H K ws->K/\∀w∈ws,Kz m wr H w
 |[],h=>⟨h,λw hw=>by cases hw⟩
 |(i,(id,k),d)::r,h=>by
  simp only[Ek] at h;split at h
  ·rename_i e;obtain⟨q1,q2⟩:=Lz r h;refine⟨q1,λw hw=>?_⟩;rcases dD.1 hw with rfl|hw
   ·rw[jh,oG] at e;rcases e with e|e
    ·exact .inl e
    refine .inr (.inl λz=>?_);rw[(Gd _ _).2 z] at e;cases e
   exact q2 w hw
  unfold WR at h;obtain⟨ob,h1,h2⟩:=(kr _ _ _).1 h;split at h2
  ·rename_i mm cs;obtain⟨c,h3,rfl,h4⟩:=(uC _ _ _).1 h2;obtain⟨q1,q2⟩:=Lz r h4;refine⟨q1,λw hw=>?_⟩;rcases dD.1 hw with rfl|hw
   ·exact .inr (.inr ⟨mm,cs,h1,h3⟩)
   exact q2 w hw
  exact h2.elim
theorem Oq{K:Prop}:∀(l:List cE) (tr:Trace) (i0:Nat) (ws:List<|Nat×(Nat×Nat)×D),Cp K i0 ws l tr->l.length=tr.length->K/\∀j o b q d H,l[j]? = some o->tr[j]? = some (b,(q,d,H)) ->
   (∀w∈ws,Kz o.mask b.2 H w)/\∀i b' lt d' H',i<j->tr[i]? = some (b',(some lt,d',H'))->Kz o.mask b.2 H (i0+i,lt,d')
 |[],[],i0,ws,h,_=>⟨h,λj o b q d H hj=>by simp at hj⟩
 |[],_::_,_,_,_,hl=>by simp at hl
 |_::_,[],_,_,_,hl=>by simp at hl
 |p::l,(b0,(q0,d0,H0))::tr,i0,ws,h,hl=>by
  simp only[Cp] at h;obtain⟨h1,h2⟩:=Lz ws h
  cases q0 with
  |none =>
   obtain⟨k1,k2⟩:=Oq l tr (i0+1) ws h1 (by simpa using hl);refine⟨k1,λj o b q d H hj hb=>?_⟩
   cases j with
   |zero=>simp at hj hb;obtain⟨rfl,rfl,rfl,rfl⟩:=hb;subst hj;exact⟨h2,λi _ _ _ _ hi=>by omega⟩
   |succ j =>
    obtain⟨m1,m2⟩:=k2 j o b q d H (by simpa using hj) (by simpa using hb);refine⟨m1,λi b' lt d' H' hi yp=>?_⟩
    cases i with
    |zero=>simp at yp
    |succ i =>
     have:=m2 i b' lt d' H' (by omega) (by simpa using yp);rwa [show i0+1+i=i0+(i+1) by omega] at this
  |some q0 =>
   obtain⟨k1,k2⟩:=Oq l tr (i0+1) (ws++[(i0,q0,d0)]) h1 (by simpa using hl);refine⟨k1,λj o b q d H hj hb=>?_⟩
   cases j with
   |zero=>simp at hj hb;obtain⟨rfl,rfl,rfl,rfl⟩:=hb;subst hj;exact⟨h2,λi _ _ _ _ hi=>by omega⟩
   |succ j =>
    obtain⟨m1,m2⟩:=k2 j o b q d H (by simpa using hj) (by simpa using hb);refine⟨λw hw=>m1 w<|xU _ hw,λi b' lt d' H' hi yp=>?_⟩
    cases i with
    |zero =>
     simp at yp;obtain⟨rfl,rfl,rfl,rfl⟩:=yp;exact m1 (i0,q0,d0)<|by simp
    |succ i =>
     have:=m2 i b' lt d' H' (by omega) (by simpa using yp);rwa [show i0+1+i=i0+(i+1) by omega] at this
theorem zpl{m i:Nat}(h:uI m i):m.testBit i:=by
 unfold uI at h;split at h
 ·rename_i e;rw[Nat.testBit_eq_decide_div_mod_eq];simpa using Ch e
 cases h
theorem QD:∀(l:List Oper) (ms:List Nat) (pl:List cE),oD P n ops ms l=some pl->∀k p,pl[k]? = some p->p.mask=ms.getD k 0
 |[],ms,pl,h,k,p,hk=>by simp[oD] at h;subst h;simp at hk
 |o::l,ms,pl,h,k,p,hk=>by
  simp only[oD] at h;split at h
  ·rename_i q pr h1 h2;cases h
   cases k with
   |zero =>
    simp at hk;subst hk;rw[(LO h1).2.2.2.2];cases ms<;>rfl
   |succ k =>
    rw[QD l ms.tail pr h2 k p<|by simpa using hk];cases ms<;>simp[List.getD]
  cases h
theorem PF:∀(l:List Oper) (ms:List Nat) (pl:List cE),oD P n ops ms l=some pl->pl.length=l.length
 |[],ms,pl,h=>by simp[oD] at h;subst h;rfl
 |o::l,ms,pl,h=>by
  simp only[oD] at h;split at h
  ·rename_i q pr h1 h2;cases h;simp[PF l ms.tail pr h2]
  cases h
end
end
section
structure m4(P:bt)(n:Nat)(ops:Array Oper)(env:Env)(H:aB)(rs:List Rec):Prop where
 at_:∀k o,ops.toList[k]? = some o->∃r,rs[k]? = some r/\zj P n ops o (pG ops.toList rs env k) (ki rs H k) r
 len:rs.length=ops.size
 reg:zp ops (qE [] ops.toList) [] ops.toList=true
 mem:∀i j,i<j->j<ops.size->tB (rR (recAt rs i).entry) ((recAt rs j).rd,(recAt rs j).wr)->Bef ops i j
 lite:∀i id k,(recAt rs i).lt=some (id,k)->∀j,i<j->j<ops.size->id∈(recAt rs j).wr->Bef ops i j\/∃m cs,(recAt rs j).H2[id]? = some (.row m cs)/\cs[k]? = some (recAt rs i).d
section
variable{P:bt}{n:Nat}{ops:Array Oper}{env:Env}{H:aB}{rs:List Rec}
structure Inv(P:bt)(n:Nat)(ops:Array Oper)(env:Env)(H:aB)(rs:List Rec)(J0:aX)(F0:Nat->Prop)(w0:aU)(S:aq)(J:aX)(F:Nat->Prop)(a:Act)(w:aU):Prop where
 closed:vu ops S
 defers:a.defers=[]
 size:a.tmps.size=n
 tmps:∀t,rep J F w (Et ops.toList rs env S ops.size t)<|a.tmps.getD t undef
 ok:cr J F w<|Gt rs H S ops.size
 ext:Ext J0 F0 w0 J F w
 dom:∀id,J id≠none->id<H.length\/∃i,i<ops.size/\S i/\id∈(recAt rs i).wr
variable{S:aq}{j i:Nat}{o:Oper}
theorem m4.before(hp:m4 P n ops env H rs)(hC:vu ops S)(ho:ops[j]? = some o)(hj:S j=false)(hr:∀a∈mU o,S a)(hi:i<ops.size)(b7:i≠j)(zIf:Bef ops i j\/Bef ops j i):S i=upto j i:=by
 have pD:ops[i]? = some ops[i]:=qH hi;rcases zIf with h|h
 ·obtain⟨q1,q2⟩:=Ki hp.reg j o ho i h;rw[q2 S hC hr];simp[upto,q1]
 obtain⟨q1,q2⟩:=Ki hp.reg i _ pD j h;have:S i=false:=by
  cases e:S i with
  |false=>rfl
  |true =>
   have:=q2 S hC<|hC i _ pD e;rw[hj] at this;cases this
 rw[this];simp[upto];omega
theorem m4.cmp(hp:m4 P n ops env H rs){x y:Oper}(hi:ops[i]? = some x)(hj:ops[j]? = some y)(b7:i≠j):(Bef ops i j\/Bef ops j i)\/(x.apart ops y=true/\i<j)\/(y.apart ops x=true/\j<i):=by
 rcases Nat.lt_or_gt_of_ne b7 with h|h
 ·have:=(Fi ops.toList [] hp.reg j y<|by simpa using hj).2 i x (by simpa using h) (by simpa using hi);simp only[dE,jP] at this;rcases this with q|q
  ·exact .inl (.inl q)
  exact .inr (.inl ⟨q,h⟩)
 have:=(Fi ops.toList [] hp.reg i x<|by simpa using hi).2 j y (by simpa using h) (by simpa using hj);simp only[dE,jP] at this;rcases this with q|q
 ·exact .inl (.inr q)
 exact .inr (.inr ⟨q,h⟩)
theorem m4.tmp(hp:m4 P n ops env H rs)(hC:vu ops S)(ho:ops[j]? = some o)(hj:S j=false)(hr:∀a∈mU o,S a){t:Nat}(ht:t∈o.looksAt ops):Et ops.toList rs env S ops.size t=gj t (pG ops.toList rs env j):=by
 have tW:j<ops.size:=by
  rcases c7 j ops.size with h|h
  ·exact h
  rw[x' h] at ho;cases ho
 rw[<-I4 hp.at_ j (by simp;omega),<-TM ops.size (by omega)];refine DX _ λi hi hd=>?_;have pD:ops[i]? = some ops[i]:=qH hi;have ug:ops.toList[i]? = some ops[i]:=by rw[DH];exact pD
 rw[I3 ug] at hd;by_cases e:i=j
 ·subst e;rw[hj];simp[upto]
 rcases hp.cmp pD ho e with h|⟨h,_⟩|⟨h,_⟩
 ·exact hp.before hC ho hj hr hi e h
 ·exact absurd ht<|(Oper.apart_spec h).1 t hd
 exact absurd ht<|(Oper.apart_spec h).2.2 t hd
theorem Hc(a b:List Nat×List Nat):tB a b↔(∃x∈a.2,x∈b.1)\/(∃x∈a.2,x∈b.2)\/∃x∈b.2,x∈a.1:=by
 simp only[tB,jh,UG,or_assoc]
theorem IN(r:Rec):(rR r.entry).2=r.wr:=by unfold rR Rec.entry;split<;>rfl
theorem zvX{r:Rec}(h:r.lt=none):(rR r.entry).1=r.rd:=by unfold rR Rec.entry;dsimp only;rw[h]
variable{id:Nat}
theorem m4.objB(hp:m4 P n ops env H rs)(hC:vu ops S)(ho:ops[j]? = some o)(hj:S j=false)(hr:∀a∈mU o,S a)(hid:id∈(recAt rs j).rd\/id∈(recAt rs j).wr)(h:i<j)(hw:id∈(recAt rs i).wr):S i=upto j i:=by
 have tW:j<ops.size:=by
  rcases c7 j ops.size with h|h
  ·exact h
  rw[x' h] at ho;cases ho
 refine hp.before hC ho hj hr (by omega) (by omega) (.inl<|hp.mem i j h tW<|(Hc _ _).2 ?_);rcases hid with q|q
 ·exact .inl ⟨id,by rw[IN];exact hw,q⟩
 exact .inr (.inl ⟨id,by rw[IN];exact hw,q⟩)
theorem m4.obj(hp:m4 P n ops env H rs)(hC:vu ops S)(ho:ops[j]? = some o)(hj:S j=false)(hr:∀a∈mU o,S a)(hid:(id∈(recAt rs j).rd/\(recAt rs j).lt=none)\/id∈(recAt rs j).wr)(hi:i<ops.size)(hw:id∈(recAt rs i).wr):S i=upto j i:=by
 by_cases e:i=j
 ·subst e;rw[hj];simp[upto]
 rcases Nat.lt_or_gt_of_ne e with h|h
 ·exact hp.objB hC ho hj hr (hid.imp_left And.left) h hw
 refine hp.before hC ho hj hr hi e (.inr<|hp.mem j i h hi<|(Hc _ _).2 ?_);rcases hid with⟨q,ql⟩|q
 ·exact .inr (.inr ⟨id,hw,by rw[zvX ql];exact q⟩)
 exact .inr (.inl ⟨id,by rw[IN];exact q,hw⟩)
theorem m4.objs(hp:m4 P n ops env H rs)(hC:vu ops S)(ho:ops[j]? = some o)(hj:S j=false)(hr:∀a∈mU o,S a)(hid:(id∈(recAt rs j).rd/\(recAt rs j).lt=none)\/id∈(recAt rs j).wr):Gt rs H S ops.size id=(ki rs H j)[id]?:=by
 have tW:j<ops.size:=by
  rcases c7 j ops.size with h|h
  ·exact h
  rw[x' h] at ho;cases ho
 rw[<-IZ hp.at_ j (by simp;omega),<-KE ops.size (by omega)];exact AQ _ λi hi hw=>hp.obj hC ho hj hr hid hi hw
theorem m4.cell(hp:m4 P n ops env H rs)(hC:vu ops S)(ho:ops[j]? = some o)(hj:S j=false)(hr:∀a∈mU o,S a){k:Nat}(hl:(recAt rs j).lt=some (id,k))(cW:(recAt rs j).rd=[id])
  (h0:∃m cs,(ki rs H j)[id]? = some (.row m cs)/\cs[k]? = some (recAt rs j).d):∃m cs,Gt rs H S ops.size id=some (.row m cs)/\cs[k]? = some (recAt rs j).d:=by
 have tW:j<ops.size:=by
  rcases c7 j ops.size with h|h
  ·exact h
  rw[x' h] at ho;cases ho
 have key:∀x,j+x<=ops.size->∃m cs,Gt rs H S (j+x) id=some (.row m cs)/\cs[k]? = some (recAt rs j).d:=λx=>by
  induction x with
  |zero =>
   intro _;have:Gt rs H S j id=(ki rs H j)[id]?:=by
    rw[<-IZ hp.at_ j (by simp;omega),<-KE j (aI _)];exact AQ _ λi hi hw=>hp.objB hC ho hj hr (.inl<|by rw[cW];simp) hi hw
   rw[kN,this];exact h0
  |succ x ih =>
   intro hx;rw[<-nT];simp only[Gt];split
   ·rename_i q;by_cases e:x=0
    ·subst e;rw[kN] at q;rw[hj] at q;exact absurd q.1<|by simp
    rcases hp.lite j id k hl (j+x) (by omega) (by omega) q.2 with r|r
    ·exfalso;have pD:ops[j+x]? = some ops[j+x]:=qH (by omega);obtain⟨_,q2⟩:=Ki hp.reg (j+x) _ pD j r;have:=q2 S hC<|hC (j+x) _ pD q.1;rw[hj] at this;cases this
    exact r
   exact ih<|by omega
 have:=key (ops.size-j) (by omega);rwa [show j+(ops.size-j)=ops.size by omega] at this
def plus(S:aq)(j:Nat):Nat->Bool:=λi=>S i||decide (i=j)
theorem SU{l:List Oper}{S:aq}{j t:Nat}(hj:S j=false)(Fm:∀i,j<i->S i->oB l i=some t->oB l j≠some t):∀k,Et l rs env (plus S j) k t=if j<k/\oB l j=some t then (recAt rs j).d else Et l rs env S k t
 |0=>rfl
 |k+1=>by
  simp only[Et];rw[SU hj Fm k];by_cases e:k=j
  ·subst e;by_cases hd:oB l k=some t
   ·rw[ae ⟨by simp[plus],hd⟩,ae ⟨by omega,hd⟩]
   rw[aa λq=>hd q.2,aa λq=>hd q.2,aa λq=>hd q.2,aa λq=>hd q.2]
  have hS:plus S j k=S k:=(by simp[plus,e]);rw[hS];by_cases hk:S k=true/\oB l k=some t
  ·rw[ae hk,ae hk];rw[aa];rintro⟨q1,q2⟩;exact Fm k (by omega) hk.1 hk.2 q2
  rw[aa hk,aa hk];by_cases hd:j<k/\oB l j=some t
  ·rw[ae hd,ae ⟨by omega,hd.2⟩]
  rw[aa hd,aa λq=>hd ⟨by omega,q.2⟩]
theorem Xc{S:aq}{j id:Nat}(hj:S j=false)(Fm:∀i,j<i->S i->id∈(recAt rs i).wr->id ∉ (recAt rs j).wr):∀k,Gt rs H (plus S j) k id=if j<k/\id∈(recAt rs j).wr then (recAt rs j).H2[id]? else Gt rs H S k id
 |0=>rfl
 |k+1=>by
  simp only[Gt];rw[Xc hj Fm k];by_cases e:k=j
  ·subst e;by_cases hd:id∈(recAt rs k).wr
   ·rw[ae ⟨by simp[plus],hd⟩,ae ⟨by omega,hd⟩]
   rw[aa λq=>hd q.2,aa λq=>hd q.2,aa λq=>hd q.2,aa λq=>hd q.2]
  have hS:plus S j k=S k:=(by simp[plus,e]);rw[hS];by_cases hk:S k=true/\id∈(recAt rs k).wr
  ·rw[ae hk,ae hk];rw[aa];rintro⟨q1,q2⟩;exact Fm k (by omega) hk.1 hk.2 q2
  rw[aa hk,aa hk];by_cases hd:j<k/\id∈(recAt rs j).wr
  ·rw[ae hd,ae ⟨by omega,hd.2⟩]
  rw[aa hd,aa λq=>hd ⟨by omega,q.2⟩]
theorem m4.step(hp:m4 P n ops env H rs){J0:aX}{F0:Nat->Prop}{w0:aU}{S:aq}{J:aX}{F:Nat->Prop}{a:Act}{w:aU}(hv:Inv P n ops env H rs J0 F0 w0 S J F a w){j:Nat}{o:Oper}(ho:ops[j]? = some o)(hj:S j=false)(hr:∀a∈mU o,S a)
  {K:Act->aU->Prop} {Q:Exit->Act->aU->Prop} (hK:∀J' F' a' w',Inv P n ops env H rs J0 F0 w0 (plus S j) J' F' a' w'->K a' w') :
  if Region.wanted o (yielded ops a.tmps) then o.wp P a w K Q else K (a.put o.dst undef) w:=by
 have tW:j<ops.size:=by
  rcases c7 j ops.size with h|h
  ·exact h
  rw[x' h] at ho;cases ho
 have zE:ops.toList[j]? = some o:=by simpa using ho
 obtain⟨r,hr1,u4⟩:=hp.at_ j o zE;have ud:recAt rs j=r:=CU hr1;have QY:oB ops.toList j=o.dst:=I3 zE;have zfN:vu ops<|plus S j:=λi x hx hi b hb=>by
  simp only[plus,jh,c6] at hi⊢;rcases hi with hi|rfl
  ·exact .inl<|hv.closed i x hx hi b hb
  rw[ho] at hx;cases hx;exact .inl<|hr b hb
 have zLm:∀t i,j<i->S i->oB ops.toList i=some t->oB ops.toList j≠some t:=λt i hi hS hd HE=>by
  have Ji:i<ops.size:=by
   rcases c7 i ops.size with h|h
   ·exact h
   rw[oB,db<|by simpa using h] at hd;cases hd
  have pD:ops[i]? = some ops[i]:=qH Ji;have ug:ops.toList[i]? = some ops[i]:=(by rw[DH];exact pD);rw[I3 ug] at hd;rw[QY] at HE;rcases hp.cmp pD ho (by omega) with h|⟨h,h'⟩|⟨h,_⟩
  ·have:=hp.before hv.closed ho hj hr Ji (by omega) h;rw[hS] at this;simp[upto] at this;omega
  ·omega
  exact(Oper.apart_spec h).2.1 t HE hd
 have zIq:∀id i,j<i->S i->id∈(recAt rs i).wr->id ∉ (recAt rs j).wr:=λid i hi hS hw BI=>by
  by_cases Ji:i<ops.size
  ·have:=hp.obj hv.closed ho hj hr (.inr BI) Ji hw;rw[hS] at this;simp[upto] at this;omega
  have e:rs[i]? = none:=db (by rw[hp.len];omega);simp[recAt,e] at hw;cases hw
 -- the new state
 have mk:∀(v:aH) (J':aX) (F':Nat->Prop) (w':aU),rep J' F' w' r.d v->cr J' F' w' (upd (Gt rs H S ops.size) r.wr r.H2)->Ext J F w J' F' w'->(∀id,J id=none->id ∉ r.wr->J' id=none)->Inv P n ops env H rs J0 F0 w0 (plus S j) J' F' (a.put o.dst v) w':=λv J' F' w' q1 q2 q3 q4=>by
  refine⟨zfN,?_,?_,λt=>?_,?_,hv.ext.trans q3,λid hid=>?_⟩
  ·cases o.dst<;>exact hv.defers
  ·cases o.dst<;>simp[Act.put,hv.size]
  ·rw[SU hj<|zLm t];rw[QY,ud]
   cases hd:o.dst with
   |none=>rw[aa<|by simp];exact Hr q3<|hv.tmps t
   |some u =>
    simp only[tW,true_and,Option.some.injEq,Act.put];rw[TT _ _ _ _<|by rw[hv.size];exact u4.1 u hd];by_cases e:t=u
    ·rw[ae e.symm,ae e];exact q1
    rw[aa λq=>e q.symm,aa e];exact Hr q3<|hv.tmps t
  ·have:Gt rs H (plus S j) ops.size=upd (Gt rs H S ops.size) r.wr r.H2:=by
    funext id;rw[Xc hj<|zIq id];simp only[tW,true_and,ud,upd]
   rw[this];exact q2
  by_cases h1:J id=none
  ·by_cases h2:id∈r.wr
   ·exact .inr ⟨j,tW,by simp[plus],by rw[ud];exact h2⟩
   exact absurd (q4 id h1 h2) hid
  rcases hv.dom id h1 with q|⟨i,i1,i2,i3⟩
  ·exact .inl q
  exact .inr ⟨i,i1,by simp[plus,i2],i3⟩
 have opnd:∀x∈o.op.operands,rep J F w (fh (pG ops.toList rs env j) x)<|a.eval x:=λx hx=>by
  cases x with
  |tmp t =>
   have ht:t∈o.looksAt ops:=by
    unfold Oper.looksAt;refine de.2 (.inl<|List.mem_filterMap.2 ⟨.tmp t,by simpa using hx,rfl⟩)
   have:=hv.tmps t;rw[hp.tmp hv.closed ho hj hr ht] at this;exact this
  |const v =>
   cases v<;>simp only[fh,lift,Act.eval,rep];rename_i cs;exact⟨cs.toList,by simp,B1 cs.toList⟩
  |global g=>exact V3 hv.ok.lt g
  |func f=>simp only[fh,Act.eval,rep];exact⟨[],[],rfl,by simp only[bj],by simp only[bj]⟩
 have exec:OpS P o (pG ops.toList rs env j) r.rd r.wr (ki rs H j) r.d r.H2->o.wp P a w K Q:=λhs=>by
  cases bF:r.lt with
  |some q =>
   obtain⟨id,k⟩:=q;obtain⟨e1,e2,e3,e4,e5⟩:=u4.2.2.1 id k bF;obtain⟨m,cs,c1,c2⟩:=hp.cell hv.closed ho hj hr (by rw[ud];exact bF) (by rw[ud];exact e1) (by rw[ud];exact e4);rw[ud] at c2;obtain⟨m0,cs0,c3,_⟩:=e4;have we:id<(ki rs H j).length:=by
    rcases c7 id (ki rs H j).length with h|h
    ·exact h
    rw[db h] at c3;cases c3
   have nE:((ki rs H j).set id (.row m cs))[id]? = some (.row m cs):=(by rw[wG];simp[we]);refine(e5 _ m cs nE c2).run J F w a _ hv.ok opnd (λi hi=>?_) (λi hi hw=>by cases hw) K Q λv w' J' F' q1 q2 q3 q4=>hK _ _ _ _<|mk v J' F' w' q1 (by rw[z8] at q2;rw[e2,z8];exact q2) q3 λi h1 _=>q4 i h1 (by simp);rcases hi with hi|hi
   ·rw[cM] at hi;subst hi;rw[c1,nE]
   cases hi
  |none =>
   refine hs.run J F w a _ hv.ok opnd (λid hid=>by rw[<-ud] at hid;exact hp.objs hv.closed ho hj hr<|hid.imp_left λh=>⟨h,by rw[ud];exact bF⟩) (λid hid hw=>?_) K Q λv w' J' F' q1 q2 q3 q4=>hK _ _ _ _<|mk v J' F' w' q1 q2 q3 q4
   cases e:J id with
   |none=>rfl
   |some s =>
    rcases hv.dom id (by rw[e];simp) with q|⟨i,i1,i2,i3⟩
    ·have:=Jj hp.at_ j 0 (by omega) (by simp;omega);simp only[ki] at this;omega
    have h1:=hp.obj hv.closed ho hj hr (.inr<|by rw[ud];exact hw) i1 i3;rw[i2] at h1;have mR:i<j:=(by simpa [upto] using h1.symm);have:=V7 hp.at_ mR (by simp;omega) i3;omega
 rcases u4.2.2.2 with⟨g1,g2⟩|⟨g,b,t,c,g1,g2,g3,g4⟩
 ·rw[ae<|by simp[Region.wanted,g1]];exact exec g2
 have ht:t∈o.looksAt ops:=by
  unfold Oper.looksAt;refine de.2 (.inr ?_);rw[g1];simp only[g2,A3,cM]
 have h3:=hv.tmps t;rw[hp.tmp hv.closed ho hj hr ht,g3] at h3;simp only[rep] at h3;rcases g4 with⟨rfl,g4⟩|⟨b7,rfl⟩
 ·rw[ae<|ztr g1 g2 h3];exact exec g4
 rw[aa<|by rw[T1 g1 g2<|by rw[h3];exact b7];simp];exact hK _ _ _ _<|mk undef J F w (by simp only[rep]) (by rw[z8];exact hv.ok) (Ext.refl _ _ _) λ_ h _=>h
variable{listed:Array Bool}
theorem RW(h:j∈Region.ready .any ops listed):∃o,ops[j]? = some o/\listed.getD j true=false/\∀a∈mU o,listed.getD a false:=by
 obtain⟨h1,o,h2,h3⟩:=mem_ready.1 h;refine⟨o,h2,h1,λa ha=>?_⟩;unfold mU at ha;obtain⟨e,he,rfl⟩:=cU.1 ha;obtain⟨he1,he2⟩:=nG.1 he;exact h3 e (by simpa using he1) he2
def tg(listed:Array Bool):Nat->Bool:=λi=>listed.getD i false
theorem zmI(hj:j<listed.size):tg (listed.setIfInBounds j true)=plus (tg listed) j:=by
 funext i;simp only[tg,plus,uJ];by_cases e:i=j
 ·subst e;simp[Gn,hj]
 rw[HB λq=>e q.symm];simp[e]
def missing(listed:Array Bool):Nat:=(List.range listed.size).countP λi=>!listed.getD i false
theorem zoY(Nr:zp ops (qE [] ops.toList) [] ops.toList)(hs:listed.size=ops.size)(h:Region.ready .any ops listed=[]):∀i,i<ops.size->listed.getD i false:=by
 intro i
 induction i using Nat.strongRecOn with
 |_ i ih =>
  intro hi
  cases e:listed.getD i false with
  |true=>rfl
  |false =>
   have pD:ops[i]? = some ops[i]:=qH hi;have ug:ops.toList[i]? = some ops[i]:=(by rw[DH];exact pD);have bF:=(Fi ops.toList [] Nr i _ ug).1;simp only[dE,jP] at bF;have:i∈Region.ready .any ops listed:=by
    refine mem_ready.2 ⟨?_,_,pD,λed hed hb=>?_⟩
    ·have:i<listed.size:=by omega
     simp only[uJ,qH this,pe] at e⊢;exact e
    have ha:ed.on∈mU ops[i]:=cU.2 ⟨ed,nG.2 ⟨by simpa using hed,hb⟩,rfl⟩;exact ih _ (bF _ ha)<|by have:=bF _ ha;omega
   rw[h] at this;cases this
theorem YX(hp:m4 P n ops env H rs){J0:aX}{F0:Nat->Prop}{w0:aU}{Q:Exit->Act->aU->Prop}
  (hQ:∀J F a w,Inv P n ops env H rs J0 F0 w0 (λ_=>true) J F a w->Q .normal a w):∀(fuel:Nat) (listed:Array Bool) (J:aX) (F:Nat->Prop) (a:Act) (w:aU),listed.size=ops.size->missing listed<=fuel->Inv P n ops env H rs J0 F0 w0 (tg listed) J F a w->wpAny P .any ops Q fuel listed a w:=by
 have done:∀(listed:Array Bool) (J:aX) (F:Nat->Prop) (a:Act) (w:aU),listed.size=ops.size->(∀i,i<ops.size->listed.getD i false)->Inv P n ops env H rs J0 F0 w0 (tg listed) J F a w->Q .normal a w:=λlisted J F a w hs dg hv=>by
  refine hQ J F a w ⟨λ_ _ _ _ _ _=>rfl,hv.defers,hv.size,λt=>?_,?_,hv.ext,λid hid=>(hv.dom id hid).imp_right λ⟨i,i1,_,i3⟩=>⟨i,i1,rfl,i3⟩⟩
  ·have:=hv.tmps t;have e:Et ops.toList rs env (tg listed) ops.size t=Et ops.toList rs env (λ_=>true) ops.size t:=DX ops.size λi hi _=>dg i hi;rwa [e] at this
  have e:Gt rs H (tg listed) ops.size=Gt rs H (λ_=>true) ops.size:=funext λid=>AQ ops.size λi hi _=>dg i hi;have:=hv.ok;rwa [e] at this
 have key:∀(listed:Array Bool) (j:Nat),listed.size=ops.size->j∈Region.ready .any ops listed->j<ops.size/\listed.getD j false=false:=λlisted j hs hj=>by
  obtain⟨o,h1,h2,_⟩:=RW hj;have tW:j<ops.size:=by
   rcases c7 j ops.size with h|h
   ·exact h
   rw[x' h] at h1;cases h1
  refine⟨tW,?_⟩;have:j<listed.size:=by omega
  simp only[uJ,qH this,pe] at h2⊢;exact h2
 intro fuel
 induction fuel with
 |zero =>
  intro listed J F a w hs hm hv;have dg:∀i,i<ops.size->listed.getD i false:=λi hi=>by
   have h0:missing listed=0:=(by omega);unfold missing at h0;rw[List.countP_eq_zero] at h0;have:=h0 i (by simp;omega);simpa using this
  refine⟨?_,done listed J F a w hs dg hv⟩
  cases e:Region.ready .any ops listed with
  |nil=>rfl
  |cons j r =>
   obtain⟨q1,q2⟩:=key listed j hs (by rw[e];simp);rw[dg j q1] at q2;cases q2
 |succ fuel ih =>
  intro listed J F a w hs hm hv;refine⟨λh=>done listed J F a w hs (zoY hp.reg hs h) hv,λj hj=>?_⟩;obtain⟨o,h1,h2,h3⟩:=RW hj;obtain⟨q1,q2⟩:=key listed j hs hj;have zM:missing (listed.setIfInBounds j true)<=fuel:=by
   have bF:missing (listed.setIfInBounds j true)<missing listed:=by
    unfold missing;rw[Array.size_setIfInBounds];have jL:j∈List.range listed.size:=(by simp;omega);obtain⟨l1,l2,hl⟩:=List.append_of_mem jL;have dO:(List.range listed.size).Nodup:=List.nodup_range;rw[hl] at dO⊢;have zOG:∀x∈l1,x≠j:=λx hx e=>by
     subst e;rw[zn] at dO;exact dO.2.2 x hx x (by simp) rfl
    have zKC:∀x∈l2,x≠j:=λx hx e=>by
     subst e;rw[zn] at dO;have:=dO.2.1;simp at this;exact this.1 hx
    have nE:∀x,x≠j->(listed.setIfInBounds j true).getD x false=listed.getD x false:=λx hx=>by
     simp only[uJ];rw[HB λq=>hx q.symm]
    rw[List.countP_append,List.countP_append,List.countP_cons,List.countP_cons];have c1:l1.countP (λi=>!(listed.setIfInBounds j true).getD i false)=l1.countP (λi=>!listed.getD i false):=List.countP_congr λx hx=>by rw[nE x<|zOG x hx]
    have c2:l2.countP (λi=>!(listed.setIfInBounds j true).getD i false)=l2.countP (λi=>!listed.getD i false):=List.countP_congr λx hx=>by rw[nE x<|zKC x hx]
    rw[c1,c2,q2];have:(listed.setIfInBounds j true).getD j false=true:=by
     simp only[uJ];simp[Gn,show j<listed.size by omega]
    rw[this];simp
   omega
  have st:=hp.step hv h1 (by simpa [tg] using q2) (by simpa [tg] using h3) (K:=wpAny P .any ops Q fuel<|listed.setIfInBounds j true) (Q:=Q) λJ' F' a' w' lS=>ih _ J' F' a' w' (by simp[hs]) zM (by rw[zmI<|by omega];exact lS);unfold wpOp;simp only[h1];split
  ·rename_i hw;rw[ae hw] at st;exact .inl st
  rename_i hw;rw[aa hw] at st;exact st
theorem zmm{l:List cE}{Q:Exit->Act->aU->Prop}{K':Env->aB->Prop}(h:Ih P l env H K'){id:Nat}(hc:FN P n ops true=some l){J:aX}{F:Nat->Prop}{a:Act}{w:aU}(hr:iE n J F env H a w)
  (hQ:∀env' H' J' F' a' w',K' env' H'->iE n J' F' env' H' a' w'->Ext J F w J' F' w'->Q .normal a' w'):(Code.region id ops true).wp P Q a w:=by
 simp only[FN] at hc;split at hc
 ·rename_i hb;rw[dL] at hb;unfold Ih at h;obtain⟨rs,env',H',h1,h2,h3⟩:=VI ops.toList _ l hc env H _ h;obtain⟨r1,r2,r3,r4⟩:=h1.at;have hlen:rs.length=ops.size:=(by simpa using r1);have zQK:l.length=ops.size:=(by rw[PF _ _ _ hc];simp);have ent:∀i,i<ops.size->(rs.map Rec.entry)[i]? = some (recAt rs i).entry:=λi hi=>by
   have e1:=aG (show i<rs.length by omega);rw[cy,e1,CU e1];rfl
  have bit:∀j (hj:j<l.length) i,uI l[j].mask i->Bef ops i j:=λj hj i h=>by
   have hm:=QD _ _ _ hc j _<|aG hj;rw[hm] at h;exact zpl h
  have yI:∀r:Rec,∀b,tB (rR r.entry) b->tB (r.rd,r.wr) b:=λr b h=>by
   rw[Hc] at h⊢;rw[IN] at h;refine h.imp_right λh=>h.imp_right λ⟨x,q1,q2⟩=>⟨x,q1,?_⟩;unfold rR at q2;split at q2
   ·cases q2
   exact q2
  have hK:K' env' H'/\m4 P n ops env H rs:=by
   split at h2
   ·rename_i jL;have strict:∀i j,i<j->j<ops.size->tB ((recAt rs i).rd,(recAt rs i).wr) ((recAt rs j).rd,(recAt rs j).wr)->Bef ops i j:=λi j mR hj iQ=>by
     have iN:j<l.length:=(by omega);refine bit j iN i<|QN l [] _ jL j l[j] (recAt rs j).entry (aG iN) (ent j hj) i ((recAt rs i).rd,(recAt rs i).wr) (by simpa using mR) ?_ iQ;rw[m9,cy,ent i<|by omega];rfl
    exact⟨h2,r4,hlen,hb.2,λi j mR hj iQ=>strict i j mR hj<|yI _ _ iQ,λi id k hl j mR hj hw=>.inl (strict i j mR hj ((Hc _ _).2 (.inr (.inr ⟨id,hw,by
     obtain⟨r,q1,q2⟩:=r4 i _ (aG (show i<ops.toList.length by simp;omega));rw[CU q1] at hl⊢;rw[(q2.2.2.1 id k hl).1];simp⟩))))⟩
   split at h2
   ·rename_i jL;obtain⟨hk,hw⟩:=Oq l _ 0 [] h2 (by simp;omega);refine⟨hk,r4,hlen,hb.2,λi j mR hj iQ=>?_,λi id k hl j mR hj vn=>?_⟩
    ·have iN:j<l.length:=(by omega);refine bit j iN i<|KU l [] _ jL j l[j] (recAt rs j).entry (aG iN) (ent j hj) i (rR (recAt rs i).entry) (by simpa using mR) ?_ iQ;rw[m9,cy,ent i<|by omega];rfl
    have iN:j<l.length:=(by omega);have:=(hw j l[j] _ _ _ _ (aG iN)<|ent j hj).2 i ((recAt rs i).rd,(recAt rs i).wr) (id,k) (recAt rs i).d (recAt rs i).H2 mR (by rw[ent i<|by omega,<-hl];rfl);rw[jP] at this;rcases this with q|q|q
    ·exact .inl<|bit j iN i q
    ·exact absurd vn q
    exact .inr q
   exact h2.elim
  obtain⟨h2,hp⟩:=hK
  skip
  refine wp_region_any hb.1<|YX hp (J0:=J) (F0:=F) (w0:=w) (λJ' F' a' w' hv=>?_) _ _ J F a _ (by simp) ?_ ?_
  ·refine hQ env' H' J' F' a' w' h2 ⟨hv.defers,hv.size,λt=>?_,?_,λi hi=>?_⟩ hv.ext
   ·have:=hv.tmps t;rw[I4 hp.at_ _<|by simp] at this;rw[<-r2];simpa using this
   ·have:=hv.ok;have e:Gt rs H (λ_=>true) ops.size=λi=>H'[i]?:=funext λi=>by
     rw[IZ hp.at_ _<|by simp,<-r3];simp
    rwa [e] at this
   rcases hv.dom i hi with q|⟨k,k1,_,k3⟩
   ·have:=Jj hp.at_ ops.size 0 (by omega) (by simp);simp only[ki] at this;rw[<-r3];simp;omega
   have:=V7 hp.at_ k1 (by simp) k3;rw[<-r3];simpa using this
  ·unfold missing;refine ia List.countP_le_length ?_;simp
  have hf:tg (Array.replicate ops.size false)=λ_=>false:=by
   funext i;simp only[tg,uJ,Array.getElem?_replicate];split<;>rfl
  rw[hf];have e1:∀k t,Et ops.toList rs env (λ_=>false) k t=gj t env:=λk t=>by
   induction k with
   |zero=>rfl
   |succ k ih=>simp only[Et];rw[aa<|by simp];exact ih
  have e2:∀k i,Gt rs H (λ_=>false) k i=H[i]?:=λk i=>by
   induction k with
   |zero=>rfl
   |succ k ih=>simp only[Gt];rw[aa<|by simp];exact ih
  have hd:Ext J F w J F { w with drawn:=w.drawn+1 }:=Ext.drew;refine⟨(λ_ _ _ h=>by cases h),hr.defers,hr.size,λt=>?_,?_,hd,λi hi=>.inl<|hr.dom i hi⟩
  ·rw[e1];exact Hr hd<|hr.tmps t
  have:Gt rs H (λ_=>false) ops.size=λi=>H[i]?:=funext (e2 _);rw[this];exact hr.ok.drew
 cases hc
end
end
section
def AW(n:Nat)(J:aX)(F:Nat->Prop)(w:aU)(Q:iC):Exit->Act->aU->Prop:=λe a' w'=>∃env' H' J' F',Q e env' H'/\iE n J' F' env' H' a' w'/\Ext J F w J' F' w'
section
variable{P:bt}{n:Nat}
variable{p:PC}{Q:iC}{env:Env}{H:aB}{c:Code}{J:aX}{F:Nat->Prop}{a:Act}{w:aU}
theorem qK(h:PWp P n p Q env H)(hc:comp P n c=some p.bare)(hr:iE n J F env H a w):c.wp P (AW n J F w Q) a w:=by
 unfold PWp at h;exact h c hc J F a w hr
theorem rL(h:∀(c:Code),comp P n c=some p.bare->∀(J:aX) (F:Nat->Prop) (a:Act) (w:aU),iE n J F env H a w->c.wp P (AW n J F w Q) a w):PWp P n p Q env H:=by
 unfold PWp;exact h
variable{e:Exit}
theorem RR{J':aX}{F':Nat->Prop}{w':aU}{w'':aU}(hx:Ext J F w J' F' w')(h:AW n J' F' w' Q e a w''):AW n J F w Q e a w'' :=
 let⟨env',H',J'',F'',q1,q2,q3⟩:=h
 ⟨env',H',J'',F'',q1,q2,hx.trans q3⟩
theorem NO{env:Env}:∀(env':Env),qA env env'->∀t,gj t env'=gj t env\/gj t env'=.dB
 |[],_,t=>.inr rfl
 |(k,d)::r,h,t=>by
  simp only[qA] at h;rw[AA];split
  ·rename_i e;rw[e];exact .inl h.1.symm
  exact NO r h.2 t
theorem Az{env':Env}(h:qA env env'):St.le n env H env' H:=λJ F a w hr =>
 ⟨J,F,⟨hr.defers,hr.size,λt=>by
  rcases NO env' h t with e|e
  ·rw[e];exact hr.tmps t
  rw[e];simp only[rep],hr.ok,hr.dom⟩,Ext.refl _ _ _⟩
theorem zum(h:comp P n c=some .skip):c=.skip:=by
 cases c<;>simp[comp] at h
 ·rfl
 all_goals first|(obtain⟨_,_,h⟩:=h;cases h)|(split at h<;>simp at h)|skip
variable{x:PC}
theorem zxs{y:PC}(h:comp P n c=some (.seq x y)):∃a b,c=.seq a b/\comp P n a=some x/\comp P n b=some y:=by
 cases c<;>simp[comp] at h
 case seq a b =>
  split at h
  ·rename_i e1 e2;simp at h;obtain⟨rfl,rfl⟩:=h;exact⟨a,b,rfl,e1,e2⟩
  cases h
 all_goals first|(obtain⟨_,_,h⟩:=h;cases h)|(split at h<;>simp at h)
theorem zsi{z:aT}{y:PC}(h:comp P n c=some (.cond z x y)):∃a b,c=.cond z a b/\comp P n a=some x/\comp P n b=some y:=by
 cases c<;>simp[comp] at h
 case cond z' a b =>
  split at h
  ·rename_i e1 e2;simp at h;obtain⟨rfl,rfl,rfl⟩:=h;exact⟨a,b,rfl,e1,e2⟩
  cases h
 all_goals first|(obtain⟨_,_,h⟩:=h;cases h)|(split at h<;>simp at h)
variable{id:Nat}
theorem zpH(h:comp P n c=some (.block id x)):∃a,c=.block id a/\comp P n a=some x:=by
 cases c<;>simp[comp] at h
 case block ij a=>obtain⟨h1,rfl⟩:=h;exact⟨a,rfl,h1⟩
 all_goals first|(split at h<;>simp at h)
theorem Qh(h:comp P n c=some (.loop x)):∃a,c=.loop a/\comp P n a=some x:=by
 cases c<;>simp[comp] at h
 case loop a=>exact⟨a,rfl,h⟩
 all_goals first|(split at h<;>simp at h)
theorem zts(h:comp P n c=some (.exit id)):c=.exit id:=by
 cases c<;>simp[comp] at h
 case exit ij=>rw[h]
 all_goals first|(split at h<;>simp at h)
theorem zuO(h:comp P n c=some .ret):c=.ret:=by
 cases c<;>simp[comp] at h
 ·first|rfl|(split at h<;>simp at h)
 all_goals first|rfl|(split at h<;>simp at h)
variable{l:List cE}
theorem zuI{d:Bool}(h:comp P n c=some (.ops l d)):∃id ops,c=.region id ops d/\FN P n ops d=some l:=by
 cases c<;>simp[comp] at h
 case region id ops d'=>obtain⟨l',h1,rfl,rfl⟩:=h;exact⟨id,ops,rfl,h1⟩
 all_goals first|(split at h<;>simp at h)
theorem zoO(h:Ih P l env H λenv H=>Q .normal env H){id:Nat}{ops:Array Oper}(hc:FN P n ops true=some l)(hr:iE n J F env H a w) :
  (Code.region id ops true).wp P (AW n J F w Q) a w:=zmm h hc hr λenv' H' J' F' a' w' q1 q2 q3=>⟨env',H',J',F',q1,q2,q3⟩
theorem Ct:∀(p:PC) (Q:iC) (env:Env) (H:aB),pw P n p Q env H->PWp P n p Q env H
 | .skip,Q,env,H,h=>rL λc hc J F a w hr=>by
  rw[zum hc];exact wp_skip ⟨env,H,J,F,h,hr,Ext.refl _ _ _⟩
 | .ops l d,Q,env,H,h=>rL λc hc J F a w hr=>by
  obtain⟨id,ops,rfl,h1⟩:=zuI hc
  cases d with
  |false =>
   refine wp_region ?_;rw[List.range_eq_range'];have:=Si (P:=P) (ops:=ops) (Q:=AW n J F w Q) ops.toList 0 [] l (λj=>by simp) h1 env H J F a w h hr λenv' H' J' F' a' w' q1 q2 q3=>⟨env',H',J',F',q1,q2,q3⟩;simpa using this
  |true=>exact zoO h h1 hr
 | .seq x y,Q,env,H,h=>rL λc hc J F a w hr=>by
  obtain⟨a',b',rfl,h1,h2⟩:=zxs hc;refine wp_seq<|wp_mono (qK (Ct x _ env H h) h1 hr) λe a1 w1 ⟨env',H',J',F',q1,q2,q3⟩=>?_
  cases e with
  |normal=>exact wp_mono (qK (Ct y Q env' H' q1) h2 q2) λe a2 w2 q=>RR q3 q
  |_=>exact⟨env',H',J',F',q1,q2,q3⟩
 | .cond z x y,Q,env,H,h=>rL λc hc J F a w hr=>by
  obtain⟨a',b',rfl,h1,h2⟩:=zsi hc;simp only[pw,fz] at h;split at h
  ·rename_i t e;have hz:=hr.eval z;rw[e] at hz;simp only[rep] at hz;obtain⟨k1,k2⟩:=Eg.1 h;refine wp_cond hz ?_
   cases t with
   |true=>exact qK (Ct x Q env H<|k1 rfl) h1 hr
   |false=>exact qK (Ct y Q env H<|k2 rfl) h2 hr
  exact h.elim
 | .block id x,Q,env,H,h=>rL λc hc J F a w hr=>by
  obtain⟨a',rfl,h1⟩:=zpH hc;refine wp_block<|wp_mono (qK (Ct x _ env H h) h1 hr) λe a1 w1 ⟨env',H',J',F',q1,q2,q3⟩=>?_
  cases e with
  |exit ij =>
   simp only[Exit.inBlock];by_cases e:ij=id
   ·subst e;rw[ae rfl];have hb:Nat.beq ij ij=true:=(by simp);simp only[hb] at q1;exact⟨env',H',J',F',q1,q2,q3⟩
   rw[aa e];have hb:Nat.beq ij id=false:=by
    cases h:Nat.beq ij id
    ·rfl
    exact absurd (Ch h) e
   simp only[hb] at q1;exact⟨env',H',J',F',q1,q2,q3⟩
  |_=>exact⟨env',H',J',F',q1,q2,q3⟩
 | .loop x,Q,env,H,h=>h
 | .exit id,Q,env,H,h=>rL λc hc J F a w hr=>by
  rw[zts hc];exact wp_exit ⟨env,H,J,F,h,hr,Ext.refl _ _ _⟩
 | .ret,Q,env,H,h=>rL λc hc J F a w hr=>by
  rw[zuO hc];exact wp_ret ⟨env,H,J,F,h,hr,Ext.refl _ _ _⟩
 | .stop x,Q,env,H,h=>rL λc hc J F a w hr=>qK h hc hr
theorem yA{p:PC}{Q:iC}{ι:Type}(E:ι->Env)(O:ι->aB)(G:ι->Prop)(m:ι->Nat)(i:ι)(h0:G i)(h1:St.le n env H (E i)<|O i)
  (round:∀j,G j->PWp P n p (zDl n Q E O G m<|m j) (E j) (O j)):PWp P n (.loop p) Q env H:=rL λc hc J F a w hr=>by
 obtain⟨c',rfl,qZ⟩:=Qh hc;obtain⟨J0,F0,k1,k2⟩:=h1 J F a w hr;refine wp_loop_ghost (λk a' w'=>∃j J' F',G j/\m j=k/\iE n J' F' (E j) (O j) a' w'/\Ext J F w J' F' w') (m i) ⟨i,J0,F0,h0,rfl,k1,k2⟩ λk a1 w1 ⟨j,J1,F1,g1,g2,g3,g4⟩=>?_;refine wp_mono (qK (round j g1) qZ g3) λe a2 w2 ⟨env',H',J',F',q1,q2,q3⟩=>?_
 cases e with
 |normal =>
  obtain⟨j',r1,r2,r3⟩:=q1;obtain⟨J2,F2,t1,t2⟩:=r3 J' F' a2 w2 q2;exact⟨m j',by omega,j',J2,F2,r1,rfl,t1,(g4.trans q3).trans t2⟩
 |_=>exact⟨env',H',J',F',q1,q2,g4.trans q3⟩
theorem R9:∀(args:aZ) (k t:Nat),gj t (params k args)=if k<=t then (args[t-k]?).getD .dB else .dB
 |[],k,t=>by simp[params,gj]
 |d::r,k,t=>by
  simp only[params];rw[AA,R9 r (k+1) t];by_cases h1:t=k
  ·subst h1;simp
  rw[aa h1];by_cases h2:k+1<=t
  ·rw[ae h2,ae<|by omega,show t-k=t-(k+1)+1 by omega,Fv]
  rw[aa h2,aa<|by omega]
section
variable{J J':aX}{F:Nat->Prop}{w:aU}
mutual
theorem Hn:∀(d:D) (v:aH),Pure d->rep J F w d v->rep J' F w d v
 | .dB,v,_,_=>by simp only[rep]
 | .sc u,v,_,h=>by simpa only[rep] using h
 | .gv u,v,_,h=>by simpa only[rep] using h
 | .loc ..,v,hp,_=>by simp only[Pure] at hp
 | .elt ..,v,hp,_=>by simp only[Pure] at hp
 | .own ..,v,hp,_=>by simp only[Pure] at hp
 | .aN cs,v,hp,h=>by
  simp only[Pure] at hp;simp only[rep] at h⊢;obtain⟨b,o,h1,h2,h3⟩:=h;exact⟨b,o,h1,h2,Jz b cs o hp h3⟩
 | .a8 ai xs,v,hp,h=>by
  simp only[Pure] at hp;simp only[rep] at h⊢;obtain⟨A,n,c,h1,h2,hc,h3⟩:=h;exact⟨A,n,c,h1,h2,hc,h3.imp_right λ⟨b,o,h4,h5,h6⟩=>⟨b,o,h4,h5,Up b ai xs o hp h6⟩⟩
 | .fn f a b,v,hp,h=>by
  simp only[Pure] at hp;simp only[rep] at h⊢;obtain⟨vs,us,h1,h2,h3⟩:=h;exact⟨vs,us,h1,A7 a vs hp.1 h2,A7 b us hp.2 h3⟩
 | .ifc t d,v,hp,h=>by
  simp only[Pure] at hp;simp only[rep] at h⊢;obtain⟨u,h1,h2⟩:=h;exact⟨u,h1,Hn d u hp h2⟩
 | .agg cs,v,hp,h=>by
  simp only[Pure] at hp;simp only[rep] at h⊢;obtain⟨vs,h1,h2⟩:=h;exact⟨vs,h1,A7 cs vs hp h2⟩
 | .aJ cs,v,hp,h=>by
  simp only[Pure] at hp;simp only[rep] at h⊢;obtain⟨vs,h1,h2⟩:=h;exact⟨vs,h1,A7 cs vs hp h2⟩
theorem A7:∀(d:aZ) (v:List aH),ao d->bj J F w d v->bj J' F w d v
 |[],v,_,h=>by simpa only[bj] using h
 |d::r,v,hp,h=>by
  simp only[ao] at hp;simp only[bj] at h⊢;obtain⟨u,us,h1,h2,h3⟩:=h;exact⟨u,us,h1,Hn d u hp.1 h2,A7 r us hp.2 h3⟩
theorem Jz(b:Nat):∀(d:aZ) (o:Nat),ao d->dM J F w b d o->dM J' F w b d o
 |[],o,_,h=>by simp only[dM]
 |d::r,o,hp,h=>by
  simp only[ao] at hp;simp only[dM] at h⊢;obtain⟨⟨u,h1,h2,h3⟩,h4⟩:=h;exact⟨⟨u,h1,h2,Hn d u hp.1 h3⟩,Jz b r (o+1) hp.2 h4⟩
theorem Up(b ai:Nat):∀(d:fp) (o:Nat),dX d->eU J F w b ai d o->eU J' F w b ai d o
 |[],o,_,h=>by simp only[eU]
 |d::r,o,hp,h=>by
  simp only[dX] at hp;simp only[eU] at h⊢;exact⟨h.1,Jz b d o hp.1 h.2.1,Up b ai r (o+ai) hp.2 h.2.2⟩
end
end
def wL(tmps:Array aH):ResultVar->Sem aH
 | .tmp t=>pure<|tmps.getD t undef
 | .cell a t=>do loadVar t (<-asAddr (tmps.getD a undef))
theorem Tv{t:aY}{a:Addr}{v:aH}(h:(Instr.loadAt t (.pointer<|some a)).run P w=.ok v w):(loadVar t a).run P w=.ok v w:=by
 simpa [Instr.loadAt,Instr.sureAddr] using h
theorem Qc{J:aX}{F:Nat->Prop}{env:Env}{H:aB}{a:Act}{w:aU}(hr:iE n J F env H a w):∀(l:List ResultVar) (rs:List RV) (K':aZ->Prop),wk P l=some rs->uH env H rs K' ->
  ∃ds vs,K' ds/\(l.mapM<|wL a.tmps).run P w=.ok vs w/\bj J F w ds vs
 |[],rs,K',hc,h=>by
  simp[wk] at hc;subst hc;exact⟨[],[],h,by simp[pure,Sem.run],by simp only[bj]⟩
 |r::l,rs,K',hc,h=>by
  simp only[wk] at hc;split at hc
  ·rename_i x y e1 e2;cases hc;have step:∀(d:D) (v:aH),(wL a.tmps r).run P w=.ok v w->rep J F w d v->uH env H y (λds=>K'<|d::ds)->∃ds vs,K' ds/\((r::l).mapM<|wL a.tmps).run P w=.ok vs w/\bj J F w ds vs:=λd v q1 q2 q3=>by
    obtain⟨ds,vs,k1,k2,k3⟩:=Qc hr l y _ e2 q3;refine⟨d::ds,v::vs,k1,?_,by simp only[bj];exact⟨v,vs,rfl,q2,k3⟩⟩;rw[List.mapM_cons];simp only[Sem.run_bind,q1,Result.andThen_ok,k2,pure,Sem.run]
   cases r with
   |tmp t =>
    simp[crv] at e1;subst e1;simp only[uH,xV] at h;exact step _ _ (by simp[wL,pure,Sem.run]) (hr.tmps t) h
   |cell t ty =>
    simp only[crv] at e1;have ptr:∀id off m cs,gj t env=.loc id off->H[id]? = some (.row m cs)->∃b o,a.tmps.getD t undef=.pointer (some ⟨b,o,none⟩)/\dM J F w b (cs.drop off) o:=λid off m cs q1 q2=>by
     have q3:=hr.tmps t;rw[q1] at q3;exact MA (P:=P) (env:=env) q2 J F w _ _ hr.ok (λ_ _=>rfl) q3
    split at e1
    ·rename_i oH;cases e1;simp only[uH,xV] at h;split at h
     ·rename_i id off e3;obtain⟨ob,h1,h2⟩:=(kr _ _ _).1 h;split at h2
      ·rename_i m cs;obtain⟨h3,h4⟩:=(z7 _ _ _).1 h2;obtain⟨h5,h6⟩:=(zP _ _ _).1 h4;obtain⟨b,o,p1,p2⟩:=ptr id off m cs e3 h1;have p3:=Kk p2 0<|P.cellsOf ty;simp only[ft,kN] at p3;obtain⟨vs,p4,p5,_⟩:=GN _ _ p3;have hl:vs.length=P.cellsOf ty:=(by rw[lJ _ _ p4,gO];omega);refine step _ (.agg vs.toArray) ?_ (by simp only[rep];exact⟨vs,rfl,p4⟩) h6;simp only[wL,p1,asAddr,pure,Sem.run_bind,Sem.run,Result.andThen_ok];exact Tv<|T7 oH hl p5
      exact h2.elim
     exact h.elim
    ·rename_i oH;cases e1;simp only[uH,xV] at h;split at h
     ·rename_i id off e3;obtain⟨ob,h1,h2⟩:=(kr _ _ _).1 h;split at h2
      ·rename_i m cs;obtain⟨c,h3,h4⟩:=(uC _ _ _).1 h2;obtain⟨b,o,p1,p2⟩:=ptr id off m cs e3 h1;obtain⟨u,p3,_,p4⟩:=sk _ o 0 c (by rw[vq];exact h3) p2;refine step _ u ?_ p4 h4;simp only[wL,p1,asAddr,pure,Sem.run_bind,Sem.run,Result.andThen_ok];exact Tv<|UA oH<|by simpa using p3
      exact h2.elim
     exact h.elim
    cases e1
  cases hc
variable{rs:List RV}
theorem Nh{fn:Func}(hrs:wk P fn.results.toList=some rs)(hr:iE n J F env H a w){R:D->aB->Prop}(he:e=.normal\/e=.ret)(h:BZ rs R e env H) :
  ∃d v,R d H/\(results fn a.tmps).run P w=.ok v w/\rep J F w d v:=by
 have h':uH env H rs (λds=>match ds with
  |[d]=>R d H
  |ds=>R (.aJ ds) H):=by rcases he with rfl|rfl<;>exact h
 obtain⟨ds,vs,k1,k2,k3⟩:=Qc hr fn.results.toList rs _ hrs h';have run:(results fn a.tmps).run P w=.ok (if h:vs.length=1 then vs[0] else .tuple vs.toArray) w:=by
  have e1:(fn.results.mapM<|wL a.tmps).run P w=.ok vs.toArray w:=by
   rw[Array.mapM_eq_mapM_toList];simp[k2]
  have e3:results fn a.tmps=fn.results.mapM (wL a.tmps) >>= λvs=>pure (if h:vs.size=1 then vs[0] else .tuple vs):=by
   unfold results
   congr 1
  rw[e3,Sem.run_bind,e1];simp[pure,Sem.run]
 have hl:=lJ _ _ k3
 match ds,k1,k3,hl with
 |[d],k1,k3,hl =>
  simp only[bj] at k3;obtain⟨v,us,rfl,q1,rfl⟩:=k3;exact⟨d,v,k1,by rw[run];simp,q1⟩
 |[],k1,k3,hl =>
  refine⟨.aJ [],_,k1,run,?_⟩;have:vs=[]:=nh.1 hl;subst this;simp only[rep];exact⟨[],by simp,k3⟩
 |d::d'::r,k1,k3,hl =>
  refine⟨.aJ<|d::d'::r,_,k1,run,?_⟩;simp only[cj] at hl;rw[dif_neg<|by omega];simp only[rep];exact⟨vs,rfl,k3⟩
variable{args:aZ}
theorem Nj{vs:List aH}(hn:args.length<=n)(h:bj J F w args vs)(aA:cr J F w λi=>H[i]?)(hd:∀id,J id≠none->id<H.length) :
  iE n J F (params 0 args) H ⟨vs.toArray++Array.replicate (n-vs.toArray.size) undef,[]⟩ w where
 defers:=rfl
 size:=by simp[lJ _ _ h];omega
 tmps t:=by
  rw[R9];simp only[b9,if_true,xS];have hl:=lJ _ _ h
  cases e:args[t]? with
  |none=>simp only[Option.getD_none,rep]
  |some d =>
   obtain⟨v,h1,h2⟩:=qe _ _ _ _ e h;have ht:t<vs.length:=by
    rcases c7 t vs.length with h|h
    ·exact h
    rw[db h] at h1;cases h1
   simp only[pe,uJ];rw[Array.getElem?_append_left<|by simpa using ht];simp[h1,h2]
 ok:=aA
 dom:=hd
variable{f:FuncId}
theorem Oi(hf:pj P f n rs p):zm P f:=by
 obtain⟨fn,h1,_,h3,_,h5⟩:=hf.out;refine⟨fn,h1,h3,?_⟩
 cases e:fn.body with
 |none=>rw[e] at h5;cases h5
 |some c=>rfl
theorem X6(h:FOK F w)(G:Nat->Option an):cr jI F w G:=⟨(λ_ _ h=>by cases h),(λ_ _ _ _ _ h=>by cases h),(λ_ _ _ _ h=>by cases h),h⟩
theorem fi{d:D}(hf:pj P f n rs p)(hn:args.length<=n)(hp:ao args)
  (h:PWp P n p (BZ rs λr H=>Deep H r d) (params 0 args) []) (hd:Pure d):ar P f args d:=by
 refine⟨Oi hf,λJ F w vs hF gM=>?_⟩;obtain⟨fn,h1,h2,h3,h4,h5⟩:=hf.out;have Yq:bj jI F w args vs:=A7 args vs hp gM
 cases e:fn.body with
 |none=>rw[e] at h5;cases h5
 |some c =>
  rw[e] at h5;simp only[C0] at h5;refine calls_of_wp h1 e ?_;rw[h2];refine wp_mono (qK h h5<|Nj hn Yq (X6 hF _) λid hid=>absurd rfl hid) λe' a' w' ⟨env',H',J',F',q1,q2,q3⟩=>?_;have fin:e'=.normal\/e'=.ret->a'.defers=[]/\∃v,(results fn a'.tmps).run P w'=.ok v w'/\∃v' F'',Ending.returned v=Ending.returned v'/\(∀b,F'' b->b<w'.heap.size)/\rep jI F'' w' d v'/\Ext jI F w jI F'' w':=λhe=>by
   obtain⟨r,v,k1,k2,k3⟩:=Nh h4 q2 he q1;refine⟨q2.defers,v,k2,v,λb=>F' b\/iU J' b,rfl,λb hb=>hb.elim (q2.ok.lt b) λ⟨i,s,hi,hs⟩=>q2.ok.iH hi hs,Hn d v hd<|Iv q2.ok (λ_ _ h=>h) _ _ _ k1 k3,?_⟩;exact⟨q3.os,q3.tape,q3.output,q3.size,q3.block,q3.frozen,aX.le_refl _,λb hb=>.inl<|q3.grow b hb,λb hb=>absurd hb<|pI b,λb hb=>by
    rcases hb with hb|hb
    ·exact q3.oa b hb
    exact .inr<|(q3.nj b hb).imp_left λq=>absurd q<|pI b⟩
  cases e' with
  |normal=>exact fin (.inl rfl)
  |ret=>exact fin (.inr rfl)
  |exit id=>exact q1.elim
  |goto l=>exact q1.elim
  |panic ch=>exact q1.elim
  |outgrown=>exact q1.elim
end
end
section
section
variable{P:bt}{n:Nat}
theorem gm{f:FuncId}{rs:List RV}{p:PC}{args:aZ}{H:aB}{d:D}{H2:aB}(hf:pj P f n rs p)(hn:args.length<=n)(hlen:H.length<=H2.length)
  (h:PWp P n p (BZ rs λr Hf=>r=d/\Hf.take H2.length=H2/\H2.length<=Hf.length) (params 0 args) H) (hd:az H2.length d) (hH:∀o∈H2,o.under H2.length):cd P f args H d H2:=by
 refine⟨Oi hf,hlen,λJ F w vs aA jm gM=>?_⟩;obtain⟨fn,h1,h2,h3,h4,h5⟩:=hf.out
 cases e:fn.body with
 |none=>rw[e] at h5;cases h5
 |some c =>
  rw[e] at h5;simp only[C0] at h5;refine calls_of_wp h1 e ?_;rw[h2];refine wp_mono (qK h h5<|Nj hn gM aA jm) λe' a' w' ⟨env',H',J',F',q1,q2,q3⟩=>?_;have fin:e'=.normal\/e'=.ret->a'.defers=[]/\∃v,(results fn a'.tmps).run P w'=.ok v w'/\∃v' J'' F'',Ending.returned v=Ending.returned v'/\cr J'' F'' w' (λi=>H2[i]?)/\(∀id,J'' id≠none->id<H2.length)/\rep J'' F'' w' d v'/\Ext J F w J'' F'' w':=λhe=>by
   obtain⟨r,v,⟨rfl,k1,xu⟩,k2,k3⟩:=Nh h4 q2 he q1;have n8:∀i,i<H2.length->H2[i]? = H'[i]?:=λi hi=>by
    conv=>lhs;rw[<-k1]
    rw[xv,ae hi]
   have kle:(dA H2.length J').le J':=λi s hs=>by
    unfold dA at hs;split at hs
    ·exact⟨s,hs,aI _,λ_=>rfl⟩
    cases hs
   refine⟨q2.defers,v,k2,v,dA H2.length J',F',rfl,⟨λi s hs=>?_,λi i' s s' b g1 g2 g3 g4=>?_,λi s b o g1 g2 g3 g4=>?_,q2.ok.lt⟩,λi hi=>?_,Cu _ _ hd k3,?_⟩
   ·unfold dA at hs;split at hs
    ·rename_i hi;obtain⟨o,g1,g2⟩:=q2.ok.obj i s hs;have Rw:H2[i]? = some o:=(by rw[n8 i hi];exact g1);exact⟨o,Rw,JJ (hH o<|kI Rw) g2⟩
    cases hs
   ·unfold dA at g1 g2;split at g1<;>split at g2
    ·exact q2.ok.one i i' s s' b g1 g2 g3 g4
    all_goals first|cases g1|cases g2
   ·unfold dA at g1;split at g1
    ·rename_i hi;exact q2.ok.apart i s b o g1 g2 (by rw[<-n8 i hi];exact g3) g4
    cases g1
   ·unfold dA at hi;split at hi
    ·assumption
    exact absurd rfl hi
   refine⟨q3.os,q3.tape,q3.output,q3.size,q3.block,q3.frozen,λi s hs=>?_,q3.grow,λb ⟨i,s,hs,hb⟩=>?_,q3.oa⟩
   ·obtain⟨s',g1,g2,g3⟩:=q3.le i s hs;have hi:i<H2.length:=(by have:=jm i (by rw[hs];simp);omega);exact⟨s',by simp[dA,hi,g1],g2,g3⟩
   obtain⟨s',g1,_⟩:=kle i s hs;unfold dA at hs;split at hs
   ·exact q3.nj b ⟨i,s,hs,hb⟩
   cases hs
  cases e' with
  |normal=>exact fin (.inl rfl)
  |ret=>exact fin (.inr rfl)
  |exit id=>exact q1.elim
  |goto l=>exact q1.elim
  |panic ch=>exact q1.elim
  |outgrown=>exact q1.elim
end
end
section
mutual
inductive bR(S:aq)(H:aB):D->D->Prop
 |refl (d:D):bR S H d d
 |dB (d:D):bR S H d .dB
 |none (ai:Nat):bR S H (.sc (.slice none 0 0)) (.a8 ai [])
 |loc (id off:Nat) (q:Bool) (cs ds:aZ) (hm:S id=true) (h:H[id]? = some (.row q cs)) (k:ck S H (cs.drop off) ds):bR S H (.loc id off) (.aN ds)
 |own (id aw lo hi ai:Nat) (q:Bool) (xs ys:fp) (hm:S id=true) (h:H[id]? = some (.vec q aw ai xs)) (k:cg S H ((xs.take hi).drop lo) ys):bR S H (.own id aw lo hi) (.a8 ai ys)
 |fn (f:Fn) (a b c e:aZ) (h:ck S H a b) (k:ck S H c e):bR S H (.fn f a c) (.fn f b e)
 |ifc (t:aY) (d e:D) (h:bR S H d e):bR S H (.ifc t d) (.ifc t e)
 |agg (a b:aZ) (h:ck S H a b):bR S H (.agg a) (.agg b)
 |aJ (a b:aZ) (h:ck S H a b):bR S H (.aJ a) (.aJ b)
inductive ck(S:aq)(H:aB):aZ->aZ->Prop
 |refl (l:aZ):ck S H l l
 |cons (d e:D) (a b:aZ) (h:bR S H d e) (k:ck S H a b):ck S H (d::a) (e::b)
inductive cg(S:aq)(H:aB):fp->fp->Prop
 |refl (l:fp):cg S H l l
 |cons (x y:aZ) (a b:fp) (h:ck S H x y) (k:cg S H a b):cg S H (x::a) (y::b)
 |append (x y a b:fp) (h:cg S H x y) (k:cg S H a b):cg S H (x++a) (y++b)
end
def wQ(S:aq)(J:aX)(b:Nat):Prop:=∃id s,S id/\J id=some s/\s.cP=some b
section
variable{J:aX}{F:Nat->Prop}{w:aU}{H:aB}{S:aq}
mutual
theorem Hy:∀(d e:aZ),ck S H d e->d.length=e.length
 |_,_,.refl _=>rfl
 |_,_,.cons d e a b _ k=>by simp[Hy a b k]
theorem AN:∀(d e:fp),cg S H d e->d.length=e.length
 |_,_,.refl _=>rfl
 |_,_,.cons d e a b _ k=>by simp[AN a b k]
 |_,_,.append x y a b h k=>by simp[AN x y h,AN a b k]
end
theorem UI{b ai:Nat}:∀(xs ys:fp) (o:Nat),eU J F w b ai (xs++ys) o↔eU J F w b ai xs o/\eU J F w b ai ys (o+xs.length*ai)
 |[],ys,o=>by simp[eU]
 |x::r,ys,o=>by
  simp only[mJ,eU,UI r ys,cj,and_assoc];rw[show o+ai+r.length*ai=o+(r.length+1)*ai by rw[iJ];omega]
mutual
theorem A6(aA:cr J F w λi=>H[i]?):∀(d e:D) (v:aH),bR S H d e->rep J F w d v->rep J (λb=>F b\/wQ S J b) w e v
 |d,_,v,.refl _,h=>js (aX.le_refl J) (λ_ h=>.inl h) (λ_ _=>rfl) d v h
 |_,_,v,.dB _,_=>by simp only[rep]
 |_,_,v,.none ai,h=>by
  simp only[rep] at h⊢;exact⟨none,0,0,h,rfl,aI _,.inl rfl⟩
 |_,_,v,.loc id off q cs ds hm h k,hv=>by
  simp only[rep] at hv⊢;obtain⟨s,b,h1,h2,h3,rfl⟩:=hv;have hc:=FM (Lf aA h1 h3 h) off;refine⟨b,off,rfl,.inr ⟨id,s,hm,h1,by simp[Site.cP,h2,h3]⟩,?_⟩;rw[jP] at hc;exact ED aA _ _ b off k hc
 |_,_,v,.own id aw lo hi ai q xs ys hm h k,hv=>by
  simp only[rep] at hv⊢;obtain⟨s,A,n,c,h1,rfl,h2,h3⟩:=hv;obtain⟨p1,p2,p3,p4,p5,p6⟩:=uX aA h1 h;obtain⟨t1,t2,t3,rfl,rfl,t6⟩:=h3 p2.symm;have hl:ys.length=hi-lo:=by
   rw[<-AN _ _ k];simp;omega
  refine⟨A,_,_,rfl,hl.symm,by omega,?_⟩;rcases t6 with t6|⟨b,o,t6,rfl⟩
  ·exact .inl<|by omega
  rcases p6 with p6|⟨b',o',vals,te,e,q1,q2,q3,q4⟩
  ·exact .inl<|by omega
  rw[t6] at e;cases e;by_cases hz:s.cap=0
  ·exact .inl<|by omega
  refine .inr ⟨b,_,rfl,.inr ⟨id,s,hm,h1,by simp[Site.cP,hz,t6]⟩,?_⟩;rw[p3];exact AU aA _ _ b ai _ k<|zq q3 lo hi
 |_,_,v,.fn f a b c e h k,hv=>by
  simp only[rep] at hv⊢;obtain⟨vs,us,rfl,h2,h3⟩:=hv;exact⟨vs,us,rfl,C' aA _ _ vs h h2,C' aA _ _ us k h3⟩
 |_,_,v,.ifc t d e h,hv=>by
  simp only[rep] at hv⊢;obtain⟨u,rfl,h2⟩:=hv;exact⟨u,rfl,A6 aA _ _ u h h2⟩
 |_,_,v,.agg a b h,hv=>by
  simp only[rep] at hv⊢;obtain⟨vs,rfl,h2⟩:=hv;exact⟨vs,rfl,C' aA _ _ vs h h2⟩
 |_,_,v,.aJ a b h,hv=>by
  simp only[rep] at hv⊢;obtain⟨vs,rfl,h2⟩:=hv;exact⟨vs,rfl,C' aA _ _ vs h h2⟩
theorem C'(aA:cr J F w λi=>H[i]?):∀(d e:aZ) (v:List aH),ck S H d e->bj J F w d v->bj J (λb=>F b\/wQ S J b) w e v
 |d,_,v,.refl _,h=>Aa (aX.le_refl J) (λ_ h=>.inl h) (λ_ _=>rfl) d v h
 |_,_,v,.cons d e a b h k,hv=>by
  simp only[bj] at hv⊢;obtain⟨u,us,rfl,h2,h3⟩:=hv;exact⟨u,us,rfl,A6 aA _ _ u h h2,C' aA _ _ us k h3⟩
theorem ED(aA:cr J F w λi=>H[i]?):∀(d e:aZ) (b o:Nat),ck S H d e->dM J F w b d o->dM J (λb=>F b\/wQ S J b) w b e o
 |d,_,b,o,.refl _,h=>DC (aX.le_refl J) (λ_ h=>.inl h) (λ_ _=>rfl) b (λ_=>rfl) d o h
 |_,_,b,o,.cons d e x y h k,hv=>by
  simp only[dM] at hv⊢;obtain⟨⟨u,h1,h2,h3⟩,h4⟩:=hv;exact⟨⟨u,h1,h2,A6 aA _ _ u h h3⟩,ED aA _ _ b (o+1) k h4⟩
theorem AU(aA:cr J F w λi=>H[i]?):∀(d e:fp) (b ai o:Nat),cg S H d e->eU J F w b ai d o->eU J (λb=>F b\/wQ S J b) w b ai e o
 |d,_,b,ai,o,.refl _,h=>IW (aX.le_refl J) (λ_ h=>.inl h) (λ_ _=>rfl) b ai (λ_=>rfl) d o h
 |_,_,b,ai,o,.cons d e x y h k,hv=>by
  simp only[eU] at hv⊢;obtain⟨h1,h2,h3⟩:=hv;exact⟨by rw[<-Hy _ _ h];exact h1,ED aA _ _ b o h h2,AU aA _ _ b ai (o+ai) k h3⟩
 |_,_,b,ai,o,.append x y a c h k,hv=>by
  rw[UI] at hv⊢;refine⟨AU aA _ _ b ai o h hv.1,?_⟩;rw[<-AN _ _ h];exact AU aA _ _ b ai _ k hv.2
end
end
def lF(m:Nat):Nat->Bool:=λi=>Nat.ble m i
variable{m:Nat}
theorem US{i:Nat}:lF m i↔m<=i:=by simp[lF]
def St.leB(L n:Nat)(env:Env)(H:aB)(env':Env)(H':aB):Prop:=∀J F a w,iE n J F env H a w->∃J' F',iE n J' F' env' H' a w/\(∀i s,i<L->J i=some s->J' i=some s)/\(∀b,F b->F' b)/\(∀b,iU J' b->iU J b)/\∀b,F' b->F b\/iU J b
variable{L n:Nat}{env env':Env}{H:aB}
theorem xP(h:qA env env'):St.leB L n env H env' H:=λJ F a w hr =>
 ⟨J,F,⟨hr.defers,hr.size,λt=>by
  rcases NO env' h t with e|e
  ·rw[e];exact hr.tmps t
  rw[e];simp only[rep],hr.ok,hr.dom⟩,λ_ _ _ h=>h,λ_ h=>h,λ_ h=>h,λ_ h=>.inl h⟩
variable{H':aB}
theorem oK{I0:Env}{H'':aB}(h:St.leB L n env H env' H')(k:St.leB L n env' H' I0 H''):St.leB L n env H I0 H'':=λJ F a w hr=>by
 obtain⟨J',F',h1,h2,h3,h4,h5⟩:=h J F a w hr;obtain⟨J'',F'',k1,k2,k3,k4,k5⟩:=k J' F' a w h1;exact⟨J'',F'',k1,λi s q1 q2=>k2 i s q1<|h2 i s q1 q2,λb hb=>k3 b<|h3 b hb,λb hb=>h4 b<|k4 b hb,λb hb=>(k5 b hb).elim (h5 b) λq=>.inr<|h4 b q⟩
def HQ(m:Nat)(H:aB)(env:Env):Env->Prop
 |[]=>True
 |(t,d)::r=>bR (lF m) H (gj t env) d/\az m d/\HQ m H env r
def OB(m:Nat)(H:aB):an->an->Prop
 | .row q cs,.row q' fC=>q=q'/\ck (lF m) H cs fC/\aK m fC
 | .vec q v e xs,.vec q' v' e' x3=>q=q'/\v=v'/\e=e'/\cg (lF m) H xs x3/\bN m x3
 | .dI q I,.dI q' I'=>q=q'/\I=I'
 |_,_=>False
def uZ(m:Nat)(H:aB):aB->aB->Prop
 |_,[]=>True
 |o::r,o'::r'=>OB m H o o'/\uZ m H r r'
 |[],_::_=>False
theorem SA{m:Nat}{H:aB}{env:Env}:∀(env':Env),HQ m H env env'->∀t,(bR (lF m) H (gj t env) (gj t env')/\az m (gj t env'))\/gj t env'=.dB
 |[],_,t=>.inr rfl
 |(k,d)::r,h,t=>by
  simp only[HQ] at h;rw[AA];split
  ·rename_i e;subst e;exact .inl ⟨h.1,h.2.1⟩
  exact SA r h.2.2 t
theorem E3{m:Nat}{H:aB}:∀(l l':aB),uZ m H l l'->∀i (o:an),i<l'.length->l[i]? = some o->∃o',l'[i]? = some o'/\OB m H o o'
 |_,[],_,i,o,hi,_=>by simp at hi
 |[],_::_,h,i,o,hi,_=>by simp only[uZ] at h
 |o::r,o'::r',h,0,x,_,hx=>by
  simp at hx;subst hx;exact⟨o',rfl,h.1⟩
 |o::r,o'::r',h,i+1,x,hi,hx=>by
  simpa using E3 r r' h.2 i x (by simpa using hi)<|by simpa using hx
theorem IT{J:aX}{F:Nat->Prop}{w:aU}(aA:cr J F w λi=>H[i]?){s:Site}{o o':an}(h:OB m H o o')(k:na J F w s o):na (dA m J) (λb=>F b\/wQ (lF m) J b) w s o'/\o'.mut=o.mut:=by
 cases o with
 |row q cs =>
  cases o' with
  |vec=>exact h.elim
  |dI=>exact h.elim
  |row q' fC =>
   obtain⟨rfl,h1,h2⟩:=h;obtain⟨k1,k2,k3,k4,k5,b,vals,te,t1,t2,t3,t4,t5⟩:=k;have hl:=Hy _ _ h1;exact⟨⟨k1,k2,k3,by rw[<-hl];exact k4,by rw[<-hl];exact k5,b,vals,te,t1,t2,by rw[<-hl];exact t3,Eo b fC 0 h2<|ED aA _ _ b 0 h1 t4,λe=>.inl<|t5 e⟩,rfl⟩
 |vec q v e xs =>
  cases o' with
  |row=>exact h.elim
  |dI=>exact h.elim
  |vec q' v' e' x3 =>
   obtain⟨rfl,rfl,rfl,h1,h2⟩:=h;obtain⟨k1,k2,k3,k4,k5,k6⟩:=k;have hl:=AN _ _ h1;exact⟨⟨k1,k2,k3,by rw[<-hl];exact k4,k5,k6.imp_right λ⟨b,o,vals,te,t1,t2,t3,t4,t5⟩=>⟨b,o,vals,te,t1,t2,t3,HR b e x3 o h2<|AU aA _ _ b e o h1 t4,λe=>.inl<|t5 e⟩⟩,rfl⟩
 |dI q I =>
  cases o' with
  |row=>exact h.elim
  |vec=>exact h.elim
  |dI q' I' =>
   obtain⟨rfl,rfl⟩:=h;exact⟨k,rfl⟩
theorem br(m:Nat)(hL:L<=m)(hm:H'.length=m)(hE:HQ m H env env')(hH:uZ m H H H'):St.leB L n env H env' H':=λJ F a w hr=>by
 refine⟨dA m J,λb=>F b\/wQ (lF m) J b,⟨hr.defers,hr.size,λt=>?_,⟨λi s hs=>?_,λi i' s s' b g1 g2 g3 g4=>?_,λi s b o g1 g2 g3 g4=>?_,hr.ok.lt.mono (λ_ h=>.inl h) (λ_ _=>rfl) λb hb=>?_⟩,λi hi=>?_⟩,λi s hi hs=>?_,λb hb=>.inl hb,λb ⟨i,s,hs,hb⟩=>?_,λb hb=>hb.imp_right λ⟨i,s,_,h1,h2⟩=>⟨i,s,h1,h2⟩⟩
 ·rcases SA env' hE t with⟨h1,h2⟩|e
  ·exact Cu _ _ h2<|A6 hr.ok _ _ _ h1<|hr.tmps t
  rw[e];simp only[rep]
 ·unfold dA at hs;split at hs
  ·rename_i hi;obtain⟨o,h1,h2⟩:=hr.ok.obj i s hs;obtain⟨o',h3,h4⟩:=E3 H H' hH i o (by omega) h1;exact⟨o',h3,(IT hr.ok h4 h2).1⟩
  cases hs
 ·unfold dA at g1 g2;split at g1<;>split at g2
  ·exact hr.ok.one i i' s s' b g1 g2 g3 g4
  all_goals first|cases g1|cases g2
 ·unfold dA at g1;split at g1
  ·rename_i hi;obtain⟨o1,h1,h2⟩:=hr.ok.obj i s g1;obtain⟨o',h3,h4⟩:=E3 H H' hH i o1 (by omega) h1;have KO:H'[i]? = some o:=g3;rw[KO] at h3;cases h3;have xW:=(IT hr.ok h4 h2).2;rintro(hx|⟨i',s',p1,p2,p3⟩)
   ·exact hr.ok.apart i s b o1 g1 g2 h1 (by rw[<-xW];exact g4) hx
   have p1:=US.1 p1;have:=hr.ok.one i i' s s' b g1 p2 g2 p3;omega
  cases g1
 ·exact hb.elim (hr.ok.lt b) λ⟨i,s,_,h1,h2⟩=>hr.ok.iH h1 h2
 ·unfold dA at hi;split at hi
  ·omega
  exact absurd rfl hi
 ·unfold dA;rw[ae<|by omega];exact hs
 unfold dA at hs;split at hs
 ·exact⟨i,s,hs,hb⟩
 cases hs
theorem OK(t ai aw:Nat)(hL:L<=H.length)(h:gj t env=bC):St.leB L n env H ((t,.own H.length aw 0 0)::env)<|H++[.vec true aw ai []]:=λJ F a w hr=>by
 have FW:J H.length=none:=by
  cases e:J H.length with
  |none=>rfl
  |some s=>have:=hr.dom H.length (by rw[e];simp);omega
 let J':aX:=λi=>if i=H.length then some ⟨false,aw,none,ai,0,0⟩ else J i
 have hle:J.le J':=λi s hs=>⟨s,by
  have:i≠H.length:=λe=>by subst e;rw[FW] at hs;cases hs
  simp[J',this,hs],aI _,λ_=>rfl⟩
 have n8:∀i,i≠H.length->(H++[an.vec true aw ai []])[i]? = H[i]?:=λi hi=>by
  rcases c7 i H.length with q|q
  ·rw[dJ q]
  rw[db q,db<|by simp;omega]
 refine⟨J',F,⟨hr.defers,hr.size,λu=>?_,⟨λi s hs=>?_,λi i' s s' b g1 g2 g3 g4=>?_,λi s b o g1 g2 g3 g4=>?_,hr.ok.lt⟩,λi hi=>?_⟩,λi s hi hs=>?_,λb hb=>hb,λb ⟨i,s,hs,hb⟩=>?_,λb hb=>.inl hb⟩
 ·rw[AA];split
  ·rename_i e;subst e;have:=hr.tmps u;rw[h] at this;simp only[rep] at this⊢;exact⟨_,none,0,0,by simp[J'];rfl,this,aI _,λ_=>⟨rfl,aI _,b9 _,rfl,rfl,.inl rfl⟩⟩
  exact js hle (λ_ h=>h) (λ_ _=>rfl) _ _<|hr.tmps u
 ·simp only[J'] at hs;split at hs
  ·rename_i e;subst e;cases hs;exact⟨.vec true aw ai [],by simp,rfl,rfl,rfl,rfl,aI _,.inl rfl⟩
  rename_i e;obtain⟨o,h1,h2⟩:=hr.ok.obj i s hs;exact⟨o,by rw[n8 i e];exact h1,qO hle (λ_ h=>h) (λ_ _=>rfl) (λ_ _=>rfl) h2⟩
 ·simp only[J'] at g1 g2;split at g1
  ·cases g1;simp[Site.cP] at g3
  split at g2
  ·cases g2;simp[Site.cP] at g4
  exact hr.ok.one i i' s s' b g1 g2 g3 g4
 ·simp only[J'] at g1;split at g1
  ·cases g1;simp[Site.cP] at g2
  rename_i e;exact hr.ok.apart i s b o g1 g2 (by rw[<-n8 i e];exact g3) g4
 ·simp only[J'] at hi;rw[cL,jt];split at hi
  ·omega
  have:=hr.dom i hi;omega
 ·have:i≠H.length:=by omega
  simp[J',this,hs]
 simp only[J'] at hs;split at hs
 ·cases hs;simp[Site.cP] at hb
 exact⟨i,s,hs,hb⟩
theorem iF(t ai:Nat)(hL:L<=H.length)(h:gj t env=bC):St.leB L n env H ((t,.own H.length 0 0 0)::env)<|H++[.vec true 0 ai []]:=OK t ai 0 hL h
section
variable{P:bt}{n:Nat}
def Oy{ι:Type}(L n:Nat)(Q:iC)(E:ι->Env)(O:ι->aB)(G:ι->Prop)(m:ι->Nat)(k:Nat):iC
 | .normal,env,H=>∃j,G j/\m j<k/\St.leB L n env H (E j) (O j)
 |e,env,H=>Q e env H
theorem I6{J J1 J2:aX}{F F1 F2:Nat->Prop}{w w1:aU}(hd:∀id,J id≠none->id<L)(h:Ext J F w J1 F1 w1)(k1:∀i s,i<L->J1 i=some s->J2 i=some s)(k2:∀b,F1 b->F2 b)(k3:∀b,iU J2 b->iU J1 b)(k4:∀b,F2 b->F1 b\/iU J1 b):Ext J F w J2 F2 w1 :=
 ⟨h.os,h.tape,h.output,h.size,h.block,h.frozen,λi s hs=>by
  obtain⟨s',g1,g2⟩:=h.le i s hs;exact⟨s',k1 i s' (hd i<|by rw[hs];simp) g1,g2⟩,λb hb=>k2 b<|h.grow b hb,λb hb=>h.nj b<|k3 b hb,λb hb=>by
  rcases k4 b hb with q|q
  ·exact h.oa b q
  rcases h.nj b q with q|q
  ·exact .inr (.inl q)
  exact .inr (.inr q)⟩
theorem Ci{p:PC}{Q:iC}{ι:Type}(E:ι->Env)(O:ι->aB)(G:ι->Prop)(m:ι->Nat)(i:ι)(h0:G i)(h1:St.leB H.length n env H (E i)<|O i)
  (round:∀j,G j->PWp P n p (Oy H.length n Q E O G m<|m j) (E j) (O j)):PWp P n (.loop p) Q env H:=rL λc hc J F a w hr=>by
 obtain⟨c',rfl,qZ⟩:=Qh hc;obtain⟨J0,F0,k1,k2,k3,k4,k5⟩:=h1 J F a w hr;have k6:Ext J F w J0 F0 w:=I6 hr.dom (Ext.refl J F w) k2 k3 k4 k5;refine wp_loop_ghost (λk a' w'=>∃j J' F',G j/\m j=k/\iE n J' F' (E j) (O j) a' w'/\Ext J F w J' F' w') (m i) ⟨i,J0,F0,h0,rfl,k1,k6⟩ λk a1 w1 ⟨j,J1,F1,g1,g2,g3,g4⟩=>?_;refine wp_mono (qK (round j g1) qZ g3) λe a2 w2 ⟨env',H',J',F',q1,q2,q3⟩=>?_
 cases e with
 |normal =>
  obtain⟨j',r1,r2,r3⟩:=q1;obtain⟨J2,F2,t1,t2,t3,t4,t5⟩:=r3 J' F' a2 w2 q2;exact⟨m j',by omega,j',J2,F2,r1,rfl,t1,I6 hr.dom (g4.trans q3) t2 t3 t4 t5⟩
 |_=>exact⟨env',H',J',F',q1,q2,g4.trans q3⟩
theorem dk{p:PC}{Q:iC}(h:St.leB H.length n env H env' H')(k:PWp P n p Q env' H'):PWp P n p Q env H :=
 rL λc hc J F a w hr=>by
  obtain⟨J',F',h1,h2,h3,h4,h5⟩:=h J F a w hr;exact wp_mono (qK k hc h1) λe a' w' q=>RR (I6 hr.dom (Ext.refl J F w) h2 h3 h4 h5) q
end
section
variable{P:bt}
end
end
section
section
variable{P:bt}{f:FuncId}
variable{args:aZ}{H0 H0':aB}{d:D}
theorem Np{H H':aB}(ρ:Nat->Nat)(hA:cd P f args H0 d H0')(inj:∀i j,i<H0'.length->j<H0'.length->ρ i=ρ j->i=j)(hold:∀i o,H0[i]? = some o->H[ρ i]? = some (o.aO ρ))
  (lX:∀i,H0.length<=i->i<H0'.length->H.length<=ρ i) (hlen:H.length<=H'.length) (h1:∀i o,H0'[i]? = some o->H'[ρ i]? = some (o.aO ρ)) (h2:∀j,j<H.length->(∀i,i<H0.length->ρ i≠j)->H'[j]? = H[j]?)
  (gM:aK H0.length args) (oM:∀o∈H0,o.under H0.length):cd P f (bO ρ args) H (D.aO ρ d) H':=by
 obtain⟨aA,Hh,iz⟩:=hA;refine⟨aA,hlen,λJ F w vs b8 jm pY=>?_⟩;have OW:∀i,i<H0.length->H0[i]? = some (H0[i]!):=λi hi=>by rw[List.getElem!_eq_getElem?_getD,aG hi];rfl
 have zI:cr (dA H0.length λi=>J<|ρ i) F w λi=>H0[i]?:=by
  refine⟨λi s hs=>?_,λi i' s s' b g1 g2 g3 g4=>?_,λi s b o g1 g2 g3 g4=>?_,b8.lt⟩
  ·unfold dA at hs;split at hs
   ·rename_i hi;have ho:=OW i hi;refine⟨_,ho,JJ (oM _<|kI ho)<|HD.2 ?_⟩;obtain⟨o',q1,q2⟩:=b8.obj (ρ i) s hs;have S9:H[ρ i]? = some o':=q1;rw[hold i _ ho] at S9;cases S9;exact q2
   cases hs
  ·unfold dA at g1 g2;split at g1<;>split at g2
   ·exact inj i i' (by omega) (by omega)<|b8.one (ρ i) (ρ i') s s' b g1 g2 g3 g4
   all_goals first|cases g1|cases g2
  unfold dA at g1;split at g1
  ·exact b8.apart (ρ i) s b (o.aO ρ) g1 g2 (hold i o g3)<|by rw[He];exact g4
  cases g1
 have uG:∀id,dA H0.length (λi=>J<|ρ i) id≠none->id<H0.length:=λid hid=>by
  unfold dA at hid;split at hid
  ·assumption
  exact absurd rfl hid
 have Aq:bj (dA H0.length λi=>J<|ρ i) F w args vs:=AB _ _ gM<|(ry args vs).2 pY;have own0:∀b,iU (dA H0.length λi=>J<|ρ i) b->∃i s,i<H0.length/\J (ρ i)=some s/\s.cP=some b:=λb ⟨i,s,hs,hb⟩=>by
  unfold dA at hs;split at hs
  ·exact⟨i,s,by assumption,hs,hb⟩
  cases hs
 have main:=iz _ F w vs zI uG Aq;refine Calls.mono main λe w' ⟨v,J0',F',he,lZ,KY,L',ex⟩=>?_
 let J':aX:=λid=>match back ρ H0'.length id with|some i=>J0' i|none=>J id
 have jat:∀i,i<H0'.length->J' (ρ i)=J0' i:=λi hi=>by simp only[J',TG inj hi]
 have jno:∀id,back ρ H0'.length id=none->J' id=J id:=λid h=>by simp only[J',h]
 have hle:J.le J':=λid s hs=>by
  cases e:back ρ H0'.length id with
  |none=>exact⟨s,by rw[jno id e];exact hs,aI _,λ_=>rfl⟩
  |some i =>
   obtain⟨k1,rfl⟩:=nk e;have hi:i<H0.length:=by
    rcases c7 i H0.length with q|q
    ·exact q
    have:=lX i q k1;have:=jm (ρ i) (by rw[hs];simp);omega
   obtain⟨s',g1,g2⟩:=ex.le i s (by simp only[dA,ae hi];exact hs);exact⟨s',by rw[jat i k1];exact g1,g2⟩
 have hleρ:J0'.le λi=>J'<|ρ i:=λi s hs=>⟨s,by
  dsimp only;rw[jat i<|KY i<|by rw[hs];simp];exact hs,aI _,λ_=>rfl⟩
 have nown:∀id s b,back ρ H0'.length id=none->J id=some s->s.cP=some b->¬iU (dA H0.length λi=>J<|ρ i) b:=λid s b hb hs jr ho=>by
  obtain⟨i,s',k1,k2,k3⟩:=own0 b ho;exact Aw hb i (by omega)<|b8.one (ρ i) id s' s b k2 hs k3 jr
 refine⟨v,J',F',he,⟨λid s hs=>?_,λid ij s s' b g1 g2 g3 g4=>?_,λid s b o g1 g2 g3 g4=>?_,lZ.lt⟩,λid hid=>?_,(xy d v).1<|js hleρ (λ_ h=>h) (λ_ _=>rfl) _ _ L',?_⟩
 ·cases e:back ρ H0'.length id with
  |some i =>
   obtain⟨k1,rfl⟩:=nk e;rw[jat i k1] at hs;obtain⟨o,q1,q2⟩:=lZ.obj i s hs;exact⟨o.aO ρ,h1 i o q1,HD.1<|qO hleρ (λ_ h=>h) (λ_ _=>rfl) (λ_ _=>rfl) q2⟩
  |none =>
   rw[jno id e] at hs;obtain⟨o,q1,q2⟩:=b8.obj id s hs;refine⟨o,?_,qO hle ex.grow ex.frozen (λb hb=>ex.block b (b8.iH hs hb)<|nown id s b e hs hb) q2⟩;show H'[id]? = some o;rw[h2 id (jm id<|by rw[hs];simp) λi hi=>Aw e i<|by omega];exact q1
 ·cases e:back ρ H0'.length id with
  |some i =>
   obtain⟨k1,rfl⟩:=nk e;rw[jat i k1] at g1
   cases e':back ρ H0'.length ij with
   |some i' =>
    obtain⟨xu,rfl⟩:=nk e';rw[jat i' xu] at g2;rw[lZ.one i i' s s' b g1 g2 g3 g4]
   |none =>
    rw[jno ij e'] at g2;rcases ex.nj b ⟨i,s,g1,g3⟩ with q|q
    ·exact absurd q<|nown ij s' b e' g2 g4
    have:=b8.iH g2 g4;omega
  |none =>
   rw[jno id e] at g1
   cases e':back ρ H0'.length ij with
   |some i' =>
    obtain⟨xu,rfl⟩:=nk e';rw[jat i' xu] at g2;rcases ex.nj b ⟨i',s',g2,g4⟩ with q|q
    ·exact absurd q<|nown id s b e g1 g3
    have:=b8.iH g1 g3;omega
   |none =>
    rw[jno ij e'] at g2;exact b8.one id ij s s' b g1 g2 g3 g4
 ·have o9:H'[id]? = some o:=g3
  cases e:back ρ H0'.length id with
  |some i =>
   obtain⟨k1,rfl⟩:=nk e;rw[jat i k1] at g1;obtain⟨o0,q1,_⟩:=lZ.obj i s g1;rw[h1 i o0 q1] at o9;cases o9;exact lZ.apart i s b o0 g1 g2 q1<|by rw[He] at g4;exact g4
  |none =>
   rw[jno id e] at g1;rw[h2 id (jm id<|by rw[g1];simp) λi hi=>Aw e i<|by omega] at o9;intro hx;rcases ex.oa b hx with q|q|q
   ·exact b8.apart id s b o g1 g2 o9 g4 q
   ·exact nown id s b e g1 g2 q
   have:=b8.iH g1 g2;omega
 ·cases e:back ρ H0'.length id with
  |some i =>
   obtain⟨k1,rfl⟩:=nk e;have:=h1 i _<|aG k1;exact lO this
  |none =>
   rw[jno id e] at hid;have:=jm id hid;omega
 refine⟨ex.os,ex.tape,ex.output,ex.size,λb hb hn=>ex.block b hb λho=>?_,ex.frozen,hle,ex.grow,λb ⟨id,s,hs,hb⟩=>?_,λb hb=>?_⟩
 ·obtain⟨i,s,_,k2,k3⟩:=own0 b ho;exact hn ⟨ρ i,s,k2,k3⟩
 ·cases e:back ρ H0'.length id with
  |some i =>
   obtain⟨k1,rfl⟩:=nk e;rw[jat i k1] at hs;refine(ex.nj b ⟨i,s,hs,hb⟩).imp_left λq=>?_;obtain⟨k,s',_,k2,k3⟩:=own0 b q;exact⟨ρ k,s',k2,k3⟩
  |none =>
   rw[jno id e] at hs;exact .inl ⟨id,s,hs,hb⟩
 rcases ex.oa b hb with q|q|q
 ·exact .inl q
 ·obtain⟨k,s',_,k2,k3⟩:=own0 b q;exact .inr (.inl ⟨ρ k,s',k2,k3⟩)
 exact .inr (.inr q)
variable{pre post cs fC:aZ}
theorem qL(h:cd P f (pre++.loc 0 0::post) [.row true cs] d [.row true fC])(tD:ao pre)(xw:ao post)(rC:ao cs)(Ob:ao fC)(hd:Pure d)
  {H:aB} {id:Nat} (hid:H[id]? = some (.row true cs)):cd P f (pre++.loc id 0::post) H d<|H.set id (.row true fC):=by
 have rW:∀(a b:aZ) (ρ:Nat->Nat),bO ρ (a++b)=bO ρ a++bO ρ b:=λa b ρ=>by
  induction a with
  |nil=>simp only[bO,m9]
  |cons x r ih=>simp only[mJ,bO,ih]
 have EM:∀(a b:aZ),aK 1 a->aK 1 b->aK 1 (a++b):=λa b ha hb=>by
  induction a with
  |nil=>exact hb
  |cons x r ih=>simp only[aK,mJ] at ha⊢;exact⟨ha.1,ih ha.2⟩
 have one:∀(i:Nat) (x y:an),[x][i]? = some y->i=0/\y=x:=λi x y h=>by
  cases i with
  |zero=>simp at h;exact⟨rfl,h.symm⟩
  |succ i=>simp at h
 have:=Np (H:=H) (H':=H.set id (.row true fC)) (λ_=>id) h (λi j hi hj _=>by simp at hi hj;omega) (λi o ho=>by
   obtain⟨_,rfl⟩:=one i _ o ho;simp only[an.aO,l6 cs rC];exact hid) (λi h1 h2=>by simp at h1 h2;omega) (by simp) (λi o ho=>by
   obtain⟨_,rfl⟩:=one i _ o ho;simp only[an.aO,l6 fC Ob];rw[FU<|lO hid]) (λj hj b7=>by
   rw[xk<|b7 0<|by simp]) (by
   refine EM _ _ (cu _ tD) ?_;simp only[aK,az];exact⟨by simp,cu _ xw⟩) (λo ho=>by
   simp at ho;subst ho;exact cu _ rC)
 rw[rW,l6 _ tD,iK _ hd] at this;simpa only[bO,D.aO,l6 _ xw] using this
def lh:aB->List Nat->aB->aB
 |H,i::L,o::r=>lh (H.set i o) L r
 |H,_,_=>H
theorem xR:∀(L:List Nat) (os H:aB),(lh H L os).length=H.length
 |[],os,H=>by cases os<;>rfl
 |i::L,[],H=>rfl
 |i::L,o::r,H=>by simp only[lh];rw[xR L r];simp
theorem HO:∀(L:List Nat) (os H:aB) (j:Nat),j ∉ L->(lh H L os)[j]? = H[j]?
 |[],os,H,j,_=>by cases os<;>rfl
 |i::L,[],H,j,_=>rfl
 |i::L,o::r,H,j,h=>by
  simp only[lh];rw[HO L r _ j λq=>h<|by simp[q],xk λe=>h<|by simp[e]]
theorem Jt:∀(L:List Nat) (os H:aB) (k:Nat) (o:an),L.Nodup->(∀i∈L,i<H.length)->k<L.length->os[k]? = some o->(lh H L os)[L.getD k 0]? = some o
 |[],os,H,k,o,_,_,h,_=>by simp at h
 |i::L,[],H,k,o,_,_,_,h=>by simp at h
 |i::L,x::r,H,0,o,hn,hl,_,h=>by
  simp only[lh,Jh];rw[HO L r _ i (List.nodup_cons.1 hn).1,FU<|hl i<|by simp];simpa using h
 |i::L,x::r,H,k+1,o,hn,hl,hk,h=>by
  simp only[lh,wz];exact Jt L r _ k o (List.nodup_cons.1 hn).2 (λj hj=>by simpa using hl j<|by simp[hj]) (by simpa using hk)<|by simpa using h
variable{args0:aZ}{d0:D}
theorem M3(hA:cd P f args0 H0 d0 H0')(hl:H0'.length=H0.length)(L:List Nat)(hL:L.length=H0.length)(dO:L.Nodup)
  (gM:aK H0.length args0) (oM:kl H0.length H0) {args:aZ} {d:D} {H:aB} (e1:bO (λi=>L.getD i 0) args0=args) (e2:D.aO (λi=>L.getD i 0) d0=d)
  (h1:∀i o,H0[i]? = some o->H[L.getD i 0]? = some (o.aO λi=>L.getD i 0)):qx P f args H d (lh H L<|H0'.map<|an.aO λi=>L.getD i 0) L:=by
 subst e1 e2;have mem:∀{j},j∈L↔∃i,i<H0.length/\L.getD i 0=j:=λ{j}=>by
  rw[kn];constructor
  ·rintro⟨i,hi,rfl⟩;exact⟨i,by omega,by rw[ay,aG hi];rfl⟩
  rintro⟨i,hi,rfl⟩;exact⟨i,by omega,by rw[ay,aG<|by omega];rfl⟩
 have cq:∀id∈L,id<H.length:=λid hid=>by
  obtain⟨i,hi,rfl⟩:=mem.1 hid;exact lO<|h1 i _<|aG hi
 have inj:∀i j,i<H0'.length->j<H0'.length->L.getD i 0=L.getD j 0->i=j:=λi j hi hj e=>by
  rw[ay,ay,aG<|by omega,aG<|by omega] at e;exact(List.getElem_inj dO).1 e
 refine⟨hA.ok,by rw[xR];exact aI _,λid hid=>HO _ _ _ _ hid,λid hid=>by rw[xR];exact cq id hid,λJ F w vs G b8 hG _ pY=>?_⟩;have core:=Li (G:=G) (G':=λid=>if id∈L then (lh H L<|H0'.map<|an.aO λi=>L.getD i 0)[id]? else G id) (λi=>L.getD i 0) hA inj b8 (λi o ho=>by
   rw[hG _<|mem.2 ⟨i,lO ho,rfl⟩];exact h1 i o ho) (λi h1 h2=>by omega) pY (λi o ho=>by
   have hi:=lO ho;rw[ae<|mem.2 ⟨i,by omega,rfl⟩];exact Jt L _ H i _ dO cq (by omega)<|by rw[cy,ho];rfl) (λj hj=>by
   rw[aa λh=>by obtain⟨i,hi,e⟩:=mem.1 h;exact hj i (by omega) e]) gM (AI oM)
 refine core.mono λe w' ⟨v,J',F',q1,q2,q3,q4,q5⟩=>⟨v,J',F',q1,q2,λid hid=>(q3 id hid).imp_right λ⟨i,hi,e⟩=>mem.2 ⟨i,by omega,e⟩,q4,q5⟩
theorem Q6(hA:cd P f args0 H0 d0 H0)(L:List Nat)(hL:L.length=H0.length)(dO:L.Nodup)
  (gM:aK H0.length args0) (oM:kl H0.length H0) {args:aZ} {d:D} {H:aB} (e1:bO (λi=>L.getD i 0) args0=args) (e2:D.aO (λi=>L.getD i 0) d0=d)
  (h1:∀i o,H0[i]? = some o->H[L.getD i 0]? = some (o.aO λi=>L.getD i 0)) (m:Nat) {q:Bool} {cs:aZ} (hm:D.loc m 0∈args) (dV:H[m]? = some (.row q cs)) (hmL:m∈L) (bg:∀id∈L,id=m\/∃v lo hi,D.own id v lo hi∈cs):BV P f args H d L:=by
 have yl:=M3 hA rfl L hL dO gM oM e1 e2 h1;have cq:∀id∈L,id<H.length/\(lh H L<|H0.map<|an.aO λi=>L.getD i 0)[id]? = H[id]?:=λid hid=>by
  obtain⟨i,hi,rfl⟩:=kn.1 hid;have e:L.getD i 0=L[i]:=(by rw[ay,aG hi];rfl);have hk:=h1 i _<|aG (by omega);rw[<-e];refine⟨lO hk,?_⟩;rw[hk];refine Jt L _ H i _ dO (λj hj=>?_) hi (by rw[cy,aG<|by omega];rfl);obtain⟨i',bu,rfl⟩:=kn.1 hj;have:=lO<|h1 i' _<|aG (by omega);rwa [ay,aG bu] at this
 refine⟨hA.ok,λJ F w vs G aA hG pY=>?_⟩;have Zn:∃s,J m=some s:=by
  have:∀(ds:aZ) (us:List aH),D.loc m 0∈ds->bj J F w ds us->∃s,J m=some s:=λds=>by
   induction ds with
   |nil=>intro us h;simp at h
   |cons x r ih =>
    intro us h k;simp only[bj] at k;obtain⟨v,us,rfl,k1,k2⟩:=k;rcases dD.1 h with rfl|h
    ·simp only[rep] at k1;obtain⟨s,b,k1,_⟩:=k1;exact⟨s,k1⟩
    exact ih us h k2
  exact this _ _ hm pY
 have hJ:∀id∈L,J id≠none:=λid hid=>by
  obtain⟨s,hs⟩:=Zn;rcases bg id hid with rfl|⟨v,lo,hi,hc⟩
  ·rw[hs];simp
  obtain⟨o,k1,k2⟩:=aA.obj m s hs;rw[hG m hmL,dV] at k1;cases k1;obtain⟨_,_,_,_,_,b,vals,te,_,_,_,k3,_⟩:=k2;have:∀(ds:aZ) (n:Nat),D.own id v lo hi∈ds->dM J F w b ds n->J id≠none:=λds=>by
   induction ds with
   |nil=>intro n h;simp at h
   |cons x r ih =>
    intro n h k;simp only[dM] at k;obtain⟨⟨u,_,_,k1⟩,k2⟩:=k;rcases dD.1 h with rfl|h
    ·simp only[rep] at k1;obtain⟨s',_,_,_,k1,_⟩:=k1;rw[k1];simp
    exact ih _ h k2
  exact this _ _ hc k3
 refine(yl.run J F w vs G aA hG (λid hid yh=>by have:=(cq id hid).1;omega) pY).mono λe w' hR=>?_;obtain⟨v,J',F',rfl,k1,k2,k3,k4⟩:=hR;refine⟨v,J',F',rfl,?_,λid h=>(k2 id h).elim (λh=>h)<|hJ id,k3,k4⟩;have e:(λid=>if id∈L then (lh H L<|H0.map<|an.aO λi=>L.getD i 0)[id]? else G id)=G:=by
  funext id;split
  ·rename_i hid;rw[(cq id hid).2,hG id hid]
  rfl
 rw[e] at k1;exact k1
def zZ(L:List Nat)(h n:Nat):List Nat:=L++List.range' h n
theorem Xj(hA:cd P f args0 H0 d0 H0')(L:List Nat)(hL:L.length=H0.length)(dO:L.Nodup)
  (gM:aK H0.length args0) (oM:kl H0.length H0) {args:aZ} {d:D} {H:aB} (W:List Nat) (hW:W=zZ L H.length (H0'.length-H0.length)) (e1:bO (λi=>W.getD i 0) args0=args) (e2:D.aO (λi=>W.getD i 0) d0=d)
  (h1:∀i o,H0[i]? = some o->H[L.getD i 0]? = some (o.aO λi=>W.getD i 0)) {H2:aB} (e3:lh H L ((H0'.take H0.length).map<|an.aO λi=>W.getD i 0)++(H0'.drop H0.length).map (an.aO λi=>W.getD i 0)=H2):qx P f args H d H2 W:=by
 subst e1 e2 e3;have Hh:=hA.len;have cq:∀id∈L,id<H.length:=λid hid=>by
  obtain⟨i,hi,rfl⟩:=kn.1 hid;have:=lO<|h1 i _<|aG (by omega);rwa [ay,aG hi] at this
 have hWl:W.length=H0'.length:=by rw[hW,zZ,cL,List.length_range'];omega
 have hWn:W.Nodup:=by
  rw[hW,zZ,zn];refine⟨dO,List.nodup_range',λa ha b hb e=>?_⟩;have:=cq a ha;have:=(List.mem_range'_1.1 hb).1;omega
 have mem:∀{j},j∈W↔∃i,i<H0'.length/\W.getD i 0=j:=λ{j}=>by
  rw[kn];constructor
  ·rintro⟨i,hi,rfl⟩;exact⟨i,by omega,by rw[ay,aG hi];rfl⟩
  rintro⟨i,hi,rfl⟩;exact⟨i,by omega,by rw[ay,aG<|by omega];rfl⟩
 have inj:∀i j,i<H0'.length->j<H0'.length->W.getD i 0=W.getD j 0->i=j:=λi j hi hj e=>by
  rw[ay,ay,aG<|by omega,aG<|by omega] at e;exact(List.getElem_inj hWn).1 e
 have wold:∀i,i<L.length->W.getD i 0=L.getD i 0:=λi hi=>by
  rw[hW,zZ,ay,dJ hi,ay]
 have wnew:∀i,L.length<=i->i<H0'.length->W.getD i 0=H.length+(i-L.length):=λi h1 h2=>by
  rw[hW,zZ,ay,fc h1,List.getElem?_range'<|by omega];simp
 have hN:(lh H L ((H0'.take H0.length).map<|an.aO λi=>W.getD i 0)++(H0'.drop H0.length).map (an.aO λi=>W.getD i 0)).length=H.length+(H0'.length-H0.length):=by
  rw[cL,xR,aS,mi]
 have at2:∀i o,H0'[i]? = some o->(lh H L ((H0'.take H0.length).map<|an.aO λi=>W.getD i 0)++(H0'.drop H0.length).map (an.aO λi=>W.getD i 0))[W.getD i 0]? = some (o.aO λi=>W.getD i 0):=λi o ho=>by
  have hi:=lO ho;rcases c7 i L.length with q|q
  ·rw[wold i q,dJ<|by rw[xR];exact cq _<|by rw[ay,aG q];exact ig q];refine Jt L _ H i _ dO cq q ?_;rw[cy,List.getElem?_take_of_lt<|by omega,ho];rfl
  rw[wnew i q hi,fc<|by rw[xR];omega,xR,cy,vq,show H0.length+(H.length+(i-L.length)-H.length)=i by omega,ho];rfl
 refine⟨hA.ok,by rw[hN];omega,λid hid=>?_,λid hid=>?_,λJ F w vs G b8 hG Fs pY=>?_⟩
 ·have h2:id ∉ L:=λh=>hid (by rw[hW,zZ];exact xU _ h);rcases c7 id H.length with q|q
  ·rw[dJ<|by rw[xR];exact q,HO _ _ _ _ h2]
  rcases c7 id<|H.length+(H0'.length-H0.length) with q2|q2
  ·exact absurd (by rw[hW,zZ];exact wI _<|List.mem_range'_1.2 ⟨q,q2⟩) hid
  rw[db q,db<|by rw[hN];exact q2]
 ·obtain⟨i,hi,rfl⟩:=mem.1 hid;exact lO<|at2 i _<|aG hi
 have core:=Li (G:=G) (G':=λid=>if id∈W then (lh H L ((H0'.take H0.length).map<|an.aO λi=>W.getD i 0)++(H0'.drop H0.length).map (an.aO λi=>W.getD i 0))[id]? else G id) (λi=>W.getD i 0) hA inj b8 (λi o ho=>by
   have hi:=lO ho;rw[hG _<|mem.2 ⟨i,by omega,rfl⟩,wold i<|by omega];exact h1 i o ho) (λi q1 q2=>by
   refine Fs _ (mem.2 ⟨i,q2,rfl⟩) ?_;rw[wnew i (by omega) q2];omega) pY (λi o ho=>by
   rw[ae<|mem.2 ⟨i,lO ho,rfl⟩];exact at2 i o ho) (λj hj=>by
   rw[aa λh=>by obtain⟨i,hi,e⟩:=mem.1 h;exact hj i hi e]) gM (AI oM)
 exact core.mono λe w' ⟨v,J',F',q1,q2,q3,q4,q5⟩=>⟨v,J',F',q1,q2,λid hid=>(q3 id hid).imp_right λ⟨i,hi,e⟩=>mem.2 ⟨i,hi,e⟩,q4,q5⟩
theorem nX(hA:cd P f args [] d0 H0')(hp:ao args){H H2:aB}(W:List Nat)(hW:W=List.range' H.length H0'.length)(e2:D.aO (λi=>W.getD i 0) d0=d)
  (e3:H++H0'.map (an.aO λi=>W.getD i 0)=H2):qx P f args H d H2 W :=
 Xj hA [] rfl .nil (cu _ hp) trivial W (by rw[hW];rfl) (l6 _ hp) e2 (λi o h=>by simp at h) (by rw[<-e3];rfl)
theorem s8(h:cd P f (pre++.loc 0 0::post) [.row true cs] d [.row true fC])(tD:ao pre)(xw:ao post)(rC:ao cs)(Ob:ao fC)(hd:Pure d)
  {H:aB} {id:Nat} (hid:H[id]? = some (.row true cs)):qx P f (pre++.loc id 0::post) H d (H.set id (.row true fC)) [id]:=by
 have rW:∀(a b:aZ) (ρ:Nat->Nat),bO ρ (a++b)=bO ρ a++bO ρ b:=λa b ρ=>by
  induction a with
  |nil=>simp only[bO,m9]
  |cons x r ih=>simp only[mJ,bO,ih]
 have EM:∀(a b:aZ),aK 1 a->aK 1 b->aK 1 (a++b):=λa b ha hb=>by
  induction a with
  |nil=>exact hb
  |cons x r ih=>simp only[aK,mJ] at ha⊢;exact⟨ha.1,ih ha.2⟩
 have:=M3 h rfl [id] rfl (by simp) (EM _ _ (cu _ tD) ⟨by simp[az],cu _ xw⟩) ⟨cu _ rC,trivial⟩ (H:=H) (args:=pre++.loc id 0::post) (d:=d)
  (by rw[rW,l6 _ tD];simp only[bO,D.aO,l6 _ xw];rfl) (iK _ hd) (λi o ho=>by
   cases i with
   |zero=>simp at ho;subst ho;simp only[an.aO,l6 cs rC];exact hid
   |succ i=>simp at ho)
 simpa only[dR,gP,lh,an.aO,l6 fC Ob] using this
end
end
section
section
variable{P:bt}{n:Nat}
def endD(d:D)(H2:aB)(r:D)(Hf:aB):Prop:=bR (lF H2.length) Hf r d/\uZ H2.length Hf Hf H2
theorem vp{f:FuncId}{rs:List RV}{p:PC}{args:aZ}{H:aB}{d:D}{H2:aB}(hf:pj P f n rs p)(hn:args.length<=n)(hlen:H.length<=H2.length)
  (h:PWp P n p (BZ rs λr Hf=>endD d H2 r Hf) (params 0 args) H) (hd:az H2.length d):cd P f args H d H2:=by
 refine⟨Oi hf,hlen,λJ F w vs aA jm gM=>?_⟩;obtain⟨fn,h1,h2,h3,h4,h5⟩:=hf.out
 cases e:fn.body with
 |none=>rw[e] at h5;cases h5
 |some c =>
  rw[e] at h5;simp only[C0] at h5;refine calls_of_wp h1 e ?_;rw[h2];refine wp_mono (qK h h5<|Nj hn gM aA jm) λe' a' w' ⟨env',H',J',F',q1,q2,q3⟩=>?_;have fin:e'=.normal\/e'=.ret->a'.defers=[]/\∃v,(results fn a'.tmps).run P w'=.ok v w'/\∃v' J'' F'',Ending.returned v=Ending.returned v'/\cr J'' F'' w' (λi=>H2[i]?)/\(∀id,J'' id≠none->id<H2.length)/\rep J'' F'' w' d v'/\Ext J F w J'' F'' w':=λhe=>by
   obtain⟨r,v,⟨hdm,iQ⟩,k2,k3⟩:=Nh h4 q2 he q1;have s9:=q2.ok;have kle:(dA H2.length J').le J':=λi s hs=>by
    unfold dA at hs;split at hs
    ·exact⟨s,hs,aI _,λ_=>rfl⟩
    cases hs
   refine⟨q2.defers,v,k2,v,dA H2.length J',λb=>F' b\/wQ (lF H2.length) J' b,rfl,⟨λi s hs=>?_,λi i' s s' b g1 g2 g3 g4=>?_,λi s b o g1 g2 g3 g4=>?_,s9.lt.mono (λ_ h=>.inl h) (λ_ _=>rfl) λb hb=>?_⟩,λi hi=>?_,Cu _ _ hd<|A6 s9 _ _ _ hdm k3,?_⟩
   ·unfold dA at hs;split at hs
    ·rename_i hi;obtain⟨o,g1,g2⟩:=s9.obj i s hs;obtain⟨o',g3,g4⟩:=E3 H' H2 iQ i o hi g1;exact⟨o',g3,(IT s9 g4 g2).1⟩
    cases hs
   ·unfold dA at g1 g2;split at g1<;>split at g2
    ·exact s9.one i i' s s' b g1 g2 g3 g4
    all_goals first|cases g1|cases g2
   ·unfold dA at g1;split at g1
    ·rename_i hi;obtain⟨o1,t1,t2⟩:=s9.obj i s g1;obtain⟨o',t3,t4⟩:=E3 H' H2 iQ i o1 hi t1;have o9:H2[i]? = some o:=g3;rw[o9] at t3;cases t3;have xW:=(IT s9 t4 t2).2;rintro(hx|⟨i',s',p1,p2,p3⟩)
     ·exact s9.apart i s b o1 g1 g2 t1 (by rw[<-xW];exact g4) hx
     have p1:=US.1 p1;have:=s9.one i i' s s' b g1 p2 g2 p3;omega
    cases g1
   ·exact hb.elim (s9.lt b) λ⟨i,s,_,t1,t2⟩=>s9.iH t1 t2
   ·unfold dA at hi;split at hi
    ·assumption
    exact absurd rfl hi
   refine⟨q3.os,q3.tape,q3.output,q3.size,q3.block,q3.frozen,λi s hs=>?_,λb hb=>.inl<|q3.grow b hb,λb ⟨i,s,hs,hb⟩=>?_,λb hb=>?_⟩
   ·obtain⟨s',g1,g2,g3⟩:=q3.le i s hs;have hi:i<H2.length:=(by have:=jm i (by rw[hs];simp);omega);exact⟨s',by simp[dA,hi,g1],g2,g3⟩
   ·obtain⟨s',g1,_⟩:=kle i s hs;unfold dA at hs;split at hs
    ·exact q3.nj b ⟨i,s,hs,hb⟩
    cases hs
   rcases hb with hb|⟨i,s,_,t1,t2⟩
   ·exact q3.oa b hb
   rcases q3.nj b ⟨i,s,t1,t2⟩ with q|q
   ·exact .inr (.inl q)
   exact .inr (.inr q)
  cases e' with
  |normal=>exact fin (.inl rfl)
  |ret=>exact fin (.inr rfl)
  |exit id=>exact q1.elim
  |goto l=>exact q1.elim
  |panic ch=>exact q1.elim
  |outgrown=>exact q1.elim
end
end
section
abbrev WP:=iC->Env->aB->Prop
def Ty:WP:=λQ env H=>Q .normal env H
def seqQ(g:WP)(Q:iC):iC:=λe env H=>match e with
 | .normal=>g Q env H
 |e=>Q e env H
def seqW(f g:WP):WP:=λQ env H=>f (seqQ g Q) env H
def Sz(c:aT)(f g:WP):WP:=λQ env H=>dq env c λd=>match d with
 | .sc (.bool t)=>ifK t (f Q env H)<|g Q env H
 |_=>False
def zBK(id:Nat)(Q:iC):iC:=λe env H=>match e with
 | .exit ij=>match Nat.beq ij id with
  |true=>Q .normal env H
  |false=>Q (.exit ij) env H
 |e=>Q e env H
def Wu(id:Nat)(f:WP):WP:=λQ env H=>f (zBK id Q) env H
def T0(P:bt)(n:Nat)(c:PC):WP:=λQ env H=>PWp P n (.loop c) Q env H
def PQ(P:bt)(n:Nat)(c:PC):WP:=λQ env H=>PWp P n c Q env H
def VH(id:Nat):WP:=λQ env H=>Q (.exit id) env H
def retW:WP:=λQ env H=>Q .ret env H
abbrev WO:=Env->aB->(Env->aB->Prop)->Prop
def nilO:WO:=λenv H K=>K env H
def opO(P:bt)(o:cE)(g:WO):WO:=λenv H K =>
 match o.guard with
 |none=>step P true o.op env H λd H' _ _=>match o.dst with
  |some t=>g ((t,d)::env) H' K
  |none=>g env H' K
 |some (t,b)=>rh t (λq=>match q with
  | .sc (.bool c)=>match b with
   |true=>ifK c
    (step P true o.op env H λd H' _ _=>match o.dst with
     |some u=>g ((u,d)::env) H' K
     |none=>g env H' K)
    (match o.dst with
     |some u=>g ((u,.sc undef)::env) H K
     |none=>g env H K)
   |false=>ifK c
    (match o.dst with
     |some u=>g ((u,.sc undef)::env) H K
     |none=>g env H K)
    (step P true o.op env H λd H' _ _=>match o.dst with
     |some u=>g ((u,d)::env) H' K
     |none=>g env H' K)
  | .sc (.tuple _)=>match o.dst with
   |some u=>g ((u,.sc undef)::env) H K
   |none=>g env H K
  |_=>False) env
def opsW(f:WO):WP:=λQ env H=>f env H λenv H=>Q .normal env H
abbrev WD:=Env->aB->(Env->aB->Trace->Prop)->Prop
def nilD:WD:=λenv H K=>K env H []
def opD(P:bt)(o:cE)(g:WD):WD:=λenv H K =>
 match o.guard with
 |none=>step P false o.op env H λd H' rd wr=>match o.dst with
  |some t=>g ((t,d)::env) H' λe h tr=>K e h<|((rd,wr),(yV o.op env,d,H'))::tr
  |none=>g env H' λe h tr=>K e h<|((rd,wr),(yV o.op env,d,H'))::tr
 |some (t,b)=>rh t (λq=>match q with
  | .sc (.bool c)=>match b with
   |true=>ifK c
    (step P false o.op env H λd H' rd wr=>match o.dst with
     |some u=>g ((u,d)::env) H' λe h tr=>K e h<|((rd,wr),(none,d,H'))::tr
     |none=>g env H' λe h tr=>K e h<|((rd,wr),(none,d,H'))::tr)
    (match o.dst with
     |some u=>g ((u,.sc undef)::env) H λe h tr=>K e h<|(([],[]),(none,.sc undef,H))::tr
     |none=>g env H λe h tr=>K e h<|(([],[]),(none,.sc undef,H))::tr)
   |false=>ifK c
    (match o.dst with
     |some u=>g ((u,.sc undef)::env) H λe h tr=>K e h<|(([],[]),(none,.sc undef,H))::tr
     |none=>g env H λe h tr=>K e h<|(([],[]),(none,.sc undef,H))::tr)
    (step P false o.op env H λd H' rd wr=>match o.dst with
     |some u=>g ((u,d)::env) H' λe h tr=>K e h<|((rd,wr),(none,d,H'))::tr
     |none=>g env H' λe h tr=>K e h<|((rd,wr),(none,d,H'))::tr)
  | .sc (.tuple _)=>match o.dst with
   |some u=>g ((u,.sc undef)::env) H λe h tr=>K e h<|(([],[]),(none,.sc undef,H))::tr
   |none=>g env H λe h tr=>K e h<|(([],[]),(none,.sc undef,H))::tr
  |_=>False) env
def RQ(l:List cE)(f:WD):WP:=λQ env H=>f env H λe h tr=>match Cr [] l tr with
 |true=>Q .normal e h
 |false=>match Bm [] l tr with
  |true=>Cp (Q .normal e h) 0 [] l tr
  |false=>False
section
variable{P:bt}{n:Nat}
def wB(P:bt)(l:List cE)(f:WO):Prop:=f=lf P l
def wm(P:bt)(l:List cE)(f:WD):Prop:=f=mF P l
def Red(P:bt)(n:Nat)(p:PC)(f:WP):Prop:=f=pw P n p
theorem wB.nil:wB P [] nilO:=rfl
variable(o:cE){l:List cE}
theorem wB.cons{g:WO}(h:wB P l g):wB P (o::l)<|opO P o g:=by
 unfold wB at h⊢;subst h;funext env H K;rfl
theorem wm.nil:wm P [] nilD:=rfl
theorem wm.cons{g:WD}(h:wm P l g):wm P (o::l)<|opD P o g:=by
 unfold wm at h⊢;subst h;funext env H K;rfl
theorem Red.skip:Red P n .skip Ty:=rfl
theorem Red.ops{l:List cE}{f:WO}(h:wB P l f):Red P n (.ops l false)<|opsW f:=by
 unfold wB at h;subst h;rfl
theorem Red.draw{f:WD}(h:wm P l f):Red P n (.ops l true)<|RQ l f:=by
 unfold wm at h;subst h;rfl
theorem Red.seq{a b:PC}{f g:WP}(h:Red P n a f)(k:Red P n b g):Red P n (.seq a b)<|seqW f g:=by
 unfold Red at h k;subst h;subst k;rfl
theorem Red.cond(c:aT){a b:PC}{f g:WP}(h:Red P n a f)(k:Red P n b g):Red P n (.cond c a b)<|Sz c f g:=by
 unfold Red at h k;subst h;subst k;rfl
theorem Red.block(id:Nat){a:PC}{f:WP}(h:Red P n a f):Red P n (.block id a)<|Wu id f:=by
 unfold Red at h;subst h;rfl
theorem Red.loop(c:PC):Red P n (.loop c)<|T0 P n c:=rfl
theorem Red.stop(c:PC):Red P n (.stop c)<|PQ P n c:=rfl
theorem Red.exit(id:Nat):Red P n (.exit id)<|VH id:=rfl
theorem Red.ret:Red P n .ret retW:=rfl
variable{f:WP}{p:PC}{Q:iC}{env:Env}{H:aB}
theorem zs9(h:Red P n p f)(k:f Q env H):PWp P n p Q env H :=
 Ct _ _ _ _ (by unfold Red at h;subst h;exact k)
inductive RdO(P:bt):List cE->WO->Prop
 |nil:RdO P [] nilO
 |cons {o:cE} {l:List cE} {g:WO} (h:RdO P l g):RdO P (o::l) (opO P o g)
inductive RdD(P:bt):List cE->WD->Prop
 |nil:RdD P [] nilD
 |cons {o:cE} {l:List cE} {g:WD} (h:RdD P l g):RdD P (o::l) (opD P o g)
inductive Rd(P:bt)(n:Nat):PC->WP->Prop
 |skip:Rd P n .skip Ty
 |ret:Rd P n .ret retW
 |exit {id:Nat}:Rd P n (.exit id) (VH id)
 |loop {c:PC}:Rd P n (.loop c) (T0 P n c)
 |stop {c:PC}:Rd P n (.stop c) (PQ P n c)
 |ops {l:List cE} {f:WO} (h:RdO P l f):Rd P n (.ops l false) (opsW f)
 |draw {l:List cE} {f:WD} (h:RdD P l f):Rd P n (.ops l true) (RQ l f)
 |seq {a b:PC} {f g:WP} (h:Rd P n a f) (k:Rd P n b g):Rd P n (.seq a b) (seqW f g)
 |cond {c:aT} {a b:PC} {f g:WP} (h:Rd P n a f) (k:Rd P n b g):Rd P n (.cond c a b) (Sz c f g)
 |block {id:Nat} {a:PC} {f:WP} (h:Rd P n a f):Rd P n (.block id a) (Wu id f)
theorem RdO.red{f:WO}(h:RdO P l f):wB P l f:=by
 induction h with
 |nil=>exact .nil
 |cons _ ih=>exact .cons _ ih
theorem RdD.red{f:WD}(h:RdD P l f):wm P l f:=by
 induction h with
 |nil=>exact .nil
 |cons _ ih=>exact .cons _ ih
theorem Rd.red{p:PC}{f:WP}(h:Rd P n p f):Red P n p f:=by
 induction h with
 |skip=>exact .skip
 |ret=>exact .ret
 |exit=>exact .exit _
 |loop=>exact .loop _
 |stop=>exact .stop _
 |ops h=>exact .ops h.red
 |draw h=>exact .draw h.red
 |seq _ _ ih ik=>exact .seq ih ik
 |cond _ _ ih ik=>exact .cond _ ih ik
 |block _ ih=>exact .block _ ih
theorem yB(h:Rd P n p f)(k:f Q env H):PWp P n p Q env H:=zs9 h.red k
end
end
section
theorem jN{L n:Nat}(id j ai:Nat){env:Env}{H:aB}{cs:aZ}(hL:L<=H.length)(hid:H[id]? = some (.row true cs))(hj:cs[j]? = some bC) :
  St.leB L n env H env (H.set id (.row true<|cs.set j (.own H.length 0 0 0))++[.vec true 0 ai []]):=λJ F a w hr=>by
 have FW:J H.length=none:=by
  cases e:J H.length with
  |none=>rfl
  |some s=>have:=hr.dom H.length (by rw[e];simp);omega
 have we:=lO hid
 let J':aX:=λi=>if i=H.length then some ⟨false,0,none,ai,0,0⟩ else J i
 have hle:J.le J':=λi s hs=>⟨s,by
  have:i≠H.length:=λe=>by subst e;rw[FW] at hs;cases hs
  simp[J',this,hs],aI _,λ_=>rfl⟩
 have n8:∀i,i≠H.length->i≠id->(H.set id (.row true<|cs.set j (.own H.length 0 0 0))++[an.vec true 0 ai []])[i]? = H[i]?:=λi hi b7=>by
  rcases c7 i H.length with q|q
  ·rw[dJ<|by simpa using q,xk λe=>b7 e.symm]
  rw[db q,db<|by simp;omega]
 have Lh:(H.set id (.row true<|cs.set j (.own H.length 0 0 0))++[an.vec true 0 ai []])[id]? = some (.row true<|cs.set j (.own H.length 0 0 0)):=by
  rw[dJ<|by simpa using we,FU we]
 have lX:∀v,v=Value.slice none 0 0->rep J' F w (.own H.length 0 0 0) v:=λv hv=>by
  simp only[rep];exact⟨_,none,0,0,by simp[J'];rfl,hv,aI _,λ_=>⟨rfl,aI _,b9 _,rfl,rfl,.inl rfl⟩⟩
 refine⟨J',F,⟨hr.defers,hr.size,λu=>js hle (λ_ h=>h) (λ_ _=>rfl) _ _<|hr.tmps u,⟨λi s hs=>?_,λi i' s s' b g1 g2 g3 g4=>?_,λi s b o g1 g2 g3 g4=>?_,hr.ok.lt⟩,λi hi=>?_⟩,λi s hi hs=>?_,λb hb=>hb,λb ⟨i,s,hs,hb⟩=>?_,λb hb=>.inl hb⟩
 ·simp only[J'] at hs;split at hs
  ·rename_i e;subst e;cases hs;exact⟨.vec true 0 ai [],by simp,rfl,rfl,rfl,rfl,aI _,.inl rfl⟩
  rename_i e;obtain⟨o,h1,h2⟩:=hr.ok.obj i s hs;by_cases e2:i=id
  ·subst e2;have DQ:H[i]? = some o:=h1;rw[hid] at DQ;cases DQ;obtain⟨k1,k2,k3,k4,k5,b,vals,te,t1,t2,t3,t4,t5⟩:=h2;refine⟨_,Lh,k1,k2,k3,by rw[yS];exact k4,by rw[yS];exact k5,b,vals,te,t1,t2,by rw[yS];exact t3,qJ _ _ λq c hq=>?_,t5⟩;by_cases e3:q=j
   ·subst e3;rw[FU<|lO hj] at hq;cases hq;obtain⟨u,p1,p2,p3⟩:=sk _ _ _ _ hj t4;simp only[rep] at p3;exact⟨u,p1,p2,lX u p3⟩
   rw[xk λe=>e3 e.symm] at hq;obtain⟨u,p1,p2,p3⟩:=sk _ _ _ _ hq t4;exact⟨u,p1,p2,js hle (λ_ h=>h) (λ_ _=>rfl) _ _ p3⟩
  exact⟨o,by rw[n8 i e e2];exact h1,qO hle (λ_ h=>h) (λ_ _=>rfl) (λ_ _=>rfl) h2⟩
 ·simp only[J'] at g1 g2;split at g1
  ·cases g1;simp[Site.cP] at g3
  split at g2
  ·cases g2;simp[Site.cP] at g4
  exact hr.ok.one i i' s s' b g1 g2 g3 g4
 ·simp only[J'] at g1;split at g1
  ·cases g1;simp[Site.cP] at g2
  rename_i e;by_cases e2:i=id
  ·subst e2;exact hr.ok.apart i s b _ g1 g2 hid rfl
  exact hr.ok.apart i s b o g1 g2 (by rw[<-n8 i e e2];exact g3) g4
 ·simp only[J'] at hi;rw[cL,jt,yS];split at hi
  ·omega
  have:=hr.dom i hi;omega
 ·have:i≠H.length:=by omega
  simp[J',this,hs]
 simp only[J'] at hs;split at hs
 ·cases hs;simp[Site.cP] at hb
 exact⟨i,s,hs,hb⟩
end
section
def G6(S:aq)(H:aB)(env:Env):Env->Prop
 |[]=>True
 |(t,d)::r=>bR S H (gj t env) d/\G6 S H env r
def Xb(S:aq)(H:aB)(i:Nat):an->an->Prop
 | .row q cs,.row q' fC=>(q'=q\/(S i=true/\q'=false))/\(S i=true->q'=false)/\ck S H cs fC
 | .vec q v e xs,.vec q' v' e' x3=>(q'=q\/(S i=true/\q'=false))/\(S i=true->q'=false)/\v=v'/\e=e'/\cg S H xs x3
 | .dI q I,.dI q' I'=>(q'=q\/(S i=true/\q'=false))/\(S i=true->q'=false)/\I=I'
 |_,_=>False
def B8(S:aq)(H:aB):Nat->aB->aB->Prop
 |_,[],[]=>True
 |i,o::r,o'::r'=>Xb S H i o o'/\B8 S H (i+1) r r'
 |_,_,_=>False
theorem W3{S:aq}{H:aB}{env:Env}:∀(env':Env),G6 S H env env'->∀t,bR S H (gj t env) (gj t env')\/gj t env'=.dB
 |[],_,t=>.inr rfl
 |(k,d)::r,h,t=>by
  simp only[G6] at h;rw[AA];split
  ·rename_i e;subst e;exact .inl h.1
  exact W3 r h.2 t
theorem Uv{S:aq}{H:aB}:∀(l l':aB) (k:Nat),B8 S H k l l'->l.length=l'.length/\∀i (o:an),l[i]? = some o->∃o',l'[i]? = some o'/\Xb S H (k+i) o o'
 |[],[],k,_=>⟨rfl,λi o h=>by simp at h⟩
 |[],_::_,k,h=>by simp only[B8] at h
 |_::_,[],k,h=>by simp only[B8] at h
 |o::r,o'::r',k,h=>by
  simp only[B8] at h;obtain⟨h1,h2⟩:=Uv r r' (k+1) h.2;refine⟨by simp[h1],λi x hx=>?_⟩
  cases i with
  |zero=>simp at hx;subst hx;exact⟨o',rfl,h.1⟩
  |succ i =>
   obtain⟨y,q1,q2⟩:=h2 i x (by simpa using hx);exact⟨y,by simpa using q1,by rw[show k+(i+1)=k+1+i by omega];exact q2⟩
theorem vl{L n:Nat}(S:aq){env env':Env}{H H':aB}(hE:G6 S H env env')(hH:B8 S H 0 H H'):St.leB L n env H env' H':=λJ F a w hr=>by
 obtain⟨hlen,n8⟩:=Uv H H' 0 hH;have aA:=hr.ok;refine⟨J,λb=>F b\/wQ S J b,⟨hr.defers,hr.size,λt=>?_,⟨λi s hs=>?_,aA.one,λi s b o g1 g2 g3 g4=>?_,aA.lt.mono (λ_ h=>.inl h) (λ_ _=>rfl) λb hb=>hb.elim (aA.lt b) λ⟨i,s,_,h1,h2⟩=>aA.iH h1 h2⟩,λi hi=>by rw[<-hlen];exact hr.dom i hi⟩,λi s hi hs=>hs,λb hb=>.inl hb,λb hb=>hb,λb hb=>hb.imp_right λ⟨i,s,_,h1,h2⟩=>⟨i,s,h1,h2⟩⟩
 ·rcases W3 env' hE t with h1|e
  ·exact A6 aA _ _ _ h1<|hr.tmps t
  rw[e];simp only[rep]
 ·obtain⟨o,h1,h2⟩:=aA.obj i s hs;obtain⟨o',h3,h4⟩:=n8 i o h1;rw[jP] at h4;refine⟨o',h3,?_⟩
  cases o with
  |row q cs =>
   cases o' with
   |vec=>exact h4.elim
   |dI=>exact h4.elim
   |row q' fC =>
    obtain⟨p1,_,p2⟩:=h4;obtain⟨k1,k2,k3,k4,k5,b,vals,te,t1,t2,t3,t4,t5⟩:=h2;have hl:=Hy _ _ p2;refine⟨k1,k2,k3,by rw[<-hl];exact k4,by rw[<-hl];exact k5,b,vals,te,t1,t2,by rw[<-hl];exact t3,ED aA _ _ b 0 p2 t4,λe=>?_⟩;rcases p1 with rfl|⟨p1,_⟩
    ·exact .inl<|t5 e
    exact .inr ⟨i,s,p1,hs,by simp[Site.cP,k1,t1]⟩
  |vec q v e xs =>
   cases o' with
   |row=>exact h4.elim
   |dI=>exact h4.elim
   |vec q' v' e' x3 =>
    obtain⟨p1,_,rfl,rfl,p2⟩:=h4;obtain⟨k1,k2,k3,k4,k5,k6⟩:=h2;have hl:=AN _ _ p2;refine⟨k1,k2,k3,by rw[<-hl];exact k4,k5,?_⟩;by_cases hz:s.cap=0
    ·exact .inl hz
    rcases k6 with k6|⟨b,o,vals,te,t1,t2,t3,t4,t5⟩
    ·exact .inl k6
    refine .inr ⟨b,o,vals,te,t1,t2,t3,AU aA _ _ b e o p2 t4,λe=>?_⟩;rcases p1 with rfl|⟨p1,_⟩
    ·exact .inl<|t5 e
    exact .inr ⟨i,s,p1,hs,by simp[Site.cP,k1,hz,t1]⟩
  |dI q I =>
   cases o' with
   |row=>exact h4.elim
   |vec=>exact h4.elim
   |dI q' I' =>
    obtain⟨_,_,rfl⟩:=h4;exact h2
 obtain⟨o0,h1,h2⟩:=aA.obj i s g1;obtain⟨o',h3,h4⟩:=n8 i o0 h1;rw[jP] at h4;have o9:H'[i]? = some o:=g3;rw[h3] at o9;cases o9;have hm:¬S i=true/\o0.mut=true:=by
  cases o0 with
  |row q cs =>
   cases o with
   |vec=>exact h4.elim
   |dI=>exact h4.elim
   |row q' fC =>
    obtain⟨p1,p2,_⟩:=h4;simp only[an.mut] at g4⊢;refine⟨λh=>?_,?_⟩
    ·rw[p2 h] at g4;cases g4
    rcases p1 with rfl|⟨_,rfl⟩
    ·exact g4
    cases g4
  |vec q v e xs =>
   cases o with
   |row=>exact h4.elim
   |dI=>exact h4.elim
   |vec q' v' e' x3 =>
    obtain⟨p1,p2,_⟩:=h4;simp only[an.mut] at g4⊢;refine⟨λh=>?_,?_⟩
    ·rw[p2 h] at g4;cases g4
    rcases p1 with rfl|⟨_,rfl⟩
    ·exact g4
    cases g4
  |dI q I =>
   cases o with
   |row=>exact h4.elim
   |vec=>exact h4.elim
   |dI q' I' =>
    obtain⟨p1,p2,_⟩:=h4;simp only[an.mut] at g4⊢;refine⟨λh=>?_,?_⟩
    ·rw[p2 h] at g4;cases g4
    rcases p1 with rfl|⟨_,rfl⟩
    ·exact g4
    cases g4
 rintro(hx|⟨i',s',p1,p2,p3⟩)
 ·exact aA.apart i s b o0 g1 g2 h1 hm.2 hx
 have:=aA.one i i' s s' b g1 p2 g2 p3;subst this;exact hm.1 p1
end
def Es(env:Env):List Nat->(Env->Prop)->Prop
 |[],K=>K []
 |t::ts,K=>rh t (λd=>Es env ts λe=>K<|(t,d)::e) env
def Ez:Env->Env->(Env->Prop)->Prop
 |[],e,K=>K e
 |p::r,e,K=>Ez r e λE=>K<|p::E
def Bv:List (Nat×an)->aB->aB
 |[],H=>H
 |(i,o)::r,H=>Bv r<|H.set i o
def Gh:List (Nat×an)->aB->(aB->Prop)->Prop
 |[],H,K=>K H
 |(i,o)::r,H,K=>oI H i o λH'=>Gh r H' K
theorem M7(env:Env):∀(ts:List Nat) (K:Env->Prop),Es env ts K=K (ts.map λt=>(t,gj t env))
 |[],K=>rfl
 |t::ts,K=>by simp only[Es,xV,M7 env ts,dR]
theorem OY:∀(a e:Env) (K:Env->Prop),Ez a e K=K (a++e)
 |[],e,K=>rfl
 |p::r,e,K=>by simp only[Ez,OY r e,mJ]
theorem V2:∀(l:List<|Nat×an) (H:aB) (K:aB->Prop),Gh l H K->K (Bv l H)
 |[],H,K,h=>h
 |(i,o)::r,H,K,h=>by
  simp only[Gh,uP] at h;simp only[Bv];exact V2 r _ K h.2
theorem Kt{env:Env}:∀(a e:Env),qA env a->qA env e->qA env (a++e)
 |[],e,_,k=>k
 |(t,d)::r,e,h,k=>⟨h.1,Kt r e h.2 k⟩
theorem Od{env:Env}:∀ts:List Nat,qA env (ts.map λt=>(t,gj t env))
 |[]=>trivial
 |t::ts=>⟨rfl,Od ts⟩
variable{n:Nat}{env env':Env}{H H':aB}
theorem bf{L:Nat}(h:qA env env')(e:H=H'):St.leB L n env H env' H':=e▸xP h
structure ForK(P:bt)(n:Nat)(p:PC)(Q:iC)(env:Env)(H:aB){ι:Type}(upd:ι->Env)(BM:ι->List (Nat×an))(G:ι->Prop)(m:ι->Nat)(i:ι)(e:Env):Prop where
 fB:G i
 start:qA env<|upd i
 heap:H=Bv (BM i) H
 round:∀j,G j->Ez (upd j) e λE=>Gh (BM j) H λO=>PWp P n p (Oy H.length n Q (λj=>upd j++e) (λj=>Bv (BM j) H) G m<|m j) E O
variable{ι:Type}
theorem bT{P:bt}{n:Nat}{p:PC}{Q:iC}{env:Env}{H:aB}(kept:List Nat)(upd:ι->Env)(BM:ι->List (Nat×an))(G:ι->Prop)(m:ι->Nat)(i:ι)
  (h:Es env kept λe=>ForK P n p Q env H upd BM G m i e):PWp P n (.loop p) Q env H:=by
 rw[M7] at h;refine Ci (λj=>upd j++kept.map λt=>(t,gj t env)) (λj=>Bv (BM j) H) G m i h.fB (bf (Kt _ _ h.start<|Od _) h.heap) λj hj=>?_;have:=h.round j hj;rw[OY] at this;exact V2 _ _ _ this
section
variable{w w':aU}{B B' size n:Nat}{A:Option Addr}{xs:List aH}
end
section
variable{w w':aU}{g:Nat}{t:aY}{cs:Array aH}
end
inductive Tree where
 |node (kind n:Int) (kids:List Tree)
namespace Tree
instance:Inhabited Tree:=⟨.node 0 0 []⟩
def kind:Tree->Int|.node k _ _=>k
def num:Tree->Int|.node _ n _=>n
def kids:Tree->List Tree|.node _ _ ks=>ks
def aD(t:Tree)(j:Nat):Tree:=t.kids.getD j default
def width(t:Tree):Nat:=t.kids.length
theorem nP{t:Tree}{j:Nat}(h:j<t.kids.length):t.aD j=t.kids[j]:=by simp[aD,List.getD,aG h]
theorem eta(t:Tree):Tree.node t.kind t.num t.kids=t:=by cases t;rfl
theorem ind{p:Tree->Prop}(h:∀t:Tree,(∀j,j<t.width->p (t.aD j))->p t):∀t,p t:=by
 intro t;refine Tree.rec (motive_1:=p) (motive_2:=λks=>∀t∈ks,p t) ?_ ?_ ?_ t
 ·intro k n ks ih;refine h _ λj hj=>?_;rw[nP (t:=.node k n ks) hj];exact ih _<|ig hj
 ·intro t ht;cases ht
 intro t ts h1 h2 u hu;rcases dD.1 hu with rfl|hu
 ·exact h1
 exact h2 u hu
end Tree
def bD(k:Int):Int:=if k=1\/k=2\/k=3 then 0 else if k=4\/k=7\/k=10\/k=11 then 1 else if k=5\/k=6\/k=8\/k=9 then 2 else -1
def fX(k:Int):Int:=if k=1\/k=2\/k=3 then 0 else if k=4\/k=7\/k=8\/k=9\/k=11\/k=12\/k=13 then 1 else if k=5\/k=6\/k=10\/k=14 then 2 else -1
def fE(kd:Int->Int)(t:Tree):Prop:=kd t.kind≠(t.width:Int)\/t.num<0\/63<t.num\/(t.kind≠3/\t.num≠0)
instance (kd:Int->Int) (t:Tree):Decidable<|fE kd t:=by unfold fE;infer_instance
mutual
def fv(kd:Int->Int):Tree->Int->Int->Int×Int
 | .node k x ks,d,n =>
  if 60<n+1 then (2,n+1) else if 20<d then (5,n+1) else if fE kd (.node k x ks) then (1,n+1) else jl kd ks (d+1)<|n+1
def jl(kd:Int->Int):List Tree->Int->Int->Int×Int
 |[],_,n=>(0,n)
 |t::ts,d,n=>if (fv kd t d n).1=0 then jl kd ts d (fv kd t d n).2 else fv kd t d n
end
theorem P3(kd:Int->Int)(t:Tree)(d n:Int) :
  fv kd t d n=if 60<n+1 then (2,n+1) else if 20<d then (5,n+1) else if fE kd t then (1,n+1) else jl kd t.kids (d+1)<|n+1:=by
 cases t;rw[fv];rfl
variable{t:Tree}{j:Nat}
theorem XD(kd:Int->Int)(hj:j<t.width)(d n:Int) :
  jl kd (t.kids.drop j) d n=if (fv kd (t.aD j) d n).1=0 then jl kd (t.kids.drop<|j+1) d (fv kd (t.aD j) d n).2 else fv kd (t.aD j) d n:=by
 rw[uu hj,jl,Tree.nP hj]
variable(kd:Int->Int)
theorem Tf(t:Tree)(d n:Int):jl kd (t.kids.drop t.width) d n=(0,n):=by
 rw[Tree.width,wX,jl]
def aV(kd:Int->Int)(t:Tree):Int:=(fv kd t 1 0).1
mutual
theorem Mb(kd:Int->Int):∀(t:Tree) (d n:Int),n+1<=(fv kd t d n).2/\(n<=60->(fv kd t d n).2<=61)
 | .node k x ks,d,n=>by
  have:=Xr kd ks (d+1)<|n+1;rw[fv];split
  ·simp;omega
  split
  ·simp;omega
  split
  ·simp;omega
  omega
theorem Xr(kd:Int->Int):∀(ts:List Tree) (d n:Int),n<=(jl kd ts d n).2/\(n<=60->(jl kd ts d n).2<=61)
 |[],_,n=>by rw[jl];simp;omega
 |t::ts,d,n=>by
  have h1:=Mb kd t d n;have h2:=Xr kd ts d (fv kd t d n).2;have h3:=Ge kd t d n;rw[jl];split
  ·rename_i h;have:=h3 h;omega
  omega
theorem Ge(kd:Int->Int):∀(t:Tree) (d n:Int),(fv kd t d n).1=0->(fv kd t d n).2<=60
 | .node k x ks,d,n=>by
  have:=Qp kd ks (d+1)<|n+1;rw[fv];split
  ·simp
  split
  ·simp
  split
  ·simp
  intro h;exact this (by omega) h
theorem Qp(kd:Int->Int):∀(ts:List Tree) (d n:Int),n<=60->(jl kd ts d n).1=0->(jl kd ts d n).2<=60
 |[],_,n=>by rw[jl];simp
 |t::ts,d,n=>by
  have h1:=Ge kd t d n;have h2:=Qp kd ts d (fv kd t d n).2;intro hn;rw[jl];split
  ·rename_i h;exact h2<|h1 h
  intro h;contradiction
end
variable{a b:Tree}
theorem Tree.zv3(h1:a.kind=b.kind)(h2:a.num=b.num)(h3:a.width=b.width)(h4:∀j,j<a.width->a.aD j=b.aD j):a=b:=by
 rw[<-Tree.eta a,<-Tree.eta b,h1,h2]
 congr 1
 refine AT h3 λi hi bu=>?_;have:=h4 i hi;rwa [Tree.nP hi,Tree.nP bu] at this
open Classical in
noncomputable def eqT(a b:Tree):Bool:=decide (a=b)
theorem zws(h:a=b):true=eqT a b:=by simp[eqT,h]
theorem Rr(h:a≠b):false=eqT a b:=by simp[eqT,h]
theorem G9:eqT a b↔a=b:=by simp[eqT]
mutual
def Tree.size:Tree->Nat
 | .node _ _ ks=>1+Tree.ma ks
def Tree.ma:List Tree->Nat
 |[]=>0
 |t::ts=>t.size+Tree.ma ts
end
mutual
def Tree.depth:Tree->Nat
 | .node _ _ ks=>1+Tree.CQ ks
def Tree.CQ:List Tree->Nat
 |[]=>0
 |t::ts=>max t.depth<|Tree.CQ ts
end
mutual
def Tree.wf(kd:Int->Int):Tree->Prop
 | .node k n ks=>¬fE kd (.node k n ks)/\Tree.wfs kd ks
def Tree.wfs(kd:Int->Int):List Tree->Prop
 |[]=>True
 |t::ts=>t.wf kd/\Tree.wfs kd ts
end
theorem Tree.zsB:∀t:Tree,1<=t.depth:=λt=>by cases t;rw[Tree.depth];omega
mutual
theorem Uw(kd:Int->Int):∀(t:Tree) (d n:Int),(fv kd t d n).1=0↔(n+t.size<=60/\d+t.depth<=21/\t.wf kd)
 | .node k x ks,d,n=>by
  have h1:=Uj kd ks (d+1)<|n+1;rw[fv,Tree.size,Tree.depth,Tree.wf];by_cases c1:60<n+1
  ·rw[ae c1];simp;omega
  rw[aa c1];by_cases c2:20<d
  ·rw[ae c2];simp;omega
  rw[aa c2];by_cases c3:fE kd (.node k x ks)
  ·rw[ae c3];simp[c3]
  rw[aa c3,h1];constructor
  ·rintro⟨a,b,c⟩
   cases ks with
   |nil=>rw[Tree.ma,Tree.CQ] at *;exact⟨by omega,by omega,c3,c⟩
   |cons t ts=>have:=a (by simp);have:=b (by simp);exact⟨by omega,by omega,c3,c⟩
  rintro⟨a,b,_,c⟩;exact⟨by omega,λ_=>by omega,c⟩
theorem Uj(kd:Int->Int):∀(ts:List Tree) (d n:Int),(jl kd ts d n).1=0↔((ts≠[]->n+Tree.ma ts<=60)/\(ts≠[]->d+Tree.CQ ts<=21)/\Tree.wfs kd ts)
 |[],_,n=>by rw[jl,Tree.wfs];simp
 |t::ts,d,n=>by
  have h1:=Uw kd t d n;have h3:=O7 kd t d n;have h2:=Uj kd ts d (fv kd t d n).2;rw[jl,Tree.ma,Tree.CQ,Tree.wfs];have hd:=Tree.zsB t;by_cases c:(fv kd t d n).1=0
  ·rw[ae c,h2,h3 c];rw[h1] at c;obtain⟨c1,c2,c3⟩:=c
   cases ts with
   |nil=>rw[Tree.ma,Tree.CQ,Tree.wfs];simp[c3];omega
   |cons u us =>
    simp only[ne_eq,reduceCtorEq,not_false_eq_true,true_implies,c3,true_and];constructor
    ·rintro⟨a,b,e⟩;exact⟨by omega,by omega,e⟩
    rintro⟨a,b,e⟩;exact⟨by omega,by omega,e⟩
  rw[aa c];constructor
  ·intro h;exact absurd h c
  rintro⟨a,b,e⟩;refine absurd (h1.2 ⟨?_,?_,e.1⟩) c
  ·have:=a (by simp);omega
  have:=b (by simp);omega
theorem O7(kd:Int->Int):∀(t:Tree) (d n:Int),(fv kd t d n).1=0->(fv kd t d n).2=n+t.size
 | .node k x ks,d,n=>by
  have h1:=Vd kd ks (d+1)<|n+1;rw[fv,Tree.size];split
  ·simp
  split
  ·simp
  split
  ·simp
  intro h;rw[h1 h];omega
theorem Vd(kd:Int->Int):∀(ts:List Tree) (d n:Int),(jl kd ts d n).1=0->(jl kd ts d n).2=n+Tree.ma ts
 |[],_,n=>by rw[jl,Tree.ma];simp
 |t::ts,d,n=>by
  have h1:=O7 kd t d n;have h2:=Vd kd ts d (fv kd t d n).2;rw[jl,Tree.ma];split
  ·rename_i h;intro h';rw[h2 h',h1 h];omega
  intro h;contradiction
end
theorem qo(t:Tree):aV kd t=0↔(t.size<=60/\t.depth<=20/\t.wf kd):=by
 unfold aV;rw[Uw];constructor
 ·rintro⟨a,b,c⟩;exact⟨by omega,by omega,c⟩
 rintro⟨a,b,c⟩;exact⟨by omega,by omega,c⟩
theorem Xa(kd:Int->Int):∀ts:List Tree,Tree.wfs kd ts↔∀t∈ts,t.wf kd
 |[]=>by simp[Tree.wfs]
 |t::ts=>by rw[Tree.wfs,Xa kd ts];simp
theorem gK(t:Tree):t.wf kd↔¬fE kd t/\∀u∈t.kids,u.wf kd:=by
 cases t;rw[Tree.wf,Xa];rfl
theorem gy{kd:Int->Int}(h:t.wf kd)(hj:j<t.width):(t.aD j).wf kd:=by
 rw[Tree.nP hj];exact((gK kd t).1 h).2 _ (ig hj)
def bd(k n:Int):Tree:=.node k n []
def aW(k:Int)(a:Tree):Tree:=.node k 0 [a]
def bE(k:Int)(a b:Tree):Tree:=.node k 0 [a,b]
theorem qN(h:¬fE bD t):(t.kind=1\/t.kind=2\/t.kind=3)/\t.width=0\/(t.kind=4\/t.kind=7\/t.kind=10\/t.kind=11)/\t.width=1\/(t.kind=5\/t.kind=6\/t.kind=8\/t.kind=9)/\t.width=2:=by
 unfold fE bD at h
 (repeat' split at h)<;>omega
def tc(b:Bool):D:=aF b
@[simp] theorem zBt(b:Bool):Pure<|tc b:=by simp[tc,Pure]
def aL(l:af):D:=.a8 1<|l.map λn=>[ab n]
def bW(g:ak):D:=.a8 1<|g.map λl=>[aL l]
theorem cO{α:Type}(f:α->aZ)(h:∀a,ao<|f a):∀l:List α,dX (l.map f)
 |[]=>by simp only[gP,dX]
 |a::l=>by simp only[dR,dX];exact⟨h a,cO f h l⟩
variable(l:af)
@[simp] theorem c9:Pure<|aL l:=by
 simp only[aL,Pure];exact cO _ (λn=>by simp[ao,Pure]) l
@[simp] theorem lu(g:ak):Pure<|bW g:=by
 simp only[bW,Pure];exact cO _ (λl=>by simp[ao,c9]) g
mutual
def fT:Tree->aZ
 | .node k n ks=>[.sc (.int .i64 k),.sc (.int .i64 n),.a8 3<|wP ks]
def wP:List Tree->fp
 |[]=>[]
 |t::r=>fT t::wP r
end
def bx(t:Tree):aZ:=[ab t.kind,ab t.num,.a8 3<|t.kids.map fT]
def bn(t:Tree):D:=.agg<|bx t
theorem O6:∀l,wP l=l.map fT
 |[]=>by simp only[wP,gP]
 |t::r=>by simp only[wP,dR,O6 r]
variable(t:Tree)
theorem vw:fT t=bx t:=by
 cases t;simp only[fT,O6];rfl
mutual
theorem Dg:∀t:Tree,ao (fT t)
 | .node k n ks=>by simp only[fT,ao,Pure,true_and,and_true];exact Ts ks
theorem Ts:∀l:List Tree,dX (wP l)
 |[]=>by simp only[wP,dX]
 |t::r=>by simp only[wP,dX];exact⟨Dg t,Ts r⟩
end
@[simp] theorem dT:Pure<|bn t:=by simp only[bn,Pure];rw[<-vw];exact Dg t
theorem oX{H:aB}:∀l:aZ,im H l l
 |[]=>.nil
 |d::r=>.cons _ _ _ _ (.refl d)<|oX r
theorem fW{H:aB}:∀l:fp,lE H l l
 |[]=>.nil
 |d::r=>.cons _ _ _ _ (oX d)<|fW r
theorem NX:im H (bx t)<|fT t:=by rw[vw];exact oX _
inductive Small:Tree->Prop where
 |mk (t:Tree) (h:t.width<=9223372036854775807) (k:∀j,j<t.width->Small (t.aD j)):Small t
theorem Small.width{t:Tree}(h:Small t):t.kids.length<=9223372036854775807:=by cases h;assumption
theorem Small.aD{t:Tree}(h:Small t){j:Nat}(hj:j<t.width):Small<|t.aD j:=by cases h with|mk _ _ k=>exact k j hj
theorem wu:∀t:Tree,t.wf bD->Small t:=by
 intro t
 induction t using Tree.ind with
 |h t ih =>
  intro hw;refine .mk t ?_ λj hj=>ih j hj<|gy hw hj;have:=qN ((gK _ _).1 hw).1;omega
theorem bM{m:aq}{xs ys:fp}(h:xs=ys):cg m H xs ys:=h▸.refl xs
@[simp] theorem iv:ao<|bx t:=by rw[<-vw];exact Dg t
@[simp] theorem nH:dX<|t.kids.map fT:=cO _ Dg _
variable{α:Type}{k:Nat}
theorem Vz{β:Type}(f:α->β){l:List α}{a:α}(h:l[k]? = some a):List.drop 0 (List.take k<|(l.take k).map f)++[f a]=(l.take<|k+1).map f:=by
 rw[ft,fF<|by simp;omega,ld,h];simp
theorem kid_get? {t:Tree} {j:Nat} (h:j<t.width):t.kids[j]? = some (t.aD j):=by rw[Tree.nP h,aG h]
theorem gd{t:Tree}(h:j<t.width):(t.kids.map fT)[j]? = some (bx<|t.aD j):=by
 rw[cy,Tree.nP h,aG h,<-vw];rfl
variable{d:D}
theorem bL{e:D}(h:d=e):Deep H d e:=h▸.refl d
theorem qI{t u:Tree}(h:t=u)(k:Deep H d<|bn u):Deep H d<|bn t:=h▸k
section
variable{P:bt}{f:FuncId}
variable{args:aZ}{H0 H0':aB}
theorem sF(hA:cd P f args H0 d H0')(L R:aB)(hlen:H0'.length=H0.length)(gM:aK H0.length args)(oM:kl H0.length H0)
  {args2:aZ} {d2:D} {H H2:aB} (e1:bO (λi=>L.length+i) args=args2) (e2:D.aO (λi=>L.length+i) d=d2) (e3:L++(H0.map (an.aO λi=>L.length+i)++R)=H) (e4:L++(H0'.map (an.aO λi=>L.length+i)++R)=H2) :
  cd P f args2 H d2 H2:=by
 subst e1 e2 e3 e4;refine Np (λi=>L.length+i) hA (λi j _ _ h=>by omega) (λi o h=>?_) (λi h1 h2=>by omega) (by simp[hlen]) (λi o h=>?_) (λj hj b7=>?_) gM<|AI oM
 ·rw[fc<|by omega,vI,dJ<|by simpa using lO h,cy,h];rfl
 ·rw[fc<|by omega,vI,dJ<|by simpa using lO h,cy,h];rfl
 rcases c7 j L.length with h|h
 ·rw[dJ h,dJ h]
 have:H0.length<=j-L.length:=by
  rcases c7 (j-L.length) H0.length with q|q
  ·exact absurd (by omega)<|b7 (j-L.length) q
  exact q
 rw[fc h,fc h,fc<|by simp;omega,fc<|by simp;omega];simp[hlen]
theorem sl(hA:cd P f args H0 d H0')(R:aB)(hlen:H0'.length=H0.length)(gM:aK H0.length args)(oM:kl H0.length H0):cd P f args (H0++R) d<|H0'++R:=by
 have h:(λi=>([]:aB).length+i)=λi=>i:=by funext i;simp
 refine sF hA [] R hlen gM oM ?_ ?_ ?_ ?_<;>rw[h]
 ·exact uQ _
 ·exact HH _
 ·rw[show(an.aO λi=>i)=id from funext G5];simp
 rw[show(an.aO λi=>i)=id from funext G5];simp
end
variable{c:Bool}{A B:Prop}
theorem GL(h:c)(k:A):ifK c A B:=by subst h;exact k
theorem FX(h:c=false)(k:B):ifK c A B:=by subst h;exact k
def cutQ{ι:Type}(L n:Nat)(Q:iC)(E:ι->Env)(O:ι->aB)(G:ι->Prop):iC
 | .normal,env,H=>∃i,G i/\St.leB L n env H (E i) (O i)
 |e,env,H=>Q e env H
variable{P:bt}{p:PC}{Q:iC}
theorem Bo(E:ι->Env)(O:ι->aB)(G:ι->Prop)(h1:PWp P n p (cutQ H.length n Q E O G) env H)
  (h2:∀i,G i->Q .normal (E i) (O i)):PWp P n p Q env H:=rL λc hc J F a w hr=>by
 refine wp_mono (qK h1 hc hr) λe a2 w2 ⟨env',H',J',F',q1,q2,q3⟩=>?_
 cases e with
 |normal =>
  obtain⟨i,r1,r2⟩:=q1;obtain⟨J2,F2,t1,t2,t3,t4,t5⟩:=r2 J' F' a2 w2 q2;exact⟨E i,O i,J2,F2,h2 i r1,t1,I6 hr.dom q3 t2 t3 t4 t5⟩
 |_=>exact⟨env',H',J',F',q1,q2,q3⟩
variable{m:Nat}
@[simp] theorem zx9:aK m (fT t)↔True:=⟨λ_=>trivial,λ_=>cu _<|Dg t⟩
variable{ρ:Nat->Nat}
@[simp] theorem zC4:D.aO ρ (bn t)=bn t:=iK _<|dT t
instance (n:Nat):OfNat aT n:=⟨.tmp n⟩
def cI(n:Int):aT:=.const (.int .i64 n)
def cS(l:Array UInt8):aT:=.const (.string ⟨l⟩)
def cT:aT:=.const (.bool true)
def cF:aT:=.const (.bool false)
def cN:aT:=.const (.slice none 0 0)
def GT(d g:Nat)(o:POp):cE:=⟨some d,o,some (g,true),0⟩
def GF(d g:Nat)(o:POp):cE:=⟨some d,o,some (g,false),0⟩
def Fa(d k:Nat)(x:aT):cE:=q d (.gU k x)
def Lo(d:Nat)(x:aT):cE:=q d (.fu x)
def LA(d n:Nat)(x:aT):cE:=q d (.r8 n x)
def Xt(d k:Nat)(x:aT):cE:=q d (.ext k x)
def Bx(d:Nat)(x:aT):cE:=q d (.box x)
def Nt(d:Nat)(x:aT):cE:=q d (.un .not x)
def Ln(d:Nat)(x:aT):cE:=q d (.len x)
def Mv(d:Nat)(x:aT):cE:=q d (.move x)
def Bi(d:Nat)(o:BinOp)(x y:aT):cE:=q d (.bin o x y)
def Ia(d e:Nat)(x y:aT):cE:=q d (.lg e x y)
def Ap(d e b:Nat)(x y:aT):cE:=q d (.append e b x y)
def Pk(d:Nat)(c x y:aT):cE:=q d (.pick c x y)
def Ca(d:Nat)(f:FuncId)(l:List aT):cE:=q d (.call f l)
def Bs(d e n:Nat)(l:List aT):cE:=q d (.pX e n l)
def So(n:Nat)(x y:aT):cE:=qn (.store n x y)
abbrev OP(l:List cE):PC:=.ops l false
abbrev SO(l:List cE)(p:PC):PC:=.seq (.ops l false) p
abbrev If(c:aT)(p:PC):PC:=.cond c p .skip
abbrev CX(c:aT)(n:Nat):PC:=.cond c .skip (.exit n)
abbrev BL(n:Nat)(p:PC):PC:=.block n (.loop p)
def Ld(d:Nat)(x:aT)(m:Nat):cE:=qd d (.fu x) m
def Ja(d e:Nat)(x y:aT)(m:Nat):cE:=qd d (.lg e x y) m
def Bd(d:Nat)(o:BinOp)(x y:aT)(m:Nat):cE:=qd d (.bin o x y) m
def Fd(d k:Nat)(x:aT)(m:Nat):cE:=qd d (.gU k x) m
def Md(d:Nat)(x:aT)(m:Nat):cE:=qd d (.move x) m
def Cd(d:Nat)(f:FuncId)(l:List aT)(m:Nat):cE:=qd d (.call f l) m
def K0:aT:=.const (.int .i64 0)
def K1:aT:=.const (.int .i64 1)
def K2:aT:=.const (.int .i64 2)
def K3:aT:=.const (.int .i64 3)
def K4:aT:=.const (.int .i64 4)
def K5:aT:=.const (.int .i64 5)
def K6:aT:=.const (.int .i64 6)
def K7:aT:=.const (.int .i64 7)
def K8:aT:=.const (.int .i64 8)
def K9:aT:=.const (.int .i64 9)
abbrev vN:aH:=.slice none 0 0
abbrev v0:aH:=.int .i64 0
abbrev v8:aH:=.int .i8 0
abbrev vF:aH:=.bool false
abbrev vS:aH:=.string ⟨#[]⟩
theorem fK {P : Program} {f : FuncId} {n : Nat} {rs : List RV} {p : PC} {fn : Func} (h : P.funcs[f]? = some fn) (a : fn.ntmps = n := by rfl) (b : (fn.name == "runtime.NumGoroutine") = false := by kernel_rfl) (c : wk P fn.results.toList = some rs := by rfl) (d : fn.body.bind (comp P n) = some p.bare := by kernel_rfl) : pj P f n rs p := ⟨⟨fn, h, a, b, c, d⟩⟩
theorem fJ {P : Program} {f : FuncId} (n : Nat) (rs : List RV) (p : PC) {fn : Func} (h : P.funcs[f]? = some fn) (a : fn.ntmps = n := by rfl) (b : (fn.name == "runtime.NumGoroutine") = false := by kernel_rfl) (c : wk P fn.results.toList = some rs := by rfl) (d : fn.body.bind (comp P n) = some p.bare := by kernel_rfl) : pj P f n rs p := ⟨⟨fn, h, a, b, c, d⟩⟩
variable{f:FuncId}{rs:List RV}{args:aZ}
theorem bz(hf:pj P f n rs p)(h:PWp P n p (BZ rs λr H=>Deep H r d) (params 0 args) [])(hn:args.length<=n:=by simp)(hp:ao args:=by simp[ao,Pure])(hd:Pure d:=by simp[ao,Pure]):ar P f args d:=fi hf hn hp h hd
theorem sO(h:A:=by((try simp only[oo,reduceCtorEq]at*)<;>omega)):A:=h
theorem zo(h:A:=by omega):A:=h
theorem zs(h:A:=by simp):A:=h
theorem zd(h:A:=by(dsimp only;omega)):A:=h
theorem zc(h:A:=by decide):A:=h
theorem sW(b:B)(e:B->A:=by(intro h;((conv=>whnf);repeat(refine⟨rfl,?_⟩;conv=>whnf));exact h)):A:=e b
theorem sR{f:WP}(b:B)(h:Rd P n p f:=by(focus (repeat' constructor)))(e:B->f Q env H:=by(intro h;((conv=>whnf);repeat(refine⟨rfl,?_⟩;conv=>whnf));exact h)):PWp P n p Q env H:=yB h<|e b
theorem sS{A' B':Prop}(a:c->A')(b:c=false->B')(e:c->A'->A:=by(intro h k;rw[h];((conv=>whnf);repeat(refine⟨rfl,?_⟩;conv=>whnf));exact k))(g:c=false->B'->B:=by(intro h k;rw[h];((conv=>whnf);repeat(refine⟨rfl,?_⟩;conv=>whnf));exact k)):ifK c A B:=xa (λh=>e h<|a h) λh=>g h<|b h
variable{K:D->Prop}{R:Prop}
theorem sC(t:ar P f args d)(b:B)(e:B->K d:=by(intro h;((conv=>whnf);repeat(refine⟨rfl,?_⟩;conv=>whnf));exact h)):(∃d,ar P f args d/\K d)\/R:=.inl ⟨d,t,e b⟩
variable{H2:aB}{X Y:Prop}
theorem sA{K:D->aB->Prop}(t:cd P f args H d H2)(b:B)(e:B->K d H2:=by(intro h;((conv=>whnf);repeat(refine⟨rfl,?_⟩;conv=>whnf));exact h)):X\/Y\/(true=true/\∃d H2,cd P f args H d H2/\K d H2)\/R:=.inr (.inr (.inl ⟨rfl,d,H2,t,e b⟩))
variable{L:List Nat}
theorem sE{K:D->aB->List Nat->Prop}{Z U:Prop}(t:qx P f args H d H2 L)(b:B)(e:B->K d H2 L:=by(intro h;((conv=>whnf);repeat(refine⟨rfl,?_⟩;conv=>whnf));exact h)):X\/Y\/Z\/U\/(∃d H2 L,qx P f args H d H2 L/\K d H2 L)\/R:=.inr (.inr (.inr (.inr (.inl ⟨d,H2,L,t,e b⟩))))
theorem sX{K:D->List Nat->Prop}{Z U V W:Prop}(t:BV P f args H d L)(b:B)(e:B->K d L:=by(intro h;((conv=>whnf);repeat(refine⟨rfl,?_⟩;conv=>whnf));exact h)):X\/Y\/Z\/U\/V\/W\/(∃d L,BV P f args H d L/\K d L):=.inr (.inr (.inr (.inr (.inr (.inr ⟨d,L,t,e b⟩)))))
theorem P4{l:fp}(h:l.length<=n):lE H (List.drop 0<|List.take n l) l:=by rw[ft,fF h];exact fW _
variable{args':aZ}
theorem sN(t:ar P f args' d)(b:B)(h:im H args args':=by(repeat' (first|exact Deep.refl _|exact Deep.none _|exact NX _|exact im.nil|exact lE.nil|refine Deep.agg _ _ ?_|refine Deep.aJ _ _ ?_|refine Deep.own _ _ _ _ _ _ _ _ rfl ?_|refine Deep.loc _ _ _ _ _ rfl ?_|refine Deep.ifc _ _ _ ?_|refine Deep.fn _ _ _ _ _ ?_ ?_|refine im.cons _ _ _ _ ?_ ?_|refine lE.cons _ _ _ _ ?_ ?_|exact fW _|exact P4 (by first|(simp;done)|(simp[aE];done)))))(r:FC d:=by rfl)(e:B->K d:=by(intro h;((conv=>whnf);repeat(refine⟨rfl,?_⟩;conv=>whnf));exact h)):X\/(∃args' d,im H args args'/\ar P f args' d/\FC d/\K d)\/R:=.inr (.inl ⟨args',d,h,t,r,e b⟩)
theorem sV{Z U V:Prop}(t:ar P f args' d)(b:B)(h:im H args args':=by(repeat' (first|exact Deep.refl _|exact Deep.none _|exact NX _|exact im.nil|exact lE.nil|refine Deep.agg _ _ ?_|refine Deep.aJ _ _ ?_|refine Deep.own _ _ _ _ _ _ _ _ rfl ?_|refine Deep.loc _ _ _ _ _ rfl ?_|refine Deep.ifc _ _ _ ?_|refine Deep.fn _ _ _ _ _ ?_ ?_|refine im.cons _ _ _ _ ?_ ?_|refine lE.cons _ _ _ _ ?_ ?_|exact fW _|exact P4 (by first|(simp;done)|(simp[aE];done)))))(e:B->K d:=by(intro h;((conv=>whnf);repeat(refine⟨rfl,?_⟩;conv=>whnf));exact h)):X\/Y\/Z\/U\/V\/(true=true/\∃args' d,im H args args'/\ar P f args' d/\K d)\/R:=.inr (.inr (.inr (.inr (.inr (.inl ⟨rfl,args',d,h,t,e b⟩)))))
theorem sL{o:Option α}{a:α}{K:α->Prop}(t:o=some a)(b:B)(h:X:=by omega)(e:B->K a:=by(intro h;((conv=>whnf);repeat(refine⟨rfl,?_⟩;conv=>whnf));exact h)):X/\∃a,o=some a/\K a:=⟨h,a,t,e b⟩
variable{K:Prop}
theorem sJ(b:B)(h:A:=by(unfold mu;simp only[ll];omega))(e:B->K:=by(intro h;((conv=>whnf);repeat(refine⟨rfl,?_⟩;conv=>whnf));exact h)):A/\K:=⟨h,e b⟩
theorem sI{k:IntKind}{z:Int}(b:B)(h:dW k z:=by(unfold dW;rw[fU];omega))(e:B->K:=by(intro h;((conv=>whnf);repeat(refine⟨rfl,?_⟩;conv=>whnf));exact h)):(dW k z/\K)\/R:=.inl ⟨h,e b⟩
theorem sB(b:B)(h:X:=by omega)(g:Y:=by(first|omega|(simp;done)|(simp;omega)|(simp only[ll];omega)))(e:B->K:=by(intro h;((conv=>whnf);repeat(refine⟨rfl,?_⟩;conv=>whnf));exact h)):X/\Y/\K:=⟨h,g,e b⟩
theorem sP(h:A:=by(repeat' (first|exact Deep.refl _|exact Deep.none _|exact NX _|exact im.nil|exact lE.nil|refine Deep.agg _ _ ?_|refine Deep.aJ _ _ ?_|refine Deep.own _ _ _ _ _ _ _ _ rfl ?_|refine Deep.loc _ _ _ _ _ rfl ?_|refine Deep.ifc _ _ _ ?_|refine Deep.fn _ _ _ _ _ ?_ ?_|refine im.cons _ _ _ _ ?_ ?_|refine lE.cons _ _ _ _ ?_ ?_|exact fW _))):A:=h
theorem sD(h:A:=by(repeat' (first|exact trivial|exact bR.none _|refine And.intro ?_ ?_|exact Or.inl rfl|exact Or.inr ⟨rfl,rfl⟩|exact λ_=>rfl|exact(λh=>by cases h)|refine bR.loc _ _ _ _ _ rfl rfl ?_|refine bR.own _ _ _ _ _ _ _ _ rfl rfl ?_|refine bR.fn _ _ _ _ _ ?_ ?_|refine bR.agg _ _ ?_|refine bR.aJ _ _ ?_|refine bR.ifc _ _ _ ?_|exact bR.refl _|refine ck.cons _ _ _ _ ?_ ?_|exact ck.refl _|refine cg.cons _ _ _ _ ?_ ?_|exact cg.refl _|exact rfl))):A:=h
theorem sQ(h:A:=by(repeat' (first|exact trivial|exact rfl|exact bR.refl _|exact ck.refl _|exact cg.refl _|refine And.intro ?_ ?_|(simp[az,aK,bN,-List.map_take,-List.map_drop];done)))):A:=h
theorem sU(b:B)(e:B->A:=by(intro h;(repeat' (first|exact trivial|exact rfl|exact bR.refl _|exact ck.refl _|exact cg.refl _|refine And.intro ?_ ?_|(simp[az,aK,bN,-List.map_take,-List.map_drop];done)|exact h)))):A:=e b
theorem sK(h:A:=by(repeat' (first|exact trivial|refine And.intro rfl ?_))):A:=h
theorem sWR(b:B)(e:B->A:=by(intro h;((conv=>whnf);repeat(refine⟨rfl,?_⟩;conv=>whnf));(apply yB;focus (repeat' constructor));((conv=>whnf);repeat(refine⟨rfl,?_⟩;conv=>whnf));exact h)):A:=e b
theorem bJ(b:B)(e:B->A:=by(intro h;((conv=>whnf);repeat(refine⟨rfl,?_⟩;conv=>whnf));refine .inl ⟨by(clear h;unfold dW;rw[fU];omega),?_⟩;((conv=>whnf);repeat(refine⟨rfl,?_⟩;conv=>whnf));exact h)):A:=e b
theorem ew(b:B)(e:B->A:=by(intro h;((conv=>whnf);repeat(refine⟨rfl,?_⟩;conv=>whnf));refine⟨by(clear h;omega),(by(clear h;first|omega|(simp;done)|(simp;omega)|(simp only[ll];omega))),?_⟩;((conv=>whnf);repeat(refine⟨rfl,?_⟩;conv=>whnf));exact h)):A:=e b
theorem sWJ(b:B)(e:B->A:=by(intro h;((conv=>whnf);repeat(refine⟨rfl,?_⟩;conv=>whnf));refine⟨by(clear h;unfold mu;simp only[ll];omega),?_⟩;((conv=>whnf);repeat(refine⟨rfl,?_⟩;conv=>whnf));exact h)):A:=e b
theorem sJI(b:B)(e:B->A:=by(intro h;refine⟨by(clear h;unfold mu;simp only[ll];omega),?_⟩;((conv=>whnf);repeat(refine⟨rfl,?_⟩;conv=>whnf));refine .inl ⟨by(clear h;unfold dW;rw[fU];omega),?_⟩;((conv=>whnf);repeat(refine⟨rfl,?_⟩;conv=>whnf));exact h)):A:=e b
theorem mQ(b:B)(e:B->A:=by(intro h;((conv=>whnf);repeat(refine⟨rfl,?_⟩;conv=>whnf));refine⟨by(clear h;unfold mu;simp only[ll];omega),?_⟩;((conv=>whnf);repeat(refine⟨rfl,?_⟩;conv=>whnf));refine .inl ⟨by(clear h;unfold dW;rw[fU];omega),?_⟩;((conv=>whnf);repeat(refine⟨rfl,?_⟩;conv=>whnf));exact h)):A:=e b
theorem sIB(b:B)(e:B->A:=by(intro h;refine .inl ⟨by(clear h;unfold dW;rw[fU];omega),?_⟩;((conv=>whnf);repeat(refine⟨rfl,?_⟩;conv=>whnf));refine⟨by(clear h;omega),(by(clear h;first|omega|(simp;done)|(simp;omega)|(simp only[ll];omega))),?_⟩;((conv=>whnf);repeat(refine⟨rfl,?_⟩;conv=>whnf));exact h)):A:=e b
variable{C:Prop}
theorem bl(a:c->B)(b:c=false->C)(e:(c=true->B)->(c=false->C)->A:=by(intro h k;((conv=>whnf);repeat(refine⟨rfl,?_⟩;conv=>whnf));(apply yB;focus (repeat' constructor));((conv=>whnf);repeat(refine⟨rfl,?_⟩;conv=>whnf));exact xa (λq=>by(rw[q];((conv=>whnf);repeat(refine⟨rfl,?_⟩;conv=>whnf));exact h q)) λq=>by(rw[q];((conv=>whnf);repeat(refine⟨rfl,?_⟩;conv=>whnf));exact k q))):A:=e a b
theorem sRS(a:c->B)(b:c=false->C)(e:(c=true->B)->(c=false->C)->A:=by(intro h k;(apply yB;focus (repeat' constructor));((conv=>whnf);repeat(refine⟨rfl,?_⟩;conv=>whnf));exact xa (λq=>by(rw[q];((conv=>whnf);repeat(refine⟨rfl,?_⟩;conv=>whnf));exact h q)) λq=>by(rw[q];((conv=>whnf);repeat(refine⟨rfl,?_⟩;conv=>whnf));exact k q))):A:=e a b
theorem sWS(a:c->B)(b:c=false->C)(e:(c=true->B)->(c=false->C)->A:=by(intro h k;((conv=>whnf);repeat(refine⟨rfl,?_⟩;conv=>whnf));exact xa (λq=>by(rw[q];((conv=>whnf);repeat(refine⟨rfl,?_⟩;conv=>whnf));exact h q)) λq=>by(rw[q];((conv=>whnf);repeat(refine⟨rfl,?_⟩;conv=>whnf));exact k q))):A:=e a b
theorem gp(b:B)(e:B->A:=by(intro h;((conv=>whnf);repeat(refine⟨rfl,?_⟩;conv=>whnf));exact⟨by(clear h;omega),by exact sK,rfl,h⟩)):A:=e b
theorem fZ {P : Program} {f : FuncId} {n : Nat} {rs : List RV} {p : PC} {fn : Func} (h : P.funcs[f]? = some fn := by (conv=>lhs;whnf)) (a : fn.ntmps = n := by (conv=>lhs;whnf)) (b : (fn.name == "runtime.NumGoroutine") = false := by kernel_rfl) (c : wk P fn.results.toList = some rs := by (conv=>lhs;reduce)) (d : fn.body.bind (comp P n) = some p := by (conv=>lhs;reduce;(try simp only [Int.reduceOfNat, Int.reduceNegSucc]))) (e : p.bare = p := by rfl) : pj P f n rs p := ⟨⟨fn, h, a, b, c, by rw [e]; exact d⟩⟩
theorem bV{w:WP}(b:B)(hf:pj P f n rs p:=by exact fZ)(g:Rd P n p w:=by(focus (repeat' constructor)))(e:B->w (BZ rs λr H=>Deep H r d) (params 0 args) []:=by(intro h;((conv=>whnf);repeat(refine⟨rfl,?_⟩;conv=>whnf));exact h))(hn:args.length<=n:=by simp)(hp:ao args:=by simp[ao,Pure])(hd:Pure d:=by simp[ao,Pure]):ar P f args d:=bz hf (yB g<|e b) hn hp hd
mutual
def lens{H:Type}(L:Nat):DataW H->Prop
 | .lit (.string b)=>b.length<=L
 | .lit _=>True
 | .slice elems _=>elems.length<=L/\x4 L elems
 | .agg parts=>x4 L parts
 |_=>True
def x4{H:Type}(L:Nat):List (DataW H)->Prop
 |[]=>True
 |d::r=>lens L d/\x4 L r
end
theorem N2{H:Type}{L:Nat}:∀{l:List<|DataW H},x4 L l->∀d∈l,lens L d
 |[],_,_,h=>by cases h
 |x::r,h,d,hd=>by
  simp only[x4] at h;rcases dD.1 hd with rfl|hd
  ·exact h.1
  exact N2 h.2 d hd
mutual
inductive jG(P:bt)(L:Nat):aY->aZ->Prop
 |bool (t:aY) (b:Bool) (ht:P.underlying t=some .bool):jG P L t [.sc (.bool b)]
 |int (t:aY) (k:IntKind) (n:Int) (ht:P.underlying t=some (.int k)) (h:k.min<=n/\n<=k.max):jG P L t [.sc (.int k n)]
 |str (t:aY) (s:aM) (ht:P.underlying t=some .string) (h:s.size<=140737488351232) (hL:L=0\/s.size<=L):jG P L t [.sc (.string s)]
 |slice (t e:aY) (xs:fp) (ht:P.underlying t=some (.slice e)) (hn:xs.length<=9223372036854775807/\xs.length*P.bytesOf e<=140737488351232) (hL:L=0\/xs.length<=L) (h:uw P L e xs):jG P L t [.a8 (P.cellsOf e) xs]
 |struct (t:aY) (fs:Array Field) (cs:aZ) (ht:P.underlying t=some (.struct fs)) (h:oq P L (fs.toList.map (·.type)) cs):jG P L t cs
inductive oq(P:bt)(L:Nat):List aY->aZ->Prop
 |nil:oq P L [] []
 |cons (t:aY) (ts:List aY) (a b:aZ) (h:jG P L t a) (k:oq P L ts b):oq P L (t::ts) (a++b)
inductive uw(P:bt)(L:Nat):aY->fp->Prop
 |nil (e:aY):uw P L e []
 |cons (e:aY) (x:aZ) (r:fp) (h:jG P L e x) (k:uw P L e r):uw P L e (x::r)
end
abbrev OfT(P:bt):=jG P 0
abbrev OfTL(P:bt):=uw P 0
section
variable{P:bt}{L:Nat}{t:aY}{cs:aZ}
variable{k:IntKind}
theorem of_int(ht:P.underlying t=some (.int k))(h:jG P L t cs):∃n,cs=[.sc (.int k n)]/\k.min<=n/\n<=k.max:=by
 cases h<;>simp_all
theorem zyp(ht:P.underlying t=some .string)(h:jG P L t cs):∃s:aM,cs=[.sc (.string s)]/\s.size<=140737488351232:=by
 cases h<;>simp_all
theorem zBc(ht:P.underlying t=some .string)(h:jG P L t cs):∃s:aM,cs=[.sc (.string s)]/\s.size<=9223372036854775807:=by
 obtain⟨s,e,h⟩:=zyp ht h;exact⟨s,e,by omega⟩
variable{e:aY}
theorem ztw(ht:P.underlying t=some (.slice e))(h:jG P L t cs):∃xs,cs=[.a8 (P.cellsOf e) xs]/\(xs.length<=9223372036854775807/\xs.length*P.bytesOf e<=140737488351232)/\uw P L e xs:=by
 cases h<;>simp_all
theorem of_slice(ht:P.underlying t=some (.slice e))(h:jG P L t cs):∃xs,cs=[.a8 (P.cellsOf e) xs]/\xs.length<=9223372036854775807/\uw P L e xs:=by
 obtain⟨xs,e,h,k⟩:=ztw ht h;exact⟨xs,e,h.1,k⟩
theorem of_struct{fs:Array Field}(ht:P.underlying t=some (.struct fs))(h:jG P L t cs):oq P L (fs.toList.map (·.type)) cs:=by
 cases h<;>simp_all
theorem y9(h:oq P L [] cs):cs=[]:=by cases h;rfl
variable{ts:List aY}
theorem tN(h:oq P L (t::ts) cs):∃a b,cs=a++b/\jG P L t a/\oq P L ts b:=by
 cases h with
 |cons t ts a b h k=>exact⟨a,b,rfl,h,k⟩
theorem ot(ht:P.underlying t=some (.int k))(h:oq P L (t::ts) cs):∃n b,cs=.sc (.int k n)::b/\(k.min<=n/\n<=k.max)/\oq P L ts b:=by
 obtain⟨a,b,rfl,ha,hb⟩:=tN h;obtain⟨n,rfl,hn⟩:=of_int ht ha;exact⟨n,b,rfl,hn,hb⟩
theorem Qb(ht:P.underlying t=some .string)(h:oq P L (t::ts) cs):∃(s:aM) (b:aZ),cs=.sc (.string s)::b/\s.size<=9223372036854775807/\oq P L ts b:=by
 obtain⟨a,b,rfl,ha,hb⟩:=tN h;obtain⟨n,rfl,hn⟩:=zBc ht ha;exact⟨n,b,rfl,hn,hb⟩
theorem RD(ht:P.underlying t=some (.slice e))(h:oq P L (t::ts) cs):∃xs b,cs=.a8 (P.cellsOf e) xs::b/\xs.length<=9223372036854775807/\uw P L e xs/\oq P L ts b:=by
 obtain⟨a,b,rfl,ha,hb⟩:=tN h;obtain⟨n,rfl,h1,h2⟩:=of_slice ht ha;exact⟨n,b,rfl,h1,h2,hb⟩
end
def DT(P:bt):List Field->Nat->Nat->Bool
 |[],o,n=>o==n
 |f::r,o,n=>f.offset==o&&DT P r (o+P.cellsOf f.type) n
def FZ(P:bt)(S:List aY):Bool:=S.all λt=>match P.underlying t with
 |some .bool|some .string=>true
 |some (.int _)=>true
 |some (.slice e)=>S.contains e&&decide (0<P.cellsOf e)
 |some (.struct fs)=>DT P fs.toList 0 (P.cellsOf t)&&fs.toList.all λf=>S.contains f.type
 |_=>false
section
variable{P:bt}
theorem RK{L:Nat}{e:aY}:∀{xs:fp},(∀x∈xs,jG P L e x)->uw P L e xs
 |[],_=>.nil e
 |x::r,h=>.cons e x r (h x<|by simp)<|RK λy hy=>h y<|by simp[hy]
theorem XK{L:Nat}{e:aY}:∀{xs:fp},uw P L e xs->∀x∈xs,jG P L e x
 |_,.nil _,x,h=>by cases h
 |_,.cons _ y r h k,x,hx=>by
  rcases dD.1 hx with rfl|hx
  ·exact h
  exact XK k x hx
variable{H:Type}{enc:aY×aH->H}{W:aU}{spare:aq}{held:Bool}
def py(W:aU):Nat->Prop:=λb=>b<W.heap.size
theorem QB{L:Nat}{cs:List aH}{N:Nat}(hl:cs.length=N):∀(l:List Field) (o:Nat),DT P l o N=true ->
  (∀f∈l,∃ds,jG P L f.type ds/\bj jI (py W) W ds ((cs.drop f.offset).take<|P.cellsOf f.type)/\(∀v∈(cs.drop f.offset).take (P.cellsOf f.type),fH v)) ->
  ∃ds,oq P L (l.map (·.type)) ds/\bj jI (py W) W ds (cs.drop o)/\∀v∈cs.drop o,fH v=true
 |[],o,ho,_=>by
  simp only[DT,gC] at ho;refine⟨[],.nil,?_,?_⟩
  ·simp only[bj];exact FT<|by omega
  rw[FT<|by omega];intro v hv;cases hv
 |f::r,o,ho,h=>by
  simp only[DT,dL,gC] at ho;obtain⟨Ka,NW⟩:=ho;obtain⟨a,h1,h2,h3⟩:=h f (by simp);obtain⟨b,k1,k2,k3⟩:=QB hl r (o+P.cellsOf f.type) NW λg hg=>h g (by simp[hg]);rw[Ka] at h2 h3;have e:cs.drop o=(cs.drop o).take (P.cellsOf f.type)++cs.drop (o+P.cellsOf f.type):=by
   rw[<-List.drop_drop,List.take_append_drop]
  refine⟨a++b,.cons _ _ _ _ h1 k1,?_,?_⟩
  ·rw[e];exact En h2 k2
  intro v hv;rw[e] at hv;rcases de.1 hv with hv|hv
  ·exact h3 v hv
  exact k3 v hv
theorem S8{e:aY}:∀{ds:List<|DataW H} {d:DataW H},d∈ds->∀n∈d.weights P e,n∈DataW.weightsAll P e ds
 |d0::ds,d,hd,n,hn=>by
  simp only[DataW.weightsAll,de];rcases dD.1 hd with rfl|hd
  ·exact .inl hn
  exact .inr<|S8 hd n hn
 |[],_,hd,_,_=>by cases hd
variable{L:Nat}{S:List aY}
theorem zsF(hS:FZ P S):∀(fuel:Nat) (t:aY) (cs:List aH) (x:DataW H×List MemPlace),t∈S->DataW.trod enc P W 0 spare held fuel t cs=some x->(∀n∈x.1.weights P t,n<=reachBytes)->(L=0\/lens L x.1) ->
  ∃ds,jG P L t ds/\bj jI (py W) W ds cs/\∀v∈cs,fH v:=by
 intro fuel
 induction fuel using Nat.strongRecOn with
 |ind fuel ih =>
  intro t cs x ht h hz hL;have hT:=kv.1 hS t ht;split at hT
  ·rename_i hu;obtain⟨b,rfl,_⟩:=DataW.trod_bool hu h;exact⟨_,.bool t b hu,by simp[bj,rep],by simp[fH]⟩
  ·rename_i hu;obtain⟨s,rfl,hx,hs⟩:=DataW.trod_string hu h;subst hx;have hw:=hz s.size (by simp[DataW.weights]);exact⟨_,.str t s hu (by unfold reachBytes at hw;omega) (hL.imp_right λq=>by
    simp only[lens] at q;have e:s.data.toList.length=s.size:=(by rw[Array.length_toList];rfl);omega),by simp[bj,rep],by simp[fH]⟩
  ·rename_i k hu;obtain⟨n,rfl,_,hw⟩:=DataW.trod_int hu h;simp only[Lit.wf,dL,c6] at hw;exact⟨_,.int t k n hu hw,by simp[bj,rep],by simp[fH]⟩
  ·rename_i e hu;simp only[dL,nb,c6] at hT;obtain⟨he,lj⟩:=hT;rcases DataW.trod_slice hu h with⟨rfl,_⟩|⟨a,len,cap,elems,rest,n',jx,rfl,hx,_,hl,hm,OI,gR,_,_⟩
   ·refine⟨_,.slice t e [] hu (by simp) (.inr<|b9 _) (.nil e),?_,by simp[fH]⟩;simp only[bj,rep];exact⟨_,_,rfl,⟨none,0,0,rfl,rfl,aI _,.inl rfl⟩,rfl⟩
   have uq:x.1=.slice (elems.map (·.1)) (rest.map (·.1)):=(by rw[hx]);rw[uq] at hz hL;have Qy:L=0\/(elems.length<=L/\∀d∈elems.map (·.1),lens L d):=hL.imp_right λq=>by
    simp only[lens,aS] at q;exact⟨q.1,N2 q.2⟩
   have hw:=hz ((elems.length+rest.length)*P.bytesOf e) (by simp[DataW.weights,hu]);have hwe:∀d∈elems.map (·.1),∀n∈d.weights P e,n<=reachBytes:=λd hd n hn=>hz n (by
    have:=S8 hd n hn;simp[DataW.weights,hu,this])
   have each:∀i,i<len->∃ds,jG P L e ds/\ds.length=P.cellsOf e/\(∀j c,ds[j]? = some c->∃u,W.cell? ((a.add<|i*P.cellsOf e).add j)=some u/\fH u/\rep jI (py W) W c u):=λi hi=>by
    have bu:=gR i hi;rw[aG<|by omega] at bu;obtain⟨fC,Fp,qT⟩:=Option.bind_eq_some_iff.1 bu;obtain⟨ds,q1,q2,q3⟩:=ih n' (by omega) e fC _ he qT (hwe _<|List.mem_map_of_mem<|ig _)<|Qy.imp_right λq=>q.2 _<|List.mem_map_of_mem<|ig _;obtain⟨_,iQ,hc⟩:=World.cells?_some Fp;have hlen:=lJ _ _ q2;refine⟨ds,q1,by omega,λj c hj=>?_⟩;have zE:j<ds.length:=by
     rcases c7 j ds.length with q|q
     ·exact q
     rw[db q] at hj;cases hj
    obtain⟨v,k1,k2⟩:=qe _ _ j c hj q2;exact⟨v,by rw[hc j<|by omega];exact k1,q3 v<|kI k1,k2⟩
   obtain⟨R,hR⟩:∃R:Nat->aZ,∀i,i<len->jG P L e (R i)/\(R i).length=P.cellsOf e/\(∀j c,(R i)[j]? = some c->∃u,W.cell? ((a.add (i*P.cellsOf e)).add j)=some u/\fH u/\rep jI (py W) W c u):=by
    refine⟨λi=>if h:i<len then Classical.choose<|each i h else [],λi hi=>?_⟩;simp only[dif_pos hi];exact Classical.choose_spec<|each i hi
   refine⟨_,.slice t e ((List.range len).map R) hu (by
    rw[aS,List.length_range];refine⟨by unfold maxLen at hm;omega,ia (tE _ ?_) hw⟩;omega) (Qy.imp_right λq=>by
     rw[aS,List.length_range];omega) (RK λx hx=>?_),?_,by simp[fH]⟩
   ·obtain⟨i,hi,rfl⟩:=cU.1 hx;exact(hR i<|eW.1 hi).1
   simp only[bj,rep];refine⟨_,_,rfl,⟨some a,len,cap,rfl,by simp,hl,?_⟩,rfl⟩;rcases vM len with h0|h0
   ·exact .inl h0
   refine .inr ?_;obtain⟨_,g2,g3⟩:=hR 0 h0;obtain⟨u,hu,_⟩:=g3 0 _<|aG (by omega);obtain⟨b,o,sp⟩:=a;have Cj:sp=none:=by
    simp only[Addr.add,World.cell?] at hu;split at hu
    ·cases sp with
     |none=>rfl
     |some q=>simp at hu
    cases hu
   subst Cj;rw[mZ,mZ] at hu;have hb:b<W.heap.size:=World.block_lt_of_cell? _ _ hu;refine⟨b,o,rfl,hb,uW _ o λi x hx=>?_⟩;have hi:i<len:=by
    rcases c7 i len with q|q
    ·exact q
    rw[db<|by simpa using q] at hx;cases hx
   rw[cy,pN hi] at hx;simp at hx;subst hx;obtain⟨_,w2,w3⟩:=hR i hi;exact⟨w2,qJ _ _ λj c hc=>by
    have:=w3 j c hc;rwa [mZ,mZ] at this⟩
  ·rename_i fs hu;simp only[dL] at hT;obtain⟨ho,hf⟩:=hT;obtain⟨ys,n,hn,hx,hlen,hyl,n8⟩:=DataW.trod_struct hu h;have uq:x.1=.agg (ys.map (·.1)):=(by rw[hx]);rw[uq] at hz hL;obtain⟨ds,k1,k2,k3⟩:=QB (P:=P) (W:=W) (L:=L) hlen fs.toList 0 ho λf jL=>by
    obtain⟨i,hi,rfl⟩:=kn.1 jL;have bu:i<fs.size:=(by simpa using hi);have hg:=n8 i _<|qH bu;rw[aG<|by omega] at hg;have bg:(fs[i]).type∈S:=by
     have:=kv.1 hf _ jL;simpa using this
    have e:fs.toList[i]=fs[i]:=(by simp);rw[e];refine ih n (by omega) _ _ _ bg hg (λm hm=>hz m ?_) (hL.imp_right λq=>by
     simp only[lens] at q;exact N2 q _<|List.mem_map_of_mem<|ig _)
    have hwm:=DataW.weights_mem_each (P:=P) (ts:=fs.toList.map (·.type)) (ds:=ys.map (·.1)) (j:=i) (t:=(fs[i]).type) (d:=(ys[i]'(by omega)).1) (by rw[cy,DH,qH bu];rfl) (by rw[cy,aG<|by omega];rfl) m hm;simpa [DataW.weights,hu] using hwm
   rw[ft] at k2 k3;exact⟨ds,.struct t fs ds hu k1,k2,k3⟩
  cases hT
theorem zyg(hS:FZ P S){t:aY}(ht:t∈S){v:aH}{d:DataW H}{ps:List MemPlace}(h:DataW.Trod enc P W 0 spare held t v d ps)(hz:∀n∈d.weights P t,n<=reachBytes)(hL:L=0\/lens L d):∃ds,jG P L t ds/\bj jI (py W) W ds v.cells.toList/\∀u∈v.cells.toList,fH u:=by
 obtain⟨fuel,hf⟩:=h;exact zsF hS fuel t _ _ ht hf hz hL
theorem YJ{cs:aZ}{xs:Array aH}(h:bj jI (py W) W cs (Value.agg xs).cells.toList):rep jI (py W) W (.agg cs) (.agg xs):=by
 simp only[rep];exact⟨xs.toList,by simp,h⟩
end
section
open Go.ChangeShapes Go.WideShapes Go.ChangeAt Go.RowKit Go.Deep
def Am(P:bt)(L:Nat)(t:aY)(d:D):Prop:=match P.underlying t with
 |some (.struct _)=>∃cs,d=.agg cs/\jG P L t cs
 |_=>jG P L t [d]
def NV(P:bt)(L:Nat):List aY->aZ->Prop
 |[],[]=>True
 |t::ts,d::ds=>Am P L t d/\NV P L ts ds
 |_,_=>False
abbrev OfA(P:bt):=Am P 0
abbrev OfAs(P:bt):=NV P 0
section
variable{H:Type}{enc:aY×aH->H}{P:bt}{W:aU}
theorem ZO{L:Nat}{t:aY}{ds:aZ}(hu:∀fs,P.underlying t≠some (.struct fs))(h:jG P L t ds):∃d,ds=[d]:=by
 cases h with
 |struct=>rename_i ht _;exact absurd ht<|hu _
 |_=>exact⟨_,rfl⟩
theorem VU{L:Nat}{S:List aY}(hS:FZ P S){base:Nat}:∀(ts:List aY) (vs:List aH) (ds:List<|DataW H) (ps:List MemPlace),(∀t∈ts,t∈S)->(∀(j:Nat) (t:aY) (v:aH),ts[j]? = some t->vs[j]? = some v->Value.okWide P W .any base t v) ->
  DataW.TrodAll enc P W 0 (λ_=>true) true ts vs ds ps->(∀n∈DataW.weightsEach P ts ds,n<=reachBytes)->(L=0\/x4 L ds)->∃Ds,NV P L ts Ds/\bj jI (py W) W Ds vs
 |[],[],[],_,_,_,_,_,_=>⟨[],trivial,by simp only[bj]⟩
 |t::ts,v::vs,d::ds,ps,jy,Av,h,hz,hL=>by
  obtain⟨p,q,h1,h2,_⟩:=h;obtain⟨cs,k1,k2,k3⟩:=zyg hS (jy t<|by simp) h1 (λn hn=>hz n<|by simp[DataW.weightsEach,hn]) (hL.imp_right λq=>by simp only[x4] at q;exact q.1);obtain⟨Ds,g1,g2⟩:=VU hS ts vs ds q (λu hu=>jy u<|by simp[hu]) (λj u x hj hx=>Av (j+1) u x (by simpa using hj)<|by simpa using hx) h2 (λn hn=>hz n<|by simp[DataW.weightsEach,hn]) (hL.imp_right λq=>by simp only[x4] at q;exact q.2);have hv:=Av 0 t v rfl rfl;have one:∃c,Am P L t c/\rep jI (py W) W c v:=by
   unfold Am;split
   ·rename_i fs hu;obtain⟨xs,rfl,_⟩:=okWide_struct hu hv;exact⟨_,⟨cs,rfl,k1⟩,YJ k2⟩
   rename_i hu;obtain⟨c,rfl⟩:=ZO hu k1;have h1v:v.cells.toList=[v]:=by
    have hlen:=lJ _ _ k2
    cases v with
    |agg xs =>
     exfalso;have hT:=kv.1 hS t<|jy t (by simp);unfold Value.okWide at hv;split at hT
     ·rename_i e;rw[e] at hv;simp[Cell.okWide,Cell.ok,e] at hv
     ·rename_i e;rw[e] at hv;simp[Cell.okWide,Cell.ok,e] at hv
     ·rename_i e;rw[e] at hv;simp[Cell.okWide,Cell.ok,e] at hv
     ·rename_i e;rw[e] at hv;simp[Cell.okWide,Cell.ok,e] at hv
     ·rename_i fs e;exact hu fs e
     cases hT
    |_=>rfl
   refine⟨c,k1,?_⟩;rw[h1v] at k2;simp only[bj] at k2;obtain⟨u,us,e,k,_⟩:=k2;simp at e;rw[e.1];exact k
  obtain⟨c,c1,c2⟩:=one;exact⟨c::Ds,⟨c1,g1⟩,by simp only[bj];exact⟨v,vs,rfl,c2,g2⟩⟩
 |[],_::_,_,_,_,_,h,_,_=>by simp[DataW.TrodAll] at h
 |[],[],_::_,_,_,_,h,_,_=>by simp[DataW.TrodAll] at h
 |_::_,[],_,_,_,_,h,_,_=>by simp[DataW.TrodAll] at h
 |_::_,_::_,[],_,_,_,h,_,_=>by simp[DataW.TrodAll] at h
theorem zvH{S:List aY}(hS:FZ P S){base:Nat}(ts:List aY)(vs:List aH)(ds:List<|DataW H)(ps:List MemPlace)(h1:∀t∈ts,t∈S)(h2:∀(j:Nat) (t:aY) (v:aH),ts[j]? = some t->vs[j]? = some v->Value.okWide P W .any base t v)
  (h3:DataW.TrodAll enc P W 0 (λ_=>true) true ts vs ds ps) (h4:∀n∈DataW.weightsEach P ts ds,n<=reachBytes):∃Ds,OfAs P ts Ds/\bj jI (py W) W Ds vs:=VU hS ts vs ds ps h1 h2 h3 h4 (.inl rfl)
theorem Q7:∀(ts LQ:List aY) (ds KR:List<|DataW H),ts.length=ds.length->∀n∈DataW.weightsEach P ts ds,n∈DataW.weightsEach P (ts++LQ) (ds++KR)
 |[],_,[],_,_,n,hn=>by simp[DataW.weightsEach] at hn
 |t::ts,LQ,d::ds,KR,hl,n,hn=>by
  simp only[mJ,DataW.weightsEach,de] at hn⊢;exact hn.imp_right (Q7 ts LQ ds KR (by simpa using hl) n)
theorem Qx(hl:laidOutB P){W':aU}{sp:aq}(hb:Below W.heap.size W W'):∀(ts:List aY) (vs:List aH) (ds:List<|DataW H) (ps:List MemPlace),(∀t∈ts,P.readableRec t/\t<P.types.size) ->
  (∀x∈ps,x.block<W.heap.size)->(∀x∈ps,sp x.block)->DataW.TrodAll enc P W 0 (λ_=>true) true ts vs ds ps->DataW.TrodAll enc P W' 0 sp true ts vs ds ps
 |[],[],[],_,_,_,_,h=>h
 |t::ts,v::vs,d::ds,ps,jy,bF,Cj,h=>by
  obtain⟨p,q,h1,h2,rfl⟩:=h;refine⟨p,q,WideElems.Trod_stays hl (jy t<|by simp).1 (jy t<|by simp).2 h1 (λx hx=>hb.same<|bF x<|by simp[hx]) λx hx=>Cj x<|by simp[hx],Qx hl hb ts vs ds q (λu hu=>jy u<|by simp[hu]) (λx hx=>bF x<|by simp[hx]) (λx hx=>Cj x<|by simp[hx]) h2,rfl⟩
 |[],_::_,_,_,_,_,_,h=>by simp[DataW.TrodAll] at h
 |[],[],_::_,_,_,_,_,h=>by simp[DataW.TrodAll] at h
 |_::_,[],_,_,_,_,_,h=>by simp[DataW.TrodAll] at h
 |_::_,_::_,[],_,_,_,_,h=>by simp[DataW.TrodAll] at h
theorem Kl{sp:aq}{hd:Bool}{b:Nat}:∀(ts:List aY) (vs:List aH) (ds:List<|DataW H) (ps:List MemPlace),DataW.TrodAll enc P W b sp hd ts vs ds ps->ds.length=ts.length
 |[],[],[],_,_=>rfl
 |t::ts,v::vs,d::ds,ps,h=>by
  obtain⟨p,q,_,h2,_⟩:=h;simp[Kl ts vs ds q h2]
 |[],_::_,_,_,h=>by simp[DataW.TrodAll] at h
 |[],[],_::_,_,h=>by simp[DataW.TrodAll] at h
 |_::_,[],_,_,h=>by simp[DataW.TrodAll] at h
 |_::_,_::_,[],_,h=>by simp[DataW.TrodAll] at h
theorem zlE{F':Nat->Prop}{W':aU}(h:Ext jI (py W) W jI F' W'):Below W.heap.size W W':=⟨h.os,h.tape,h.output,h.size,λk hk=>h.block k hk<|pI k⟩
theorem zxh{f:Func}{s:ChangeSpec}{apart fresh handsOn again:Bool}{W':aU}{args:Array aH}{ds gs:List<|DataW H}{before:List MemPlace}{tb:aY}
  (hW:DataW.Whole enc P f.params.toList s.vars apart W args.toList ds gs before) (Wy:s.vars=[]) (RY:f.resultTypes=#[tb]) (htb:P.underlying tb=some .bool)
  (hl:laidOutB P) (hr:∀t∈f.params.toList,P.readableRec t/\t<P.types.size)
  (hs:∀ds:List<|DataW H,ds.length=f.params.toList.length->s.fn H ds={ results:=[.lit (.bool true)],args:=ds })
  (hb:Below W.heap.size W W') (aA:∀(j:Nat) (t:aY) (r:aH),f.resultTypes[j]? = some t->((Value.bool true).resultList f.resultTypes.size)[j]? = some r->Value.okWide P W' .any 0 t r) :
  s.post enc P f apart fresh handsOn again W args (.bool true) W':=by
 have bF:∀p∈before,p.block<W.heap.size:=λp hp=>hW.lt p hp;have hold:∀p∈before,(λb=>decide (b<W.heap.size)) p.block=true:=λp hp=>by simpa using bF p hp
 obtain⟨pa,pv,hA,hV,nR,hz,hn⟩:=id hW;rw[Wy] at hV;have Y1:gs=[]/\pv=[]:=by
  cases gs with
  |nil=>exact⟨rfl,hV⟩
  |cons _ _=>simp[DataW.TrodVars] at hV
 obtain⟨rfl,rfl⟩:=Y1;simp only[oR] at nR;subst nR;have D6:=hs ds<|Kl _ _ _ _ hA;have zQu:((Value.bool true).resultList f.resultTypes.size)=[.bool true]:=by rw[RY];rfl
 have SB:∀(b:Nat) (sp:aq) (hd:Bool),DataW.TrodAll enc P W' b sp hd f.resultTypes.toList ((Value.bool true).resultList f.resultTypes.size) (s.fn H<|ds++[]).results []:=λb sp hd=>by
  rw[oR,D6,RY];exact trodAll_cons_mk (shut_bool htb _) trodAll_mk0
 have gM:∀sp:Nat->Bool,(∀p∈before,sp p.block)->DataW.TrodAll enc P W' 0 sp true f.params.toList args.toList (s.fn H<|ds++[]).args before:=λsp Cj=>by
  rw[oR,D6];exact Qx hl hb _ _ _ _ hr bF Cj hA
 have Pj:∀sp:Nat->Bool,DataW.TrodVars enc P W' sp s.vars (s.fn H<|ds++[]).vars []:=λsp=>by
  rw[oR,D6,Wy];rfl
 refine⟨ds,[],before,[],before,[],hW,SB _ _ _,gM _ hold,Pj _,World.keptBut_mono (λp hp=>⟨hp,Or.inr<|Or.inl hp⟩) (hb.frame (·∈before)),λ_=>?_⟩;refine⟨aA,_,_,([]++before)++[],⟨[]++before,[],trodAll_append (gM _ λ_ _=>rfl)<|SB _ _ _,Pj _,rfl,?_,?_⟩,?_⟩
 ·intro b off hp;have bg:MemPlace.cell b off∈before:=(by simpa using hp);rw[hb.frozen<|bF _ bg];exact hz b off bg
 ·intro ha;have:=hn ha;simpa using this
 intro p hp _;simpa using hp
end
end
abbrev Pr:=Int×Int
def iW(L:List Pr)(p:Pr):List Pr:=if p∈L then L else L++[p]
def fq(L:List Pr)(p:Pr):Nat:=L.idxOf p
theorem zxe(L:List Pr)(p:Pr):L.length<=(iW L p).length/\(iW L p).length<=L.length+1:=by unfold iW;split<;>simp
variable{L:List Pr}
theorem QA(h:L.Nodup)(p:Pr):(iW L p).Nodup:=by
 unfold iW;split
 ·exact h
 rename_i q;rw[zn];exact⟨h,by simp,λa ha b hb=>by rw[cM] at hb;subst hb;exact λe=>q<|e▸ha⟩
variable{p:Pr}
theorem Og{q:Pr}:q∈iW L p↔q∈L\/q=p:=by
 unfold iW;split
 ·rename_i h;exact⟨λk=>.inl k,λk=>k.elim id λe=>e▸h⟩
 simp
theorem zwU(L:List Pr)(p:Pr):fq (iW L p) p=if p∈L then fq L p else L.length:=by
 unfold iW fq;split
 ·rfl
 rename_i h;rw[List.idxOf_append,aa h];simp
theorem xb(h:p∈L):fq L p<L.length:=Ks h
def iV(f:Nat->Nat):Nat->Nat
 |0=>0
 |n+1=>iV f n+f n
theorem T4{f f':Nat->Nat}:∀n,(∀j,j<n->f j=f' j)->iV f n=iV f' n
 |0,_=>rfl
 |n+1,h=>by simp only[iV];rw[T4 n λj hj=>h j<|by omega,h n<|by omega]
theorem Gl{f f':Nat->Nat}{i:Nat}:∀n,i<n->(∀j,j<n->j≠i->f' j=f j)->iV f' n+f i=iV f n+f' i
 |0,h,_=>by omega
 |n+1,h,k=>by
  simp only[iV];by_cases e:i=n
  ·subst e;rw[T4 i λj hj=>k j (by omega)<|by omega];omega
  have:=Gl n (by omega) λj hj b7=>k j (by omega) b7;rw[k n (by omega) λq=>e q.symm];omega
theorem Xq{f f':Nat->Nat}:∀n,(∀j,j<n->f j<=f' j)->iV f n<=iV f' n
 |0,_=>aI _
 |n+1,h=>by simp only[iV];have:=Xq n λj hj=>h j (by omega);have:=h n (by omega);omega
theorem XM{f f':Nat->Nat}{i:Nat}:∀n,i<n->(∀j,j<n->f j<=f' j)->f i<f' i->iV f n<iV f' n
 |0,h,_,_=>by omega
 |n+1,h,k,q=>by
  simp only[iV];have:=k n (by omega);by_cases e:i=n
  ·subst e;have:=Xq i λj hj=>k j (by omega);omega
  have:=XM n (by omega) (λj hj=>k j<|by omega) q;omega
def ir(s:aq)(n:Nat):Nat:=iV (λi=>if s i then 0 else 1) n
theorem J3(s:aq):∀n,ir s n<=n
 |0=>aI _
 |n+1=>by unfold ir;simp only[iV];have:=J3 s n;unfold ir at this;split<;>omega
variable{s:aq}{i:Nat}
theorem GO{s':aq}(hi:i<n)(h:∀j,j<n->s j->s' j)(h1:s i=false)(h2:s' i):ir s' n<ir s n:=XM n hi (λj hj=>by
 cases e:s j with
 |true=>simp[h j hj e]
 |false=>split<;>simp) (by simp[h1,h2])
def mark(s:aq)(v:Nat):Nat->Bool:=λi=>if i=v then true else s i
@[simp] theorem qj(s:aq)(v:Nat):mark s v v=true:=by simp[mark]
variable{v:Nat}
theorem zyo(h:i≠v):mark s v i=s i:=by simp[mark,h]
theorem jX(h:s i):mark s v i:=by unfold mark;split<;>simp[h]
theorem wM:mark s v i↔i=v\/s i:=by
 unfold mark;split
 ·rename_i h;simp[h]
 rename_i h;simp[h]
inductive fx(g:ak)(from_:af):Nat->Prop
 |base {x:Int} (h:x∈from_):fx g from_ x.toNat
 |step {u:Nat} {x:Int} (h:fx g from_ u) (k:x∈g.getD u []):fx g from_ x.toNat
variable{g:ak}{from_:af}
theorem zo9(h0:∀x∈from_,s x.toNat)(h1:∀v,s v->∀x∈g.getD v [],s x.toNat):∀v,fx g from_ v->s v:=by
 intro v h
 induction h with
 |base h=>exact h0 _ h
 |step _ k ih=>exact h1 _ ih _ k
open Classical in
noncomputable def rS(g:ak)(from_:af)(v:Nat):Bool:=decide (fx g from_ v)
theorem AO:rS g from_ v↔fx g from_ v:=by unfold rS;simp
theorem Z4(h:s v↔fx g from_ v):s v=rS g from_ v:=by
 rw[kj,h,AO]
theorem fV{l:af}(h:k<l.length):l.getD k 0∈l:=by
 rw[ay,aG h];exact ig h
variable{x:Int}
theorem xd{l:af}(h:x∈l):∃k,k<l.length/\l.getD k 0=x:=by
 obtain⟨k,hk,rfl⟩:=kn.1 h;exact⟨k,hk,by rw[ay,aG hk];rfl⟩
def rN(g:ak)(s:aq):Nat:=iV (λv=>if s v then 0 else (g.getD v []).length) g.length
theorem Xz(hv:v<g.length)(h:s v=false):rN g (mark s v)+(g.getD v []).length=rN g s:=by
 have:=Gl (f:=λv=>if s v then 0 else (g.getD v []).length) (f':=λw=>if mark s v w then 0 else (g.getD w []).length) g.length hv λj _ b7=>by rw[zyo b7]
 unfold rN;simp only[qj,h,if_true,yQ,if_false] at this;omega
abbrev To(g:ak)(u v:Nat):Prop:=fx g [(u:Int)] v
theorem tO(g:ak)(v:Nat):To g v v:=by
 have:=fx.base (g:=g) (from_:=[(v:Int)]) (x:=(v:Int)) (by simp);simpa using this
variable{a b c:Nat}
theorem rH(h:To g a b)(k:To g b c):To g a c:=by
 unfold To at k;generalize hb:[(b:Int)]=fr at k
 induction k with
 |base m=>subst hb;simp only[cM] at m;subst m;simpa using h
 |step _ m ih=>exact .step ih m
theorem y6(h:x∈g.getD a []):To g a x.toNat:=.step (tO g a) h
variable{u:Nat}
theorem GY{s:Nat->Prop}(h:∀v,s v->∀x∈g.getD v [],s x.toNat)(k:To g u v)(hu:s u):s v:=by
 unfold To at k;generalize hb:[(u:Int)]=fr at k
 induction k with
 |base m=>subst hb;simp only[cM] at m;subst m;simpa using hu
 |step _ m ih=>exact h _ ih _ m
structure TJ where
 num:Nat->Nat
 low:Nat->Nat
 part:Nat->Int
 stack:List Nat
 path:List<|Nat×Nat
 count:Nat
 dF:Nat
def up{α:Type}(f:Nat->α)(k:Nat)(v:α):Nat->α:=λi=>if i=k then v else f i
@[simp] theorem mH(f:Nat->α)(k:Nat)(v:α):up f k v k=v:=by simp[up]
theorem jK{f:Nat->α}{v:α}(h:i≠k):up f k v i=f i:=by simp[up,h]
def lW(g:ak)(S:TJ):Nat->Bool->List (Nat×Nat)->Prop
 |U,_,[]=>∀v,v∈S.stack->U<=S.num v
 |U,top,(p,i)::r =>
  p∈S.stack/\S.num p<U /\
  (∀v,v∈S.stack->S.num p<=S.num v->S.num v<U->To g p v/\(v≠p->(∃w,w∈S.stack/\S.num w<S.num v/\To g v w)/\∀x∈g.getD v [],S.num x.toNat≠0/\(S.part x.toNat<0->S.low p<=S.num x.toNat))) /\
  (∀k,k<(g.getD p []).length->(if top=true then k<i else k+1<i)->S.num ((g.getD p []).getD k 0).toNat≠0/\(S.part ((g.getD p []).getD k 0).toNat<0->S.low p<=S.num ((g.getD p []).getD k 0).toNat)) /\
  S.low p<=S.num p/\(∃w,w∈S.stack/\S.num w=S.low p/\To g p w) /\
  (top=false->1<=i/\i<=(g.getD p []).length) /\
  (match r with
   |[]=>True
   |(q,j)::_=>1<=j/\j<=(g.getD q []).length/\((g.getD q []).getD (j-1) 0).toNat=p) /\
  lW g S (S.num p) false r
theorem lW.p'{g:ak}{S S':TJ}(h3:∀x,S.num x≠0->S'.num x≠0/\(S'.part x<0->S.part x<0/\S'.num x=S.num x)) :
  ∀(r:List<|Nat×Nat) {U:Nat} {top:Bool},(∀v,v∈S'.stack->S'.num v<U->v∈S.stack/\S.num v=S'.num v)->(∀v,v∈S.stack->S.num v<U->v∈S'.stack/\S'.num v=S.num v/\S'.low v=S.low v)->lW g S U top r->lW g S' U top r
 |[],U,top,h1,h2,h=>λv hv=>by
  rcases c7 (S'.num v) U with q|q
  ·obtain⟨a,b⟩:=h1 v hv q;have:=h v a;omega
  exact q
 |(p,i)::r,U,top,h1,h2,h=>by
  obtain⟨g1,g2,g3,g4,g5,⟨w,w1,w2,w3⟩,g7,g8,g9⟩:=h;obtain⟨p1,p2,p3⟩:=h2 p g1 g2;refine⟨p1,by omega,λv hv a b=>?_,λk hk ht=>?_,by omega,?_,g7,g8,?_⟩
  ·obtain⟨c1,c2⟩:=h1 v hv b;obtain⟨d1,d2⟩:=g3 v c1 (by omega) (by omega);refine⟨d1,λb7=>?_⟩;obtain⟨⟨w,e1,e2,e3⟩,e4⟩:=d2 b7;obtain⟨f1,f2,f3⟩:=h2 w e1 (by omega);refine⟨⟨w,f1,by omega,e3⟩,λx hx=>?_⟩;obtain⟨n1,n2⟩:=e4 x hx;obtain⟨m1,m2⟩:=h3 _ n1;refine⟨m1,λq=>?_⟩;obtain⟨o1,o2⟩:=m2 q;have:=n2 o1;omega
  ·obtain⟨n1,n2⟩:=g4 k hk ht;obtain⟨m1,m2⟩:=h3 _ n1;refine⟨m1,λq=>?_⟩;obtain⟨o1,o2⟩:=m2 q;have:=n2 o1;omega
  ·obtain⟨f1,f2,f3⟩:=h2 w w1 (by omega);exact⟨w,f1,by omega,w3⟩
  rw[p2];exact lW.p' h3 r (λv hv q=>h1 v hv<|by omega) (λv hv q=>h2 v hv<|by omega) g9
structure TjI(g:ak)(S:TJ):Prop where
 stk:∀v,v∈S.stack↔S.num v≠0/\S.part v<0
 srt:S.stack.Pairwise λa b=>S.num b<S.num a
 bc:∀v,S.num v<=S.count
 node:∀v,S.num v≠0->v<g.length
 par:∀v,0<=S.part v->S.part v<(S.dF:Int)/\S.num v≠0
 cls:∀v,0<=S.part v->∀x∈g.getD v [],0<=S.part x.toNat
 same:∀u v,0<=S.part u->0<=S.part v->(S.part u=S.part v↔To g u v/\To g v u)
 seg:lW g S (S.count+1) true S.path
 size:S.dF+S.stack.length<=S.count
 seen:ir (λv=>decide (S.num v≠0)) g.length+S.count=g.length
 deep:S.path.length+ir (λv=>decide (S.num v≠0)) g.length<=g.length
 Dx:∀u v,S.num u=S.num v->S.num u≠0->u=v
def TJ.open(S:TJ)(v:Nat)(path:List<|Nat×Nat):TJ:=⟨up S.num v<|S.count+1,up S.low v<|S.count+1,S.part,v::S.stack,(v,0)::path,S.count+1,S.dF⟩
variable{S:TJ}
theorem Za(hv:v<n)(h:S.num v=0):ir (λw=>decide (up S.num v (S.count+1) w≠0)) n+1=ir (λw=>decide (S.num w≠0)) n:=by
 have:=Gl (f:=λw=>if decide (S.num w≠0)=true then 0 else 1) (f':=λw=>if decide (up S.num v (S.count+1) w≠0)=true then 0 else 1) n hv λj _ b7=>by rw[jK b7]
 unfold ir;rw[mH] at this;simp only[h] at this;simp at this;simp;omega
theorem TjI.opened(h:TjI g S)(hv:v<g.length)(h0:S.num v=0){path:List<|Nat×Nat}(hp:path.length<=S.path.length)
  (hs:lW g S (S.count+1) false path) (hl:match path with|[]=>True|(q,j)::_=>1<=j/\j<=(g.getD q []).length/\((g.getD q []).getD (j-1) 0).toNat=v):TjI g<|S.open v path:=by
 have hvs:v ∉ S.stack:=λq=>((h.stk v).1 q).1 h0;have B9:S.part v<0:=by
  rcases Int.lt_or_le (S.part v) 0 with q|q
  ·exact q
  exact absurd h0 (h.par v q).2
 have b7:∀w,w∈S.stack->w≠v:=λw hw e=>hvs<|e▸hw;have o7:∀w,S.num w≠0->w≠v:=λw hw e=>hw<|e▸h0;have hun:=Za hv h0;refine⟨λw=>?_,?_,λw=>?_,λw hw=>?_,λw hw=>?_,h.cls,h.same,?_,?_,?_,?_,?_⟩
 ·show w∈v::S.stack↔up S.num v (S.count+1) w≠0/\S.part w<0;by_cases e:w=v
  ·subst e;simp[B9]
  rw[jK e,<-h.stk w];simp[e]
 ·show(v::S.stack).Pairwise λa b=>up S.num v (S.count+1) b<up S.num v (S.count+1) a;refine List.pairwise_cons.2 ⟨λw hw=>?_,h.srt.imp_of_mem λ{a b} ha hb q=>?_⟩
  ·rw[mH,jK<|b7 w hw];have:=h.bc w;omega
  rw[jK<|b7 a ha,jK<|b7 b hb];exact q
 ·show up S.num v (S.count+1) w<=S.count+1;by_cases e:w=v
  ·subst e;rw[mH];omega
  rw[jK e];have:=h.bc w;omega
 ·by_cases e:w=v
  ·subst e;exact hv
  exact h.node w (by
   have:up S.num v (S.count+1) w≠0:=hw;rw[jK e] at this;exact this)
 ·obtain⟨a,b⟩:=h.par w hw;refine⟨a,?_⟩;show up S.num v (S.count+1) w≠0;rw[jK<|o7 w b];exact b
 ·show lW g (S.open v path) (S.count+1+1) true<|(v,0)::path;refine⟨List.mem_cons_self ..,?_,λw hw a b=>?_,λk _ hk=>?_,?_,⟨v,List.mem_cons_self ..,?_,tO g v⟩,λq=>(by cases q),hl,?_⟩
  ·show up S.num v (S.count+1) v<_;rw[mH];omega
  ·have e:w=v:=by
    rcases dD.1 hw with e|e
    ·exact e
    have a:up S.num v (S.count+1) v<=up S.num v (S.count+1) w:=a;rw[mH,jK<|b7 w e] at a;have:=h.bc w;omega
   subst e;exact⟨tO g w,λq=>absurd rfl q⟩
  ·rw[ae rfl] at hk;omega
  ·show up S.low v (S.count+1) v<=up S.num v (S.count+1) v;rw[mH,mH];exact aI _
  ·show up S.num v (S.count+1) v=up S.low v (S.count+1) v;rw[mH,mH]
  have e:(S.open v path).num v=S.count+1:=mH ..;rw[e];refine lW.p' (S:=S) (S':=S.open v path) (λx hx=>⟨?_,λq=>⟨q,?_⟩⟩) path (λw hw q=>?_) (λw hw q=>?_) hs
  ·show up S.num v (S.count+1) x≠0;rw[jK<|o7 x hx];exact hx
  ·show up S.num v (S.count+1) x=_;rw[jK<|o7 x hx]
  ·have q:up S.num v (S.count+1) w<S.count+1:=q;by_cases e:w=v
   ·subst e;rw[mH] at q;omega
   refine⟨(dD.1 hw).resolve_left e,?_⟩;show _=up S.num v (S.count+1) w;rw[jK e]
  have e:=b7 w hw;refine⟨EH _ hw,?_,?_⟩
  ·show up S.num v (S.count+1) w=_;rw[jK e]
  show up S.low v (S.count+1) w=_;rw[jK e]
 ·have:=h.size;show S.dF+(v::S.stack).length<=S.count+1;rw[cj];omega
 ·have:=h.seen;show ir (λw=>decide (up S.num v (S.count+1) w≠0)) g.length+(S.count+1)=g.length;omega
 ·have:=h.deep;show((v,0)::path).length+ir (λw=>decide (up S.num v (S.count+1) w≠0)) g.length<=g.length;rw[cj];omega
 intro a b e ha;have e:up S.num v (S.count+1) a=up S.num v (S.count+1) b:=e;have ha:up S.num v (S.count+1) a≠0:=ha;have ca:=h.bc a;have cb:=h.bc b;by_cases e1:a=v<;>by_cases e2:b=v
 ·omega
 ·subst e1;rw[mH,jK e2] at e;omega
 ·subst e2;rw[mH,jK e1] at e;omega
 rw[jK e1,jK e2] at e;rw[jK e1] at ha;exact h.Dx a b e ha
variable{r:List<|Nat×Nat}
theorem lW.next{U p:Nat}(h:lW g S U true<|(p,i)::r)(hi:i<(g.getD p []).length):lW g S U false<|(p,i+1)::r:=by
 obtain⟨g1,g2,g3,g4,g5,g6,g7,g8,g9⟩:=h;exact⟨g1,g2,g3,λk hk ht=>g4 k hk (by
  rw[aa<|by decide] at ht;rw[ae rfl];omega),g5,g6,λ_=>⟨by omega,by omega⟩,g8,g9⟩
theorem TjI.push(h:TjI g S){p:Nat}(hp:S.path=(p,i)::r)(hi:i<(g.getD p []).length)(hv:((g.getD p []).getD i 0).toNat<g.length)(h0:S.num ((g.getD p []).getD i 0).toNat=0) :
  TjI g (S.open ((g.getD p []).getD i 0).toNat<|(p,i+1)::r):=by
 refine h.opened hv h0 (by rw[hp];simp) (lW.next (by rw[<-hp];exact h.seg) hi) ⟨by omega,by omega,?_⟩;rw[Nat.add_sub_cancel]
def TJ.skip(S:TJ)(p i:Nat)(r:List<|Nat×Nat)(x:Nat):TJ:=⟨S.num,if S.part x<0 then up S.low p<|min (S.low p)<|S.num x else S.low,S.part,S.stack,(p,i+1)::r,S.count,S.dF⟩
theorem TjI.skip{g:ak}{S:TJ}(h:TjI g S){p i:Nat}{r:List<|Nat×Nat}(hp:S.path=(p,i)::r)(hi:i<(g.getD p []).length)(h0:S.num ((g.getD p []).getD i 0).toNat≠0) :
  TjI g (S.skip p i r ((g.getD p []).getD i 0).toNat):=by
 have hx:(g.getD p []).getD i 0∈g.getD p []:=fV hi;generalize xC:(g.getD p []).getD i 0=x at *;have pC:=h.seg;rw[hp] at pC;obtain⟨g1,g2,g3,g4,g5,⟨w,w1,w2,w3⟩,g7,g8,g9⟩:=pC;have AD:∀v,S.num v<S.num p->(S.skip p i r x.toNat).low v=S.low v:=λv hv=>by
  show(if S.part x.toNat<0 then up S.low p<|min (S.low p)<|S.num x.toNat else S.low) v=_;split
  ·rw[jK λe=>by subst e;omega]
  rfl
 have rv:(S.skip p i r x.toNat).low p=if S.part x.toNat<0 then min (S.low p)<|S.num x.toNat else S.low p:=by
  show(if S.part x.toNat<0 then up S.low p<|min (S.low p)<|S.num x.toNat else S.low) p=_;split
  ·rw[mH]
  rfl
 have hle:(S.skip p i r x.toNat).low p<=S.low p:=by rw[rv];split<;>omega
 refine⟨h.stk,h.srt,h.bc,h.node,h.par,h.cls,h.same,?_,h.size,h.seen,?_,h.Dx⟩
 ·show lW g (S.skip p i r x.toNat) (S.count+1) true<|(p,i+1)::r;refine⟨g1,g2,λv hv a b=>?_,λk hk ht=>?_,?_,?_,λq=>(by cases q),g8,?_⟩
  ·obtain⟨d1,d2⟩:=g3 v hv a b;refine⟨d1,λb7=>⟨(d2 b7).1,λy hy=>?_⟩⟩;obtain⟨n1,n2⟩:=(d2 b7).2 y hy;exact⟨n1,λq=>ia hle<|n2 q⟩
  ·rw[ae rfl] at ht;rcases c7 k i with q|q
   ·obtain⟨n1,n2⟩:=g4 k hk (by rw[ae rfl];exact q);exact⟨n1,λz=>ia hle<|n2 z⟩
   have:k=i:=by omega
   subst this;rw[xC];refine⟨h0,λz=>?_⟩;have z:S.part x.toNat<0:=z;rw[rv,ae z];exact Nat.min_le_right _ _
  ·exact ia hle g5
  ·rw[rv];by_cases z:S.part x.toNat<0
   ·rw[ae z];rcases Nat.le_total (S.low p)<|S.num x.toNat with q|q
    ·rw[tJ q];exact⟨w,w1,w2,w3⟩
    rw[Nat.min_eq_right q];exact⟨x.toNat,(h.stk _).2 ⟨h0,z⟩,rfl,y6 hx⟩
   rw[aa z];exact⟨w,w1,w2,w3⟩
  exact lW.p' (S:=S) (S':=S.skip p i r x.toNat) (λy hy=>⟨hy,λq=>⟨q,rfl⟩⟩) r (λv hv q=>⟨hv,rfl⟩) (λv hv q=>⟨hv,rfl,AD v q⟩) g9
 have:=h.deep;rw[hp] at this;exact this
def TJ.back(S:TJ)(n p j:Nat)(r:List<|Nat×Nat):TJ:=⟨S.num,up S.low p<|min (S.low p)<|S.low n,S.part,S.stack,(p,j)::r,S.count,S.dF⟩
theorem TjI.back{g:ak}{S:TJ}(h:TjI g S){n i p j:Nat}{r:List<|Nat×Nat}(hp:S.path=(n,i)::(p,j)::r)(hi:(g.getD n []).length<=i)(hl:S.low n≠S.num n):TjI g<|S.back n p j r:=by
 have pC:=h.seg;rw[hp] at pC;obtain⟨g1,g2,g3,g4,g5,⟨w,w1,w2,w3⟩,g7,⟨k1,k2,k3⟩,f1,f2,f3,f4,f5,⟨u,u1,u2,u3⟩,f7,f8,f9⟩:=pC;have AD:∀v,S.num v<S.num p->(S.back n p j r).low v=S.low v:=λv hv=>by
  show up S.low p (min (S.low p)<|S.low n) v=_;rw[jK λe=>by subst e;omega]
 have rv:(S.back n p j r).low p=min (S.low p) (S.low n):=mH ..;have o8:To g p n:=by
  have:=y6 (g:=g) (a:=p)<|fV (l:=g.getD p []) (k:=j-1) (by omega);rw[k3] at this;exact this
 have Dr:S.low n<S.num n:=by omega
 refine⟨h.stk,h.srt,h.bc,h.node,h.par,h.cls,h.same,?_,h.size,h.seen,?_,h.Dx⟩
 ·show lW g (S.back n p j r) (S.count+1) true ((p,j)::r)
  refine⟨f1,by have:S.num p<S.num n:=f2
               have:S.num n<S.count+1:=g2;show S.num p<S.count+1;omega,λv hv a b=>?_,λk hk ht=>?_,?_,?_,λq=>(by cases q),f8,?_⟩
  ·have a:S.num p<=S.num v:=a;have b:S.num v<S.count+1:=b;rcases c7 (S.num v)<|S.num n with q|q
   ·obtain⟨d1,d2⟩:=f3 v hv a q;refine⟨d1,λb7=>⟨(d2 b7).1,λy hy=>?_⟩⟩;obtain⟨n1,n2⟩:=(d2 b7).2 y hy;refine⟨n1,λz=>?_⟩;rw[rv];exact ia (Nat.min_le_left _ _)<|n2 z
   obtain⟨d1,d2⟩:=g3 v hv q b;refine⟨rH o8 d1,λb7=>?_⟩;by_cases e:v=n
   ·subst e;refine⟨⟨w,w1,by show S.num w<S.num v;omega,w3⟩,λy hy=>?_⟩;obtain⟨k,hk,rfl⟩:=xd hy;obtain⟨n1,n2⟩:=g4 k hk (by rw[ae rfl];omega);refine⟨n1,λz=>?_⟩;rw[rv];exact ia (Nat.min_le_right _ _)<|n2 z
   refine⟨(d2 e).1,λy hy=>?_⟩;obtain⟨n1,n2⟩:=(d2 e).2 y hy;refine⟨n1,λz=>?_⟩;rw[rv];exact ia (Nat.min_le_right _ _)<|n2 z
  ·rw[ae rfl] at ht;rw[rv];rcases c7 (k+1) j with q|q
   ·obtain⟨n1,n2⟩:=f4 k hk (by rw[aa<|by decide];exact q);exact⟨n1,λz=>ia (Nat.min_le_left _ _)<|n2 z⟩
   have:k=j-1:=by omega
   subst this;rw[k3];refine⟨((h.stk n).1 g1).1,λz=>?_⟩;show min _ _<=S.num n;omega
  ·rw[rv];show _<=S.num p;omega
  ·rw[rv];rcases Nat.le_total (S.low p)<|S.low n with q|q
   ·rw[tJ q];exact⟨u,u1,u2,u3⟩
   rw[Nat.min_eq_right q];exact⟨w,w1,w2,rH o8 w3⟩
  exact lW.p' (S:=S) (S':=S.back n p j r) (λy hy=>⟨hy,λq=>⟨q,rfl⟩⟩) r (λv hv q=>⟨hv,rfl⟩) (λv hv q=>⟨hv,rfl,AD v q⟩) f9
 have:=h.deep;rw[hp] at this;simp only[cj] at this;show((p,j)::r).length+ir (λv=>decide (S.num v≠0)) g.length<=g.length;rw[cj];omega
def TJ.shut(S:TJ)(n:Nat)(path:List<|Nat×Nat)(low:Nat->Nat):TJ:=⟨S.num,low,λv=>if v∈S.stack/\S.num n<=S.num v then (S.dF:Int) else S.part v,S.stack.filter λv=>decide (S.num v<S.num n),path,S.count,S.dF+1⟩
theorem Xp{α:Type}{p:α->Bool}{a:α}:∀{l:List α},a∈l->p a=false->(l.filter p).length<l.length
 |[],h,_=>by cases h
 |b::l,h,hp=>by
  rw[yF];by_cases e:p b=true
  ·rw[ae e];rcases dD.1 h with q|q
   ·subst q;rw[hp] at e;cases e
   have:=Xp q hp;simp only[cj];omega
  rw[aa e];have:=zr p l;simp only[cj];omega
theorem TjI.shut{g:ak}{S:TJ}(h:TjI g S){n i:Nat}{r:List<|Nat×Nat}(hp:S.path=(n,i)::r)(hi:(g.getD n []).length<=i)(hl:S.low n=S.num n){low:Nat->Nat}(AD:∀v,S.num v<S.num n->low v=S.low v):TjI g<|S.shut n r low:=by
 have pC:=h.seg;rw[hp] at pC;obtain⟨g1,g2,g3,g4,g5,g6,g7,g8,g9⟩:=pC;have o7:=(h.stk n).1 g1;have zz:∀v,(S.shut n r low).part v=if v∈S.stack/\S.num n<=S.num v then (S.dF:Int) else S.part v:=λv=>rfl
 -- the piece of n
 have hE:∀v,v∈S.stack->S.num n<=S.num v->∀x∈g.getD v [],S.num x.toNat≠0/\(S.part x.toNat<0->S.num n<=S.num x.toNat):=λv hv a x hx=>by
  have b:S.num v<S.count+1:=(by have:=h.bc v;omega);by_cases e:v=n
  ·subst e;obtain⟨k,hk,rfl⟩:=xd hx;obtain⟨n1,n2⟩:=g4 k hk (by rw[ae rfl];omega);exact⟨n1,λz=>by have:=n2 z;omega⟩
  obtain⟨n1,n2⟩:=((g3 v hv a b).2 e).2 x hx;exact⟨n1,λz=>by have:=n2 z;omega⟩
 have yh:∀v,0<=(S.shut n r low).part v↔0<=S.part v\/(v∈S.stack/\S.num n<=S.num v):=λv=>by
  rw[zz];by_cases q:v∈S.stack/\S.num n<=S.num v
  ·rw[ae q];simp[q]
  rw[aa q];simp[q]
 have Sl:∀v,0<=(S.shut n r low).part v->∀x∈g.getD v [],0<=(S.shut n r low).part x.toNat:=λv hv x hx=>by
  rw[yh] at hv⊢;rcases hv with hv|⟨hv,a⟩
  ·exact .inl<|h.cls v hv x hx
  obtain⟨n1,n2⟩:=hE v hv a x hx;rcases Int.lt_or_le (S.part x.toNat) 0 with q|q
  ·exact .inr ⟨(h.stk _).2 ⟨n1,q⟩,n2 q⟩
  exact .inl q
 have zEh:∀m v,S.num v<=m->v∈S.stack->S.num n<=S.num v->To g v n:=by
  intro m
  induction m with
  |zero=>intro v a hv b;have:=((h.stk v).1 hv).1;omega
  |succ m ih =>
   intro v a hv b;by_cases e:v=n
   ·subst e;exact tO g v
   obtain⟨⟨w,w1,w2,w3⟩,_⟩:=(g3 v hv b<|by have:=h.bc v;omega).2 e;have hw:0<=(S.shut n r low).part w:=GY (s:=λv=>0<=(S.shut n r low).part v) Sl w3<|(yh v).2 (.inr ⟨hv,b⟩);rw[yh] at hw;have hw:w∈S.stack/\S.num n<=S.num w:=by
    rcases hw with q|q
    ·have:=((h.stk w).1 w1).2;omega
    exact q
   exact rH w3<|ih w (by omega) w1 hw.2
 have xW:∀v,v∈S.stack->S.num n<=S.num v->To g n v/\To g v n:=λv hv a=>⟨(g3 v hv a<|by have:=h.bc v;omega).1,zEh _ v (aI _) hv a⟩;have hold:∀u v,0<=S.part u->v∈S.stack->¬To g u v:=λu v hu hv q=>by
  have:=GY (s:=λv=>0<=S.part v) h.cls q hu;have:=((h.stk v).1 hv).2;omega
 refine⟨λv=>?_,?_,h.bc,h.node,λv hv=>?_,Sl,λu v hu hv=>?_,?_,?_,h.seen,?_,h.Dx⟩
 ·show v∈S.stack.filter _↔S.num v≠0/\(S.shut n r low).part v<0;rw[nG,c6,zz];constructor
  ·rintro⟨a,b⟩;rw[aa λq=>by omega];exact(h.stk v).1 a
  rintro⟨a,b⟩;by_cases q:v∈S.stack/\S.num n<=S.num v
  ·rw[ae q] at b;omega
  rw[aa q] at b;have:=(h.stk v).2 ⟨a,b⟩;exact⟨this,by
   rcases c7 (S.num v)<|S.num n with z|z
   ·exact z
   exact absurd ⟨this,z⟩ q⟩
 ·exact h.srt.filter _
 ·show(S.shut n r low).part v<((S.dF+1:Nat):Int)/\S.num v≠0;rw[zz];by_cases q:v∈S.stack/\S.num n<=S.num v
  ·rw[ae q];exact⟨by omega,((h.stk v).1 q.1).1⟩
  rw[aa q];rw[yh] at hv;obtain⟨a,b⟩:=h.par v<|hv.resolve_right q;exact⟨by omega,b⟩
 ·rw[yh] at hu hv;rw[zz,zz];by_cases qu:u∈S.stack/\S.num n<=S.num u<;>by_cases qv:v∈S.stack/\S.num n<=S.num v
  ·rw[ae qu,ae qv];obtain⟨a1,a2⟩:=xW u qu.1 qu.2;obtain⟨b1,b2⟩:=xW v qv.1 qv.2;exact⟨λ_=>⟨rH a2 b1,rH b2 a1⟩,λ_=>rfl⟩
  ·rw[ae qu,aa qv];have lS:=hv.resolve_right qv;have:=(h.par v lS).1;exact⟨λe=>by omega,λe=>absurd e.2<|hold v u lS qu.1⟩
  ·rw[aa qu,ae qv];have sH:=hu.resolve_right qu;have:=(h.par u sH).1;exact⟨λe=>by omega,λe=>absurd e.1<|hold u v sH qv.1⟩
  rw[aa qu,aa qv];exact h.same u v (hu.resolve_right qu)<|hv.resolve_right qv
 ·show lW g (S.shut n r low) (S.count+1) true r;have F4:∀v,v∈(S.shut n r low).stack↔v∈S.stack/\S.num v<S.num n:=λv=>by
   show v∈S.stack.filter _↔_;rw[nG,c6]
  have h9:lW g (S.shut n r low) (S.num n) false r:=lW.p' (S:=S) (S':=S.shut n r low) (λx hx=>⟨hx,λq=>by
   have q':¬(0<=(S.shut n r low).part x):=(by omega);rw[yh] at q';exact⟨by
    rcases Int.lt_or_le (S.part x) 0 with z|z
    ·exact z
    exact absurd (.inl z) q',rfl⟩⟩) r (λv hv q=>⟨((F4 v).1 hv).1,rfl⟩) (λv hv q=>⟨(F4 v).2 ⟨hv,q⟩,rfl,AD v q⟩) g9
  match r,g8,h9 with
  |[],_,h9 =>
   intro v hv;have:=h9 v hv;have:=((F4 v).1 hv).2;have:S.num n<=S.num v:=h9 v hv;omega
  |(p,j)::r,g8,h9 =>
   obtain⟨f1,f2,f3,f4,f5,f6,f7,f8,f9⟩:=h9;refine⟨f1,?_,λv hv a b=>?_,λk hk ht=>?_,f5,f6,λq=>(by cases q),f8,f9⟩
   ·have:S.num p<S.num n:=f2;show S.num p<S.count+1;have:=h.bc n;omega
   ·exact f3 v hv a ((F4 v).1 hv).2
   rw[ae rfl] at ht;rcases c7 (k+1) j with q|q
   ·exact f4 k hk<|by rw[aa<|by decide];exact q
   have:k=j-1:=by omega
   subst this;rw[g8.2.2];refine⟨o7.1,λz=>?_⟩;have:=(yh n).2 (.inr ⟨g1,aI _⟩);omega
 ·have:=h.size;have h1:=Xp (p:=λv=>decide (S.num v<S.num n)) g1 (by simp);show S.dF+1+(S.stack.filter λv=>decide (S.num v<S.num n)).length<=S.count;omega
 have:=h.deep;rw[hp] at this;simp only[cj] at this;show r.length+ir (λv=>decide (S.num v≠0)) g.length<=g.length;omega
theorem TjI.zero(g:ak):TjI g ⟨λ_=>0,λ_=>0,λ_=>-1,[],[],0,0⟩ where
 stk v:=by simp
 srt:=by simp
 bc _:=aI _
 node v h:=absurd rfl h
 par v h:=by have h:(0:Int)<=-1:=h;omega
 cls v h:=by have h:(0:Int)<=-1:=h;omega
 same u v h:=by have h:(0:Int)<=-1:=h;omega
 seg:=λv hv=>by cases hv
 size:=by simp
 seen:=by
  show ir (λv=>decide ((0:Nat)≠0)) g.length+0=g.length;have:∀n,ir (λ_=>decide ((0:Nat)≠0)) n=n:=λn=>by
   induction n with
   |zero=>rfl
   |succ n ih=>unfold ir at ih⊢;simp only[iV,ih];simp
  rw[this];rfl
 deep:=by
  show 0+ir (λv=>decide ((0:Nat)≠0)) g.length<=g.length;have:=J3 (λv=>decide ((0:Nat)≠0)) g.length;omega
 Dx u v _ h:=absurd rfl h
theorem TjI.empty(h:TjI g S)(hp:S.path=[]):S.stack=[]:=by
 have hs:=h.seg;rw[hp] at hs
 cases e:S.stack with
 |nil=>rfl
 |cons v r =>
  have:=hs v (by rw[e];simp);have:=h.bc v;omega
theorem TjI.done(h:TjI g S)(hp:S.path=[])(hv:S.num v≠0):0<=S.part v:=by
 rcases Int.lt_or_le (S.part v) 0 with q|q
 ·have:=(h.stk v).2 ⟨hv,q⟩;rw[h.empty hp] at this;cases this
 exact q
def o5(g:ak):List (Nat×Nat)->Nat
 |[]=>0
 |(p,i)::r=>(g.getD p []).length-i+1+o5 g r
def TJ.fuel(g:ak)(S:TJ):Nat:=iV (λv=>if S.num v=0 then (g.getD v []).length+2 else 0) g.length+o5 g S.path
theorem zr3(hv:v<g.length)(h0:S.num v=0)(path:List<|Nat×Nat):TJ.fuel g (S.open v path)+1+o5 g S.path=TJ.fuel g S+o5 g path:=by
 have:=Gl (f:=λw=>if S.num w=0 then (g.getD w []).length+2 else 0) (f':=λw=>if up S.num v (S.count+1) w=0 then (g.getD w []).length+2 else 0) g.length hv λj _ b7=>by rw[jK b7]
 unfold TJ.fuel;show iV (λw=>if up S.num v (S.count+1) w=0 then (g.getD w []).length+2 else 0) g.length+((g.getD v []).length-0+1+o5 g path)+1+o5 g S.path=_;rw[mH,ae h0,aa<|by omega] at this;omega
def bw(s l:af)(i:Nat):Int:=if i<s.length then s.getD i 0 else l.getD ((i-s.length)%l.length) 0
variable(s:af)
theorem Lw(s l:af)(h:s.length<=i):bw s l (i+l.length)=bw s l i:=by
 unfold bw;rw[aa<|by omega,aa<|by omega,show i+l.length-s.length=(i-s.length)+l.length by omega,Nat.add_mod_right]
def seg(f:Nat->Int)(a n:Nat):af:=(List.range n).map λj=>f<|a+j
theorem zwn{s l:af}(h:j<l.length):bw s l (s.length+j)=l.getD j 0:=by
 unfold bw;rw[aa<|by omega,vI,ya h]
def Prd(b m:Nat)(p:aq):Prop:=∀i,b<=i->p (i+m)=p i
theorem Prd.times{b m:Nat}{p:aq}(h:Prd b m p){i:Nat}(hi:b<=i):∀k,p (i+k*m)=p i
 |0=>by simp
 |k+1=>by
  rw[Nat.succ_mul,<-nT,h _<|by omega,h.times hi k]
variable{p:aq}
theorem Prd.kG(h:Prd b m p)(hm:1<=m)(ha:a<=i)(hp:p i):∃j,a<=j/\j<=i/\j<max a b+m/\p j:=by
 induction i using Nat.strongRecOn with
 |_ i ih =>
  by_cases q:i<max a b+m
  ·exact⟨i,ha,aI _,q,hp⟩
  have e:p<|i-m:=by
   have:=h (i-m) (by omega);rw[show i-m+m=i by omega] at this;rw[<-this];exact hp
  obtain⟨j,h1,h2,h3,h4⟩:=ih (i-m) (by omega) (by omega) e;exact⟨j,h1,by omega,h3,h4⟩
theorem Prd.alike(hm:1<=m)(ha:a<=i):∃j k,a<=j/\j<=i/\j<max a b+m/\i=j+k*m/\(k=0\/b<=j):=by
 induction i using Nat.strongRecOn with
 |_ i ih =>
  by_cases q:i<max a b+m
  ·exact⟨i,0,ha,aI _,q,by simp,.inl rfl⟩
  obtain⟨j,k,h1,h2,h3,h4,h5⟩:=ih (i-m) (by omega) (by omega);refine⟨j,k+1,h1,by omega,h3,by rw[Nat.succ_mul];omega,.inr ?_⟩;rcases h5 with h5|h5
  ·subst h5;omega
  exact h5
theorem Prd.late(h:Prd b m p)(hm:1<=m)(hj:b<=j)(hp:p j)(i:Nat):∃k,i<=k/\p k:=by
 refine⟨j+i*m,?_,by rw[h.times hj];exact hp⟩;have:i*1<=i*m:=yg (aI _) hm;omega
def uz(p:aq):Nat->Nat->Nat
 |i,0=>i
 |i,d+1=>if p i=true then i else uz p (i+1) d
theorem Vo(p:aq):∀(d i:Nat),i<=uz p i d/\uz p i d<=i+d/\(∀j,i<=j->j<uz p i d->p j=false)/\(uz p i d<i+d->p (uz p i d))
 |0,i=>⟨aI _,aI _,λj h1 h2=>by simp only[uz] at h2;omega,λh=>by simp[uz] at h⟩
 |d+1,i=>by
  simp only[uz];split
  ·rename_i h;exact⟨aI _,by omega,λj h1 h2=>by omega,λ_=>h⟩
  rename_i h;obtain⟨h1,h2,h3,h4⟩:=Vo p d<|i+1;refine⟨by omega,by omega,λj g1 g2=>?_,λg=>h4<|by omega⟩;by_cases e:j=i
  ·subst e;simpa using h
  exact h3 j (by omega) g2
def fst(p:aq)(e i:Nat):Nat:=uz p i<|e-i
variable{e:Nat}
theorem mY(h:i<=e):i<=fst p e i/\fst p e i<=e/\(∀j,i<=j->j<fst p e i->p j=false)/\(fst p e i<e->p (fst p e i)):=by
 obtain⟨h1,h2,h3,h4⟩:=Vo p (e-i) i;exact⟨h1,by unfold fst;omega,h3,λg=>h4<|by unfold fst at g;omega⟩
theorem fst_eq{t:Nat}(h1:i<=t)(h2:t<=e)(h3:∀j,i<=j->j<t->p j=false)(h4:t<e->p t):fst p e i=t:=by
 obtain⟨g1,g2,g3,g4⟩:=mY (p:=p) (e:=e) (i:=i) (by omega);rcases ue (fst p e i) t with q|q|q
 ·have:=h3 _ g1 q;rw[g4<|by omega] at this;cases this
 ·exact q
 have:=g3 t h1 q;rw[h4<|by omega] at this;cases this
theorem AK(h:i<=e):fst p e i<e↔∃j,i<=j/\j<e/\p j:=by
 obtain⟨g1,g2,g3,g4⟩:=mY (p:=p) (e:=e) (i:=i) h;constructor
 ·intro q;exact⟨_,g1,q,g4 q⟩
 rintro⟨j,q1,q2,q3⟩;rcases c7 (fst p e i) e with q|q
 ·exact q
 have:=g3 j q1 (by omega);rw[q3] at this;cases this
def BN(p:aq)(i:Nat):Nat->Nat
 |0=>0
 |d+1=>BN p i d+(if p (i+d)=true then 1 else 0)
def bc(p:aq)(a e:Nat):Nat:=BN p a<|e-a
theorem D5(p:aq)(i:Nat):∀d,BN p i d<=d
 |0=>aI _
 |d+1=>by have:=D5 p i d;simp only[BN];split<;>omega
theorem mh(h:a<=e):bc p a (e+1)=bc p a e+(if p e=true then 1 else 0):=by
 unfold bc;rw[show e+1-a=(e-a)+1 by omega];simp only[BN];rw[show a+(e-a)=e by omega]
theorem nr(p:aq)(a:Nat):bc p a a=0:=by simp[bc,BN]
theorem qq(h:a<=m):∀e,m<=e->bc p a e=bc p a m+bc p m e:=by
 intro e he;obtain⟨d,rfl⟩:=u6 he;clear he
 induction d with
 |zero=>rw[kN,nr];rfl
 |succ d ih=>rw[<-nT,mh<|by omega,mh<|by omega,ih];omega
theorem vR:∀e,a<=e->(bc p a e=0↔∀j,a<=j->j<e->p j=false):=by
 intro e he;obtain⟨d,rfl⟩:=u6 he;clear he
 induction d with
 |zero=>rw[kN,nr];exact⟨λ_ j h1 h2=>by omega,λ_=>rfl⟩
 |succ d ih =>
  have zD:a<=a+d:=(by omega);rw[<-nT,mh zD];generalize a+d=e at *;constructor
  ·intro h j h1 h2;by_cases q:j=e
   ·subst q
    cases hp:p j with
    |false=>rfl
    |true=>rw[hp,ae rfl] at h;omega
   exact ih.1 (by omega) j h1<|by omega
  intro h;rw[ih.2 λj h1 h2=>h j h1<|by omega,h e zD<|by omega,aa<|by decide]
theorem WL:∀e,a<=e->(bc p a e=e-a↔∀j,a<=j->j<e->p j):=by
 intro e he;obtain⟨d,rfl⟩:=u6 he;clear he
 induction d with
 |zero=>rw[kN,nr];exact⟨λ_ j h1 h2=>by omega,λ_=>by omega⟩
 |succ d ih =>
  have zD:a<=a+d:=(by omega);rw[<-nT,mh zD];generalize a+d=e at *;have hle:=D5 p a<|e-a;change bc p a e<=e-a at hle;constructor
  ·intro h j h1 h2;have CR:p e:=by
    cases hp:p e with
    |true=>rfl
    |false=>rw[hp,aa<|by decide] at h;omega
   rw[CR,ae rfl] at h;by_cases q:j=e
   ·subst q;exact CR
   exact ih.1 (by omega) j h1<|by omega
  intro h;rw[ih.2 λj h1 h2=>h j h1<|by omega,h e zD<|by omega,ae rfl];omega
theorem re(h:a<=e):0<bc p a e↔∃j,a<=j/\j<e/\p j:=by
 constructor
 ·intro q;apply Classical.byContradiction;intro hn;have:=(vR (p:=p) e h).2 λj h1 h2=>by
   cases hp:p j with
   |false=>rfl
   |true=>exact absurd ⟨j,h1,h2,hp⟩ hn
  omega
 rintro⟨j,h1,h2,h3⟩;rcases vM<|bc p a e with q|q
 ·have:=(vR (p:=p) e h).1 q j h1 h2;rw[h3] at this;cases this
 exact q
theorem JP(h:Prd b m p)(hm:1<=m){f:Nat}(ha:a<=b+m)(he:b+6*m<=e)(hf:b+6*m<=f)(hc:c<=3):bc p a e<=c↔bc p a f<=c:=by
 have key:∀e f,b+6*m<=e->b+6*m<=f->bc p a e<=c->bc p a f<=c:=λe f he hf hle=>by
  by_cases q:∃i,b<=i/\i<b+m/\p i=true
  ·exfalso;obtain⟨i,h1,h2,h3⟩:=q;have hp:∀k,p<|i+k*m:=λk=>by rw[h.times h1];exact h3
   have one:∀k,0<bc p (i+k*m) (i+(k+1)*m):=λk=>(re<|by rw[Nat.succ_mul];omega).2 ⟨i+k*m,aI _,by rw[Nat.succ_mul];omega,hp k⟩;have o1:0<bc p (i+1*m) (i+2*m):=one 1;have o2:0<bc p (i+2*m) (i+3*m):=one 2;have o3:0<bc p (i+3*m) (i+4*m):=one 3;have o4:0<bc p (i+4*m) (i+5*m):=one 4;have s1:=qq (p:=p) (a:=a) (m:=i+1*m) (by omega) e (by omega);have s2:=qq (p:=p) (a:=i+1*m) (m:=i+2*m) (by omega) e (by omega);have s3:=qq (p:=p) (a:=i+2*m) (m:=i+3*m) (by omega) e (by omega);have s4:=qq (p:=p) (a:=i+3*m) (m:=i+4*m) (by omega) e (by omega);have s5:=qq (p:=p) (a:=i+4*m) (m:=i+5*m) (by omega) e (by omega);omega
  have cJ:∀j,b<=j->p j=false:=λj hj=>by
   cases hp:p j with
   |false=>rfl
   |true =>
    obtain⟨i,g1,g2,g3,g4⟩:=h.kG hm hj hp;exact absurd ⟨i,g1,by omega,g4⟩ q
  have hz:∀x y,b<=x->x<=y->bc p x y=0:=λx y hx hy=>(vR y hy).2 λj h1 h2=>cJ j (by omega);have s1:=qq (p:=p) (a:=a) (m:=b+6*m) (by omega) e he;have s2:=qq (p:=p) (a:=a) (m:=b+6*m) (by omega) f hf;have z1:=hz (b+6*m) e (by omega) he;have z2:=hz (b+6*m) f (by omega) hf;omega
 exact⟨key e f he hf,key f e hf he⟩
def Jm(kind:Int)(P S:aq)(E a e i:Nat):Bool:=(List.range<|i-a).all λd=>!P (a+d)||(if kind=5 then decide (0<bc S a (a+d+1)) else if kind=6 then decide (fst S E (a+d)<e) else true)
def sq(kind count:Int)(P S:aq)(E a e:Nat):Bool :=
 if kind=1 then decide (bc P a e=0) else if kind=2 then decide (bc P a e=e-a) else if kind=3 then decide (0<bc P a e) else if kind=4 then decide ((bc P a e:Int)<=count) else Jm kind P S E a e e
def zL(P S:aq)(E a e:Nat):Bool:=(List.range<|e-a).all λd=>!(P (a+d)&&decide (fst S E (a+d)=E))
theorem qp{f:aq}:(List.range n).all f↔∀d,d<n->f d:=by simp
theorem imp_or{a b:Bool}:(!a||b)↔(a=true->b):=by cases a<;>cases b<;>simp
theorem zwO{P S:aq}(hP:Prd b m P)(hS:Prd b m S)(hm:1<=m)(ha:a<=b+m):((∀d,d<b+6*m-a->(!(P (a+d)&&decide (fst S (b+6*m+m) (a+d)=b+6*m+m)))=true)↔∀i,a<=i->P i=true->∃j,i<=j/\S j=true):=by
 constructor
 ·intro h i hi hp;obtain⟨j,k,h1,h2,h3,h4,h5⟩:=Prd.alike (b:=b) hm hi;have G0:P j:=by
   rcases h5 with h5|h5
   ·subst h5;rw[Nat.zero_mul,kN] at h4;subst h4;exact hp
   rw[h4,hP.times h5] at hp;exact hp
  have:=h (j-a) (by omega);rw[show a+(j-a)=j by omega,G0,jZ,oG,wA] at this;obtain⟨g1,g2,g3,g4⟩:=mY (p:=S) (e:=b+6*m+m) (i:=j) (by omega);have g5:=g4 (by omega);rcases h5 with h5|h5
  ·subst h5;rw[Nat.zero_mul,kN] at h4;subst h4;exact⟨_,g1,g5⟩
  exact hS.late hm (by omega) g5 i
 intro h d hd
 cases hp:P<|a+d with
 |false=>rfl
 |true =>
  obtain⟨j,q1,q2⟩:=h (a+d) (by omega) hp;obtain⟨j',q3,q4,q5,q6⟩:=hS.kG hm q1 q2;rw[jZ,oG,wA];have:=(AK (p:=S) (e:=b+6*m+m) (i:=a+d)<|by omega).2 ⟨j',q3,by omega,q6⟩;omega
variable{p:Nat}
theorem zsG(hp:S.path=(p,i)::r)(hi:i<(g.getD p []).length)(hv:v<g.length)(h0:S.num v=0):TJ.fuel g (S.open v<|(p,i+1)::r)+2=TJ.fuel g S:=by
 have:=zr3 hv h0<|(p,i+1)::r;rw[hp] at this;simp only[o5] at this;omega
theorem zus{x:Nat}(hp:S.path=(p,i)::r)(hi:i<(g.getD p []).length):TJ.fuel g (S.skip p i r x)+1=TJ.fuel g S:=by
 unfold TJ.fuel;rw[hp];show _+((g.getD p []).length-(i+1)+1+o5 g r)+1=_+((g.getD p []).length-i+1+o5 g r);show iV (λv=>if S.num v=0 then _ else 0) _+_+1=_;omega
theorem zsS(hp:S.path=(n,i)::(p,j)::r):TJ.fuel g (S.back n p j r)<TJ.fuel g S:=by
 unfold TJ.fuel;rw[hp];show iV (λv=>if S.num v=0 then _ else 0) _+((g.getD p []).length-j+1+o5 g r)<_+((g.getD n []).length-i+1+((g.getD p []).length-j+1+o5 g r));omega
variable{low:Nat->Nat}
theorem SQ(hp:S.path=(n,i)::r):TJ.fuel g (S.shut n r low)<TJ.fuel g S:=by
 unfold TJ.fuel;rw[hp];show iV (λv=>if S.num v=0 then _ else 0) _+o5 g r<_+((g.getD n []).length-i+1+o5 g r);omega
def hasB(same:Nat->Nat->Bool)(k:Nat):Bool:=(List.range k).any λb=>same b k
def ju(same:Nat->Nat->Bool):Nat->Nat
 |0=>0
 |k+1=>ju same k+if hasB same k=true then 0 else 1
def ni(same:Nat->Nat->Bool)(k:Nat):Nat:=ju same<|fst (λb=>same b k) k 0
structure Eqv(same:Nat->Nat->Bool)(n:Nat):Prop where
 refl:∀a,a<n->same a a=true
 symm:∀a b,a<n->b<n->same a b->same b a=true
 trans:∀a b c,a<n->b<n->c<n->same a b->same b c->same a c=true
theorem NN(same:Nat->Nat->Bool):∀k,ju same k<=k
 |0=>aI _
 |k+1=>by simp only[ju];have:=NN same k;split<;>omega
variable{same:Nat->Nat->Bool}
theorem Q3(h:Eqv same n)(hk:k<n)(hb:b<k)(hs:same b k)(hf:∀c,c<b->same c k=false):ni same k=ju same b/\ni same b=ju same b:=by
 constructor
 ·unfold ni;rw[fst_eq (i:=0) (t:=b) (b9 _) (by omega) (λj _ hj=>hf j hj) λ_=>hs]
 unfold ni;rw[fst_eq (i:=0) (t:=b) (b9 _) (aI _) (λj _ hj=>?_) λz=>by omega];rw[th];intro q;have:=h.trans j b k (by omega) (by omega) hk q hs;rw[hf j hj] at this;cases this
theorem Kh(hf:∀c,c<k->same c k=false):ni same k=ju same k/\hasB same k=false:=by
 constructor
 ·unfold ni;rw[fst_eq (i:=0) (t:=k) (b9 _) (aI _) (λj _ hj=>hf j hj) λz=>by omega]
 unfold hasB;rw[oP];intro b hb;rw[hf b<|eW.1 hb];decide
theorem KH(h:Eqv same n)(hk:k<n)(hb:b<k)(hs:same b k):ni same k=ni same b/\hasB same k:=by
 refine⟨?_,iR.2 ⟨b,eW.2 hb,hs⟩⟩;obtain⟨g1,g2,g3,g4⟩:=mY (p:=λb=>same b k) (e:=k) (i:=0)<|b9 _;have bF:fst (λb=>same b k) k 0<k:=by
  rcases c7 (fst (λb=>same b k) k 0) k with q|q
  ·exact q
  have:=g3 b (b9 _) (by omega);simp only[hs] at this;cases this
 have hc:=g4 bF;generalize fst (λb=>same b k) k 0=c at *;have SF:c<=b:=by
  rcases c7 b c with q|q
  ·have:=g3 b (b9 _) q;simp only[hs] at this;cases this
  exact q
 have e1:=(Q3 h hk bF hc λd hd=>g3 d (b9 _) hd);rw[e1.1];by_cases e:c=b
 ·subst e;rw[e1.2]
 refine(Q3 h (k:=b) (by omega) (show c<b by omega) (h.trans c k b (by omega) hk (by omega) hc<|h.symm b k (by omega) hk hs) λd hd=>?_).1.symm;rw[th];intro q;have:=h.trans d b k (by omega) (by omega) hk q hs;have z:=g3 d (b9 _) hd;simp only[this] at z;cases z
theorem QM(h:Eqv same n)(hk:k<n):ni same k<n:=by
 unfold ni;have:=(mY (p:=λb=>same b k) (e:=k) (i:=0)<|b9 _).2.1;have:=NN same<|fst (λb=>same b k) k 0;omega
theorem ZS(h:Eqv same n)(ha:a<n)(hb:b<n):ni same a=ni same b↔same a b:=by
 have mono:∀i j,i<=j->ju same i<=ju same j:=λi j mR=>by
  obtain⟨d,rfl⟩:=u6 mR;clear mR
  induction d with
  |zero=>exact aI _
  |succ d ih=>exact ia ih<|by rw[<-nT];simp only[ju];omega
 have first:∀k,k<n->∃c,c<=k/\same c k/\(∀d,d<c->same d c=false)/\ni same k=ju same c:=λk hk=>by
  obtain⟨g1,g2,g3,g4⟩:=mY (p:=λb=>same b k) (e:=k) (i:=0)<|b9 _;refine⟨fst (λb=>same b k) k 0,g2,?_,λd hd=>?_,rfl⟩
  ·rcases c7 (fst (λb=>same b k) k 0) k with q|q
   ·exact g4 q
   rw[show fst (λb=>same b k) k 0=k by omega];exact h.refl k hk
  rw[th];intro q;rcases c7 (fst (λb=>same b k) k 0) k with z|z
  ·have:=h.trans d _ k (by omega) (by omega) hk q<|g4 z;have y:=g3 d (b9 _) hd;simp only[this] at y;cases y
  have e:fst (λb=>same b k) k 0=k:=(by omega);have y:=g3 d (b9 _) hd;rw[e] at q;simp only[q] at y;cases y
 constructor
 ·intro e;obtain⟨c,c1,c2,c3,c4⟩:=first a ha
  obtain⟨d,d1,d2,d3,d4⟩:=first b hb
  have ecd:c=d:=by
   rcases ue c d with q|q|q
   ·have h1:=mono (c+1) d q;simp only[ju,(Kh c3).2] at h1;simp at h1;omega
   ·exact q
   have h1:=mono (d+1) c q;simp only[ju,(Kh d3).2] at h1;simp at h1;omega
  subst ecd;exact h.trans a c b ha (by omega) hb (h.symm c a (by omega) ha c2) d2
 intro e;rcases ue a b with q|q|q
 ·exact(KH h hb q e).1.symm
 ·rw[q]
 exact(KH h ha q<|h.symm a b ha hb e).1
noncomputable def pL(g:ak)(a b:Nat):Bool:=rS g [(a:Int)] b&&rS g [(b:Int)] a
theorem lk:pL g a b↔To g a b/\To g b a:=by
 unfold pL;rw[dL,AO,AO]
theorem JZ(g:ak)(n:Nat):Eqv (pL g) n where
 refl a _:=lk.2 ⟨tO g a,tO g a⟩
 symm a b _ _ h:=lk.2 (lk.1 h).symm
 trans a b c _ _ _ h k:=lk.2 ⟨rH (lk.1 h).1 (lk.1 k).1,rH (lk.1 k).2 (lk.1 h).2⟩
def xJ(g:ak)(c:Nat):Prop:=∃x,x∈g.getD c []/\To g x.toNat c
def Fw(g:ak)(sets:List aq)(v:Nat):Prop:=∃c,To g v c/\xJ g c/\∀S,S∈sets->∃d,S d/\To g c d/\To g d c
open Classical in
noncomputable def fwB(g:ak)(sets:List aq)(v:Nat):Bool:=decide (Fw g sets v)
variable{sets:List aq}
theorem zyT:fwB g sets v↔Fw g sets v:=by unfold fwB;simp
variable{b:Bool}
theorem zBj(h:b↔Fw g sets v):b=fwB g sets v:=by
 rw[kj,h,zyT]
theorem Fw.back(h:Fw g sets v)(k:To g u v):Fw g sets u:=by
 obtain⟨c,h1,h2,h3⟩:=h;exact⟨c,rH k h1,h2,h3⟩
theorem Ko{d:Nat}(h:xJ g c)(h1:To g c d)(h2:To g d c):xJ g d:=by
 obtain⟨x,hx,k⟩:=h
 -- the first going of a way from d to c,or d is c
 have key:∀{a b:Nat},To g a b->a=b\/∃y,y∈g.getD a []/\To g y.toNat b:=by
  intro a b q;unfold To at q
  induction q with
  |base m=>simp only[cM] at m;subst m;left;simp
  |step q m ih =>
   rcases ih with e|⟨y,y1,y2⟩
   ·subst e;exact .inr ⟨_,m,tO g _⟩
   exact .inr ⟨y,y1,.step y2 m⟩
 rcases key h2 with e|⟨y,y1,y2⟩
 ·subst e;exact⟨x,hx,k⟩
 exact⟨y,y1,rH y2 h1⟩
open Classical in
def gQ(g:ak)(z:aq):ak:=(List.range g.length).map λv=>if z v=true then (g.getD v []).filter λx=>z x.toNat else []
@[simp] theorem Lg(g:ak)(z:aq):(gQ g z).length=g.length:=by simp[gQ]
theorem zwR{z:aq}:x∈(gQ g z).getD v []↔x∈g.getD v []/\z v/\z x.toNat:=by
 by_cases h:v<g.length
 ·rw[ay,aG<|by simpa using h];simp only[gQ,List.getElem_map,List.getElem_range,pe];split
  ·rename_i q;simp[nG,q]
  rename_i q;simp[q]
 have e1:(gQ g z).getD v []=[]:=by rw[ay,db<|by simpa using h];rfl
 have e2:g.getD v []=[]:=by rw[ay,db<|by omega];rfl
 rw[e1,e2];simp
theorem Hx(bg:∀v x,x∈g.getD v []->x.toNat<g.length)(hu:u<g.length)(h:To g u v):v<g.length:=GY (s:=λv=>v<g.length) (λv _ x hx=>bg v x hx) h hu

noncomputable abbrev aj : Program := Tryz.prog
def ee{α:Type}(p:α->Bool)(l:List α):Int:=match l.findIdx? p with|some i=>(i:Int)|none=>-1
theorem CC{p:α->Bool}{l:List α}(hk:k<l.length)(h:p l[k])(no:∀j (hj:j<k),p (l[j]'zo)=false):ee p l=k:=by
 have:l.findIdx? p=some k:=by
  rw[IY];exact⟨hk,h,λj hj=>by simp[no j hj]⟩
 unfold ee;rw[this]
theorem BP{p:α->Bool}{l:List α}(no:∀j (hj:j<l.length),p l[j]=false):ee p l=-1:=by
 have:l.findIdx? p=none:=by
  rw[List.findIdx?_eq_none_iff];intro x hx;obtain⟨j,hj,rfl⟩:=kn.1 hx;exact no j hj
 unfold ee;rw[this]
theorem sm(p:α->Bool)(l:List α):decide (ee p l>=0)=l.any p:=by
 unfold ee
 cases e:l.findIdx? p with
 |none =>
  rw[List.findIdx?_eq_none_iff] at e;have:l.any p=false:=by rw[oP];intro x hx;simp[e x hx]
  rw[this];rfl
 |some i =>
  rw[IY] at e;obtain⟨h1,h2,_⟩:=e;have:l.any p=true:=by rw[iR];exact⟨_,ig h1,h2⟩
  rw[this];exact gb<|by show(0:Int)<=(i:Int);omega
theorem C6{p:α->Bool}{l:List α}(h:0<=ee p l):∃k:Nat,ee p l=(k:Int)/\∃hk:k<l.length,p l[k]/\∀j (hj:j<k),p (l[j]'zo)=false:=by
 unfold ee at h⊢
 cases e:l.findIdx? p with
 |none=>rw[e] at h;exact absurd h zc
 |some i =>
  rw[IY] at e;obtain⟨h1,h2,h3⟩:=e;exact⟨i,rfl,h1,h2,λj hj=>by simpa using h3 j hj⟩
variable{z:Nat}
theorem yd{c:α->D}{l:List α}(hz:z=k)(h:k<l.length):(l.map λa=>[c a])[z]? = some [c l[k]]:=by
 subst hz;rw[cy,aG h];rfl
@[simp] theorem G2(f:α->aZ)(l:List α):bN m (l.map f)↔∀a∈l,aK m<|f a:=by
 induction l with
 |nil=>simp[bN]
 |cons a r ih=>simp[bN,ih]
@[simp] theorem zAD(f:α->aZ)(l:List α):dX (l.map f)↔∀a∈l,ao<|f a:=by
 induction l with
 |nil=>simp[dX]
 |cons a r ih=>simp[dX,ih]
@[simp] theorem zC1(f:α->aZ)(l:List α):jH ρ (l.map f)=l.map λa=>bO ρ<|f a:=by
 induction l with
 |nil=>simp[jH]
 |cons a r ih=>simp[jH,ih]
@[simp] theorem zoi:az m (aL l)↔True:=⟨λ_=>trivial,λ_=>cp _<|c9 l⟩
@[simp] theorem znu(l:ak):az m (bW l)↔True:=⟨λ_=>trivial,λ_=>cp _<|lu l⟩
@[simp] theorem s7:D.aO ρ (aL l)=aL l:=iK _<|c9 l
@[simp] theorem UY(l:ak):D.aO ρ (bW l)=bW l:=iK _<|lu l
theorem dt{l:List α}(h:l.length<=n):List.drop 0 (List.take n l)=l:=by rw[ft,fF h]
def zC6:PC:=SO [Mv 2 cN] (.seq (SO [qm 3 0,q 4 (.Bb 3 false 3)]<|If 4 (.seq (.stop<|OP [Mv 2 cN]) .ret))<|SO [Bs 5 1 0 [],qm 6 0,Ap 7 1 8 5 6,qm 2 7] .ret)
theorem Hw(hl:l.length<=17592186044416):cd aj 118 [.a8 1<|l.map λn=>[ab n]] [] (.own 0 1 0 l.length) [.vec true 1 1<|l.map λn=>[ab n]]:=by
 refine gm (fJ 8 [.tmp 2] zC6 Tryz.func118) zs zs ?_ (by simp[az]) (by simp[an.under,aK,az]);refine sR ?_;intro b hb;cases b
 ·refine sWJ ?_;simp
 refine sW ?_;have hb:=hb rfl;obtain rfl:l=[]:=by simpa using hb
 refine Bo (λ_:Unit=>[(2,.own 0 1 0 0)]) (λ_=>[.vec true 1 1 []]) (λ_=>True) ?_ ?_
 ·refine sR ?_;exact⟨(),trivial,oK (OK 2 1 1 zs rfl)<|xP<|by exact sK⟩
 rintro _ _;refine sW ?_;simp
def c63o:PC:=SO [Mv 2 cN] (.seq (SO [qm 3 0,q 4 (.Bb 3 false 3)]<|If 4 (.seq (.stop<|OP [Mv 2 cN]) .ret))<|SO [Bs 5 1 0 [],qm 6 0,Ap 7 1 8 5 6,qm 2 7] .ret)
theorem zqb(hl:l.length<=17592186044416):cd aj 63 [.a8 1<|l.map λn=>[.sc (.int .u64 n)]] [] (.own 0 1 0 l.length) [.vec true 1 1<|l.map λn=>[.sc (.int .u64 n)]]:=by
 refine gm (fJ 8 [.tmp 2] c63o Tryz.func63) zs zs ?_ (by simp[az]) (by simp[an.under,aK,az]);refine sR ?_;intro b hb;cases b
 ·refine sWJ ?_;simp
 refine sW ?_;have hb:=hb rfl;obtain rfl:l=[]:=by simpa using hb
 refine Bo (λ_:Unit=>[(2,.own 0 1 0 0)]) (λ_=>[.vec true 1 1 []]) (λ_=>True) ?_ ?_
 ·refine sR ?_;exact⟨(),trivial,oK (OK 2 1 1 zs rfl)<|xP<|by exact sK⟩
 rintro _ _;refine sW ?_;simp
theorem zo7(c:α->D)(m5:∀a,Pure<|c a)(l:List α)(hl:l.length<=9223372036854775807)(p:α->Bool)(cl:FuncId)(cap:aZ)(hp:ao cap)(hc:∀a∈l,ar aj cl (c a::cap)<|aF<|p a) :
  ar aj 176 [.a8 1<|l.map λa=>[c a],.fn (.func cl) [] cap] (ab<|ee p l):=by
 have iN:dX<|l.map λa=>[c a]:=cO _ (λa=>by simp[ao,m5]) l;refine fi fZ zs (by simp[ao,Pure,hp,iN]) ?_ (by simp[Pure]);refine sR ?_;rw[aS];have fin:∀{z:Int},z=ee p l->Deep [] (ab z) (ab<|ee p l):=λh=>h▸.refl _;refine bT [0,1,7] (λk:Nat=>[(8,ab k)]) (λ_=>[]) (λk=>k<=l.length/\∀j (hj:j<k) (hl:j<l.length),p l[j]=false) (λk=>l.length-k) 0 ?_;refine sW ?_;refine⟨⟨zo,λj hj=>zo⟩,by exact sK,rfl,?_⟩;rintro k ⟨hk,cJ⟩;refine bl (λh=>?_) λh=>?_
 ·have au:k<l.length:=sO;refine sL (yd (k:=k) zo au) ?_;refine sC (hc _<|ig au) ?_;refine sS (λh2=>?_) λh2=>?_
  ·exact fin (CC au h2 λj hj=>cJ j hj zo).symm
  refine sI ?_;refine⟨k+1,⟨zo,λj hj hl=>?_⟩,zd,bf (by exact sK) rfl⟩;by_cases e:j=k
  ·subst e;exact h2
  exact cJ j zo hl
 have au:¬k<l.length:=sO;exact fin (BP λj hj=>cJ j zo hj).symm
theorem kY(c:α->D)(m5:∀a,Pure<|c a)(l:List α)(hl:l.length<=9223372036854775807)(p:α->Bool)(cl:FuncId)(cap:aZ)(hp:ao cap)(hc:∀a∈l,ar aj cl (c a::cap)<|aF<|p a) :
  ar aj 94 [.a8 1<|l.map λa=>[c a],.fn (.func cl) [] cap] (aF<|l.any p):=by
 have iN:dX<|l.map λa=>[c a]:=cO _ (λa=>by simp[ao,m5]) l;refine fi fZ zs (by simp[ao,Pure,hp,iN]) ?_ (by simp[Pure]);refine sR ?_;refine sC (zo7 c m5 l hl p cl cap hp hc) ?_;rw[sm];exact .refl _
theorem znM(c:α->D)(m5:∀a,Pure<|c a)(l:List α)(hl:l.length<=9223372036854775807)(p:α->Bool)(cl:FuncId)(cap:aZ)(hp:ao cap)(hc:∀a∈l,ar aj cl (c a::cap)<|aF<|p a) :
  ar aj 186 [.a8 1<|l.map λa=>[c a],.fn (.func cl) [] cap] (ab<|ee p l):=by
 have iN:dX<|l.map λa=>[c a]:=cO _ (λa=>by simp[ao,m5]) l;refine fi fZ zs (by simp[ao,Pure,hp,iN]) ?_ (by simp[Pure]);refine sR ?_;rw[aS];have fin:∀{z:Int},z=ee p l->Deep [] (ab z) (ab<|ee p l):=λh=>h▸.refl _;refine bT [0,1,7] (λk:Nat=>[(8,ab k)]) (λ_=>[]) (λk=>k<=l.length/\∀j (hj:j<k) (hl:j<l.length),p l[j]=false) (λk=>l.length-k) 0 ?_;refine sW ?_;refine⟨⟨zo,λj hj=>zo⟩,by exact sK,rfl,?_⟩;rintro k ⟨hk,cJ⟩;refine bl (λh=>?_) λh=>?_
 ·have au:k<l.length:=sO;refine sL (yd (k:=k) zo au) ?_;refine sC (hc _<|ig au) ?_;refine sS (λh2=>?_) λh2=>?_
  ·exact fin (CC au h2 λj hj=>cJ j hj zo).symm
  refine sI ?_;refine⟨k+1,⟨zo,λj hj hl=>?_⟩,zd,bf (by exact sK) rfl⟩;by_cases e:j=k
  ·subst e;exact h2
  exact cJ j zo hl
 have au:¬k<l.length:=sO;exact fin (BP λj hj=>cJ j zo hj).symm
theorem Nq(c:α->D)(m5:∀a,Pure<|c a)(l:List α)(hl:l.length<=9223372036854775807)(p:α->Bool)(cl:FuncId)(cap:aZ)(hp:ao cap)(hc:∀a∈l,ar aj cl (c a::cap)<|aF<|p a) :
  ar aj 111 [.a8 1<|l.map λa=>[c a],.fn (.func cl) [] cap] (aF<|l.any p):=by
 have iN:dX<|l.map λa=>[c a]:=cO _ (λa=>by simp[ao,m5]) l;refine fi fZ zs (by simp[ao,Pure,hp,iN]) ?_ (by simp[Pure]);refine sR ?_;refine sC (znM c m5 l hl p cl cap hp hc) ?_;rw[sm];exact .refl _
theorem WM(hl:l.length<=9223372036854775807)(b:Int) :
  ar aj 158 [.a8 1<|l.map λa=>[ab a],ab b] (ab<|ee (λa=>b==a) l):=by
 have iN:dX<|l.map λa=>[ab a]:=cO _ (λa=>by simp[ao,Pure]) l;refine fi fZ zs (by simp[ao,Pure,iN]) ?_ (by simp[Pure]);refine sR ?_;rw[aS];have fin:∀{z:Int},z=ee (λa=>b==a) l->Deep [] (ab z) (ab<|ee (λa=>b==a) l):=λh=>h▸.refl _;refine bT [0,1,7] (λk:Nat=>[(8,ab k)]) (λ_=>[]) (λk=>k<=l.length/\∀j (hj:j<k) (hl:j<l.length),(b==l[j])=false) (λk=>l.length-k) 0 ?_;refine sW ?_;refine⟨⟨zo,λj hj=>zo⟩,by exact sK,rfl,?_⟩;rintro k ⟨hk,cJ⟩;refine bl (λh=>?_) λh=>?_
 ·have au:k<l.length:=sO;refine sL (yd (c:=λa=>ab a) (k:=k) zo au) ?_;refine sS (λh2=>?_) λh2=>?_
  ·exact fin (CC au h2 λj hj=>cJ j hj zo).symm
  refine sI ?_;refine⟨k+1,⟨zo,λj hj hl=>?_⟩,zd,bf (by exact sK) rfl⟩;by_cases e:j=k
  ·subst e;exact h2
  exact cJ j zo hl
 have au:¬k<l.length:=sO;exact fin (BP λj hj=>cJ j zo hj).symm
theorem RF(hl:l.length<=9223372036854775807)(b:Int) :
  ar aj 62 [.a8 1<|l.map λa=>[ab a],ab b] (aF<|l.contains b):=by
 have iN:dX<|l.map λa=>[ab a]:=cO _ (λa=>by simp[ao,Pure]) l;refine fi fZ zs (by simp[ao,Pure,iN]) ?_ (by simp[Pure]);refine sR ?_;refine sC (WM l hl b) ?_;rw[sm];exact bL<|by rw[List.contains_eq_any_beq]
variable(l:List Bool)
theorem UR(hl:l.length<=9223372036854775807)(b:Bool) :
  ar aj 202 [.a8 1<|l.map λa=>[aF a],aF b] (ab<|ee (λa=>b==a) l):=by
 have iN:dX<|l.map λa=>[aF a]:=cO _ (λa=>by simp[ao,Pure]) l;refine fi fZ zs (by simp[ao,Pure,iN]) ?_ (by simp[Pure]);refine sR ?_;rw[aS];have fin:∀{z:Int},z=ee (λa=>b==a) l->Deep [] (ab z) (ab<|ee (λa=>b==a) l):=λh=>h▸.refl _;refine bT [0,1,7] (λk:Nat=>[(8,ab k)]) (λ_=>[]) (λk=>k<=l.length/\∀j (hj:j<k) (hl:j<l.length),(b==l[j])=false) (λk=>l.length-k) 0 ?_;refine sW ?_;refine⟨⟨zo,λj hj=>zo⟩,by exact sK,rfl,?_⟩;rintro k ⟨hk,cJ⟩;refine bl (λh=>?_) λh=>?_
 ·have au:k<l.length:=sO;refine sL (yd (c:=λa=>aF a) (k:=k) zo au) ?_;refine sS (λh2=>?_) λh2=>?_
  ·exact fin (CC au h2 λj hj=>cJ j hj zo).symm
  refine sI ?_;refine⟨k+1,⟨zo,λj hj hl=>?_⟩,zd,bf (by exact sK) rfl⟩;by_cases e:j=k
  ·subst e;exact h2
  exact cJ j zo hl
 have au:¬k<l.length:=sO;exact fin (BP λj hj=>cJ j zo hj).symm
theorem ziI(hl:l.length<=9223372036854775807)(b:Bool) :
  ar aj 164 [.a8 1<|l.map λa=>[aF a],aF b] (aF<|l.contains b):=by
 have iN:dX<|l.map λa=>[aF a]:=cO _ (λa=>by simp[ao,Pure]) l;refine fi fZ zs (by simp[ao,Pure,iN]) ?_ (by simp[Pure]);refine sR ?_;refine sC (UR l hl b) ?_;rw[sm];exact bL<|by rw[List.contains_eq_any_beq]
theorem Y'(a b:af)(ha:a.length<=9223372036854775807):ar aj 60 [aL a,aL b]<|aF<|decide (a=b):=by
 refine bz fZ ?_;unfold aL;refine sR ?_;rw[aS,aS];have fin:∀{c:Bool},c=decide (a=b)->Deep [] (aF c) (aF<|decide (a=b)):=λh=>h▸.refl _;refine sS (λh1=>?_) λh1=>?_
 ·exact fin<|by rw[eq_comm,wA];rintro rfl;simp at h1
 have hl:a.length=b.length:=sO;rw[aS];refine bT [0,1,12] (λk:Nat=>[(13,ab k)]) (λ_=>[]) (λk=>k<=a.length/\∀j (hj:j<k) (h1:j<a.length) (h2:j<b.length),a[j]=b[j]) (λk=>a.length-k) 0 ?_;refine sW ?_;refine⟨⟨zo,λj h=>zo⟩,by exact sK,rfl,?_⟩;rintro k ⟨hk,dg⟩;refine bl (λh2=>?_) λh2=>?_
 ·have au:k<a.length:=sO;refine sL (yd (c:=λn=>ab n) (k:=k) zo au) ?_;refine sL (yd (c:=λn=>ab n) (l:=b) (k:=k) zo zo) ?_;refine sS (λh3=>?_) λh3=>?_
  ·exact fin<|by rw[eq_comm,wA];rintro rfl;simp at h3
  refine sI ?_;refine⟨k+1,⟨zo,λj hj h1 h2=>?_⟩,zd,bf (by exact sK) rfl⟩;by_cases e:j=k
  ·subst e;simpa using h3
  exact dg j zo h1 h2
 refine fin ?_;rw[eq_comm,c6];have au:¬k<a.length:=sO;exact AT hl λi h1 h2=>dg i zo h1 h2
def bq(l:af)(n:Nat):Bool:=l.all λx=>decide (0<=x)&&decide (x<(n:Int))
variable{l:af}
theorem zyQ(h:bq l n)(hk:k<l.length):0<=l[k]/\l[k]<(n:Int):=by
 have:=kv.1 h _<|ig hk;simpa using this
theorem OR(l:af)(n:Nat):(l.any λx=>decide (x<0)||decide (x>=(n:Int)))=!(bq l n):=by
 unfold bq
 induction l with
 |nil=>rfl
 |cons x r ih =>
  simp only[List.any_cons,List.all_cons,ih];rw[Bool.not_and]
  congr 1
  rw[kj];simp only[jh,c6,oG,Bool.and_eq_false_iff,wA];omega
theorem MJ{p:α->Bool}{l:List α}(h:∀j (hj:j<l.length),p l[j]=false):l.any p=false:=by
 rw[oP];intro x hx;obtain⟨j,hj,rfl⟩:=kn.1 hx;simp[h j hj]
theorem L3{p:α->Bool}{l:List α}(hk:k<l.length)(h:p l[k]):l.any p:=iR.2 ⟨_,ig hk,h⟩
theorem Nv(hz:z=k)(h:k<g.length):(g.map λl=>[aL l])[z]? = some [aL g[k]]:=yd (c:=aL) hz h
theorem ints_at(hz:z=k)(h:k<l.length):(l.map λn=>[ab n])[z]? = some [.sc (.int .i64 l[k])]:=yd (c:=λn=>ab n) hz h
def cY(l:af):D:=.a8 1<|l.map λn=>[.sc (.int .u64 n)]
def rU(s l:af):aZ:=[cY s,cY l]
def kV(s l:af):D:=.agg<|rU s l
@[simp] theorem qR(l:af):Pure<|cY l:=by
 simp only[cY,Pure];exact cO _ (λn=>by simp[ao,Pure]) l
@[simp] theorem PX(s l:af):ao<|rU s l:=by simp[rU,ao,qR]
@[simp] theorem zBC(s l:af):Pure<|kV s l:=by simp[kV,Pure,PX]
theorem zBv(h:k<l.length):(l.map λn=>[D.sc (.int .u64 n)])[k]? = some [.sc (.int .u64<|l.getD k 0)]:=by
 rw[cy,aG h,ay,aG h];rfl
theorem LV{z:Int}(k:Nat)(hz:z=k)(h:k<l.length):0<=z/\(l.map λn=>[D.sc (.int .u64 n)])[z.toNat]? = some [.sc (.int .u64<|l.getD k 0)]:=by
 subst hz;exact⟨zo,zBv h⟩
def mV(s l:af):Int:=if 60<s.length\/60<s.length+l.length then 2 else if l.length=0 then 1 else 0
theorem yX(s l:af):mV s l=0↔s.length+l.length<=60/\1<=l.length:=by
 unfold mV;split
 ·omega
 split<;>omega
theorem D3(s l:af):ar aj 9 [kV s l]<|ab<|mV s l:=by
 refine bz fZ ?_;unfold kV rU cY;refine sR ?_;rw[aS];have fin:∀{n:Int},n=mV s l->Deep [an.row true [.a8 1<|s.map λn=>[.sc (.int .u64 n)],.a8 1<|l.map λn=>[.sc (.int .u64 n)]]] (ab n) (ab<|mV s l):=λh=>h▸.refl _;refine sS (λh1=>?_) λh1=>?_
 ·exact fin<|by unfold mV;rw[ae<|sO]
 refine .inl ⟨by unfold dW;rw[fU];exact sO,?_⟩;rw[aS];refine sWS (λh2=>?_) λh2=>?_
 ·exact fin<|by unfold mV;rw[ae<|sO]
 rw[aS];refine sS (λh3=>?_) λh3=>?_
 ·exact fin<|by unfold mV;rw[aa<|sO,ae<|sO]
 exact fin<|by unfold mV;rw[aa<|sO,aa<|sO]
section
open Go.RowKit Go.ChangeShapes Go.WideShapes Go.ChangeAt
def ly(l:af):Prop:=∀x∈l,0<=x/\x<18446744073709551616
theorem PH{t:aY}(ht:P.underlying t=some (.int .i64))(h:OfA P t d):∃i:Int,d=ab i/\-9223372036854775808<=i/\i<=9223372036854775807:=by
 unfold OfA Am at h;rw[ht] at h;obtain⟨n,e,h1,h2⟩:=of_int ht h;cases e;refine⟨n,rfl,?_⟩;simp[IntKind.min,IntKind.max,IntKind.signed,IntKind.bits] at h1 h2;omega
end
section
variable{α:Type}
def lr(b:Nat)(L:List<|List α):fp:=(List.range L.length).map λj=>[.own (j+b) (L.getD j []).length 0 (L.getD j []).length]
def gw(ai:Nat)(c:α->aZ)(L:List<|List α):aB:=L.map λl=>.vec true l.length ai<|l.map c
@[simp] theorem zCr(b:Nat)(L:List<|List α):(lr b L).length=L.length:=by simp[lr]
@[simp] theorem FG(ai:Nat)(c:α->aZ)(L:List<|List α):(gw ai c L).length=L.length:=by simp[gw]
variable{b:Nat}{L:List<|List α}
theorem pH(hz:z=i)(h:i<L.length):(lr b L)[z]? = some [.own (i+b) (L.getD i []).length 0 (L.getD i []).length]:=by
 subst hz;simp[lr,cy,pN h]
theorem zK(h:i<L.length):L[i]? = some (L.getD i []):=by
 rw[ay,aG h];rfl
variable{ai:Nat}{c:α->aZ}
theorem Bn(h:i<L.length):(gw ai c L)[i]? = some (.vec true (L.getD i []).length ai<|(L.getD i []).map c):=by
 unfold gw;rw[cy,zK h];rfl
theorem MW{K:an->Prop}(h:i<L.length)(k:K (.vec true (L.getD i []).length ai<|(L.getD i []).map c)):jn (gw ai c L) i K:=(kr _ _ _).2 ⟨_,Bn h,k⟩
theorem UQ(l:List α):(gw ai c L).set i (.vec true l.length ai<|l.map c)=gw ai c (L.set i l):=by
 unfold gw;rw[List.map_set]
theorem zzz{l:List α}(h:i<L.length):(L.set i l).getD j []=if j=i then l else L.getD j []:=by
 rw[ay,wG];by_cases e:i=j
 ·subst e;simp[h]
 rw[aa e,aa λq=>e q.symm,ay]
theorem Ep(hz:z=i)(h:i<L.length)(l:List α)(hk:k=l.length):(lr b L).set z [.own (i+b) k 0 k]=lr b (L.set i l):=by
 subst hz hk;apply qX;intro j;by_cases hj:j<L.length
 ·rw[pH rfl (by simpa using hj),zzz h,wG];by_cases e:z=j
  ·subst e;simp[h]
  rw[aa e,pH rfl hj,aa λq=>e q.symm]
 rw[db<|by simp;omega,db<|by simp;omega]
@[simp] theorem EA(h:b+L.length<=m):bN m<|lr b L:=by
 unfold lr;rw[G2];intro j hj;have:=eW.1 hj;simp only[aK,az,and_true];omega
theorem Ye(hc:∀a,aK m<|c a):∀o∈gw ai c L,o.under m:=by
 intro o ho;unfold gw at ho;obtain⟨l,_,rfl⟩:=cU.1 ho;simp only[an.under,G2];exact λa _=>hc a
theorem Zd(hH:∀i,i<L.length->H[i+b]? = some (.vec true (L.getD i []).length ai<|(L.getD i []).map c)) :
  lE H (lr b L) (L.map λl=>[.a8 ai<|l.map c]):=by
 have e:(L.map λl=>[D.a8 ai<|l.map c])=(List.range L.length).map λj=>[D.a8 ai<|(L.getD j []).map c]:=by
  apply qX;intro j;by_cases hj:j<L.length
  ·rw[cy,zK hj,cy,pN hj];rfl
  rw[db<|by simp;omega,db<|by simp;omega]
 rw[e];unfold lr;have:∀l:List Nat,(∀j∈l,j<L.length)->lE H (l.map λj=>[D.own (j+b) (L.getD j []).length 0 (L.getD j []).length]) (l.map λj=>[D.a8 ai<|(L.getD j []).map c]):=by
  intro l
  induction l with
  |nil=>intro _;exact .nil
  |cons j r ih =>
   intro hl;refine .cons _ _ _ _ (.cons _ _ _ _ (.own _ _ _ _ _ _ _ _ (hH j<|hl j zs) ?_) .nil)<|ih λk hk=>hl k (by simp[hk]);rw[dt zs];exact fW _
 exact this _ λj hj=>eW.1 hj
theorem Ms{S:aq}(hS:∀i,i<L.length->S (i+b))(hH:∀i,i<L.length->H[i+b]? = some (.vec true (L.getD i []).length ai<|(L.getD i []).map c)) :
  cg S H (lr b L) (L.map λl=>[.a8 ai<|l.map c]):=by
 have e:(L.map λl=>[D.a8 ai<|l.map c])=(List.range L.length).map λj=>[D.a8 ai<|(L.getD j []).map c]:=by
  apply qX;intro j;by_cases hj:j<L.length
  ·rw[cy,zK hj,cy,pN hj];rfl
  rw[db<|by simp;omega,db<|by simp;omega]
 rw[e];unfold lr;have:∀l:List Nat,(∀j∈l,j<L.length)->cg S H (l.map λj=>[D.own (j+b) (L.getD j []).length 0 (L.getD j []).length]) (l.map λj=>[D.a8 ai<|(L.getD j []).map c]):=by
  intro l
  induction l with
  |nil=>intro _;exact .refl _
  |cons j r ih =>
   intro hl;refine .cons _ _ _ _ (.cons _ _ _ _ (.own _ _ _ _ _ _ _ _ (hS j<|hl j zs) (hH j<|hl j zs) ?_) (.refl _))<|ih λk hk=>hl k (by simp[hk]);rw[dt zs];exact .refl _
 exact this _ λj hj=>eW.1 hj
end
theorem Gb{L n:Nat}(id ai k aw:Nat){env:Env}(hL:L<=H.length)(hid:H[id]? = some (.vec true aw 1<|List.replicate k [bC])) :
  St.leB L n env H env (H.set id (.vec true aw 1<|(List.range k).map λj=>[.own (j+H.length) 0 0 0])++List.replicate k (.vec true 0 ai [])):=λJ F a w hr=>by
 have we:=lO hid;have FW:∀i,H.length<=i->J i=none:=λi hi=>by
  cases e:J i with
  |none=>rfl
  |some s=>have:=hr.dom i (by rw[e];simp);omega
 let J':aX:=λi=>if H.length<=i/\i<H.length+k then some ⟨false,0,none,ai,0,0⟩ else J i
 have hle:J.le J':=λi s hs=>⟨s,by
  have:¬(H.length<=i/\i<H.length+k):=λe=>by rw[FW i e.1] at hs;cases hs
  simp only[J'];rw[aa this];exact hs,aI _,λ_=>rfl⟩
 have hlen:(H.set id (.vec true aw 1<|(List.range k).map λj=>[D.own (j+H.length) 0 0 0])).length=H.length:=yS;have n8:∀i,¬(H.length<=i/\i<H.length+k)->i≠id->(H.set id (.vec true aw 1<|(List.range k).map λj=>[D.own (j+H.length) 0 0 0])++List.replicate k (an.vec true 0 ai []))[i]? = H[i]?:=λi hi b7=>by
  rcases c7 i H.length with q|q
  ·rw[dJ<|by rw[hlen];exact q,xk λe=>b7 e.symm]
  rw[db q,db<|by rw[cL,hlen,zS];omega]
 have lX:∀i,H.length<=i/\i<H.length+k->(H.set id (.vec true aw 1<|(List.range k).map λj=>[D.own (j+H.length) 0 0 0])++List.replicate k (an.vec true 0 ai []))[i]? = some (.vec true 0 ai []):=λi hi=>by
  rw[fc<|by rw[hlen];omega,hlen,sy,ae zo]
 have Lh:(H.set id (.vec true aw 1<|(List.range k).map λj=>[D.own (j+H.length) 0 0 0])++List.replicate k (an.vec true 0 ai []))[id]? = some (.vec true aw 1<|(List.range k).map λj=>[D.own (j+H.length) 0 0 0]):=by
  rw[dJ<|by rw[hlen];exact we,FU we]
 refine⟨J',F,⟨hr.defers,hr.size,λu=>js hle (λ_ h=>h) (λ_ _=>rfl) _ _<|hr.tmps u,⟨λi s hs=>?_,λi i' s s' b g1 g2 g3 g4=>?_,λi s b o g1 g2 g3 g4=>?_,hr.ok.lt⟩,λi hi=>?_⟩,λi s hi hs=>?_,λb hb=>hb,λb ⟨i,s,hs,hb⟩=>?_,λb hb=>.inl hb⟩
 ·simp only[J'] at hs;split at hs
  ·rename_i e;cases hs;exact⟨_,lX i e,rfl,rfl,rfl,rfl,aI _,.inl rfl⟩
  rename_i e;obtain⟨o,h1,h2⟩:=hr.ok.obj i s hs;by_cases e2:i=id
  ·subst e2;have DQ:H[i]? = some o:=h1;rw[hid] at DQ;cases DQ;obtain⟨k1,k2,k3,k4,k5,k6⟩:=h2;refine⟨_,Lh,k1,k2,k3,by rw[k4];simp,k5,?_⟩;rcases k6 with k6|⟨b,o,vals,te,t1,t2,t3,t4,t5⟩
   ·exact .inl k6
   refine .inr ⟨b,o,vals,te,t1,t2,t3,uW _ _ λj x hj=>?_,λq=>by cases q⟩;have E5:j<k:=by
    rcases c7 j k with q|q
    ·exact q
    rw[db<|by simpa using q] at hj;cases hj
   rw[cy,pN E5] at hj;simp only[xg,Option.some.injEq] at hj;subst hj;obtain⟨r1,r2⟩:=uU _ _ j [bC] (by rw[sy,ae E5]) t4;refine⟨rfl,qJ _ _ λq c hq=>?_⟩
   cases q with
   |zero =>
    simp at hq;subst hq;obtain⟨u,p1,p2,p3⟩:=sk _ _ 0 bC rfl r2;simp only[rep] at p3;refine⟨u,p1,p2,?_⟩;simp only[rep];refine⟨⟨false,0,none,ai,0,0⟩,none,0,0,?_,p3,aI _,λ_=>⟨rfl,aI _,b9 _,rfl,rfl,.inl rfl⟩⟩;simp only[J'];rw[ae zo]
   |succ q=>simp at hq
  exact⟨o,by rw[n8 i e e2];exact h1,qO hle (λ_ h=>h) (λ_ _=>rfl) (λ_ _=>rfl) h2⟩
 ·simp only[J'] at g1 g2;split at g1
  ·cases g1;simp[Site.cP] at g3
  split at g2
  ·cases g2;simp[Site.cP] at g4
  exact hr.ok.one i i' s s' b g1 g2 g3 g4
 ·simp only[J'] at g1;split at g1
  ·cases g1;simp[Site.cP] at g2
  rename_i e;by_cases e2:i=id
  ·subst e2;exact hr.ok.apart i s b _ g1 g2 hid rfl
  exact hr.ok.apart i s b o g1 g2 (by rw[<-n8 i e e2];exact g3) g4
 ·simp only[J'] at hi;rw[cL,hlen,zS];split at hi
  ·omega
  have:=hr.dom i hi;omega
 ·have:¬(H.length<=i/\i<H.length+k):=zo;simp only[J'];rw[aa this];exact hs
 simp only[J'] at hs;split at hs
 ·cases hs;simp[Site.cP] at hb
 exact⟨i,s,hs,hb⟩
theorem IX(b k:Nat):((List.range k).map λj=>[D.own (j+b) 0 0 0])=lr b (List.replicate k ([]:List α)):=by
 unfold lr;rw[zS];refine uy λj hj=>?_;have:=eW.1 hj;rw[ay,sy,ae this];rfl
theorem GI(ai k:Nat)(c:α->aZ):List.replicate k (an.vec true 0 ai [])=gw ai c (List.replicate k []):=by
 unfold gw;rw[List.map_replicate];rfl
theorem nJ{m:Nat}{G:aB}:∀(l t:aB),(∀o∈l,o.under m)->uZ m G (l++t) l
 |[],t,_=>by cases t<;>exact trivial
 |o::r,t,h=>by
  refine⟨?_,nJ r t λo ho=>h o<|by simp[ho]⟩;have:=h o zs
  cases o with
  |row q cs=>exact⟨rfl,.refl _,this⟩
  |vec q v e xs=>exact⟨rfl,rfl,rfl,.refl _,this⟩
  |dI q I=>exact⟨rfl,rfl⟩
theorem Of{G:aB}:∀l:aB,uZ m G l []
 |[]=>trivial
 |_::_=>trivial
structure ForH(P:bt)(n:Nat)(p:PC)(Q:iC)(env:Env)(H:aB){ι:Type}(upd:ι->Env)(O:ι->aB)(G:ι->Prop)(m:ι->Nat)(i:ι)(e:Env):Prop where
 fB:G i
 start:qA env<|upd i
 heap:H=O i
 round:∀j,G j->Ez (upd j) e λE=>PWp P n p (Oy H.length n Q (λj=>upd j++e) O G m<|m j) E<|O j
theorem fy{P:bt}{n:Nat}{p:PC}{Q:iC}{env:Env}{H:aB}(kept:List Nat)(upd:ι->Env)(O:ι->aB)(G:ι->Prop)(m:ι->Nat)(i:ι)
  (h:Es env kept λe=>ForH P n p Q env H upd O G m i e):PWp P n (.loop p) Q env H:=by
 rw[M7] at h;refine Ci (λj=>upd j++kept.map λt=>(t,gj t env)) O G m i h.fB (bf (Kt _ _ h.start<|Od _) h.heap) λj hj=>?_;have:=h.round j hj;rwa [OY] at this
theorem FD{ai:Nat}{c:α->aZ}{l:List α}{x:α}:an.vec true (l.length+1) ai (List.drop 0 (List.take l.length<|l.map c)++List.drop 0 (List.take 1 [c x]))=an.vec true (l++[x]).length ai ((l++[x]).map c):=by
 rw[dt zs,cL,jt,mq];rfl
def okK(b:Bool)(K K2:Prop):Prop:=match b with
 |true=>K
 |false=>K2
variable(x:Nat)
theorem zsh(x y:Nat)(r:List Nat):pO x (y::r)=(decide (x=y)||pO x r):=by
 have e:Nat.beq x y=decide (x=y):=by
  rw[kj,c6];exact⟨Ch,λh=>h▸Nat.beq_refl x⟩
 simp only[pO,e];cases decide (x=y)<;>rfl
theorem zwQ:pO x []=false:=rfl
theorem YZ(r l:List Nat):meets (x::r) l=(pO x l||meets r l):=by
 simp only[meets];cases pO x l<;>rfl
theorem ztm(l:List Nat):meets [] l=false:=rfl
theorem Zm(b c:Bool):(match b with|true=>c|false=>false)=(b&&c):=by cases b<;>rfl
theorem zCa{K2:Prop}(h:b)(k:K):okK b K K2:=by subst h;exact k
section
variable{α:Type}{ai:Nat}{c:α->aZ}{L:List<|List α}{T:aB}{K:an->Prop}{K':aB->Prop}
theorem Dm(h:i<L.length)(k:K (.vec true (L.getD i []).length ai<|(L.getD i []).map c)):jn (gw ai c L++T) i K:=by
 rw[kr];exact⟨_,by rw[dJ<|by simpa using h];exact Bn h,k⟩
variable(j:Nat)
theorem kM(hi:i=L.length+j)(k:jn T j K):jn (gw ai c L++T) i K:=by
 subst hi;rw[kr] at k⊢;obtain⟨o,h1,h2⟩:=k;exact⟨o,by rw[fc zs,FG,vI];exact h1,h2⟩
variable{o:an}
theorem Io(l:List α)(h:i<L.length)(ho:o=.vec true l.length ai (l.map c))(k:K'<|gw ai c (L.set i l)++T):oI (gw ai c L++T) i o K':=by
 subst ho;rw[uP];exact⟨by simp;omega,by rw[List.set_append_left _ _<|by simpa using h,UQ];exact k⟩
theorem kP(hi:i=L.length+j)(k:oI T j o λT'=>K'<|gw ai c L++T'):oI (gw ai c L++T) i o K':=by
 subst hi;rw[uP] at k⊢;exact⟨by rw[cL,FG];omega,by
  rw[List.set_append_right _ _ zs,FG,vI];exact k.2⟩
theorem D0{K:aB->Nat->Prop}(k:K (gw ai c L++[o]) L.length):rz (gw ai c L) o K:=by
 rw[wx,FG];exact k
theorem zxg{K:aB->Nat->Prop}(k:K (gw ai c L++(T++[o]))<|L.length+T.length):rz (gw ai c L++T) o K:=by
 rw[wx,cL,FG,l8];exact k
theorem EG{G:aB}(hc:∀a,aK m<|c a):uZ m G (gw ai c L++T)<|gw ai c L:=nJ _ _<|Ye hc
end
def sY(n:Int):aZ:=[ab n]
@[simp] theorem VZ(n:Int):aK m<|sY n:=by simp[sY,aK,az]
@[simp] theorem uT(L:ak):dX<|L.map λl=>[aL l]:=cO _ (λl=>by simp[ao,c9]) L
def od(g:ak):Int:=if 20000<g.length then 2 else if (g.any λl=>!(bq l g.length))=true then 1 else 0
theorem zv:od g=0↔g.length<=20000/\∀l∈g,bq l g.length:=by
 unfold od;split
 ·constructor
  ·intro h;exact absurd h zc
  intro h;omega
 split
 ·rename_i h;rw[iR] at h;obtain⟨l,h1,h2⟩:=h;constructor
  ·intro h;exact absurd h zc
  intro h;rw[h.2 l h1] at h2;cases h2
 rename_i h1 h;rw[mP,oP] at h;exact⟨λ_=>⟨zo,λl hl=>by simpa using h l hl⟩,λ_=>rfl⟩
structure kL(g:ak):Prop where
 len:g.length<=17592186043904
 each:∀l∈g,l.length<=17592186043904
theorem kL.at(h:kL g)(i:Nat):(g.getD i []).length<=17592186043904:=by
 rw[ay]
 cases e:g[i]? with
 |none=>simp
 |some l=>exact h.each l<|kI e
theorem me(hz:z=k)(h:k<g.length):(g.map λl=>[aL l])[z]? = some [aL<|g.getD k []]:=by
 subst hz;rw[cy,zK h];rfl
theorem eY(hz:z=k)(h:k<l.length):(l.map λn=>[ab n])[z]? = some [ab<|l.getD k 0]:=by
 rw[ints_at hz h,ay,aG h];rfl
theorem U4(h:bq l n)(hk:k<l.length):0<=l.getD k 0/\l.getD k 0<(n:Int):=by
 rw[ay,aG hk];exact zyQ h hk
theorem iO(h:∀l∈g,bq l n)(k:Nat):bq (g.getD k []) n:=by
 rw[ay]
 cases e:g[k]? with
 |none=>rfl
 |some l=>exact h l<|kI e
variable(g:ak)
theorem zu4(x:Int):ar aj 256 [ab x,.aN [bW g]]<|aF<|decide (x<0)||decide (x>=(g.length:Int)):=by
 refine bz fZ ?_;refine sRS (λh=>?_) λh=>?_
 ·exact bL zs
 rw[aS];exact bL zs
theorem TC(l:af)(hl:l.length<=9223372036854775807):ar aj 221 [bW g,aL l] (.sc (.bool !(bq l g.length))):=by
 refine bV ?_;refine sN (kY (λn=>ab n) (λa=>by simp[Pure]) l hl (λx=>decide (x<0)||decide (x>=(g.length:Int))) 256 [.aN [bW g]] (by simp[ao,Pure,lu]) λa _=>zu4 g a) ?_;rw[OR];exact .refl _
theorem Pz(hg:kL g):ar aj 180 [bW g]<|ab<|od g:=by
 have b1:=hg.len;refine bz fZ ?_;unfold bW;refine sR ?_;rw[aS];have fin:∀{H:aB} {z:Int},z=od g->Deep H (ab z) (ab<|od g):=λh=>h▸.refl _;refine sS (λh1=>?_) λh1=>?_
 ·exact fin<|by unfold od;rw[ae<|sO]
 have h1:¬20000<g.length:=sO;rw[aS];refine bT [0,8,9] (λk:Nat=>[(10,ab k)]) (λ_=>[]) (λk=>k<=g.length/\∀j (hj:j<k) (hl:j<g.length),(!(bq g[j] g.length))=false) (λk=>g.length-k) 0 ?_;refine sW ?_;refine⟨⟨zo,λj hj=>zo⟩,by exact sK,rfl,?_⟩;rintro k ⟨hk,dg⟩;refine bl (λh2=>?_) λh2=>?_
 ·have au:k<g.length:=sO;refine sL (Nv (k:=k) zo au) ?_;refine sC (TC g g[k]<|by have:=hg.each _<|ig au;omega) ?_;refine sS (λh3=>?_) λh3=>?_
  ·exact fin<|by unfold od;rw[aa h1,ae<|L3 au h3]
  refine sI ?_;refine⟨k+1,⟨zo,λj hj hl=>?_⟩,zd,bf (by exact sK) rfl⟩;by_cases e:j=k
  ·subst e;exact h3
  exact dg j zo hl
 have au:¬k<g.length:=sO;exact fin<|by unfold od;rw[aa h1,aa<|by rw[MJ λj hj=>dg j zo hj];simp]
def bU(n:Nat)(g:aq):fp:=(List.range n).map λi=>[aF<|g i]
def bI(n:Nat)(g:aq):D:=.a8 1<|bU n g
@[simp] theorem C4(n:Nat)(g:aq):(bU n g).length=n:=by simp[bU]
variable{g:aq}
theorem uY(h:i<n):(bU n g)[i]? = some [aF<|g i]:=by
 simp[bU,cy,pN h]
theorem cX(i:Nat)(hz:z=i)(h:i<n):(bU n g)[z]? = some [aF<|g i]:=by
 subst hz;exact uY h
theorem DJ{z:Int}(i:Nat)(hz:z=i)(h:i<n):0<=z/\(bU n g)[z.toNat]? = some [aF<|g i]:=by
 subst hz;exact⟨zo,uY h⟩
variable{g':aq}
theorem iw(h:∀i,i<n->g i=g' i):bU n g=bU n g':=by
 unfold bU;exact uy λi hi=>by rw[h i<|eW.1 hi]
variable(n:Nat)
theorem wW(g:aq)(k:Nat)(v:Bool):(bU n g).set k [aF v]=bU n (λi=>if i=k then v else g i):=by
 apply qX;intro i;by_cases hi:i<n
 ·by_cases hk:i=k
  ·subst hk;rw[FU<|by simpa using hi,uY hi];simp
  rw[xk λe=>hk e.symm,uY hi,uY hi];simp[hk]
 rw[db<|by simp;omega,db<|by simp;omega]
theorem n5:List.replicate n [aF false]=bU n (λ_=>false):=by
 apply qX;intro i;by_cases hi:i<n
 ·rw[uY hi,sy,ae hi]
 rw[db<|by simp;omega,db<|by simp;omega]
@[simp] theorem r9(g:aq):dX<|bU n g:=cO _ (λi=>by simp[ao,Pure]) _
@[simp] theorem ke(g:aq):Pure<|bI n g:=by simp only[bI,Pure];exact r9 n g
theorem Af(g:aq):List.drop 0 (List.take n<|bU n g)=bU n g:=by rw[ft,fF zs]
variable{n:Nat}
theorem TU(h:∀i,i<n->g i=g' i):bI n g=bI n g':=by unfold bI;rw[iw h]
theorem uh(h:qA env env')(e:H=H'):St.le n env H env' H':=e▸Az h
theorem zW{id:Nat}{q:Bool}(h:H[id]? = some (.vec q v 1<|bU n g)):Deep H (.own id v 0 n)<|bI n g:=.own _ _ _ _ _ _ _ _ h<|by rw[Af];exact fW _
def rD(T:aq)(k:Nat)(o:Bool):Nat->Bool:=λi=>if i<k then T i else if i=k then o else false
variable{T:aq}{o:Bool}
theorem zzX{v:Bool}(hz:z=k):(bU n<|rD T k o).set z [aF v]=bU n (rD T k v):=by
 subst hz;rw[wW];refine iw λi _=>?_;unfold rD;by_cases e:i=z
 ·subst e;simp
 simp[e]
theorem Pn(h:o=T k):bU n (rD T k o)=bU n (rD T (k+1) false):=by
 refine iw λi _=>?_;unfold rD;by_cases e:i=k
 ·subst e;simp[h]
 by_cases e2:i<k
 ·rw[ae e2,ae zo]
 rw[aa e2,aa e,aa zo];split<;>rfl
variable(n:Nat)
theorem YS(T:aq):bU n (λ_=>false)=bU n (rD T 0 false):=by
 refine iw λi _=>?_;unfold rD;simp
theorem zwG(T:aq)(o:Bool):bU n (rD T n o)=bU n T:=iw λi hi=>ae hi
@[simp] theorem zAl{n:Nat}(g:aq):bN m (bU n g)↔True:=⟨λ_=>trivial,λ_=>bP _<|r9 n g⟩
@[simp] theorem zC5{n:Nat}(g:aq):az m (bI n g)↔True:=⟨λ_=>trivial,λ_=>cp _<|ke n g⟩
theorem XN(g:aq):bU n g=((List.range n).map g).map λa=>[aF a]:=by simp[bU]
theorem zf9(g:aq)(hn:n<=9223372036854775807)(b:Bool):ar aj 164 [bI n g,aF b]<|aF<|((List.range n).map g).contains b:=by
 have:=ziI ((List.range n).map g) (by simpa using hn) b;rwa [<-XN] at this
variable{n:Nat}
theorem VQ:((List.range n).map g).contains b↔∃i,i<n/\g i=b:=by
 simp[nb,cU]
variable{s:aq}
theorem E8(hz:z=v):(bU n s).set z [aF true]=bU n (mark s v):=by
 subst hz;rw[wW];rfl
structure qY(g:ak)(from_:af)(B:Nat)(s:aq)(T:af):Prop where
 todo:bq T g.length=true
 comes:∀x∈T,fx g from_ x.toNat
 seen:∀v,s v->fx g from_ v
 start:∀x∈from_,s x.toNat\/x∈T
 closed:∀v,s v->∀x∈g.getD v [],s x.toNat\/x∈T
 room:T.length+rN g s<=B
variable{x:Int}
theorem dn(h:bq l n)(hx:x∈l):0<=x/\x<(n:Int):=by
 have:=kv.1 h x hx;simpa using this
theorem j9(h:∀x∈l,0<=x/\x<(n:Int)):bq l n:=by
 unfold bq;rw[kv];intro x hx;simpa using h x hx
variable{g:ak}{B:Nat}{T:af}
theorem qY.pop(h:qY g from_ B s<|T++[x])(hs:s x.toNat):qY g from_ B s T where
 todo:=j9 λy hy=>dn h.todo<|by simp[hy]
 comes y hy:=h.comes y<|by simp[hy]
 seen:=h.seen
 start y hy:=by
  rcases h.start y hy with q|q
  ·exact .inl q
  rcases de.1 q with q|q
  ·exact .inr q
  rw[cM] at q;subst q;exact .inl hs
 closed v hv y hy:=by
  rcases h.closed v hv y hy with q|q
  ·exact .inl q
  rcases de.1 q with q|q
  ·exact .inr q
  rw[cM] at q;subst q;exact .inl hs
 room:=by have:=h.room;rw[cL] at this;omega
theorem qY.push(hg:∀l∈g,bq l g.length)(h:qY g from_ B s<|T++[x])(hs:s x.toNat=false):qY g from_ B (mark s x.toNat) (T++g.getD x.toNat []) where
 todo:=j9 λy hy=>by
  rcases de.1 hy with q|q
  ·exact dn h.todo<|by simp[q]
  exact dn (iO hg _) q
 comes y hy:=by
  rcases de.1 hy with q|q
  ·exact h.comes y<|by simp[q]
  exact .step (h.comes x zs) q
 seen v hv:=by
  rcases wM.1 hv with q|q
  ·subst q;exact h.comes x zs
  exact h.seen v q
 start y hy:=by
  rcases h.start y hy with q|q
  ·exact .inl<|jX q
  rcases de.1 q with q|q
  ·exact .inr<|by simp[q]
  rw[cM] at q;subst q;exact .inl<|qj _ _
 closed v hv y hy:=by
  rcases wM.1 hv with q|q
  ·subst q;exact .inr<|wI _ hy
  rcases h.closed v q y hy with q|q
  ·exact .inl<|jX q
  rcases de.1 q with q|q
  ·exact .inr<|by simp[q]
  rw[cM] at q;subst q;exact .inl<|qj _ _
 room:=by
  have h1:=h.room;have h2:=dn h.todo (x:=x) zs;have h3:=Xz (g:=g) (v:=x.toNat) zo hs;rw[cL] at h1⊢;simp only[cj,dE] at h1;omega
theorem qY.done(h:qY g from_ B s [])(v:Nat):s v=rS g from_ v:=Z4 ⟨h.seen v,zo9 (λx hx=>(h.start x hx).resolve_right zs) (λv hv x hx=>(h.closed v hv x hx).resolve_right zs) v⟩
theorem qY.begin(hf:bq from_ g.length)(hB:from_.length+rN g (λ_=>false)<=B):qY g from_ B (λ_=>false) from_ where
 todo:=hf
 comes _ hx:=.base hx
 seen v h:=by cases h
 start _ hx:=.inr hx
 closed v h:=by cases h
 room:=hB
def aE(l:af):fp:=l.map λn=>[ab n]
@[simp] theorem zzY(l:af):bN m (aE l)↔True:=by simp[aE,aK,az]
variable{Z:af}{h:Nat}
theorem Y5(hz:z=h):List.drop (0+0) (List.take z<|aE Z)++l.map (λn=>[ab n])=aE (Z.take h++l):=by
 subst hz;unfold aE;rw[jP,ft,mq,List.map_take]
theorem ztF(h1:1<=h)(h2:h<=l.length):l.take h=l.take (h-1)++[l.getD (h-1) 0]:=by
 obtain⟨k,rfl⟩:∃k,h=k+1:=⟨h-1,zo⟩;rw[ld,aG zo,Nat.add_sub_cancel,ay,aG zo];rfl
variable(g:ak)
theorem zup(hg:od g=0)(hF:kL g)(from_:af)(hf:bq from_ g.length)(hB:from_.length+rN g (λ_=>false)<=1000000000000) :
  ar aj 222 [bW g,aL from_] (bI g.length<|rS g from_):=by
 obtain⟨hn,bg⟩:=zv.1 hg;refine bz fZ ?_;unfold bW;refine sR ?_;rw[aS];refine⟨zo,zo,zo,?_⟩;rw[bS];refine sW ?_;refine sE (nX (Hw from_ zo) (by simp[ao,Pure]) [1] rfl rfl (by simp[an.aO,bO,D.aO];rfl)) ?_
 refine bT [0,5] (λ((s,Z,h,aw):aq×af×Nat×Nat)=>[(6,.own 1 aw 0 h)]) (λ(s,Z,h,aw)=>[(0,.vec true 0 1<|bU g.length s),(1,.vec true aw 1<|aE Z)])
  (λ(s,Z,h,aw)=>h<=Z.length/\qY g from_ 1000000000000 s (Z.take h)) (λ(s,Z,h,aw)=>h+rN g s) ((λ_=>false),from_,from_.length,1) ?_
 refine sW ?_;refine⟨⟨zs,by rw[gz];exact qY.begin hf hB⟩,by exact sK,by rw[n5];rfl,?_⟩;rintro⟨s,Z,h,aw⟩ ⟨hh,hI⟩;refine bl (λh1=>?_) λh1=>?_
 ·have h1:1<=h:=sO;rw[ztF h1 hh] at hI;have hx:=dn hI.todo (x:=Z.getD (h-1) 0) zs;have room:=hI.room;rw[cL,gO] at room;refine sIB ?_;refine⟨_,eY (l:=Z) (k:=h-1) zo zo,?_⟩;refine sW ?_;generalize hv:Z.getD (h-1) 0=x at hx hI;refine sI ?_;refine⟨zo,zo,zo,?_⟩;refine ew ?_;refine⟨_,cX x.toNat zo zo,?_⟩;refine sW ?_;cases hs:s x.toNat
  ·refine ew ?_;refine⟨_,cX x.toNat zo zo,?_⟩;refine sW ?_;refine sL (me (k:=x.toNat) zo zo) ?_;have lx:=hF.at x.toNat;have key:=Xz (g:=g) (s:=s) (v:=x.toNat) zo hs;have hP:=hI.push bg hs;refine sJ ?_;refine⟨(mark s x.toNat,Z.take (h-1)++g.getD x.toNat [],(h-1)+(g.getD x.toNat []).length,aw+1),⟨by simp;omega,?_⟩,?_,?_⟩
   ·rw[fF<|by simp;omega];exact hP
   ·dsimp only;omega
   refine bf ⟨bK (D.own 1 (aw+1) 0)<|by simp only[aS];omega,by exact sK⟩ ?_;rw[E8 (v:=x.toNat) zo,Y5 (h:=h-1) zo];rfl
  refine sW ?_;refine⟨(s,Z,h-1,aw),⟨zo,hI.pop hs⟩,zd,?_⟩;exact bf ⟨bK (D.own 1 aw 0) zo,by exact sK⟩ rfl
 have h0:h=0:=sO;subst h0;rw[zC] at hI;rw[iw (g':=rS g from_) λi _=>hI.done i];exact zW rfl
theorem Sq(hg:od g=0)(hF:kL g)(from_:af)(hf:bq from_ g.length)(hB:from_.length+rN g (λ_=>false)<=1000000000000) :
  ar aj 163 [bW g,aL from_] (.aJ [bI g.length<|rS g from_,ab 0]):=by
 refine bV ?_;refine sC (Pz g hF) ?_;refine sS (λh1=>?_) λh1=>?_
 ·exfalso;exact sO
 refine sC (TC g from_ zo) ?_;rw[hf];refine sW ?_;refine sC (zup g hg hF from_ hf hB) ?_;exact .refl _
structure bZ where
 start:af
 next:ak
 kq:af
 lC:af
 fair:ak
def bZ.cells(A:bZ):aZ:=[aL A.start,bW A.next,cY A.kq,cY A.lC,bW A.fair]
def rk(A:bZ):D:=.agg A.cells
variable(A:bZ)
@[simp] theorem Ui:ao A.cells:=by simp[bZ.cells,ao,c9,lu,qR]
@[simp] theorem EP:Pure<|rk A:=by simp[rk,Pure,Ui]
def Xh:bZ:=⟨[],[],[],[],[]⟩
structure bZ.Fits(A:bZ):Prop where
 start:A.start.length<=17592186043904
 next:A.next.length<=17592186043904
 kq:A.kq.length<=17592186043904
 lC:A.lC.length<=17592186043904
 fair:A.fair.length<=17592186043904
 AS:∀l∈A.next,l.length<=17592186043904
 AY:∀l∈A.fair,l.length<=17592186043904
def bZ.aV(A:bZ):Int :=
 if 2048<A.next.length\/80<A.fair.length then 2
 else if A.kq.length≠A.next.length\/A.lC.length≠A.next.length\/bq A.start A.next.length=false then 1
 else if (A.next.any λl=>!(bq l A.next.length))=true then 1
 else if (A.fair.any λl=>!(bq l A.next.length))=true then 1
 else 0
theorem yk(h:A.aV=0):A.kq.length=A.next.length/\A.lC.length=A.next.length/\A.next.length<=2048/\A.fair.length<=80/\bq A.start A.next.length/\(∀l∈A.next,bq l A.next.length)/\∀l∈A.fair,bq l A.next.length:=by
 unfold bZ.aV at h;split at h
 ·exact absurd h zc
 split at h
 ·exact absurd h zc
 split at h
 ·exact absurd h zc
 split at h
 ·exact absurd h zc
 rename_i h1 h2 h3 h4;have Di:=not_or.1 h2;have zH5:=not_or.1 Di.2;refine⟨zo,zo,zo,zo,by simpa using zH5.2,λl hl=>?_,λl hl=>?_⟩
 ·rw[mP,oP] at h3;simpa using h3 l hl
 rw[mP,oP] at h4;simpa using h4 l hl
def uO(A:bZ)(s:Nat)(x:Int):Bool:=gF .and .u64 x (A.kq.getD s 0)==A.kq.getD s 0&&gF .and .u64 x (A.lC.getD s 0)==0
theorem Cn(a:BitVec 64):IntKind.wrap .u64 (a.toNat:Int)=(a.toNat:Int):=by
 have:=a.isLt;simp only[IntKind.wrap,IntKind.signed,IntKind.bits];simp;omega
theorem ztf{m:Int}(hm:0<=m/\m<18446744073709551616):(gF .and .u64 x m==m)=(gF .andNot .u64 m x==0):=by
 show(IntKind.wrap .u64 (((BitVec.ofInt 64 x) &&& (BitVec.ofInt 64 m)).toNat:Int)==m)=(IntKind.wrap .u64 (((BitVec.ofInt 64 m) &&& ~~~(BitVec.ofInt 64 x)).toNat:Int)==0);rw[Cn,Cn];have e:m=((BitVec.ofInt 64 m).toNat:Int):=by
  rw[BitVec.toNat_ofInt];omega
 generalize BitVec.ofInt 64 x=a;rw[kj,gC,gC];generalize hb:BitVec.ofInt 64 m=b at e;constructor
 ·intro h;rw[e] at h;have h:a &&& b=b:=BitVec.eq_of_toNat_eq zo;have:b &&& ~~~a=0#64:=by
   rw[<-h]
   ext i hi
   simp;intro h1 _;exact h1
  rw[this];rfl
 intro h;have h:b &&& ~~~a=0#64:=BitVec.eq_of_toNat_eq (by simpa using h);have:a &&& b=b:=by
  ext i hi
  have:=bK (λz:BitVec 64=>z[i]) h;simp at this;cases q:b[i]
  ·simp[q]
  simp[q,this q]
 rw[this];omega
theorem GX(hz:z=k)(h:k<l.length):(l.map λn=>[D.sc (.int .u64 n)])[z]? = some [.sc (.int .u64<|l.getD k 0)]:=by
 subst hz;rw[cy,aG h,ay,aG h];rfl
theorem ZZ(hm:A.kq.length=A.next.length)(hn:A.lC.length=A.next.length)(s:Nat)(hs:s<A.next.length)(x:Int):ar aj 252 [rk A,ab s,.sc (.int .u64 x)]<|aF<|uO A s x:=by
 refine bz fZ ?_;have e:uO A s x=(gF .and .u64 x (A.kq.getD s 0)==A.kq.getD s 0&&gF .and .u64 x (A.lC.getD s 0)==0):=rfl;unfold rk bZ.cells cY;refine sR ?_;refine sL (GX (k:=s) zo zo) ?_;refine sL (GX (k:=s) zo zo) ?_;cases r:(gF .and .u64 x (A.kq.getD s 0)==A.kq.getD s 0)
 ·rw[r,qG] at e;rw[e];refine sW ?_;exact .refl _
 rw[r,jZ] at e;rw[e];refine sW ?_;refine sL (GX (k:=s) zo zo) ?_;exact .refl _
theorem zzP(x:Int)(n:Nat):ar aj 251 [ab x,.aN [ab n]]<|aF<|decide (x<0)||decide (x>=(n:Int)):=by
 refine bz fZ ?_;refine sRS (λh=>?_) λh=>?_
 ·exact bL zs
 exact bL zs
variable(l:af)
theorem Ml(hl:l.length<=9223372036854775807)(n:Nat):ar aj 193 [aL l,ab n] (.sc (.bool !(bq l n))):=by
 refine bV ?_;refine sN (kY (λn=>ab n) (λa=>by simp[Pure]) l hl (λx=>decide (x<0)||decide (x>=(n:Int))) 251 [.aN [ab n]] (by simp[ao,Pure]) λa _=>zzP a n) ?_;rw[OR];exact .refl _
theorem zun(hl:l.length<=9223372036854775807)(n:Nat):ar aj 194 [aL l,.aN [ab n]] (.sc (.bool !(bq l n))):=by
 refine bV ?_;refine sC (Ml l hl n) ?_;exact .refl _
theorem zuo(hl:l.length<=9223372036854775807)(n:Nat):ar aj 195 [aL l,.aN [ab n]] (.sc (.bool !(bq l n))):=by
 refine bV ?_;refine sC (Ml l hl n) ?_;exact .refl _
theorem zwi(hA:A.Fits):ar aj 122 [rk A]<|ab A.aV:=by
 have b1:=hA.start;have b2:=hA.next;have b3:=hA.kq;have b4:=hA.fair;have b5:=hA.lC;refine bV ?_;rw[aS];have fin:∀{H:aB} {z:Int},z=A.aV->Deep H (ab z) (ab A.aV):=λh=>h▸.refl _;refine sS (λh1=>?_) λh1=>?_
 ·exact fin<|by unfold bZ.aV;rw[ae<|sO]
 rw[aS];refine sS (λh2=>?_) λh2=>?_
 ·exact fin<|by unfold bZ.aV;rw[ae<|sO]
 have c1:¬(2048<A.next.length\/80<A.fair.length):=sO;rw[aS];refine sS (λh3=>?_) λh3=>?_
 ·exact fin<|by unfold bZ.aV;rw[aa c1,ae<|sO]
 rw[aS];refine sS (λKO=>?_) λKO=>?_
 ·exact fin<|by unfold bZ.aV;rw[aa c1,ae<|sO]
 refine sC (Ml A.start zo A.next.length) ?_;refine sS (λh4=>?_) λh4=>?_
 ·exact fin<|by unfold bZ.aV;rw[aa c1,ae (.inr (.inr<|by simpa using h4))]
 have c2:¬(A.kq.length≠A.next.length\/A.lC.length≠A.next.length\/bq A.start A.next.length=false):=by
  rintro(q|q|q)
  ·exact sO
  ·exact sO
  rw[q] at h4;cases h4
 refine sN (Nq aL c9 A.next zo (λl=>!(bq l A.next.length)) 194 [.aN [ab A.next.length]] (by simp[ao,Pure]) λa ha=>zun a (by have:=hA.AS a ha;omega) _) ?_;refine sS (λg2=>?_) λg2=>?_
 ·exact fin<|by unfold bZ.aV;rw[aa c1,aa c2,ae g2]
 have c3:¬(A.next.any λl=>!(bq l A.next.length))=true:=by rw[g2];simp
 refine sN (Nq aL c9 A.fair zo (λl=>!(bq l A.next.length)) 195 [.aN [ab A.next.length]] (by simp[ao,Pure]) λa ha=>zuo a (by have:=hA.AY a ha;omega) _) ?_;refine sS (λg3=>?_) λg3=>?_
 ·exact fin<|by unfold bZ.aV;rw[aa c1,aa c2,aa c3,ae g3]
 exact fin<|by unfold bZ.aV;rw[aa c1,aa c2,aa c3,aa<|by rw[g3];simp]
def gl(n:Nat)(g:Nat->Int):af:=(List.range n).map g
@[simp] theorem GJ(n:Nat)(g:Nat->Int):(gl n g).length=n:=by simp[gl]
variable{g:Nat->Int}
theorem A9(h:k<n):(gl n g).getD k 0=g k:=by
 rw[ay];simp[gl,cy,pN h]
@[simp] theorem zDR:(aE l).length=l.length:=by simp[aE]
theorem zze{l:af}(hz:z=k)(h:k<l.length):(aE l)[z]? = some [ab<|l.getD k 0]:=eY hz h
theorem dh(k:Nat)(hz:z=k)(h:k<n):(aE<|gl n g)[z]? = some [ab<|g k]:=by
 rw[zze hz<|by rw[GJ];exact h,A9 h]
theorem vW{g':Nat->Int}(h:∀i,i<n->g i=g' i):gl n g=gl n g':=uy λi hi=>h i<|eW.1 hi
def kD(g:Nat->Int)(k:Nat)(v:Int):Nat->Int:=λi=>if i=k then v else g i
@[simp] theorem tu(g:Nat->Int)(k:Nat)(v:Int):kD g k v k=v:=by simp[kD]
theorem wj{v:Int}(h:i≠k):kD g k v i=g i:=by simp[kD,h]
theorem nA{v:Int}(hz:z=k):(aE<|gl n g).set z [ab v]=aE (gl n<|kD g k v):=by
 subst hz;apply qX;intro i;by_cases hi:i<n
 ·rw[wG];by_cases e:z=i
  ·subst e;rw[ae rfl,ae<|by simp;exact hi,dh z rfl hi,tu]
  rw[aa e,dh i rfl hi,dh i rfl hi,wj λq=>e q.symm]
 rw[db<|by simp;omega,db<|by simp;omega]
theorem A2(n:Nat):List.replicate n [ab 0]=aE (gl n λ_=>0):=by
 apply qX;intro i;by_cases hi:i<n
 ·rw[dh i rfl hi,sy,ae hi]
 rw[db<|by simp;omega,db<|by simp;omega]
theorem HW{id:Nat}{q:Bool}(h:H[id]? = some (.vec q v 1<|aE<|gl n g)):Deep H (.own id v 0 n)<|aL<|gl n g:=.own _ _ _ _ _ _ _ _ h<|by rw[ft,fF<|by simp[aE,gl]];exact fW _
def gn(f:Nat->Nat):Nat->Int:=λi=>(f i:Int)
def gX(g:ak)(num low:Nat->Nat)(part:Nat->Int)(Z:af)(h aw count dF:Nat):aB :=
 [.vec true 0 1<|aE<|gl g.length<|gn num,.vec true 0 1<|aE<|gl g.length<|gn low,.vec true 0 1<|aE<|gl g.length part,.row true [bW g,.own 0 0 0 g.length,.own 1 0 0 g.length,.own 2 0 0 g.length,.own 4 aw 0 h,ab count,ab dF],.vec true aw 1<|aE Z]
variable{g:ak}
theorem KL{num:Nat->Nat}{part:Nat->Int}{aw count dF:Nat}:∀o∈gX g num low part Z h aw count dF,o.under 5:=by
 intro o ho;simp only[gX,dD,tt,or_false] at ho;rcases ho with rfl|rfl|rfl|rfl|rfl<;>simp[an.under,aK,az,cp _<|lu g]
theorem Iz(f:Nat->Nat)(k v:Nat):kD (gn f) k (v:Int)=gn (up f k v):=by
 funext i;unfold kD gn up;split<;>rfl
theorem IA:List.drop 0 (List.take h<|aE Z)++List.drop 0 (List.take 1 [[ab x]])=aE (Z.take h++[x]):=by simp[aE,List.map_take]
theorem VJ(g:ak)(hn:g.length<=1000000000)(num low:Nat->Nat)(part:Nat->Int)(Z:af)(h aw count dF:Nat)(hh:h<=Z.length)(hh':h<=1000000000)(hc:count<=1000000000)(v:Nat)(hv:v<g.length) :
  cd aj 253 [.loc 3 0,ab v] (gX g num low part Z h aw count dF) (.aJ []) (gX g (up num v<|count+1) (up low v<|count+1) part (Z.take h++[(v:Int)]) (h+1) (aw+1) (count+1) dF):=by
 refine gm fZ zs (by simp[gX]) ?_ (by simp[az,aK]) KL;unfold gX;refine sR ?_;refine sIB ?_;refine⟨_,dh v zo hv,?_⟩;refine ew ?_;refine⟨_,dh v zo hv,?_⟩;refine sWJ ?_;refine⟨?_,zs⟩;rw[show(count:Int)+1=((count+1:Nat):Int) from rfl,nA (k:=v) zo,nA (k:=v) zo,Iz,Iz,IA];rfl
def xI(part:Nat->Int)(st:List Nat)(dF:Nat):Nat->Int:=λv=>if v∈st then (dF:Int) else part v
theorem Yt(part:Nat->Int)(dF:Nat):xI part [] dF=part:=by funext v;simp[xI]
theorem V0(part:Nat->Int)(st:List Nat)(dF k:Nat):kD (xI part st dF) k (dF:Int)=xI part (st++[k]) dF:=by
 funext i;unfold kD xI;by_cases e:i=k
 ·subst e;simp
 simp[e]
theorem Zq(g:ak)(hn:g.length<=1000000000)(num low:Nat->Nat)(part:Nat->Int)(Z:af)(pre post:List Nat)(n:Nat)(aw count dF:Nat)(hh:(pre++n::post).length<=Z.length)(hh':(pre++n::post).length<=1000000000)(hg:dF<=1000000000)
  (hZ:∀j,j<(pre++n::post).length->Z.getD ((pre++n::post).length-1-j) 0=(((pre++n::post).getD j 0:Nat):Int)) (b8:∀v∈pre++n::post,v<g.length) (hp:n ∉ pre) :
  cd aj 254 [.loc 3 0,ab n] (gX g num low part Z (pre++n::post).length aw count dF) (.aJ []) (gX g num low (xI part (pre++[n]) dF) Z post.length aw count<|dF+1):=by
 refine gm fZ zs (by simp[gX]) ?_ (by simp[az,aK]) KL
 (apply yB;focus (repeat' constructor))
 generalize zI:pre++n::post=st at *
 refine fy [0,1] (λ_:Nat=>[]) (λj=>gX g num low (xI part (st.take j) dF) Z (st.length-j) aw count dF)
  (λj=>j<=pre.length) (λj=>pre.length-j) 0 ?_
 refine sW ?_;refine⟨zo,by exact sK,by rw[zC,Yt];rfl,?_⟩;rintro j hj;have hlen:st.length=pre.length+post.length+1:=by rw[<-zI];simp;omega
 have hkz:=hZ j zo;have ye:st.getD j 0∈st:=by rw[ay,aG zo];exact ig _
 have nY:=b8 _ ye;have Xk:st.take (j+1)=st.take j++[st.getD j 0]:=by
  rw[ld,aG zo,ay,aG zo];rfl
 have UX:st.getD j 0=n↔j=pre.length:=by
  rw[<-zI];constructor
  ·intro e;rcases c7 j pre.length with q|q
   ·exfalso;rw[ay,dJ q,aG q] at e;exact hp<|e▸ig q
   omega
  intro e;subst e;rw[ay,fc<|aI _,mE];rfl
 generalize hk:st.getD j 0=k at *;unfold gX;refine sWR ?_;refine sIB ?_;refine⟨_,eY (l:=Z) (k:=st.length-1-j) zo zo,?_⟩;rw[hkz];refine bJ ?_;refine⟨zo,zo,zo,?_⟩;refine ew ?_;refine⟨_,dh k zo nY,?_⟩;refine sWS (λq=>?_) λq=>?_
 ·have q:k=n:=sO;have q':=UX.1 q;refine sI ?_;have o8:st.take (j+1)=pre++[n]:=by
   rw[<-zI,q',show pre++n::post=(pre++[n])++post by simp,List.take_left' zs]
  refine⟨?_,zs⟩;rw[nA (k:=k) zo,V0,<-Xk,o8,show 0+((st.length-j-0:Nat)-1:Int).toNat=post.length by omega];rfl
 have q:k≠n:=sO;have q':=λz=>q<|UX.2 z;refine⟨j+1,zo,zd,bf (by exact sK) ?_⟩;rw[nA (k:=k) zo,V0,<-Xk,show 0+((st.length-j-0:Nat)-1:Int).toNat=st.length-(j+1) by omega]
structure TR where
 S:TJ
 Z:af
 aw:Nat
structure ZOK(st:List Nat)(Z:af):Prop where
 len:st.length<=Z.length
 at_:∀j,j<st.length->Z.getD (st.length-1-j) 0=((st.getD j 0:Nat):Int)
theorem ZOK.push{st:List Nat}(h:ZOK st Z)(v:Nat):ZOK (v::st) (Z.take st.length++[(v:Int)]) where
 len:=by have:=h.len;simp;omega
 at_ j hj:=by
  have hl:=h.len;simp only[cj] at hj⊢
  cases j with
  |zero =>
   rw[ay,fc<|by simp;omega];rw[show st.length+1-1-0-(Z.take st.length).length=0 by simp;omega];rfl
  |succ j =>
   have:=h.at_ j zo;rw[wz,<-this,ay,ay,dJ<|by simp;omega,xv,ae zo,show st.length+1-1-(j+1)=st.length-1-j by omega]
theorem ZOK.drop{pre post:List Nat}(h:ZOK (pre++post) Z):ZOK post Z where
 len:=by have:=h.len;simp at this;omega
 at_ j hj:=by
  have:=h.at_ (pre.length+j) (by simp;omega);rw[ay (l:=pre++post),fc zo,vI,<-ay,cL,show pre.length+post.length-1-(pre.length+j)=post.length-1-j by omega] at this;exact this
structure TRI(g:ak)(R:TR):Prop where
 tj:TjI g R.S
 zok:ZOK R.S.stack R.Z
def TR.open(R:TR)(v:Nat)(path:List<|Nat×Nat):TR:=⟨R.S.open v path,R.Z.take R.S.stack.length++[(v:Int)],R.aw+1⟩
def stepT(g:ak)(R:TR):TR :=
 match R.S.path with
 |[]=>R
 |(p,i)::r =>
  if i<(g.getD p []).length then
   if R.S.num ((g.getD p []).getD i 0).toNat=0 then R.open ((g.getD p []).getD i 0).toNat<|(p,i+1)::r
   else ⟨R.S.skip p i r ((g.getD p []).getD i 0).toNat,R.Z,R.aw⟩
  else match r with
   |[]=>⟨R.S.shut p [] R.S.low,R.Z,R.aw⟩
   |(q,j)::r'=>if R.S.low p=R.S.num p then ⟨R.S.shut p ((q,j)::r')<|up R.S.low q<|min (R.S.low q)<|R.S.low p,R.Z,R.aw⟩ else ⟨R.S.back p q j r',R.Z,R.aw⟩
def runT(g:ak):Nat->TR->TR
 |0,R=>R
 |k+1,R=>if R.S.path=[] then R else runT g k<|stepT g R
variable{R:TR}
theorem zxu(h:R.S.path=[]):∀k,runT g k R=R
 |0=>rfl
 |k+1=>by simp only[runT,ae h]
theorem TjI.split(h:TjI g S)(hn:n∈S.stack):∃pre post,S.stack=pre++n::post/\n ∉ pre/\(∀v,v∈pre++[n]↔v∈S.stack/\S.num n<=S.num v)/\S.stack.filter (λv=>decide (S.num v<S.num n))=post:=by
 obtain⟨pre,post,e⟩:=List.append_of_mem hn;have hs:=h.srt;rw[e,List.pairwise_append] at hs;obtain⟨s1,s2,s3⟩:=hs;rw[List.pairwise_cons] at s2;have p1:∀v∈pre,S.num n<S.num v:=λv hv=>s3 v hv n zs;have p2:∀v∈post,S.num v<S.num n:=λv hv=>s2.1 v hv;refine⟨pre,post,e,λq=>by have:=p1 n q;omega,λv=>?_,?_⟩
 ·rw[e];simp only[de,dD,tt,or_false];constructor
  ·rintro(q|q)
   ·exact⟨.inl q,Nat.le_of_lt<|p1 v q⟩
   subst q;exact⟨.inr (.inl rfl),aI _⟩
  rintro⟨q|q|q,k⟩
  ·exact .inl q
  ·exact .inr q
  have:=p2 v q;omega
 rw[e,Da,yF,aa zs];have f1:pre.filter (λv=>decide (S.num v<S.num n))=[]:=List.filter_eq_nil_iff.2 λv hv=>by have:=p1 v hv;simp;omega
 have f2:post.filter (λv=>decide (S.num v<S.num n))=post:=List.filter_eq_self.2 λv hv=>by simpa using p2 v hv
 rw[f1,f2];rfl
theorem TjI.PK(h:TjI g S)(hp:S.path=[(p,i)]):S.low p=S.num p:=by
 have pC:=h.seg;rw[hp] at pC;obtain⟨g1,g2,g3,g4,g5,⟨w,w1,w2,w3⟩,g7,g8,g9⟩:=pC;have:=g9 w w1;omega
theorem TRI.shut{g:ak}{R:TR}(h:TRI g R){n i:Nat}{r:List<|Nat×Nat}(hp:R.S.path=(n,i)::r)(hi:(g.getD n []).length<=i)(hl:R.S.low n=R.S.num n){low:Nat->Nat}(AD:∀v,R.S.num v<R.S.num n->low v=R.S.low v):TRI g ⟨R.S.shut n r low,R.Z,R.aw⟩:=by
 refine⟨h.tj.shut hp hi hl AD,?_⟩;have hn:n∈R.S.stack:=by have:=h.tj.seg;rw[hp] at this;exact this.1
 obtain⟨pre,post,e,e1,e2,e3⟩:=h.tj.split hn;show ZOK (R.S.stack.filter _) R.Z;rw[e3];have:=h.zok;rw[e,show pre++n::post=(pre++[n])++post by simp] at this;exact this.drop
theorem WC(bg:∀v x,x∈g.getD v []->x.toNat<g.length)(h:TRI g R)(hp:R.S.path≠[]):TRI g (stepT g R)/\TJ.fuel g (stepT g R).S<TJ.fuel g R.S/\∀x,R.S.num x≠0->(stepT g R).S.num x≠0:=by
 unfold stepT
 cases e:R.S.path with
 |nil=>exact absurd e hp
 |cons q r =>
  obtain⟨p,i⟩:=q;dsimp only;by_cases hi:i<(g.getD p []).length
  ·rw[ae hi];have hv:=bg p _<|fV hi;by_cases h0:R.S.num ((g.getD p []).getD i 0).toNat=0
   ·rw[ae h0];refine⟨⟨h.tj.push e hi hv h0,h.zok.push _⟩,by have:=zsG e hi hv h0;show TJ.fuel g (R.S.open _ _)<_;omega,λx hx=>?_⟩;show up R.S.num _ _ x≠0;rw[jK λq=>hx<|by rw[q];exact h0];exact hx
   rw[aa h0];exact⟨⟨h.tj.skip e hi h0,h.zok⟩,by have:=zus (x:=((g.getD p []).getD i 0).toNat) e hi;show TJ.fuel g (R.S.skip _ _ _ _)<_;omega,λx hx=>hx⟩
  rw[aa hi]
  cases r with
  |nil =>
   exact⟨h.shut e zo (h.tj.PK e) λ_ _=>rfl,SQ e,λx hx=>hx⟩
  |cons q r =>
   obtain⟨q,j⟩:=q;dsimp only;by_cases hl:R.S.low p=R.S.num p
   ·rw[ae hl];have pC:=h.tj.seg;rw[e] at pC;obtain⟨g1,g2,g3,g4,g5,g6,g7,g8,f1,f2,f3,f4,f5,f6,f7,f8,f9⟩:=pC;refine⟨h.shut e zo hl λv _=>?_,SQ e,λx hx=>hx⟩;by_cases ev:v=q
    ·subst ev;rw[mH];omega
    rw[jK ev]
   rw[aa hl];exact⟨⟨h.tj.back e zo hl,h.zok⟩,zsS e,λx hx=>hx⟩
theorem Sk{g:ak}(bg:∀v x,x∈g.getD v []->x.toNat<g.length):∀(k:Nat) {R:TR},TRI g R->TJ.fuel g R.S<=k->TRI g (runT g k R)/\(runT g k R).S.path=[]/\∀x,R.S.num x≠0->(runT g k R).S.num x≠0
 |0,R,h,hk=>by
  have hp:R.S.path=[]:=by
   cases e:R.S.path with
   |nil=>rfl
   |cons q r=>obtain⟨p,i⟩:=q;unfold TJ.fuel at hk;rw[e] at hk;simp only[o5] at hk;omega
  exact⟨h,hp,λx hx=>hx⟩
 |k+1,R,h,hk=>by
  simp only[runT];by_cases hp:R.S.path=[]
  ·rw[ae hp];exact⟨h,hp,λx hx=>hx⟩
  rw[aa hp];obtain⟨a,b,c⟩:=WC bg h hp;obtain⟨a',b',c'⟩:=Sk bg k a zo;exact⟨a',b',λx hx=>c' x<|c x hx⟩
theorem TRI.root(h:TRI g R)(hp:R.S.path=[])(hv:v<g.length)(h0:R.S.num v=0):TRI g<|R.open v []:=by
 refine⟨h.tj.opened hv h0 (b9 _) ?_ trivial,h.zok.push v⟩;have:=h.tj.seg;rw[hp] at this;exact this
def wJ(g:ak)(R:TR)(v:Nat):TR:=runT g (TJ.fuel g (R.open v []).S)<|R.open v []
def iq(g:ak):Nat->TR
 |0=>⟨⟨λ_=>0,λ_=>0,λ_=>-1,[],[],0,0⟩,[],0⟩
 |k+1=>if (iq g k).S.num k=0 then wJ g (iq g k) k else iq g k
theorem zta(bg:∀v x,x∈g.getD v []->x.toNat<g.length)(h:TRI g R)(hp:R.S.path=[])(hv:v<g.length)(h0:R.S.num v=0) :
  TRI g (wJ g R v)/\(wJ g R v).S.path=[]/\(wJ g R v).S.num v≠0/\∀x,R.S.num x≠0->(wJ g R v).S.num x≠0:=by
 obtain⟨a,b,c⟩:=Sk bg _ (h.root hp hv h0)<|aI _;refine⟨a,b,c v ?_,λx hx=>c x ?_⟩
 ·show up R.S.num v (R.S.count+1) v≠0;rw[mH];omega
 show up R.S.num v (R.S.count+1) x≠0;by_cases e:x=v
 ·subst e;rw[mH];omega
 rw[jK e];exact hx
theorem Fo{g:ak}(bg:∀v x,x∈g.getD v []->x.toNat<g.length):∀k,k<=g.length->TRI g (iq g k)/\(iq g k).S.path=[]/\∀j,j<k->(iq g k).S.num j≠0
 |0,_=>⟨⟨TjI.zero g,⟨aI _,λj hj=>by cases hj⟩⟩,rfl,λj hj=>by cases hj⟩
 |k+1,hk=>by
  obtain⟨a,b,c⟩:=Fo bg k zo;simp only[iq];by_cases h0:(iq g k).S.num k=0
  ·rw[ae h0];obtain⟨a',b',c',d'⟩:=zta bg a b (show k<g.length by omega) h0;refine⟨a',b',λj hj=>?_⟩;by_cases e:j=k
   ·subst e;exact c'
   exact d' j<|c j zo
  rw[aa h0];refine⟨a,b,λj hj=>?_⟩;by_cases e:j=k
  ·subst e;exact h0
  exact c j zo
theorem zsy(bg:∀v x,x∈g.getD v []->x.toNat<g.length):(∀i,i<g.length->0<=(iq g g.length).S.part i/\(iq g g.length).S.part i<((iq g g.length).S.dF:Int)) /\
  (∀i j,i<g.length->j<g.length->((iq g g.length).S.part i=(iq g g.length).S.part j↔pL g i j))/\(iq g g.length).S.dF<=g.length:=by
 obtain⟨a,b,c⟩:=Fo bg g.length<|aI _;have hd:=λi (hi:i<g.length)=>a.tj.done b<|c i hi;refine⟨λi hi=>⟨hd i hi,(a.tj.par i<|hd i hi).1⟩,λi j hi hj=>?_,?_⟩
 ·rw[a.tj.same i j (hd i hi)<|hd j hj,lk]
 have h1:=a.tj.size;have h2:=a.tj.seen;omega
end Go.Proofs.YtaalipopcddnjaaGreatDoor
