/-
  Parts of a proof, joined. No statement is proved here.
-/
import Derived.Laws.Tables
import Derived.Orders
import Derived.Still
import Derived.Deep.LoopGhost
import Derived.LoopN
import Derived.Test.YtmajadpcpohneaaGreatDoorR90
import Derived.WalkKit
import Derived.Laws.OwnMore
import Derived.Laws.Rows
import Derived.Deep.AppendLies
import Derived.Deep.Draws
import Derived.Lib.Hide
import Derived.ProofKit
import Derived.ChangeArms
import Derived.ChangeSame
import Derived.OpenShut
import Derived.ShutString
import Derived.Deep.Slices
import Derived.Deep.Fields
import Derived.Lib.SmallJoins
import Derived.Test.YtmajadpcpohneaaGreatDoorProg
import Derived.RegionTactic
import Derived.Lib.Builder
import Derived.Lib.UnsafeStr
import Derived.ChangeKeysEq
namespace Go.Proofs.YtmajadpcpohneaaGreatDoor
set_option linter.unusedSimpArgs false
set_option linter.unusedVariables false
set_option maxRecDepth 100000
set_option maxHeartbeats 8000000
set_option linter.unusedSectionVars false
abbrev fc := List (List D)
abbrev bj := List D
abbrev aE := List al
abbrev au:D:=.sc (.slice none 0 0)
abbrev aa (n : Int) : D := .sc (.int .i64 n)
abbrev ay (b : Bool) : D := .sc (.bool b)
open Go.RowKit
section
section
variable{P:bG}{seq:Bool}{o:Oper}{env:Env}{H:aE}{K:qA}
variable{t:bp}
theorem zi7{u v:aW}{w:bl}{b:Bool}(h:(Op.equalIn (9999+1) t u v).run P w=.ok b w):(Op.equal t u v).run P w=.ok b w:=h
theorem Td{neq:Bool}{op:BinOp}{yt:bp}{x y:bn}(pR:op=if neq then .neq else .eql)(hk:isNil P t y)(ho:o.op=.binOp op t x y yt)(h:step P seq (.HM neq x) env H K):Sound P o env H K\/(seq=true/\zn P o env H K):=by
 simp only[step,iq] at h;unfold isNil at hk;split at hk
 ·rename_i e ht;have key:∀(A:Option Addr) (n c:Nat) (w:bl),∀a:Act,a.eval x=.slice A n c->(execOp a.eval o).run P w=.ok (.value (.bool<|ub neq A.isNone)) w:=λA n c w a hx=>by
   have g:(eqGuard op t x (.const (.slice none 0 0)) (.slice A n c) (.slice none 0 0)).run P w=.ok () w:=by
    subst pR;cases neq<;>simp[eqGuard,pure,Sem.run]
   have q:(Op.equal t (.slice A n c) (.slice none 0 0)).run P w=.ok A.isNone w:=by
    refine zi7 ?_;unfold Op.equalIn;cases A<;>simp[underlying,program,Sem.run,ht,pure]
   have hb:(binOp op t (.slice A n c) (.slice none 0 0)).run P w=.ok (.bool<|ub neq A.isNone) w:=by
    clear h;subst pR;cases neq<;>simp_all [binOp,pure,Sem.run,ub]
   have hy:a.eval (.const (.slice none 0 0))=.slice none 0 0:=rfl;simp only[execOp,ho,hx,hy,Sem.run_bind,g,Result.andThen_ok,hb,pure,Sem.run]
  simp only[T0] at h;split at h
  ·rename_i ex;refine .inl (iE h λJ F w a G _ bd _=>⟨.bool<|!neq,?_,by simp only[rep]⟩);have hu:=bd x (by simp[ho,Op.operands]);rw[ex] at hu;simp only[rep] at hu;have:=key none 0 0 w a hu;cases neq<;>exact this
  ·rename_i an xs ex;obtain⟨hs,h⟩:=h;refine .inr ⟨hs,λJ F w a az jH bd K2 Q Gm=>?_⟩;have hu:=bd x (by simp[ho,Op.operands]);rw[ex] at hu;simp only[rep] at hu;obtain⟨A,n,c,hu,hn,hc,hx⟩:=hu;have hb:A.isNone=true->xs=[]:=λhA=>by
    rcases hx with hx|⟨b,o',rfl,_⟩
    ·exact pM.1<|by omega
    cases hA
   unfold Oper.wp;rw[key A n c w a hu,Oper.upon_value];exact Gm _ H [] [] _ w J F (h A.isNone hb) (by simp only[rep]) az (Ext.refl _ _ _) jH
  exact h.elim
 cases hk
theorem Yr(place:Nat->Option (Nat×Nat)):∀(l:List<|Nat×bn) (l':List<|Nat×Nat×bn) (cs:bj) (K':bj->Prop),yF place l=some l'->KG env l' cs K'->∃gA,K' gA /\
  ∀(J:bh) (F:Nat->Prop) (w:bl) (a:Act) (cells:Array aW),(∀p∈l,rep J F w (fW env p.2)<|a.eval p.2)->bA J F w cs cells.toList ->
   ∃uS,Instr.fill place cells (l.map λp=>(p.1,a.eval p.2))=some uS/\bA J F w gA uS.toList
 |[],l',cs,K',hl,h=>by
  simp[yF] at hl;subst hl;exact⟨cs,h,λJ F w a cells _ hr=>⟨cells,rfl,hr⟩⟩
 |(i,x)::r,l',cs,K',hl,h=>by
  simp only[yF] at hl;split at hl
  ·rename_i off n rl e1 e2;cases hl;simp only[KG,iq,KK,rH] at h;obtain⟨h1,h2,h3⟩:=h;obtain⟨h4,h5⟩:=(Er _ _ _ _).1 h3;obtain⟨gA,h6,h7⟩:=Yr place r rl _ K' e2 h5;refine⟨gA,h6,λJ F w a cells bd hr=>?_⟩;obtain⟨k1,_⟩:=Ec h1<|bd (i,x) (by simp);have GU:=nS _ _ k1;have An:=nS _ _ hr;have eJ:(a.eval x).cells.size=n:=(by rw[h2,<-GU];simp);obtain⟨c1,f1,f2,f3⟩:=Ua place cells i (a.eval x) (r.map λp=>(p.1,a.eval p.2)) off (by rw[eJ];exact e1) (by rw[eJ];simp at An;omega);have HC:bA J F w (cs.take off++(fW env x).cells++cs.drop (off+(fW env x).cells.length)) c1.toList:=by
    have ec:c1.toList=cells.toList.take off++(a.eval x).cells.toList++cells.toList.drop (off+(a.eval x).cells.toList.length):=by
     apply pS;intro j;have yj:off+(a.eval x).cells.size<=cells.toList.length:=(by rw[eJ,An];omega);rw[Array.getElem?_toList,f3];by_cases q1:j<off
     ·rw[ab (by omega),ig,iz (by simp at yj⊢;omega),List.getElem?_take,ae q1];simp
     by_cases q2:j<off+(a.eval x).cells.size
     ·rw[ae (by omega),ig,jF (by simp at yj⊢;omega),iz (by simp at yj⊢;omega)];simp at yj⊢;rw[show j-min off cells.size=j-off by omega]
     rw[ab (by omega),jF (by simp at yj⊢;omega),Dr];simp at yj⊢;rw[show off+(a.eval x).cells.size+(j-(min off cells.size+(a.eval x).cells.size))=j by omega]
    rw[ec];have e3:(a.eval x).cells.toList.length=(fW env x).cells.length:=GU;rw[e3];exact Gx (Gx (SP hr _) k1)<|VH hr _
   obtain⟨c2,g1,g2⟩:=h7 J F w a c1 (λp hp=>bd p<|by simp[hp]) HC;exact⟨c2,by simp only[fR];rw[f1];exact g1,g2⟩
  cases hl
theorem Ux{parts:Array<|Nat×bn}{z:aW}{place:Nat->Option (Nat×Nat)}{l':List<|Nat×Nat×bn}(hz:(P.info? t).bind (·.zero)=some z)(hb:∀l cells,Instr.fill place z.cells l=some cells->P.built t l=some cells)(hl:yF place parts.toList=some l')
  (ho:o.op=.build t parts) (h:step P seq (.build z.cells.toList l') env H K):Sound P o env H K:=by
 simp only[step,JX] at h;obtain⟨gA,h1,h2⟩:=Yr place parts.toList l' _ _ hl h;refine iE h1 λJ F w a G az bd cD=>?_;obtain⟨c',h3,h4⟩:=h2 J F w a z.cells (λp hp=>bd p.2 (by
  simp only[ho,Op.operands,List.mem_toArray,dq];exact⟨p,hp,rfl⟩)) (Fz z.cells.toList)
 refine⟨.agg c',?_,by simp only[rep];exact⟨c'.toList,by simp,h4⟩⟩;have e1:(parts.map λ(i,x)=>(i,a.eval x)).toList=parts.toList.map λp=>(p.1,a.eval p.2):=by rw[Array.toList_map]
 have:=run_build (P:=P) w t (parts.map λ(i,x)=>(i,a.eval x)) c' (by rw[e1];exact hb _ _ h3);simp only[execOp,ho,Sem.run_bind,this,Result.andThen_ok,pure,Sem.run]
end
end
section
section
variable{P:bG}{seq:Bool}{o:Oper}{env:Env}{H:aE}{K:qA}
theorem M6{p:POp}(hc:cop P o=some p)(h:step P seq p env H K):Sound P o env H K\/(seq=true/\zn P o env H K):=by
 unfold cop at hc;split at hc
 ·rename_i x ho;cases hc;exact .inl<|YU (.inl ho) h
 ·rename_i x ho;cases hc;exact .inl<|YU (.inr ho) h
 ·rename_i c a b ho;cases hc;exact .inl<|zBi ho h
 ·rename_i t ho;split at hc
  ·rename_i z hz;split at hc
   ·rename_i vK;cases hc;exact .inl<|zy2 hz vK ho h
   cases hc
  cases hc
 ·rename_i t x ho;cases hc;exact .inl<|zCZ (by split<;>rfl) ho h
 ·rename_i t parts ho;split at hc
  ·rename_i z fs hz hu;split at hc
   ·rename_i places hp
    cases e:yF (places.toArray[·]?) parts.toList with
    |none=>rw[e] at hc;cases hc
    |some l' =>
     rw[e] at hc;cases hc;refine .inl<|Ux hz (λl cells hf=>?_) e ho h;unfold Program.built
     cases hi:P.info? t with
     |none=>rw[hi] at hz;cases hz
     |some it =>
      have jn:it.zero=some z:=(by simpa [hi] using hz);simp only[hu,jn,hp];exact hf
   cases hc
  ·rename_i z n e hz hu;split at hc
   ·rename_i ie hie
    cases e':yF (λi=>some (i*ie.size,ie.size)) parts.toList with
    |none=>rw[e'] at hc;cases hc
    |some l' =>
     rw[e'] at hc;cases hc;refine .inl<|Ux hz (λl cells hf=>?_) e' ho h;unfold Program.built
     cases hi:P.info? t with
     |none=>rw[hi] at hz;cases hz
     |some it =>
      have jn:it.zero=some z:=(by simpa [hi] using hz);simp only[hu,jn,hie];exact hf
   cases hc
  cases hc
 ·rename_i t n parts ho;split at hc
  ·rename_i e ht;split at hc
   ·rename_i z hz;split at hc
    ·rename_i hq
     cases e':zT 0 parts.toList with
     |none=>rw[e'] at hc;cases hc
     |some xs=>rw[e'] at hc;cases hc;exact .inl<|zwl ht hz hq.1 hq.2 e' ho h
    cases hc
   cases hc
  cases hc
 ·rename_i t x ho;split at hc
  ·rename_i ht;cases hc;exact .inl<|ZM ht ho h
  ·rename_i ht;cases hc;exact .inl<|zzy ht ho h
  cases hc
 ·rename_i t x y ho;split at hc
  ·cases hc
  rename_i hz;cases hc;exact .inl<|zzQ hz ho h
 ·rename_i x ho;cases hc;exact .inl<|zvQ ho h
 ·rename_i op t x y yt ho;split at hc
  ·cases hc;exact .inl<|ZP ho h
  split at hc
  ·split at hc
   ·rename_i hb;cases hc;refine .inl<|Q8 (op:=.eql) rfl ?_ ho h;unfold JE at hb;split at hb
    ·assumption
    cases hb
   split at hc
   ·rename_i ks vO;cases hc;exact .inl<|Xs (op:=.eql) rfl vO ho h
   split at hc
   ·rename_i e;cases hc;exact Td (op:=.eql) rfl e ho h
   cases hc
  ·split at hc
   ·rename_i hb;cases hc;refine .inl<|Q8 (op:=.neq) rfl ?_ ho h;unfold JE at hb;split at hb
    ·assumption
    cases hb
   split at hc
   ·rename_i ks vO;cases hc;exact .inl<|Xs (op:=.neq) rfl vO ho h
   split at hc
   ·rename_i e;cases hc;exact Td (op:=.neq) rfl e ho h
   cases hc
  cases hc
 ·rename_i op t x ho;cases hc;exact .inl<|s_un ho h
 ·rename_i x i ho;cases hc;exact .inl<|zCR ho h
 ·rename_i s x f ho;split at hc
  ·rename_i fs hs;split at hc
   ·rename_i fd hf;split at hc
    ·cases hc
    rename_i hz;cases hc;exact .inl<|zyV hs hf hz ho h
   cases hc
  cases hc
 ·rename_i t x i ho;split at hc
  ·rename_i e ht;split at hc
   ·cases hc
   rename_i hz;cases hc;exact .inl<|zzO ht hz ho h
  ·rename_i n e ht;split at hc
   ·cases hc
   rename_i hz;cases hc;exact .inl<|zyr ht hz ho h
  cases hc
 ·rename_i t x i ho;split at hc
  ·rename_i ht;cases hc;exact .inl<|zBL ht ho h
  ·rename_i n e ht;split at hc
   ·rename_i ag yM;cases hc;exact .inl<|zB8 ht yM ho h
   cases hc
  cases hc
 ·rename_i f first cap ho;cases hc;exact .inl<|zBz ho h
 ·rename_i t l c ho;split at hc
  ·rename_i e ht;split at hc
   ·rename_i z hz;split at hc
    ·rename_i hq;cases hc;exact .inl<|zxm ht hz hq.1 hq.2.1 hq.2.2.1 hq.2.2.2 ho h
    cases hc
   cases hc
  cases hc
 ·rename_i t x lo hi ho;split at hc
  ·rename_i e ht;split at hc
   ·rename_i hz;cases hc;exact .inl<|zC5 ht hz ho h
   cases hc
  cases hc
 ·rename_i args ts ho;split at hc
  ·rename_i x t ha kF;split at hc
   ·rename_i e ht;cases hc;exact .inl<|zCB ha kF ht ho h
   ·rename_i ht;cases hc;exact .inl<|zBC ha kF ht ho h
   cases hc
  cases hc
 ·rename_i args ts ho;split at hc
  ·rename_i x y t u ha kF;split at hc
   ·rename_i e ud ht hu;split at hc
    ·rename_i z hs hz;split at hc
     ·rename_i hq;cases hc;exact .inl<|zxw ha kF ht (zvB hu hs) hz hq.1 hq.2.1 hq.2.2 ho h
     cases hc
    cases hc
   cases hc
  cases hc
 ·rename_i args ts ho;split at hc
  ·rename_i x t ha kF;split at hc
   ·rename_i e ht;split at hc
    ·rename_i z hz;split at hc
     ·rename_i u hu;split at hc
      ·rename_i hq;cases hc;exact .inl<|zCP ha kF ht hz hu hq ho h
      cases hc
     cases hc
    cases hc
   cases hc
  cases hc
 ·rename_i args ts _ ho;split at hc
  ·rename_i x y ha;cases hc;exact .inl<|s_mx (big:=true) ha ho h
  cases hc
 ·rename_i args ts _ ho;split at hc
  ·rename_i x y ha;cases hc;exact .inl<|s_mx (big:=false) ha ho h
  cases hc
 ·rename_i f args ts ho;split at hc
  ·split at hc
   ·cases hc
   cases hc;exact zBy ho h
  cases hc
 ·rename_i x args ts _ ho;cases hc;exact zyZ ho h
 ·rename_i src dst x ho;split at hc
  ·rename_i k0 k hs hd;cases hc;exact .inl<|zBT hs hd ho h
  cases hc
 ·rename_i t ho;split at hc
  ·rename_i k e ht;cases hc;exact .inl<|zyv ho h
  cases hc
 ·rename_i t m x ho;split at hc
  ·rename_i k e ht;split at hc
   ·rename_i z hz;split at hc
    ·rename_i h1;cases hc;exact .inl<|zB6 ht hz h1 ho h
    cases hc
   cases hc
  cases hc
 ·rename_i t m x ho;split at hc
  ·rename_i k e ht;cases hc;exact .inl<|zz6 ht ho h
  cases hc
 ·rename_i t m x v ho;split at hc
  ·rename_i k e ht;cases hc;exact .inl<|zBP ht ho h
  cases hc
 cases hc
end
end
section
theorem Cc(t k:Nat)(d:D)(env:Env):iv t ((k,d)::env)=if t=k then d else iv t env:=by
 simp only[iv];cases e:Nat.beq t k
 ·rw[ab];intro h;subst h;simp at e
 rw[ae<|Bz e]
theorem SJ(a:Array aW)(t u:Nat)(v:aW)(ht:t<a.size):(a.setIfInBounds t v).getD u undef=if u=t then v else a.getD u undef:=by
 simp only[yq];repeat grind
section
variable{P:bG}{n:Nat}{J J':bh}{F F':Nat->Prop}{env:Env}{H H':aE}{a:Act}{w w':bl}
theorem jt.U7(h:jt n J F env H a w)(hx:Ext J F w J' F' w'):∀t,rep J' F' w' (iv t env)<|a.tmps.getD t undef:=λt=>Kj hx<|h.tmps t
theorem jt.put(h:jt n J F env H a w)(hx:Ext J F w J' F' w'){t:Nat}{d:D}{v:aW}(ht:t<n)(hv:rep J' F' w' d v)(az:cC J' F' w' λi=>H'[i]?)(hd:∀id,J' id≠none->id<H'.length):jt n J' F' ((t,d)::env) H' (a.put (some t) v) w' where
 defers:=h.defers
 size:=by simp[Act.put,h.size]
 tmps u:=by
  rw[Cc];simp only[Act.put];rw[SJ _ _ _ _<|by rw[h.size];exact ht];split
  ·exact hv
  exact h.U7 hx u
 ok:=az
 dom:=hd
theorem jt.skip(h:jt n J F env H a w)(hx:Ext J F w J' F' w')(az:cC J' F' w' λi=>H'[i]?)(hd:∀id,J' id≠none->id<H'.length):jt n J' F' env H' a w' where
 defers:=h.defers
 size:=h.size
 tmps:=h.U7 hx
 ok:=az
 dom:=hd
theorem jt.eval(h:jt n J F env H a w)(x:bn):rep J F w (fW env x)<|a.eval x:=by
 cases x with
 |tmp t=>exact h.tmps t
 |const v =>
  cases v<;>simp only[fW,lift,Act.eval,rep];rename_i cs;exact⟨cs.toList,by simp,Fz cs.toList⟩
 |global g=>exact V4 h.ok.lt g
 |func f=>simp only[fW,Act.eval,rep];exact⟨[],[],rfl,by simp only[bA],by simp only[bA]⟩
variable{o:Oper}
theorem NK{ops:Array Oper}{mask:Nat}{p:cO}(h:NY P n ops mask o=some p) :
  cop P o=some p.op/\p.dst=o.dst/\(∀t,o.dst=some t->t<n)/\((o.guard=none/\p.guard=none)\/∃j b t,o.guard=some (j,b)/\(ops[j]?).bind (·.dst)=some t/\p.guard=some (t,b)) /\
   p.mask=mask:=by
 unfold NY at h;split at h
 ·rename_i q hd hq hg;cases h;exact⟨hq,rfl,λt ht=>by unfold Nb at hd;rw[ht] at hd;simpa using hd,.inl ⟨hg,rfl⟩,rfl⟩
 ·rename_i q j b hd hq hg;split at h
  ·rename_i t ht;cases h;exact⟨hq,rfl,λt ht=>by unfold Nb at hd;rw[ht] at hd;simpa using hd,.inr ⟨j,b,t,hg,ht,rfl⟩,rfl⟩
  cases h
 cases h
def Lm(b:Bool):aW->Bool
 | .bool c=>c != b
 | .tuple _=>true
 |_=>false
variable{tmps:Array aW}{j t:Nat}{b:Bool}
theorem ztL{ops:Array Oper}(h1:o.guard=some (j,b))(h2:(ops[j]?).bind (·.dst)=some t)(h:tmps.getD t undef=.bool b):Region.wanted o<|yielded ops tmps:=by
 have h4:tmps[t]? = some (.bool b):=by
  rw[yq] at h
  cases e:tmps[t]? with
  |none=>rw[e] at h;simp[undef] at h
  |some v=>grind
 simp only[Region.wanted,h1,yielded,h2,zK,h4]
 grind
theorem Tv{ops:Array Oper}(h1:o.guard=some (j,b))(h2:(ops[j]?).bind (·.dst)=some t)(h:Lm b<|tmps.getD t undef):Region.wanted o (yielded ops tmps)=false:=by
 rw[yq] at h
 cases e:tmps[t]? with
 |none=>simp only[Region.wanted,h1,yielded,h2,zK,e];cases b<;>rfl
 |some v =>
  rw[e] at h;simp only[sj] at h;simp only[Region.wanted,h1,yielded,h2,zK,e];cases v<;>simp[Lm] at h⊢;exact h
theorem ztn{ops:Array Oper}(h:jt n J F env H a w){c:Bool}(h1:o.guard=some (j,b))(h2:(ops[j]?).bind (·.dst)=some t)(hc:iv t env=ay c) :
  Region.wanted o (yielded ops a.tmps)=(c==b):=by
 have h3:=h.tmps t;rw[hc] at h3;simp only[rep] at h3;have h4:a.tmps[t]? = some (.bool c):=by
  rw[yq] at h3
  cases e:a.tmps[t]? with
  |none=>rw[e] at h3;simp[undef] at h3
  |some v=>grind
 simp only[Region.wanted,h1,yielded,h2,zK,h4]
 grind
end
section
variable{P:bG}{n:Nat}{ops:Array Oper}{K':Env->aE->Prop}{Q:Exit->Act->bl->Prop}
theorem Fk{c:Bool}{A B:Prop}:ifK c A B↔(c=true->A)/\(c=false->B):=by
 cases c<;>simp[ifK]
theorem znL{o:Oper}{p:POp}{env:Env}{H:aE}{K:qA}(hc:cop P o=some p)(h:step P true p env H K):zn P o env H K :=
 (M6 hc h).elim ztF (·.2)
theorem Ue:∀(l:List Oper) (i:Nat) (ms:List Nat) (pl:List cO),(∀j,l[j]? = ops[i+j]?)->qF P n ops ms l=some pl->∀(env:Env) (H:aE) (J:bh) (F:Nat->Prop) (a:Act) (w:bl),nj P pl env H K'->jt n J F env H a w ->
  (∀env' H' J' F' a' w',K' env' H'->jt n J' F' env' H' a' w'->Ext J F w J' F' w'->Q .normal a' w')->wpOps P ops Q (List.range' i l.length) a w
 |[],i,ms,pl,hl,hc,env,H,J,F,a,w,h,hr,hQ=>by
  simp[qF] at hc;subst hc;simp only[fy,List.range'_zero,wpOps];exact hQ env H J F a w h hr<|Ext.refl _ _ _
 |o::l,i,ms,pl,hl,hc,env,H,J,F,a,w,h,hr,hQ=>by
  simp only[qF] at hc;split at hc
  ·rename_i p pr h1 h2;cases hc;have ho:ops[i]? = some o:=(by simpa using (hl 0).symm);have dO:∀j,l[j]? = ops[i+1+j]?:=λj=>by have:=hl<|j+1;simpa [Nat.add_assoc,Nat.add_comm 1 j] using this
   obtain⟨k1,k2,k3,k4,_⟩:=NK h1
   have go:∀env' H' J' F' a' w',Ext J F w J' F' w'->nj P pr env' H' K'->jt n J' F' env' H' a' w'->wpOps P ops Q (List.range' (i+1) l.length) a' w':=λenv' H' J' F' a' w' hx h' xl =>
    Ue l (i+1) ms.tail pr dO h2 env' H' J' F' a' w' h' xl λJ8 H'' J'' F'' a'' w'' q1 q2 q3=>hQ J8 H'' J'' F'' a'' w'' q1 q2<|hx.trans q3
   have exec:(step P true p.op env H λd H' _ _=>match p.dst with
     |some t=>nj P pr ((t,d)::env) H' K'
     |none=>nj P pr env H' K')->o.wp P a w (wpOps P ops Q<|List.range' (i+1) l.length) Q:=λhs=>by
    refine znL k1 hs J F w a hr.ok hr.dom (λx _=>hr.eval x) _ _ λd H2 rd wr v w' J' F' hK q1 q2 q3 q4=>?_;rw[k2] at hK
    cases hd:o.dst with
    |none =>
     rw[hd] at hK;exact go env H2 J' F' _ w' q3 hK<|hr.skip q3 q2 q4
    |some t =>
     rw[hd] at hK;exact go _ H2 J' F' _ w' q3 hK<|hr.put q3 (k3 t hd) q1 q2 q4
   have skip:(match p.dst with
     |some t=>nj P pr ((t,.sc undef)::env) H K'
     |none=>nj P pr env H K')->wpOps P ops Q (List.range' (i+1) l.length) (a.put o.dst undef) w:=λhs=>by
    rw[k2] at hs
    cases hd:o.dst with
    |none =>
     rw[hd] at hs;exact go env H J F _ w (Ext.refl _ _ _) hs hr
    |some t =>
     rw[hd] at hs;exact go _ H J F _ w (Ext.refl _ _ _) hs<|hr.put (Ext.refl _ _ _) (k3 t hd) (by simp only[rep]) hr.ok hr.dom
   simp only[dC,List.range'_succ,wpOps,ho];simp only[nj] at h;rcases k4 with⟨g1,g2⟩|⟨j,b,t,g1,g2,g3⟩
   ·rw[g2] at h;rw[ae<|by simp[Region.wanted,g1]];exact .inl<|exec h
   rw[g3] at h;simp only[AM] at h;split at h
   ·rename_i c wh;have hw:=ztn hr g1 g2 wh
    cases b with
    |true =>
     obtain⟨hA,hB⟩:=Fk.1 h
     cases c with
     |true=>rw[ae<|by rw[hw];rfl];exact .inl<|exec<|hA rfl
     |false=>rw[ab<|by rw[hw];simp];exact skip (hB rfl)
    |false =>
     obtain⟨hA,hB⟩:=Fk.1 h
     cases c with
     |true=>rw[ab<|by rw[hw];simp];exact skip (hA rfl)
     |false=>rw[ae<|by rw[hw];rfl];exact .inl<|exec<|hB rfl
   ·rename_i xs wh;have h3:=hr.tmps t;rw[wh] at h3;simp only[rep] at h3;rw[ab<|by rw[Tv g1 g2<|by rw[h3];rfl];simp];exact skip h
   exact h.elim
  cases hc
end
end
section
theorem Q5{ms:List Nat}{i:Nat}:∀(l:List Nat),(Ai ms l).testBit i->∃a∈l,a=i\/(ms.getD a 0).testBit i=true
 |[],h=>by simp[Ai] at h
 |a::r,h=>by
  simp only[Ai,Nat.testBit_or,sq] at h;rcases h with(h|h)|h
  ·rw[Nat.testBit_two_pow] at h;exact⟨a,by simp,.inl<|by simpa using h⟩
  ·exact⟨a,by simp,.inr h⟩
  obtain⟨b,hb,k⟩:=Q5 r h;exact⟨b,by simp[hb],k⟩
theorem Vf:∀(l:List Oper) (acc:List Nat),(∀k,k<acc.length->(r9 acc l).getD k 0=acc.getD k 0)/\(r9 acc l).length=acc.length+l.length /\
  ∀k o,l[k]? = some o->∃Hc,(∀a,a<acc.length+k->Hc.getD a 0=(r9 acc l).getD a 0)/\(∀a,acc.length+k<=a->Hc.getD a 0=0)/\(r9 acc l).getD (acc.length+k) 0=Ai Hc (oN o)
 |[],acc=>⟨λ_ _=>rfl,by simp[r9],λk o h=>by simp at h⟩
 |x::r,acc=>by
  obtain⟨h1,h2,h3⟩:=Vf r<|acc++[Ai acc<|oN x];simp only[r9];simp only[cL,lb] at h1 h2 h3;have SW:∀k,k<acc.length->(acc++[Ai acc<|oN x]).getD k 0=acc.getD k 0:=λk hk=>by
   simp[List.getD,iz hk]
  refine⟨λk hk=>by rw[h1 k<|by omega,SW k hk],by rw[h2];simp;omega,λk o hk=>?_⟩
  cases k with
  |zero =>
   simp at hk;subst hk;refine⟨acc,λa ha=>by rw[h1 a<|by omega,SW a<|by omega],λa ha=>by simp[List.getD,dG (by omega:acc.length<=a)],?_⟩;rw[wU,h1 _<|by omega];simp[List.getD]
  |succ k =>
   obtain⟨Hc,k1,k2,k3⟩:=h3 k o (by simpa using hk);rw[show acc.length+1+k=acc.length+(k+1) by omega] at k1 k2 k3;exact⟨Hc,k1,k2,k3⟩
theorem Yn{ops:Array Oper}{m:Nat}{o:Oper}:∀(l:List Oper) (i:Nat),HO ops m o i l->∀k x,l[k]? = some x->m.testBit (i+k)\/x.apart ops o=true
 |[],i,_,k,x,h=>by simp at h
 |y::r,i,h,k,x,hk=>by
  simp only[HO,gr,sq] at h
  cases k with
  |zero=>simp at hk;subst hk;exact h.1
  |succ k =>
   have:=Yn r (i+1) h.2 k x (by simpa using hk);rwa [show i+1+k=i+(k+1) by omega] at this
theorem G3{ops:Array Oper}{ms:List Nat}:∀(l pre:List Oper),BM ops ms pre l->∀k o,l[k]? = some o->(∀a∈oN o,a<pre.length+k) /\
  ∀i x,i<pre.length+k->(pre++l)[i]? = some x->(ms.getD (pre.length+k) 0).testBit i\/x.apart ops o=true
 |[],pre,_,k,o,h=>by simp at h
 |y::r,pre,h,k,o,hk=>by
  simp only[BM,gr] at h;obtain⟨⟨h1,h2⟩,h3⟩:=h
  cases k with
  |zero =>
   simp at hk;subst hk;refine⟨λa ha=>by simpa using kb.1 h1 a ha,λi x hi hx=>?_⟩;rw[iz<|by omega] at hx;have:=Yn pre 0 h2 i x hx;simpa using this
  |succ k =>
   have:=G3 r (pre++[y]) h3 k o (by simpa using hk);simp only[cL,lb,ig,List.singleton_append] at this;rw[show pre.length+1+k=pre.length+(k+1) by omega] at this;exact this
section
variable{ops:Array Oper}
def Bef(ops:Array Oper)(i j:Nat):Prop:=((r9 [] ops.toList).getD j 0).testBit i=true
def yC(ops:Array Oper)(S:aq):Prop:=∀j o,ops[j]? = some o->S j->∀a∈oN o,S a=true
theorem MV(PW:BM ops (r9 [] ops.toList) [] ops.toList):∀(j:Nat) (o:Oper),ops[j]? = some o->∀i,Bef ops i j->i<j/\∀S:Nat->Bool,yC ops S->(∀a∈oN o,S a)->S i:=by
 intro j
 induction j using Nat.strongRecOn with
 |_ j ih =>
  intro o ho i hb;obtain⟨acc,h1,h2,h3⟩:=(Vf ops.toList []).2.2 j o (by simpa using ho);simp only[fy,lp] at h1 h2 h3;unfold Bef at hb;rw[h3] at hb;have cG:=(G3 ops.toList [] PW j o<|by simpa using ho).1;simp only[fy,lp] at cG;obtain⟨a,ha,rfl|W1⟩:=Q5 _ hb
  ·exact⟨cG _ ha,λS _ hS=>hS _ ha⟩
  have YV:=cG a ha;rw[h1 a YV] at W1;have hj:j<ops.size:=by
   rcases gK j ops.size with h|h
   ·exact h
   rw[Array.getElem?_eq_none h] at ho;cases ho
  have UF:ops[a]? = some ops[a]:=wP (by omega);obtain⟨q1,q2⟩:=ih a YV _ UF i W1;exact⟨by omega,λS hC hS=>q2 S hC<|hC a _ UF<|hS a ha⟩
end
structure Rec where
 d:D
 rd:List Nat
 wr:List Nat
 H2:aE
 lt:Option<|Nat×Nat
instance:Inhabited Rec:=⟨⟨.dL,[],[],[],none⟩⟩
def Rec.entry(r:Rec):(List Nat×List Nat)×(Option (Nat×Nat)×D×aE):=((r.rd,r.wr),(r.lt,r.d,r.H2))
def tQ(x:(List Nat×List Nat)×(Option (Nat×Nat)×D×aE)):List Nat×List Nat:=match x.2.1 with
 |some _=>([],x.1.2)
 |none=>x.1
section
variable{P:bG}{n:Nat}{ops:Array Oper}
def P8(P:bG)(o:Oper)(env:Env)(H:aE)(r:Rec):Prop:=∀id k,r.lt=some (id,k)->r.rd=[id]/\r.wr=[]/\r.H2=H/\(∃m cs t,H[id]? = some (.row m cs t)/\cs[k]? = some r.d) /\
 ∀(H':aE) m' gA t',H'[id]? = some (.row m' gA t')->gA[k]? = some r.d->OpS P o env [id] [] H' r.d H'
variable{o:Oper}{p:POp}{k:Nat}
theorem zqG(k1:cop P o=some p){env:Env}{H:aE}{K:D->aE->List Nat->List Nat->Prop}(h:step P false p env H K){id:Nat}(hl:B3 p env=some (id,k)) :
  ∃c,K c H [id] []/\(∃m cs t,H[id]? = some (.row m cs t)/\cs[k]? = some c)/\∀(H':aE) m' gA t',H'[id]? = some (.row m' gA t')->gA[k]? = some c->OpS P o env [id] [] H' c H':=by
 unfold B3 at hl;split at hl
 ·rename_i a;split at hl
  ·rename_i jQ k' e;cases hl;simp only[step,iq] at h;rw[e] at h;obtain⟨ob,h1,h2⟩:=(lX _ _ _).1 h;split at h2
   ·rename_i m cs t;obtain⟨c,h3,h4⟩:=(yG _ _ _).1 h2;refine⟨c,h4,⟨m,cs,t,h1,h3⟩,λH' m' gA t' g1 g2=>?_⟩;have hs:step P false (.nv a) env H' λd h rd wr=>d=c/\h=H'/\rd=[id]/\wr=[]:=by
     simp only[step,iq];rw[e];exact(lX _ _ _).2 ⟨_,g1,(yG _ _ _).2 ⟨c,g2,by simp⟩⟩
    rcases M6 k1 hs with⟨d,H2,rd,wr,q,rfl,rfl,rfl,rfl⟩|⟨q,_⟩
    ·exact q
    cases q
   grind
  cases hl
 cases hl
def Be(P:bG)(n:Nat)(ops:Array Oper)(o:Oper)(env:Env)(H:aE)(r:Rec):Prop :=
 (∀t,o.dst=some t->t<n)/\(∀cs b,o.op≠.select cs b)/\P8 P o env H r /\
 ((o.guard=none/\OpS P o env r.rd r.wr H r.d r.H2) \/
  ∃j b t c,o.guard=some (j,b)/\(ops[j]?).bind (·.dst)=some t/\iv t env=.sc c /\
   ((c=.bool b/\OpS P o env r.rd r.wr H r.d r.H2)\/(Lm b c=true/\r=⟨.sc undef,[],[],H,none⟩)))
def EE(o:Oper)(r:Rec)(env:Env):Env:=match o.dst with
 |some t=>(t,r.d)::env
 |none=>env
inductive Run(P:bG)(n:Nat)(ops:Array Oper):List Oper->Env->aE->List Rec->Env->aE->Prop
 |nil (env:Env) (H:aE):Run P n ops [] env H [] env H
 |cons (o:Oper) (l:List Oper) (env:Env) (H:aE) (r:Rec) (rs:List Rec) (env':Env) (H':aE) (h:Be P n ops o env H r) (k:Run P n ops l (EE o r env) r.H2 rs env' H'):Run P n ops (o::l) env H (r::rs) env' H'
theorem Bu(h:cop P o=some p):∀cs b,o.op≠.select cs b:=λcs b e=>by
 unfold cop at h;rw[e] at h;simp at h
theorem P8.none{o:Oper}{env:Env}{H:aE}{d:D}{rd wr:List Nat}{H2:aE}:P8 P o env H ⟨d,rd,wr,H2,.none⟩:=λ_ _ h=>by cases h
theorem Y1:∀(l:List Oper) (ms:List Nat) (pl:List cO),qF P n ops ms l=some pl->∀(env:Env) (H:aE) (K:Env->aE->Trace->Prop),oq P pl env H K ->
  ∃rs env' H',Run P n ops l env H rs env' H'/\K env' H' (rs.map Rec.entry)/\rs.length=l.length
 |[],ms,pl,hc,env,H,K,h=>by
  simp[qF] at hc;subst hc;exact⟨[],env,H,.nil env H,h,rfl⟩
 |o::l,ms,pl,hc,env,H,K,h=>by
  simp only[qF] at hc;split at hc
  ·rename_i p pr h1 h2;cases hc;obtain⟨k1,k2,k3,k4,_⟩:=NK h1
   have fin:∀(r:Rec),Be P n ops o env H r->(match p.dst with
     |some t=>oq P pr ((t,r.d)::env) r.H2 λe h tr=>K e h<|((r.rd,r.wr),(r.lt,r.d,r.H2))::tr
     |none=>oq P pr env r.H2 λe h tr=>K e h<|((r.rd,r.wr),(r.lt,r.d,r.H2))::tr)->∃rs env' H',Run P n ops (o::l) env H rs env' H'/\K env' H' (rs.map Rec.entry)/\rs.length=(o::l).length:=λr hr hs=>by
    have IP:oq P pr (EE o r env) r.H2 λe h tr=>K e h<|((r.rd,r.wr),(r.lt,r.d,r.H2))::tr:=by
     unfold EE;rw[k2] at hs
     cases hd:o.dst with
     |none=>rw[hd] at hs;exact hs
     |some t=>rw[hd] at hs;exact hs
    obtain⟨rs,env',H',q1,q2,q3⟩:=Y1 l ms.tail pr h2 _ _ _ IP;exact⟨r::rs,env',H',.cons o l env H r rs env' H' hr q1,q2,by simp[q3]⟩
   have exec:∀{K':D->aE->List Nat->List Nat->Prop},step P false p.op env H K'->∃d H2 rd wr,OpS P o env rd wr H d H2/\K' d H2 rd wr:=λhs=>by
    rcases M6 k1 hs with q|⟨q,_⟩
    ·exact q
    cases q
   simp only[oq] at h;rcases k4 with⟨g1,g2⟩|⟨j,b,t,g1,g2,g3⟩
   ·rw[g2] at h
    cases hl:B3 p.op env with
    |none =>
     simp only[hl] at h;obtain⟨d,H2,rd,wr,q1,q2⟩:=exec h;exact fin ⟨d,rd,wr,H2,none⟩ ⟨k3,Bu k1,.none,.inl ⟨g1,q1⟩⟩ q2
    |some q =>
     obtain⟨id,k⟩:=q;simp only[hl] at h;obtain⟨c,q1,⟨m,cs,t,q2,q3⟩,q4⟩:=zqG k1 h hl;refine fin ⟨c,[id],[],H,some (id,k)⟩ ⟨k3,Bu k1,λjQ k' e=>?_,.inl ⟨g1,q4 H m cs t q2 q3⟩⟩ q1;cases e;exact⟨rfl,rfl,rfl,⟨m,cs,t,q2,q3⟩,q4⟩
   rw[g3] at h;simp only[AM] at h;split at h
   ·rename_i c wh
    cases b with
    |true =>
     obtain⟨hA,hB⟩:=Fk.1 h
     cases c with
     |true =>
      obtain⟨d,H2,rd,wr,q1,q2⟩:=exec<|hA rfl;exact fin ⟨d,rd,wr,H2,none⟩ ⟨k3,Bu k1,.none,.inr ⟨j,true,t,.bool true,g1,g2,wh,.inl ⟨rfl,q1⟩⟩⟩ q2
     |false=>exact fin ⟨.sc undef,[],[],H,none⟩ ⟨k3,Bu k1,.none,.inr ⟨j,true,t,.bool false,g1,g2,wh,.inr ⟨rfl,rfl⟩⟩⟩<|hB rfl
    |false =>
     obtain⟨hA,hB⟩:=Fk.1 h
     cases c with
     |true=>exact fin ⟨.sc undef,[],[],H,none⟩ ⟨k3,Bu k1,.none,.inr ⟨j,false,t,.bool true,g1,g2,wh,.inr ⟨rfl,rfl⟩⟩⟩<|hA rfl
     |false =>
      obtain⟨d,H2,rd,wr,q1,q2⟩:=exec<|hB rfl;exact fin ⟨d,rd,wr,H2,none⟩ ⟨k3,Bu k1,.none,.inr ⟨j,false,t,.bool false,g1,g2,wh,.inl ⟨rfl,q1⟩⟩⟩ q2
   ·rename_i xs wh;exact fin ⟨.sc undef,[],[],H,none⟩ ⟨k3,Bu k1,.none,.inr ⟨j,b,t,.tuple xs,g1,g2,wh,.inr ⟨rfl,rfl⟩⟩⟩ h
   exact h.elim
  cases hc
def qK(l:List Oper)(k:Nat):Option Tmp:=(l[k]?).bind (·.dst)
def recAt(rs:List Rec)(k:Nat):Rec:=(rs[k]?).getD default
def Et(l:List Oper)(rs:List Rec)(env:Env)(S:aq):Nat->Nat->D
 |0,t=>iv t env
 |k+1,t=>if S k=true/\qK l k=some t then (recAt rs k).d else Et l rs env S k t
def Gt(rs:List Rec)(H:aE)(S:aq):Nat->Nat->Option al
 |0,id=>H[id]?
 |k+1,id=>if S k=true/\id∈(recAt rs k).wr then (recAt rs k).H2[id]? else Gt rs H S k id
theorem E6{l:List Oper}{rs:List Rec}{env:Env}{S S':aq}{t:Nat}:∀(k:Nat),(∀i,i<k->qK l i=some t->S i=S' i)->Et l rs env S k t=Et l rs env S' k t
 |0,_=>rfl
 |k+1,h=>by
  simp only[Et];by_cases hd:qK l k=some t
  ·rw[h k (by omega) hd,E6 k λi hi hd=>h i (by omega) hd]
  rw[ab λq=>hd q.2,ab λq=>hd q.2,E6 k λi hi hd=>h i (by omega) hd]
theorem D4{rs:List Rec}{H:aE}{S S':aq}{id:Nat}:∀(k:Nat),(∀i,i<k->id∈(recAt rs i).wr->S i=S' i)->Gt rs H S k id=Gt rs H S' k id
 |0,_=>rfl
 |k+1,h=>by
  simp only[Gt];by_cases hd:id∈(recAt rs k).wr
  ·rw[h k (by omega) hd,D4 k λi hi hd=>h i (by omega) hd]
  rw[ab λq=>hd q.2,ab λq=>hd q.2,D4 k λi hi hd=>h i (by omega) hd]
def upto(j:Nat):Nat->Bool:=λi=>decide (i<j)
theorem VI{l:List Oper}{rs:List Rec}{env:Env}{j t:Nat}:∀(k:Nat),j<=k->Et l rs env (upto j) k t=Et l rs env (λ_=>true) j t
 |0,h=>by have:j=0:=by omega
          subst this;rfl
 |k+1,h=>by
  by_cases e:j=k+1
  ·subst e;exact E6 (k+1) λi hi _=>by simp[upto,hi]
  simp only[Et];rw[ab<|by simp[upto];omega,VI k<|by omega]
theorem O6{rs:List Rec}{H:aE}{j id:Nat}:∀(k:Nat),j<=k->Gt rs H (upto j) k id=Gt rs H (λ_=>true) j id
 |0,h=>by have:j=0:=by omega
          subst this;rfl
 |k+1,h=>by
  by_cases e:j=k+1
  ·subst e;exact D4 (k+1) λi hi _=>by simp[upto,hi]
  simp only[Gt];rw[ab<|by simp[upto];omega,O6 k<|by omega]
def qT(l:List Oper)(rs:List Rec)(env:Env):Nat->Env
 |0=>env
 |k+1=>match l[k]?,rs[k]? with
  |some o,some r=>EE o r<|qT l rs env k
  |_,_=>qT l rs env k
def mn(rs:List Rec)(H:aE):Nat->aE
 |0=>H
 |k+1=>match rs[k]? with
  |some r=>r.H2
  |none=>mn rs H k
theorem PD{o:Oper}{l:List Oper}{r:Rec}{rs:List Rec}{env:Env}:∀k,qT (o::l) (r::rs) env (k+1)=qT l rs (EE o r env) k
 |0=>rfl
 |k+1=>by
  rw[qT];rw[PD k];rfl
theorem Of{r:Rec}{rs:List Rec}{H:aE}:∀k,mn (r::rs) H (k+1)=mn rs r.H2 k
 |0=>rfl
 |k+1=>by
  rw[mn];rw[Of k];rfl
theorem Run.at{l:List Oper}{env env':Env}{H H':aE}{rs:List Rec}(h:Run P n ops l env H rs env' H'):rs.length=l.length/\qT l rs env l.length=env'/\mn rs H l.length=H' /\
  ∀k o,l[k]? = some o->∃r,rs[k]? = some r/\Be P n ops o (qT l rs env k) (mn rs H k) r:=by
 induction h with
 |nil env H=>exact⟨rfl,rfl,rfl,λk o h=>by simp at h⟩
 |cons o l env H r rs env' H' h k ih =>
  obtain⟨i1,i2,i3,i4⟩:=ih;refine⟨by simp[i1],by rw[dC,PD];exact i2,by rw[dC,Of];exact i3,λm x hx=>?_⟩
  cases m with
  |zero=>simp at hx;subst hx;exact⟨r,rfl,h⟩
  |succ m =>
   obtain⟨r',q1,q2⟩:=i4 m x (by simpa using hx);exact⟨r',by simpa using q1,by rw[PD,Of];exact q2⟩
theorem CZ{rs:List Rec}{r:Rec}(h:rs[k]? = some r):recAt rs k=r:=by simp[recAt,h]
theorem Jc{l:List Oper}(h:l[k]? = some o):qK l k=o.dst:=by simp[qK,h]
theorem Be.frame{o:Oper}{env:Env}{H:aE}{r:Rec}(h:Be P n ops o env H r):(∀id,id ∉ r.wr->r.H2[id]? = H[id]?)/\H.length<=r.H2.length/\∀id∈r.wr,id<r.H2.length:=by
 rcases h.2.2.2 with⟨_,q⟩|⟨j,b,t,c,_,_,_,⟨_,q⟩|⟨_,rfl⟩⟩
 ·exact⟨q.frame,q.len,q.lt⟩
 ·exact⟨q.frame,q.len,q.lt⟩
 repeat grind
section
variable{l:List Oper}{rs:List Rec}{env:Env}{H:aE}
variable(hA:∀k o,l[k]? = some o->∃r,rs[k]? = some r/\Be P n ops o (qT l rs env k) (mn rs H k) r)
include hA
theorem Ik:∀k,k<=l.length->∀t,Et l rs env (λ_=>true) k t=iv t (qT l rs env k)
 |0,_,t=>rfl
 |k+1,hk,t=>by
  have hl:l[k]? = some l[k]:=aX (by omega);obtain⟨r,h1,_⟩:=hA k _ hl;simp only[Et,qT,hl,h1,CZ h1,Jc hl,true_and,EE]
  cases hd:l[k].dst with
  |none=>simp;exact Ik k (by omega) t
  |some u =>
   simp only[Option.some.injEq];rw[Cc];by_cases e:t=u
   ·rw[ae e.symm,ae e]
   rw[ab λq=>e q.symm,ab e];exact Ik k (by omega) t
theorem KB:∀k,k<=l.length->∀id,Gt rs H (λ_=>true) k id=(mn rs H k)[id]?
 |0,_,id=>rfl
 |k+1,hk,id=>by
  have hl:l[k]? = some l[k]:=aX (by omega);obtain⟨r,h1,h2⟩:=hA k _ hl;simp only[Gt,mn,h1,CZ h1,true_and];split
  ·rfl
  rename_i hn;rw[KB k (by omega) id];exact(h2.frame.1 id hn).symm
theorem Kr:∀k j,j<=k->k<=l.length->(mn rs H j).length<=(mn rs H k).length
 |0,j,hj,_=>by have:j=0:=by omega
               subst this;exact aS _
 |k+1,j,hj,hk=>by
  have hl:l[k]? = some l[k]:=aX (by omega);obtain⟨r,h1,h2⟩:=hA k _ hl;by_cases e:j=k+1
  ·rw[e];exact aS _
  refine jI (Kr k j (by omega)<|by omega) ?_;simp only[mn,h1];exact h2.frame.2.1
theorem Ru{i:Nat}(hik:i<k)(hk:k<=l.length){id:Nat}(h:id∈(recAt rs i).wr):id<(mn rs H k).length:=by
 have hl:l[i]? = some l[i]:=aX (by omega);obtain⟨r,h1,h2⟩:=hA i _ hl;rw[CZ h1] at h;have h3:=h2.frame.2.2 id h;have h4:=Kr hA k (i+1) (by omega) hk;simp only[mn,h1] at h4;omega
end
theorem JM(x:Nat):∀l:List Nat,uk x l↔x∈l
 |[]=>by simp[uk]
 |y::r=>by
  simp only[uk]
  cases e:Nat.beq x y with
  |true=>simp[Bz e]
  |false =>
   have:x≠y:=λh=>by subst h;simp at e
   simp[JM x r,this]
theorem VR:∀(a b:List Nat),meets a b↔∃x∈a,x∈b
 |[],b=>by simp[meets]
 |x::r,b=>by
  simp only[meets]
  cases e:uk x b with
  |true=>simp[(JM x b).1 e]
  |false =>
   have:x ∉ b:=λh=>by rw[(JM x b).2 h] at e;cases e
   simp[VR r b,this]
theorem NX{m:Nat}{b:List Nat×List Nat}:∀(tr:List<|List Nat×List Nat) (i:Nat),EH m b i tr->∀k a,tr[k]? = some a->vv a b->xy m (i+k)=true
 |[],i,_,k,a,h,_=>by simp at h
 |x::r,i,h,k,a,hk,hc=>by
  simp only[EH] at h;split at h
  ·rename_i h1
   cases k with
   |zero =>
    simp at hk;subst hk;simpa [hc] using h1
   |succ k =>
    have:=NX r (i+1) h k a (by simpa using hk) hc;rwa [show i+1+k=i+(k+1) by omega] at this
  cases h
theorem VZ:∀(pl:List cO) (pre:List<|List Nat×List Nat) (tr:Trace),DD pre pl tr->∀k o b,pl[k]? = some o->tr[k]? = some b->∀i a,i<pre.length+k->(pre++tr.map (·.1))[i]? = some a->vv a b.1->xy o.mask i=true
 |[],pre,tr,_,k,o,b,h,_,_,_,_,_,_=>by simp at h
 |p::pl,pre,[],_,k,o,b,_,h,_,_,_,_,_=>by simp at h
 |p::pl,pre,(t,y)::tr,h,k,o,b,hk,hb,i,a,hi,ha,hc=>by
  simp only[DD] at h;split at h
  ·rename_i h1
   cases k with
   |zero =>
    simp at hk hb;subst hk;subst hb;rw[iz<|by omega] at ha;have:=NX pre 0 h1 i a ha hc;simpa using this
   |succ k =>
    refine VZ pl (pre++[t]) tr h k o b (by simpa using hk) (by simpa using hb) i a (by simp;omega) ?_ hc;simpa using ha
  cases h
theorem Ll:∀(pl:List cO) (pre:List<|List Nat×List Nat) (tr:Trace),Dg pre pl tr->∀k o b,pl[k]? = some o->tr[k]? = some b->∀i a,i<pre.length+k->(pre++tr.map tQ)[i]? = some a->vv a b.1->xy o.mask i=true
 |[],pre,tr,_,k,o,b,h,_,_,_,_,_,_=>by simp at h
 |p::pl,pre,[],_,k,o,b,_,h,_,_,_,_,_=>by simp at h
 |p::pl,pre,(t,q,y)::tr,h,k,o,b,hk,hb,i,a,hi,ha,hc=>by
  simp only[Dg] at h;split at h
  ·rename_i h1
   cases k with
   |zero =>
    simp at hk hb;subst hk;subst hb;rw[iz<|by omega] at ha;have:=NX pre 0 h1 i a ha hc;simpa using this
   |succ k =>
    have e:pre++((t,q,y)::tr).map tQ=(pre++[tQ (t,q,y)])++tr.map tQ:=(by simp);rw[e] at ha
    cases q with
    |none=>exact Ll pl (pre++[t]) tr h k o b (by simpa using hk) (by simpa using hb) i a (by simp;omega) ha hc
    |some q=>exact Ll pl (pre++[([],t.2)]) tr h k o b (by simpa using hk) (by simpa using hb) i a (by simp;omega) ha hc
  cases h
def Np(m:Nat)(wr:List Nat)(H:aE)(w:Nat×(Nat×Nat)×D):Prop:=xy m w.1=true\/w.2.1.1 ∉ wr\/∃mm cs t,H[w.2.1.1]? = some (.row mm cs t)/\cs[w.2.1.2]? = some w.2.2
theorem Lj{m:Nat}{wr:List Nat}{H:aE}{K:Prop}:∀ws,Ha m wr H K ws->K/\∀w∈ws,Np m wr H w
 |[],h=>⟨h,λw hw=>by cases hw⟩
 |(i,(id,k),d)::r,h=>by
  simp only[Ha] at h;split at h
  ·rename_i e;obtain⟨q1,q2⟩:=Lj r h;refine⟨q1,λw hw=>?_⟩;rcases eQ.1 hw with rfl|hw
   ·rw[sq,FX] at e;rcases e with e|e
    ·exact .inl e
    refine .inr (.inl λz=>?_);rw[(JM _ _).2 z] at e;cases e
   exact q2 w hw
  unfold Y8 at h;obtain⟨ob,h1,h2⟩:=(lX _ _ _).1 h;split at h2
  ·rename_i mm cs t;obtain⟨c,h3,rfl,h4⟩:=(yG _ _ _).1 h2;obtain⟨q1,q2⟩:=Lj r h4;refine⟨q1,λw hw=>?_⟩;rcases eQ.1 hw with rfl|hw
   ·exact .inr (.inr ⟨mm,cs,t,h1,h3⟩)
   exact q2 w hw
  exact h2.elim
theorem NH{K:Prop}:∀(l:List cO) (tr:Trace) (i0:Nat) (ws:List<|Nat×(Nat×Nat)×D),Eh K i0 ws l tr->l.length=tr.length->K/\∀j o b q d H,l[j]? = some o->tr[j]? = some (b,(q,d,H)) ->
   (∀w∈ws,Np o.mask b.2 H w)/\∀i b' lt d' H',i<j->tr[i]? = some (b',(some lt,d',H'))->Np o.mask b.2 H (i0+i,lt,d')
 |[],[],i0,ws,h,_=>⟨h,λj o b q d H hj=>by simp at hj⟩
 |[],_::_,_,_,_,hl=>by simp at hl
 |_::_,[],_,_,_,hl=>by simp at hl
 |p::l,(b0,(q0,d0,H0))::tr,i0,ws,h,hl=>by
  simp only[Eh] at h;obtain⟨h1,h2⟩:=Lj ws h
  cases q0 with
  |none =>
   obtain⟨k1,k2⟩:=NH l tr (i0+1) ws h1 (by simpa using hl);refine⟨k1,λj o b q d H hj hb=>?_⟩
   cases j with
   |zero=>simp at hj hb;obtain⟨rfl,rfl,rfl,rfl⟩:=hb;subst hj;exact⟨h2,λi _ _ _ _ hi=>by omega⟩
   |succ j =>
    obtain⟨m1,m2⟩:=k2 j o b q d H (by simpa using hj) (by simpa using hb);refine⟨m1,λi b' lt d' H' hi CE=>?_⟩
    cases i with
    |zero=>simp at CE
    |succ i =>
     have:=m2 i b' lt d' H' (by omega) (by simpa using CE);rwa [show i0+1+i=i0+(i+1) by omega] at this
  |some q0 =>
   obtain⟨k1,k2⟩:=NH l tr (i0+1) (ws++[(i0,q0,d0)]) h1 (by simpa using hl);refine⟨k1,λj o b q d H hj hb=>?_⟩
   cases j with
   |zero=>simp at hj hb;obtain⟨rfl,rfl,rfl,rfl⟩:=hb;subst hj;exact⟨h2,λi _ _ _ _ hi=>by omega⟩
   |succ j =>
    obtain⟨m1,m2⟩:=k2 j o b q d H (by simpa using hj) (by simpa using hb);refine⟨λw hw=>m1 w<|Fh _ hw,λi b' lt d' H' hi CE=>?_⟩
    cases i with
    |zero =>
     simp at CE;obtain⟨rfl,rfl,rfl,rfl⟩:=CE;exact m1 (i0,q0,d0)<|by simp
    |succ i =>
     have:=m2 i b' lt d' H' (by omega) (by simpa using CE);rwa [show i0+1+i=i0+(i+1) by omega] at this
theorem zrb{m i:Nat}(h:xy m i):m.testBit i:=by
 unfold xy at h;split at h
 ·rename_i e;rw[Nat.testBit_eq_decide_div_mod_eq];simpa using Bz e
 cases h
theorem Zl:∀(l:List Oper) (ms:List Nat) (pl:List cO),qF P n ops ms l=some pl->∀k p,pl[k]? = some p->p.mask=ms.getD k 0
 |[],ms,pl,h,k,p,hk=>by simp[qF] at h;subst h;simp at hk
 |o::l,ms,pl,h,k,p,hk=>by
  simp only[qF] at h;split at h
  ·rename_i q pr h1 h2;cases h
   cases k with
   |zero =>
    simp at hk;subst hk;rw[(NK h1).2.2.2.2];cases ms<;>rfl
   |succ k =>
    rw[Zl l ms.tail pr h2 k p<|by simpa using hk];cases ms<;>simp[List.getD]
  cases h
theorem TG:∀(l:List Oper) (ms:List Nat) (pl:List cO),qF P n ops ms l=some pl->pl.length=l.length
 |[],ms,pl,h=>by simp[qF] at h;subst h;rfl
 |o::l,ms,pl,h=>by
  simp only[qF] at h;split at h
  ·rename_i q pr h1 h2;cases h;simp[TG l ms.tail pr h2]
  cases h
end
end
section
structure oT(P:bG)(n:Nat)(ops:Array Oper)(env:Env)(H:aE)(rs:List Rec):Prop where
 at_:∀k o,ops.toList[k]? = some o->∃r,rs[k]? = some r/\Be P n ops o (qT ops.toList rs env k) (mn rs H k) r
 len:rs.length=ops.size
 reg:BM ops (r9 [] ops.toList) [] ops.toList=true
 mem:∀i j,i<j->j<ops.size->vv (tQ (recAt rs i).entry) ((recAt rs j).rd,(recAt rs j).wr)->Bef ops i j
 lite:∀i id k,(recAt rs i).lt=some (id,k)->∀j,i<j->j<ops.size->id∈(recAt rs j).wr->Bef ops i j\/∃m cs t,(recAt rs j).H2[id]? = some (.row m cs t)/\cs[k]? = some (recAt rs i).d
section
variable{P:bG}{n:Nat}{ops:Array Oper}{env:Env}{H:aE}{rs:List Rec}
structure Inv(P:bG)(n:Nat)(ops:Array Oper)(env:Env)(H:aE)(rs:List Rec)(J0:bh)(F0:Nat->Prop)(w0:bl)(S:aq)(J:bh)(F:Nat->Prop)(a:Act)(w:bl):Prop where
 closed:yC ops S
 defers:a.defers=[]
 size:a.tmps.size=n
 tmps:∀t,rep J F w (Et ops.toList rs env S ops.size t)<|a.tmps.getD t undef
 ok:cC J F w<|Gt rs H S ops.size
 ext:Ext J0 F0 w0 J F w
 dom:∀id,J id≠none->id<H.length\/∃i,i<ops.size/\S i/\id∈(recAt rs i).wr
variable{S:aq}{j i:Nat}{o:Oper}
theorem oT.before(hp:oT P n ops env H rs)(hC:yC ops S)(ho:ops[j]? = some o)(hj:S j=false)(hr:∀a∈oN o,S a)(hi:i<ops.size)(b9:i≠j)(ZG:Bef ops i j\/Bef ops j i):S i=upto j i:=by
 have ti:ops[i]? = some ops[i]:=wP hi;rcases ZG with h|h
 ·obtain⟨q1,q2⟩:=MV hp.reg j o ho i h;rw[q2 S hC hr];simp[upto,q1]
 obtain⟨q1,q2⟩:=MV hp.reg i _ ti j h;have:S i=false:=by
  cases e:S i with
  |false=>rfl
  |true =>
   have:=q2 S hC<|hC i _ ti e
   grind
 rw[this];simp[upto];omega
theorem oT.cmp(hp:oT P n ops env H rs){x y:Oper}(hi:ops[i]? = some x)(hj:ops[j]? = some y)(b9:i≠j):(Bef ops i j\/Bef ops j i)\/(x.apart ops y=true/\i<j)\/(y.apart ops x=true/\j<i):=by
 rcases Nat.lt_or_gt_of_ne b9 with h|h
 ·have:=(G3 ops.toList [] hp.reg j y<|by simpa using hj).2 i x (by simpa using h) (by simpa using hi);simp only[fy,lp] at this;rcases this with q|q
  ·exact .inl (.inl q)
  repeat grind
 have:=(G3 ops.toList [] hp.reg i x<|by simpa using hi).2 j y (by simpa using h) (by simpa using hj);simp only[fy,lp] at this;rcases this with q|q
 ·exact .inl (.inr q)
 repeat grind
theorem oT.tmp(hp:oT P n ops env H rs)(hC:yC ops S)(ho:ops[j]? = some o)(hj:S j=false)(hr:∀a∈oN o,S a){t:Nat}(ht:t∈o.looksAt ops):Et ops.toList rs env S ops.size t=iv t (qT ops.toList rs env j):=by
 have Ak:j<ops.size:=by
  grind
 rw[<-Ik hp.at_ j (by simp;omega),<-VI ops.size (by omega)];refine E6 _ λi hi hd=>?_;have ti:ops[i]? = some ops[i]:=wP hi;have tH:ops.toList[i]? = some ops[i]:=by grind
 rw[Jc tH] at hd;by_cases e:i=j
 ·subst e;rw[hj];simp[upto]
 rcases hp.cmp ti ho e with h|⟨h,_⟩|⟨h,_⟩
 ·exact hp.before hC ho hj hr hi e h
 ·exact absurd ht<|(Oper.apart_spec h).1 t hd
 exact absurd ht<|(Oper.apart_spec h).2.2 t hd
theorem KF(a b:List Nat×List Nat):vv a b↔(∃x∈a.2,x∈b.1)\/(∃x∈a.2,x∈b.2)\/∃x∈b.2,x∈a.1:=by
 simp only[vv,sq,VR,or_assoc]
theorem HU(r:Rec):(tQ r.entry).2=r.wr:=by unfold tQ Rec.entry;split<;>rfl
theorem zu9{r:Rec}(h:r.lt=none):(tQ r.entry).1=r.rd:=by unfold tQ Rec.entry;dsimp only;rw[h]
variable{id:Nat}
theorem oT.objB(hp:oT P n ops env H rs)(hC:yC ops S)(ho:ops[j]? = some o)(hj:S j=false)(hr:∀a∈oN o,S a)(hid:id∈(recAt rs j).rd\/id∈(recAt rs j).wr)(h:i<j)(hw:id∈(recAt rs i).wr):S i=upto j i:=by
 have Ak:j<ops.size:=by
  grind
 refine hp.before hC ho hj hr (by omega) (by omega) (.inl<|hp.mem i j h Ak<|(KF _ _).2 ?_);rcases hid with q|q
 ·exact .inl ⟨id,by rw[HU];exact hw,q⟩
 exact .inr (.inl ⟨id,by rw[HU];exact hw,q⟩)
theorem oT.obj(hp:oT P n ops env H rs)(hC:yC ops S)(ho:ops[j]? = some o)(hj:S j=false)(hr:∀a∈oN o,S a)(hid:(id∈(recAt rs j).rd/\(recAt rs j).lt=none)\/id∈(recAt rs j).wr)(hi:i<ops.size)(hw:id∈(recAt rs i).wr):S i=upto j i:=by
 by_cases e:i=j
 ·subst e;rw[hj];simp[upto]
 rcases Nat.lt_or_gt_of_ne e with h|h
 ·exact hp.objB hC ho hj hr (hid.imp_left And.left) h hw
 refine hp.before hC ho hj hr hi e (.inr<|hp.mem j i h hi<|(KF _ _).2 ?_);rcases hid with⟨q,ql⟩|q
 ·exact .inr (.inr ⟨id,hw,by rw[zu9 ql];exact q⟩)
 exact .inr (.inl ⟨id,by rw[HU];exact q,hw⟩)
theorem oT.objs(hp:oT P n ops env H rs)(hC:yC ops S)(ho:ops[j]? = some o)(hj:S j=false)(hr:∀a∈oN o,S a)(hid:(id∈(recAt rs j).rd/\(recAt rs j).lt=none)\/id∈(recAt rs j).wr):Gt rs H S ops.size id=(mn rs H j)[id]?:=by
 have Ak:j<ops.size:=by
  grind
 rw[<-KB hp.at_ j (by simp;omega),<-O6 ops.size (by omega)];exact D4 _ λi hi hw=>hp.obj hC ho hj hr hid hi hw
theorem oT.cell(hp:oT P n ops env H rs)(hC:yC ops S)(ho:ops[j]? = some o)(hj:S j=false)(hr:∀a∈oN o,S a){k:Nat}(hl:(recAt rs j).lt=some (id,k))(cD:(recAt rs j).rd=[id])
  (h0:∃m cs t,(mn rs H j)[id]? = some (.row m cs t)/\cs[k]? = some (recAt rs j).d):∃m cs t,Gt rs H S ops.size id=some (.row m cs t)/\cs[k]? = some (recAt rs j).d:=by
 have Ak:j<ops.size:=by
  grind
 have key:∀x,j+x<=ops.size->∃m cs t,Gt rs H S (j+x) id=some (.row m cs t)/\cs[k]? = some (recAt rs j).d:=λx=>by
  induction x with
  |zero =>
   intro _;have:Gt rs H S j id=(mn rs H j)[id]?:=by
    rw[<-KB hp.at_ j (by simp;omega),<-O6 j (aS _)];exact D4 _ λi hi hw=>hp.objB hC ho hj hr (.inl<|by rw[cD];simp) hi hw
   grind
  |succ x ih =>
   intro hx;rw[<-Nat.add_assoc];simp only[Gt];split
   ·rename_i q;by_cases e:x=0
    ·subst e;rw[wU] at q;rw[hj] at q;exact absurd q.1<|by simp
    rcases hp.lite j id k hl (j+x) (by omega) (by omega) q.2 with r|r
    ·exfalso;have ti:ops[j+x]? = some ops[j+x]:=wP (by omega);obtain⟨_,q2⟩:=MV hp.reg (j+x) _ ti j r;have:=q2 S hC<|hC (j+x) _ ti q.1;rw[hj] at this;cases this
    exact r
   grind
 have:=key (ops.size-j)<|by omega
 grind
def plus(S:aq)(j:Nat):Nat->Bool:=λi=>S i||decide (i=j)
theorem WV{l:List Oper}{S:aq}{j t:Nat}(hj:S j=false)(G7:∀i,j<i->S i->qK l i=some t->qK l j≠some t):∀k,Et l rs env (plus S j) k t=if j<k/\qK l j=some t then (recAt rs j).d else Et l rs env S k t
 |0=>rfl
 |k+1=>by
  simp only[Et];rw[WV hj G7 k];by_cases e:k=j
  ·subst e;by_cases hd:qK l k=some t
   ·rw[ae ⟨by simp[plus],hd⟩,ae ⟨by omega,hd⟩]
   rw[ab λq=>hd q.2,ab λq=>hd q.2,ab λq=>hd q.2,ab λq=>hd q.2]
  have hS:plus S j k=S k:=(by simp[plus,e]);rw[hS];by_cases hk:S k=true/\qK l k=some t
  ·rw[ae hk,ae hk];rw[ab];rintro⟨q1,q2⟩;exact G7 k (by omega) hk.1 hk.2 q2
  rw[ab hk,ab hk];by_cases hd:j<k/\qK l j=some t
  ·rw[ae hd,ae ⟨by omega,hd.2⟩]
  rw[ab hd,ab λq=>hd ⟨by omega,q.2⟩]
theorem VE{S:aq}{j id:Nat}(hj:S j=false)(G7:∀i,j<i->S i->id∈(recAt rs i).wr->id ∉ (recAt rs j).wr):∀k,Gt rs H (plus S j) k id=if j<k/\id∈(recAt rs j).wr then (recAt rs j).H2[id]? else Gt rs H S k id
 |0=>rfl
 |k+1=>by
  simp only[Gt];rw[VE hj G7 k];by_cases e:k=j
  ·subst e;by_cases hd:id∈(recAt rs k).wr
   ·rw[ae ⟨by simp[plus],hd⟩,ae ⟨by omega,hd⟩]
   rw[ab λq=>hd q.2,ab λq=>hd q.2,ab λq=>hd q.2,ab λq=>hd q.2]
  have hS:plus S j k=S k:=(by simp[plus,e]);rw[hS];by_cases hk:S k=true/\id∈(recAt rs k).wr
  ·rw[ae hk,ae hk];rw[ab];rintro⟨q1,q2⟩;exact G7 k (by omega) hk.1 hk.2 q2
  rw[ab hk,ab hk];by_cases hd:j<k/\id∈(recAt rs j).wr
  ·rw[ae hd,ae ⟨by omega,hd.2⟩]
  rw[ab hd,ab λq=>hd ⟨by omega,q.2⟩]
theorem oT.step(hp:oT P n ops env H rs){J0:bh}{F0:Nat->Prop}{w0:bl}{S:aq}{J:bh}{F:Nat->Prop}{a:Act}{w:bl}(hv:Inv P n ops env H rs J0 F0 w0 S J F a w){j:Nat}{o:Oper}(ho:ops[j]? = some o)(hj:S j=false)(hr:∀a∈oN o,S a)
  {K:Act->bl->Prop} {Q:Exit->Act->bl->Prop} (hK:∀J' F' a' w',Inv P n ops env H rs J0 F0 w0 (plus S j) J' F' a' w'->K a' w') :
  if Region.wanted o (yielded ops a.tmps) then o.wp P a w K Q else K (a.put o.dst undef) w:=by
 have Ak:j<ops.size:=by
  grind
 have vt:ops.toList[j]? = some o:=by simpa using ho
 obtain⟨r,hr1,PS⟩:=hp.at_ j o vt;have wS:recAt rs j=r:=CZ hr1;have WI:qK ops.toList j=o.dst:=Jc vt;have zGV:yC ops<|plus S j:=λi x hx hi b hb=>by
  simp only[plus,sq,ja] at hi⊢;rcases hi with hi|rfl
  ·exact .inl<|hv.closed i x hx hi b hb
  rw[ho] at hx;cases hx;exact .inl<|hr b hb
 have zLW:∀t i,j<i->S i->qK ops.toList i=some t->qK ops.toList j≠some t:=λt i hi hS hd yf=>by
  have I3:i<ops.size:=by
   rcases gK i ops.size with h|h
   ·exact h
   rw[qK,dG<|by simpa using h] at hd;cases hd
  have ti:ops[i]? = some ops[i]:=wP I3;have tH:ops.toList[i]? = some ops[i]:=(by rw[Array.getElem?_toList];exact ti);rw[Jc tH] at hd;rw[WI] at yf;rcases hp.cmp ti ho (by omega) with h|⟨h,h'⟩|⟨h,_⟩
  ·have:=hp.before hv.closed ho hj hr I3 (by omega) h;rw[hS] at this;simp[upto] at this;omega
  ·omega
  exact(Oper.apart_spec h).2.1 t yf hd
 have zM1:∀id i,j<i->S i->id∈(recAt rs i).wr->id ∉ (recAt rs j).wr:=λid i hi hS hw Ef=>by
  by_cases I3:i<ops.size
  ·have:=hp.obj hv.closed ho hj hr (.inr Ef) I3 hw;rw[hS] at this;simp[upto] at this;omega
  have e:rs[i]? = none:=dG (by rw[hp.len];omega);simp[recAt,e] at hw;cases hw
 -- the new state
 have mk:∀(v:aW) (J':bh) (F':Nat->Prop) (w':bl),rep J' F' w' r.d v->cC J' F' w' (upd (Gt rs H S ops.size) r.wr r.H2)->Ext J F w J' F' w'->(∀id,J id=none->id ∉ r.wr->J' id=none)->Inv P n ops env H rs J0 F0 w0 (plus S j) J' F' (a.put o.dst v) w':=λv J' F' w' q1 q2 q3 q4=>by
  refine⟨zGV,?_,?_,λt=>?_,?_,hv.ext.trans q3,λid hid=>?_⟩
  ·cases o.dst<;>exact hv.defers
  ·cases o.dst<;>simp[Act.put,hv.size]
  ·rw[WV hj<|zLW t];rw[WI,wS]
   cases hd:o.dst with
   |none=>rw[ab<|by simp];exact Kj q3<|hv.tmps t
   |some u =>
    simp only[Ak,true_and,Option.some.injEq,Act.put];rw[SJ _ _ _ _<|by rw[hv.size];exact PS.1 u hd];by_cases e:t=u
    ·rw[ae e.symm,ae e];exact q1
    rw[ab λq=>e q.symm,ab e];exact Kj q3<|hv.tmps t
  ·have:Gt rs H (plus S j) ops.size=upd (Gt rs H S ops.size) r.wr r.H2:=by
    funext id;rw[VE hj<|zM1 id];simp only[Ak,true_and,wS,upd]
   grind
  by_cases h1:J id=none
  ·by_cases h2:id∈r.wr
   ·exact .inr ⟨j,Ak,by simp[plus],by rw[wS];exact h2⟩
   exact absurd (q4 id h1 h2) hid
  rcases hv.dom id h1 with q|⟨i,i1,i2,i3⟩
  ·exact .inl q
  exact .inr ⟨i,i1,by simp[plus,i2],i3⟩
 have opnd:∀x∈o.op.operands,rep J F w (fW (qT ops.toList rs env j) x)<|a.eval x:=λx hx=>by
  cases x with
  |tmp t =>
   have ht:t∈o.looksAt ops:=by
    unfold Oper.looksAt;refine dz.2 (.inl<|List.mem_filterMap.2 ⟨.tmp t,by simpa using hx,rfl⟩)
   have:=hv.tmps t;rw[hp.tmp hv.closed ho hj hr ht] at this;exact this
  |const v =>
   cases v<;>simp only[fW,lift,Act.eval,rep];rename_i cs;exact⟨cs.toList,by simp,Fz cs.toList⟩
  |global g=>exact V4 hv.ok.lt g
  |func f=>simp only[fW,Act.eval,rep];exact⟨[],[],rfl,by simp only[bA],by simp only[bA]⟩
 have exec:OpS P o (qT ops.toList rs env j) r.rd r.wr (mn rs H j) r.d r.H2->o.wp P a w K Q:=λhs=>by
  cases cG:r.lt with
  |some q =>
   obtain⟨id,k⟩:=q;obtain⟨e1,e2,e3,e4,e5⟩:=PS.2.2.1 id k cG;obtain⟨m,cs,t,c1,c2⟩:=hp.cell hv.closed ho hj hr (by rw[wS];exact cG) (by rw[wS];exact e1) (by rw[wS];exact e4);rw[wS] at c2;obtain⟨m0,cs0,t0,c3,_⟩:=e4;have yN:id<(mn rs H j).length:=by
    grind
   have js:((mn rs H j).set id (.row m cs t))[id]? = some (.row m cs t):=(by rw[Hm];simp[yN]);refine(e5 _ m cs t js c2).run J F w a _ hv.ok opnd (λi hi=>?_) (λi hi hw=>by cases hw) K Q λv w' J' F' q1 q2 q3 q4=>hK _ _ _ _<|mk v J' F' w' q1 (by rw[AV] at q2;rw[e2,AV];exact q2) q3 λi h1 _=>q4 i h1 (by simp);rcases hi with hi|hi
   ·rw[cV] at hi;subst hi;rw[c1,js]
   cases hi
  |none =>
   refine hs.run J F w a _ hv.ok opnd (λid hid=>by rw[<-wS] at hid;exact hp.objs hv.closed ho hj hr<|hid.imp_left λh=>⟨h,by rw[wS];exact cG⟩) (λid hid hw=>?_) K Q λv w' J' F' q1 q2 q3 q4=>hK _ _ _ _<|mk v J' F' w' q1 q2 q3 q4
   cases e:J id with
   |none=>rfl
   |some s =>
    rcases hv.dom id (by rw[e];simp) with q|⟨i,i1,i2,i3⟩
    ·have:=Kr hp.at_ j 0 (by omega) (by simp;omega);simp only[mn] at this;omega
    have h1:=hp.obj hv.closed ho hj hr (.inr<|by rw[wS];exact hw) i1 i3;rw[i2] at h1;have lC:i<j:=(by simpa [upto] using h1.symm);have:=Ru hp.at_ lC (by simp;omega) i3;omega
 rcases PS.2.2.2 with⟨g1,g2⟩|⟨g,b,t,c,g1,g2,g3,g4⟩
 ·rw[ae<|by simp[Region.wanted,g1]]
  grind
 have ht:t∈o.looksAt ops:=by
  unfold Oper.looksAt
  grind
 have h3:=hv.tmps t;rw[hp.tmp hv.closed ho hj hr ht,g3] at h3;simp only[rep] at h3;rcases g4 with⟨rfl,g4⟩|⟨b9,rfl⟩
 ·rw[ae<|ztL g1 g2 h3]
  grind
 rw[ab<|by rw[Tv g1 g2<|by rw[h3];exact b9];simp];exact hK _ _ _ _<|mk undef J F w (by simp only[rep]) (by rw[AV];exact hv.ok) (Ext.refl _ _ _) λ_ h _=>h
variable{listed:Array Bool}
theorem Yp(h:j∈Region.ready .any ops listed):∃o,ops[j]? = some o/\listed.getD j true=false/\∀a∈oN o,listed.getD a false:=by
 obtain⟨h1,o,h2,h3⟩:=mem_ready.1 h;refine⟨o,h2,h1,λa ha=>?_⟩;unfold oN at ha
 grind
def vx(listed:Array Bool):Nat->Bool:=λi=>listed.getD i false
theorem Z6(hj:j<listed.size):vx (listed.setIfInBounds j true)=plus (vx listed) j:=by
 funext i;simp only[vx,plus,yq];repeat grind
def missing(listed:Array Bool):Nat:=(List.range listed.size).countP λi=>!listed.getD i false
theorem zq2(PW:BM ops (r9 [] ops.toList) [] ops.toList)(hs:listed.size=ops.size)(h:Region.ready .any ops listed=[]):∀i,i<ops.size->listed.getD i false:=by
 intro i
 induction i using Nat.strongRecOn with
 |_ i ih =>
  intro hi
  cases e:listed.getD i false with
  |true=>rfl
  |false =>
   have ti:ops[i]? = some ops[i]:=wP hi;have tH:ops.toList[i]? = some ops[i]:=(by rw[Array.getElem?_toList];exact ti);have cG:=(G3 ops.toList [] PW i _ tH).1;simp only[fy,lp] at cG;have:i∈Region.ready .any ops listed:=by
    refine mem_ready.2 ⟨?_,_,ti,λed C5 hb=>?_⟩
    ·have:i<listed.size:=by omega
     simp only[yq,wP this,sj] at e⊢;exact e
    have ha:ed.on∈oN ops[i]:=dq.2 ⟨ed,zg.2 ⟨by simpa using C5,hb⟩,rfl⟩;exact ih _ (cG _ ha)<|by have:=cG _ ha;omega
   grind
theorem zwt(hp:oT P n ops env H rs){J0:bh}{F0:Nat->Prop}{w0:bl}{Q:Exit->Act->bl->Prop}
  (hQ:∀J F a w,Inv P n ops env H rs J0 F0 w0 (λ_=>true) J F a w->Q .normal a w):∀(fuel:Nat) (listed:Array Bool) (J:bh) (F:Nat->Prop) (a:Act) (w:bl),listed.size=ops.size->missing listed<=fuel->Inv P n ops env H rs J0 F0 w0 (vx listed) J F a w->wpAny P .any ops Q fuel listed a w:=by
 have done:∀(listed:Array Bool) (J:bh) (F:Nat->Prop) (a:Act) (w:bl),listed.size=ops.size->(∀i,i<ops.size->listed.getD i false)->Inv P n ops env H rs J0 F0 w0 (vx listed) J F a w->Q .normal a w:=λlisted J F a w hs bR hv=>by
  refine hQ J F a w ⟨λ_ _ _ _ _ _=>rfl,hv.defers,hv.size,λt=>?_,?_,hv.ext,λid hid=>(hv.dom id hid).imp_right λ⟨i,i1,_,i3⟩=>⟨i,i1,rfl,i3⟩⟩
  ·have:=hv.tmps t;have e:Et ops.toList rs env (vx listed) ops.size t=Et ops.toList rs env (λ_=>true) ops.size t:=E6 ops.size λi hi _=>bR i hi
   grind
  have e:Gt rs H (vx listed) ops.size=Gt rs H (λ_=>true) ops.size:=funext λid=>D4 ops.size λi hi _=>bR i hi;have:=hv.ok
  grind
 have key:∀(listed:Array Bool) (j:Nat),listed.size=ops.size->j∈Region.ready .any ops listed->j<ops.size/\listed.getD j false=false:=λlisted j hs hj=>by
  obtain⟨o,h1,h2,_⟩:=Yp hj
  grind
 intro fuel
 induction fuel with
 |zero =>
  intro listed J F a w hs hm hv;have bR:∀i,i<ops.size->listed.getD i false:=λi hi=>by
   have h0:missing listed=0:=(by omega);unfold missing at h0;rw[List.countP_eq_zero] at h0
   grind
  refine⟨?_,done listed J F a w hs bR hv⟩
  cases e:Region.ready .any ops listed with
  |nil=>rfl
  |cons j r =>
   obtain⟨q1,q2⟩:=key listed j hs<|by rw[e];simp
   grind
 |succ fuel ih =>
  intro listed J F a w hs hm hv;refine⟨λh=>done listed J F a w hs (zq2 hp.reg hs h) hv,λj hj=>?_⟩;obtain⟨o,h1,h2,h3⟩:=Yp hj;obtain⟨q1,q2⟩:=key listed j hs hj;have uT:missing (listed.setIfInBounds j true)<=fuel:=by
   have cG:missing (listed.setIfInBounds j true)<missing listed:=by
    unfold missing;rw[Array.size_setIfInBounds];have gE:j∈List.range listed.size:=(by simp;omega);obtain⟨l1,l2,hl⟩:=List.append_of_mem gE;have fE:(List.range listed.size).Nodup:=List.nodup_range;rw[hl] at fE⊢;have zL8:∀x∈l1,x≠j:=λx hx e=>by
     grind
    have zG3:∀x∈l2,x≠j:=λx hx e=>by
     grind
    have js:∀x,x≠j->(listed.setIfInBounds j true).getD x false=listed.getD x false:=λx hx=>by
     simp only[yq]
     grind
    rw[List.countP_append,List.countP_append,List.countP_cons,List.countP_cons];have c1:l1.countP (λi=>!(listed.setIfInBounds j true).getD i false)=l1.countP (λi=>!listed.getD i false):=List.countP_congr λx hx=>by rw[js x<|zL8 x hx]
    have c2:l2.countP (λi=>!(listed.setIfInBounds j true).getD i false)=l2.countP (λi=>!listed.getD i false):=List.countP_congr λx hx=>by rw[js x<|zG3 x hx]
    rw[c1,c2,q2];have:(listed.setIfInBounds j true).getD j false=true:=by
     simp only[yq]
     grind
    grind
   omega
  have st:=hp.step hv h1 (by simpa [vx] using q2) (by simpa [vx] using h3) (K:=wpAny P .any ops Q fuel<|listed.setIfInBounds j true) (Q:=Q) λJ' F' a' w' lW=>ih _ J' F' a' w' (by simp[hs]) uT (by rw[Z6<|by omega];exact lW);unfold wpOp;repeat grind
theorem zoN{l:List cO}{Q:Exit->Act->bl->Prop}{K':Env->aE->Prop}(h:Ij P l env H K'){id:Nat}(hc:EY P n ops true=some l){J:bh}{F:Nat->Prop}{a:Act}{w:bl}(hr:jt n J F env H a w)
  (hQ:∀env' H' J' F' a' w',K' env' H'->jt n J' F' env' H' a' w'->Ext J F w J' F' w'->Q .normal a' w'):(Code.region id ops true).wp P Q a w:=by
 simp only[EY] at hc;split at hc
 ·rename_i hb;rw[gr] at hb;unfold Ij at h;obtain⟨rs,env',H',h1,h2,h3⟩:=Y1 ops.toList _ l hc env H _ h;obtain⟨r1,r2,r3,r4⟩:=h1.at;have hlen:rs.length=ops.size:=(by grind);have zQz:l.length=ops.size:=(by rw[TG _ _ _ hc];simp);have ent:∀i,i<ops.size->(rs.map Rec.entry)[i]? = some (recAt rs i).entry:=λi hi=>by
   have e1:=aX (show i<rs.length by omega);rw[fx,e1,CZ e1];rfl
  have bit:∀j (hj:j<l.length) i,xy l[j].mask i->Bef ops i j:=λj hj i h=>by
   have hm:=Zl _ _ _ hc j _<|aX hj;rw[hm] at h;exact zrb h
  have D9:∀r:Rec,∀b,vv (tQ r.entry) b->vv (r.rd,r.wr) b:=λr b h=>by
   rw[KF] at h⊢;rw[HU] at h;refine h.imp_right λh=>h.imp_right λ⟨x,q1,q2⟩=>⟨x,q1,?_⟩;unfold tQ at q2;split at q2
   ·cases q2
   exact q2
  have hK:K' env' H'/\oT P n ops env H rs:=by
   split at h2
   ·rename_i gE;have strict:∀i j,i<j->j<ops.size->vv ((recAt rs i).rd,(recAt rs i).wr) ((recAt rs j).rd,(recAt rs j).wr)->Bef ops i j:=λi j lC hj fN=>by
     have jC:j<l.length:=(by omega);refine bit j jC i<|VZ l [] _ gE j l[j] (recAt rs j).entry (aX jC) (ent j hj) i ((recAt rs i).rd,(recAt rs i).wr) (by simpa using lC) ?_ fN;rw[nG,fx,ent i<|by omega];rfl
    exact⟨h2,r4,hlen,hb.2,λi j lC hj fN=>strict i j lC hj<|D9 _ _ fN,λi id k hl j lC hj hw=>.inl (strict i j lC hj ((KF _ _).2 (.inr (.inr ⟨id,hw,by
     obtain⟨r,q1,q2⟩:=r4 i _ (aX (show i<ops.toList.length by simp;omega));rw[CZ q1] at hl⊢;rw[(q2.2.2.1 id k hl).1];simp⟩))))⟩
   split at h2
   ·rename_i gE;obtain⟨hk,hw⟩:=NH l _ 0 [] h2 (by simp;omega);refine⟨hk,r4,hlen,hb.2,λi j lC hj fN=>?_,λi id k hl j lC hj TC=>?_⟩
    ·have jC:j<l.length:=(by omega);refine bit j jC i (Ll l [] _ gE j l[j] (recAt rs j).entry (aX jC) (ent j hj) i (tQ (recAt rs i).entry) (by simpa using lC) ?_ fN)
     grind
    have jC:j<l.length:=(by omega);have:=(hw j l[j] _ _ _ _ (aX jC)<|ent j hj).2 i ((recAt rs i).rd,(recAt rs i).wr) (id,k) (recAt rs i).d (recAt rs i).H2 lC (by rw[ent i<|by omega,<-hl];rfl);rw[lp] at this;rcases this with q|q|q;repeat grind
   grind
  obtain⟨h2,hp⟩:=hK
  skip
  refine wp_region_any hb.1<|zwt hp (J0:=J) (F0:=F) (w0:=w) (λJ' F' a' w' hv=>?_) _ _ J F a _ (by simp) ?_ ?_
  ·refine hQ env' H' J' F' a' w' h2 ⟨hv.defers,hv.size,λt=>?_,?_,λi hi=>?_⟩ hv.ext
   ·have:=hv.tmps t;rw[Ik hp.at_ _<|by simp] at this
    grind
   ·have:=hv.ok;have e:Gt rs H (λ_=>true) ops.size=λi=>H'[i]?:=funext λi=>by
     rw[KB hp.at_ _<|by simp,<-r3];simp
    grind
   rcases hv.dom i hi with q|⟨k,k1,_,k3⟩
   ·have:=Kr hp.at_ ops.size 0 (by omega) (by simp);simp only[mn] at this
    grind
   have:=Ru hp.at_ k1 (by simp) k3
   grind
  ·unfold missing;refine jI List.countP_le_length ?_;simp
  have hf:vx (Array.replicate ops.size false)=λ_=>false:=by
   funext i;simp only[vx,yq,Array.getElem?_replicate]
   grind
  rw[hf];have e1:∀k t,Et ops.toList rs env (λ_=>false) k t=iv t env:=λk t=>by
   induction k with
   |zero=>rfl
   |succ k ih=>simp only[Et];rw[ab<|by simp];exact ih
  have e2:∀k i,Gt rs H (λ_=>false) k i=H[i]?:=λk i=>by
   induction k with
   |zero=>rfl
   |succ k ih=>simp only[Gt];rw[ab<|by simp];exact ih
  have hd:Ext J F w J F { w with drawn:=w.drawn+1 }:=Ext.drew;refine⟨(λ_ _ _ h=>by cases h),hr.defers,hr.size,λt=>?_,?_,hd,λi hi=>.inl<|hr.dom i hi⟩
  ·rw[e1];exact Kj hd<|hr.tmps t
  have:Gt rs H (λ_=>false) ops.size=λi=>H[i]?:=funext (e2 _);rw[this];exact hr.ok.drew
 cases hc
end
end
section
def AY(n:Nat)(J:bh)(F:Nat->Prop)(w:bl)(Q:iY):Exit->Act->bl->Prop:=λe a' w'=>∃env' H' J' F',Q e env' H'/\jt n J' F' env' H' a' w'/\Ext J F w J' F' w'
section
variable{P:bG}{n:Nat}
variable{p:PC}{Q:iY}{env:Env}{H:aE}{c:Code}{J:bh}{F:Nat->Prop}{a:Act}{w:bl}
theorem qC(h:PWp P n p Q env H)(hc:comp P n c=some p.bare)(hr:jt n J F env H a w):c.wp P (AY n J F w Q) a w:=by
 unfold PWp at h;exact h c hc J F a w hr
theorem ta(h:∀(c:Code),comp P n c=some p.bare->∀(J:bh) (F:Nat->Prop) (a:Act) (w:bl),jt n J F env H a w->c.wp P (AY n J F w Q) a w):PWp P n p Q env H:=by
 unfold PWp;exact h
variable{e:Exit}
theorem Xk{J':bh}{F':Nat->Prop}{w':bl}{w'':bl}(hx:Ext J F w J' F' w')(h:AY n J' F' w' Q e a w''):AY n J F w Q e a w'' :=
 let⟨env',H',J'',F'',q1,q2,q3⟩:=h
 ⟨env',H',J'',F'',q1,q2,hx.trans q3⟩
theorem Mx{env:Env}:∀(env':Env),uI env env'->∀t,iv t env'=iv t env\/iv t env'=.dL
 |[],_,t=>.inr rfl
 |(k,d)::r,h,t=>by
  simp only[uI] at h;rw[Cc];split
  ·rename_i e;rw[e];exact .inl h.1.symm
  exact Mx r h.2 t
theorem rK{env':Env}(h:uI env env'):St.le n env H env' H:=λJ F a w hr =>
 ⟨J,F,⟨hr.defers,hr.size,λt=>by
  rcases Mx env' h t with e|e
  ·rw[e];exact hr.tmps t
  rw[e];simp only[rep],hr.ok,hr.dom⟩,Ext.refl _ _ _⟩
theorem zt2(h:comp P n c=some .skip):c=.skip:=by
 cases c<;>simp[comp] at h;repeat grind
variable{x:PC}
theorem zvg{y:PC}(h:comp P n c=some (.seq x y)):∃a b,c=.seq a b/\comp P n a=some x/\comp P n b=some y:=by
 cases c<;>simp[comp] at h;repeat grind
theorem zth{z:bn}{y:PC}(h:comp P n c=some (.cond z x y)):∃a b,c=.cond z a b/\comp P n a=some x/\comp P n b=some y:=by
 cases c<;>simp[comp] at h;repeat grind
variable{id:Nat}
theorem zp9(h:comp P n c=some (.block id x)):∃a,c=.block id a/\comp P n a=some x:=by
 cases c<;>simp[comp] at h;repeat grind
theorem LB(h:comp P n c=some (.loop x)):∃a,c=.loop a/\comp P n a=some x:=by
 cases c<;>simp[comp] at h;repeat grind
theorem ztk(h:comp P n c=some (.exit id)):c=.exit id:=by
 cases c<;>simp[comp] at h;repeat grind
theorem zxt(h:comp P n c=some .ret):c=.ret:=by
 cases c<;>simp[comp] at h;repeat grind
variable{l:List cO}
theorem zvq{d:Bool}(h:comp P n c=some (.ops l d)):∃id ops,c=.region id ops d/\EY P n ops d=some l:=by
 cases c<;>simp[comp] at h
 case region id ops d'=>obtain⟨l',h1,rfl,rfl⟩:=h;exact⟨id,ops,rfl,h1⟩
 repeat grind
theorem zqW(h:Ij P l env H λenv H=>Q .normal env H){id:Nat}{ops:Array Oper}(hc:EY P n ops true=some l)(hr:jt n J F env H a w) :
  (Code.region id ops true).wp P (AY n J F w Q) a w:=zoN h hc hr λenv' H' J' F' a' w' q1 q2 q3=>⟨env',H',J',F',q1,q2,q3⟩
theorem EN:∀(p:PC) (Q:iY) (env:Env) (H:aE),pw P n p Q env H->PWp P n p Q env H
 | .skip,Q,env,H,h=>ta λc hc J F a w hr=>by
  rw[zt2 hc];exact wp_skip ⟨env,H,J,F,h,hr,Ext.refl _ _ _⟩
 | .ops l d,Q,env,H,h=>ta λc hc J F a w hr=>by
  obtain⟨id,ops,rfl,h1⟩:=zvq hc
  cases d with
  |false =>
   refine wp_region ?_;rw[List.range_eq_range'];have:=Ue (P:=P) (ops:=ops) (Q:=AY n J F w Q) ops.toList 0 [] l (λj=>by simp) h1 env H J F a w h hr λenv' H' J' F' a' w' q1 q2 q3=>⟨env',H',J',F',q1,q2,q3⟩;simpa using this
  |true=>exact zqW h h1 hr
 | .seq x y,Q,env,H,h=>ta λc hc J F a w hr=>by
  obtain⟨a',b',rfl,h1,h2⟩:=zvg hc;refine wp_seq<|wp_mono (qC (EN x _ env H h) h1 hr) λe a1 w1 ⟨env',H',J',F',q1,q2,q3⟩=>?_
  cases e with
  |normal=>exact wp_mono (qC (EN y Q env' H' q1) h2 q2) λe a2 w2 q=>Xk q3 q
  |_=>exact⟨env',H',J',F',q1,q2,q3⟩
 | .cond z x y,Q,env,H,h=>ta λc hc J F a w hr=>by
  obtain⟨a',b',rfl,h1,h2⟩:=zth hc;simp only[pw,iq] at h;split at h
  ·rename_i t e;have hz:=hr.eval z;rw[e] at hz;simp only[rep] at hz;obtain⟨k1,k2⟩:=Fk.1 h;refine wp_cond hz ?_
   cases t with
   |true=>exact qC (EN x Q env H<|k1 rfl) h1 hr
   |false=>exact qC (EN y Q env H<|k2 rfl) h2 hr
  exact h.elim
 | .block id x,Q,env,H,h=>ta λc hc J F a w hr=>by
  obtain⟨a',rfl,h1⟩:=zp9 hc;refine wp_block<|wp_mono (qC (EN x _ env H h) h1 hr) λe a1 w1 ⟨env',H',J',F',q1,q2,q3⟩=>?_
  cases e with
  |exit jQ =>
   simp only[Exit.inBlock];by_cases e:jQ=id
   ·subst e;rw[ae rfl];have hb:Nat.beq jQ jQ=true:=(by simp);simp only[hb] at q1;exact⟨env',H',J',F',q1,q2,q3⟩
   rw[ab e];have hb:Nat.beq jQ id=false:=by
    cases h:Nat.beq jQ id
    ·rfl
    exact absurd (Bz h) e
   simp only[hb] at q1;exact⟨env',H',J',F',q1,q2,q3⟩
  |_=>exact⟨env',H',J',F',q1,q2,q3⟩
 | .loop x,Q,env,H,h=>h
 | .exit id,Q,env,H,h=>ta λc hc J F a w hr=>by
  rw[ztk hc];exact wp_exit ⟨env,H,J,F,h,hr,Ext.refl _ _ _⟩
 | .ret,Q,env,H,h=>ta λc hc J F a w hr=>by
  rw[zxt hc];exact wp_ret ⟨env,H,J,F,h,hr,Ext.refl _ _ _⟩
 | .stop x,Q,env,H,h=>ta λc hc J F a w hr=>qC h hc hr
theorem A5{p:PC}{Q:iY}{ι:Type}(E:ι->Env)(O:ι->aE)(G:ι->Prop)(m:ι->Nat)(i:ι)(h0:G i)(h1:St.le n env H (E i)<|O i)
  (round:∀j,G j->PWp P n p (zCz n Q E O G m<|m j) (E j) (O j)):PWp P n (.loop p) Q env H:=ta λc hc J F a w hr=>by
 obtain⟨c',rfl,gb⟩:=LB hc;obtain⟨J0,F0,k1,k2⟩:=h1 J F a w hr;refine wp_loop_ghost (λk a' w'=>∃j J' F',G j/\m j=k/\jt n J' F' (E j) (O j) a' w'/\Ext J F w J' F' w') (m i) ⟨i,J0,F0,h0,rfl,k1,k2⟩ λk a1 w1 ⟨j,J1,F1,g1,g2,g3,g4⟩=>?_;refine wp_mono (qC (round j g1) gb g3) λe a2 w2 ⟨env',H',J',F',q1,q2,q3⟩=>?_
 cases e with
 |normal =>
  obtain⟨j',r1,r2,r3⟩:=q1;obtain⟨J2,F2,t1,t2⟩:=r3 J' F' a2 w2 q2;exact⟨m j',by omega,j',J2,F2,r1,rfl,t1,(g4.trans q3).trans t2⟩
 |_=>exact⟨env',H',J',F',q1,q2,g4.trans q3⟩
theorem YI:∀(args:bj) (k t:Nat),iv t (params k args)=if k<=t then (args[t-k]?).getD .dL else .dL
 |[],k,t=>by simp[params,iv]
 |d::r,k,t=>by
  simp only[params];rw[Cc,YI r (k+1) t];by_cases h1:t=k
  ·subst h1;simp
  rw[ab h1];by_cases h2:k+1<=t
  ·rw[ae h2,ae<|by omega,show t-k=t-(k+1)+1 by omega,B0]
  rw[ab h2,ab<|by omega]
section
variable{J J':bh}{F:Nat->Prop}{w:bl}
mutual
theorem N9:∀(d:D) (v:aW),Pure d->rep J F w d v->rep J' F w d v
 | .dL,v,_,_=>by simp only[rep]
 | .sc u,v,_,h=>by simpa only[rep] using h
 | .loc ..,v,hp,_=>by simp only[Pure] at hp
 | .elt ..,v,hp,_=>by simp only[Pure] at hp
 | .own ..,v,hp,_=>by simp only[Pure] at hp
 | .ax cs,v,hp,h=>by
  simp only[Pure] at hp;simp only[rep] at h⊢;obtain⟨b,o,h1,h2,h3⟩:=h;exact⟨b,o,h1,h2,My b cs o hp h3⟩
 | .aM an xs,v,hp,h=>by
  simp only[Pure] at hp;simp only[rep] at h⊢;obtain⟨A,n,c,h1,h2,hc,h3⟩:=h;exact⟨A,n,c,h1,h2,hc,h3.imp_right λ⟨b,o,h4,h5,h6⟩=>⟨b,o,h4,h5,QZ b an xs o hp h6⟩⟩
 | .fn f a b,v,hp,h=>by
  simp only[Pure] at hp;simp only[rep] at h⊢;obtain⟨vs,us,h1,h2,h3⟩:=h;exact⟨vs,us,h1,Cx a vs hp.1 h2,Cx b us hp.2 h3⟩
 | .agg cs,v,hp,h=>by
  simp only[Pure] at hp;simp only[rep] at h⊢;obtain⟨vs,h1,h2⟩:=h;exact⟨vs,h1,Cx cs vs hp h2⟩
 | .aJ cs,v,hp,h=>by
  simp only[Pure] at hp;simp only[rep] at h⊢;obtain⟨vs,h1,h2⟩:=h;exact⟨vs,h1,Cx cs vs hp h2⟩
theorem Cx:∀(d:bj) (v:List aW),aA d->bA J F w d v->bA J' F w d v
 |[],v,_,h=>by simpa only[bA] using h
 |d::r,v,hp,h=>by
  simp only[aA] at hp;simp only[bA] at h⊢;obtain⟨u,us,h1,h2,h3⟩:=h;exact⟨u,us,h1,N9 d u hp.1 h2,Cx r us hp.2 h3⟩
theorem My(b:Nat):∀(d:bj) (o:Nat),aA d->dY J F w b d o->dY J' F w b d o
 |[],o,_,h=>by simp only[dY]
 |d::r,o,hp,h=>by
  simp only[aA] at hp;simp only[dY] at h⊢;obtain⟨⟨u,h1,h2,h3⟩,h4⟩:=h;exact⟨⟨u,h1,h2,N9 d u hp.1 h3⟩,My b r (o+1) hp.2 h4⟩
theorem QZ(b an:Nat):∀(d:fc) (o:Nat),dF d->fm J F w b an d o->fm J' F w b an d o
 |[],o,_,h=>by simp only[fm]
 |d::r,o,hp,h=>by
  simp only[dF] at hp;simp only[fm] at h⊢;exact⟨h.1,My b d o hp.1 h.2.1,QZ b an r (o+an) hp.2 h.2.2⟩
end
end
def zb(tmps:Array aW):ResultVar->Sem aW
 | .tmp t=>pure<|tmps.getD t undef
 | .cell a t=>do loadVar t (<-asAddr (tmps.getD a undef))
theorem Ts{t:bp}{a:Addr}{v:aW}(h:(Instr.loadAt t (.pointer<|some a)).run P w=.ok v w):(loadVar t a).run P w=.ok v w:=by
 simpa [Instr.loadAt,Instr.sureAddr] using h
theorem V'{J:bh}{F:Nat->Prop}{env:Env}{H:aE}{a:Act}{w:bl}(hr:jt n J F env H a w):∀(l:List ResultVar) (rs:List RV) (K':bj->Prop),xn P l=some rs->wu env H rs K' ->
  ∃ds vs,K' ds/\(l.mapM<|zb a.tmps).run P w=.ok vs w/\bA J F w ds vs
 |[],rs,K',hc,h=>by
  simp[xn] at hc;subst hc;exact⟨[],[],h,by simp[pure,Sem.run],by simp only[bA]⟩
 |r::l,rs,K',hc,h=>by
  simp only[xn] at hc;split at hc
  ·rename_i x y e1 e2;cases hc;have step:∀(d:D) (v:aW),(zb a.tmps r).run P w=.ok v w->rep J F w d v->wu env H y (λds=>K'<|d::ds)->∃ds vs,K' ds/\((r::l).mapM<|zb a.tmps).run P w=.ok vs w/\bA J F w ds vs:=λd v q1 q2 q3=>by
    obtain⟨ds,vs,k1,k2,k3⟩:=V' hr l y _ e2 q3;refine⟨d::ds,v::vs,k1,?_,by simp only[bA];exact⟨v,vs,rfl,q2,k3⟩⟩;rw[List.mapM_cons];simp only[Sem.run_bind,q1,Result.andThen_ok,k2,pure,Sem.run]
   cases r with
   |tmp t =>
    simp[crv] at e1;subst e1;simp only[wu,AM] at h;exact step _ _ (by simp[zb,pure,Sem.run]) (hr.tmps t) h
   |cell t ty =>
    simp only[crv] at e1;have ptr:∀id off m cs,iv t env=.loc id off->H[id]? = some (.row m cs)->∃b o,a.tmps.getD t undef=.pointer (some ⟨b,o,none⟩)/\dY J F w b (cs.drop off) o:=λid off m cs q1 q2=>by
     have q3:=hr.tmps t;rw[q1] at q3;exact NT (P:=P) (env:=env) q2 J F w _ _ hr.ok (λ_ _=>rfl) q3
    split at e1
    ·rename_i yM;cases e1;simp only[wu,AM] at h;split at h
     ·rename_i id off e3;obtain⟨ob,h1,h2⟩:=(lX _ _ _).1 h;split at h2
      ·rename_i m cs;obtain⟨h3,h4⟩:=(Dj _ _ _).1 h2;obtain⟨h5,h6⟩:=(C6 _ _ _).1 h4;obtain⟨b,o,p1,p2⟩:=ptr id off m cs e3 h1;have p3:=Qo p2 0<|P.cellsOf ty;simp only[dP,wU] at p3;obtain⟨vs,p4,p5,_⟩:=KO _ _ p3;have hl:vs.length=P.cellsOf ty:=(by rw[nS _ _ p4,fg];omega);refine step _ (.agg vs.toArray) ?_ (by simp only[rep];exact⟨vs,rfl,p4⟩) h6;simp only[zb,p1,asAddr,pure,Sem.run_bind,Sem.run,Result.andThen_ok];exact Ts<|Vz yM hl p5
      exact h2.elim
     exact h.elim
    ·rename_i yM;cases e1;simp only[wu,AM] at h;split at h
     ·rename_i id off e3;obtain⟨ob,h1,h2⟩:=(lX _ _ _).1 h;split at h2
      ·rename_i m cs;obtain⟨c,h3,h4⟩:=(yG _ _ _).1 h2;obtain⟨b,o,p1,p2⟩:=ptr id off m cs e3 h1;obtain⟨u,p3,_,p4⟩:=rn _ o 0 c (by rw[Dr];exact h3) p2;refine step _ u ?_ p4 h4;simp only[zb,p1,asAddr,pure,Sem.run_bind,Sem.run,Result.andThen_ok];exact Ts<|TE yM<|by simpa using p3
      exact h2.elim
     exact h.elim
    cases e1
  cases hc
variable{rs:List RV}
theorem Qy{fn:Func}(GN:xn P fn.results.toList=some rs)(hr:jt n J F env H a w){R:D->aE->Prop}(he:e=.normal\/e=.ret)(h:DP rs R e env H) :
  ∃d v,R d H/\(results fn a.tmps).run P w=.ok v w/\rep J F w d v:=by
 have h':wu env H rs (λds=>match ds with
  |[d]=>R d H
  |ds=>R (.aJ ds) H):=by rcases he with rfl|rfl<;>exact h
 obtain⟨ds,vs,k1,k2,k3⟩:=V' hr fn.results.toList rs _ GN h';have run:(results fn a.tmps).run P w=.ok (if h:vs.length=1 then vs[0] else .tuple vs.toArray) w:=by
  have e1:(fn.results.mapM<|zb a.tmps).run P w=.ok vs.toArray w:=by
   rw[Array.mapM_eq_mapM_toList];simp[k2]
  have e3:results fn a.tmps=fn.results.mapM (zb a.tmps) >>= λvs=>pure (if h:vs.size=1 then vs[0] else .tuple vs):=by
   unfold results
   congr 1
  rw[e3,Sem.run_bind,e1];simp[pure,Sem.run]
 have hl:=nS _ _ k3
 match ds,k1,k3,hl with
 |[d],k1,k3,hl =>
  simp only[bA] at k3
  grind
 |[],k1,k3,hl =>
  refine⟨.aJ [],_,k1,run,?_⟩;have:vs=[]:=pM.1 hl;subst this;simp only[rep]
  grind
 |d::d'::r,k1,k3,hl =>
  refine⟨.aJ<|d::d'::r,_,k1,run,?_⟩;simp only[dC] at hl;rw[dif_neg<|by omega];simp only[rep]
  grind
variable{args:bj}
theorem MT{vs:List aW}(hn:args.length<=n)(h:bA J F w args vs)(az:cC J F w λi=>H[i]?)(hd:∀id,J id≠none->id<H.length) :
  jt n J F (params 0 args) H ⟨vs.toArray++Array.replicate (n-vs.toArray.size) undef,[]⟩ w where
 defers:=rfl
 size:=by simp[nS _ _ h];omega
 tmps t:=by
  rw[YI];simp only[kZ,if_true,ua];have hl:=nS _ _ h
  cases e:args[t]? with
  |none=>simp only[Option.getD_none,rep]
  |some d =>
   obtain⟨v,h1,h2⟩:=uu _ _ _ _ e h;have ht:t<vs.length:=by
    rcases gK t vs.length with h|h
    ·exact h
    rw[dG h] at h1;cases h1
   simp only[sj,yq];rw[Array.getElem?_append_left<|by simpa using ht];simp[h1,h2]
 ok:=az
 dom:=hd
variable{f:FuncId}
theorem OI(hf:wT P f n rs p):CL P f:=by
 obtain⟨fn,h1,_,h3,_,h5⟩:=hf.out;refine⟨fn,h1,h3,?_⟩
 cases e:fn.body with
 |none=>grind
 |some c=>rfl
theorem W5(h:FOK F w)(G:Nat->Option al):cC jX F w G:=⟨(λ_ _ h=>by cases h),(λ_ _ _ _ _ h=>by cases h),(λ_ _ _ _ h=>by cases h),h⟩
theorem dh{d:D}(hf:wT P f n rs p)(hn:args.length<=n)(hp:aA args)
  (h:PWp P n p (DP rs λr H=>Deep H r d) (params 0 args) []) (hd:Pure d):ao P f args d:=by
 refine⟨OI hf,λJ F w vs hF iG=>?_⟩;obtain⟨fn,h1,h2,h3,h4,h5⟩:=hf.out;have zKV:bA jX F w args vs:=Cx args vs hp iG
 cases e:fn.body with
 |none=>rw[e] at h5;cases h5
 |some c =>
  rw[e] at h5;simp only[zK] at h5;refine calls_of_wp h1 e ?_;rw[h2];refine wp_mono (qC h h5<|MT hn zKV (W5 hF _) λid hid=>absurd rfl hid) λe' a' w' ⟨env',H',J',F',q1,q2,q3⟩=>?_;have fin:e'=.normal\/e'=.ret->a'.defers=[]/\∃v,(results fn a'.tmps).run P w'=.ok v w'/\∃v' F'',Ending.returned v=Ending.returned v'/\(∀b,F'' b->b<w'.heap.size)/\rep jX F'' w' d v'/\Ext jX F w jX F'' w':=λhe=>by
   obtain⟨r,v,k1,k2,k3⟩:=Qy h4 q2 he q1;refine⟨q2.defers,v,k2,v,λb=>F' b\/jV J' b,rfl,λb hb=>hb.elim (q2.ok.lt b) λ⟨i,s,hi,hs⟩=>q2.ok.jk hi hs,N9 d v hd<|PB q2.ok (λ_ _ h=>h) _ _ _ k1 k3,?_⟩;exact⟨q3.os,q3.tape,q3.output,q3.size,q3.block,q3.frozen,bh.le_refl _,λb hb=>.inl<|q3.grow b hb,λb hb=>absurd hb<|qj b,λb hb=>by
    rcases hb with hb|hb
    ·exact q3.pJ b hb
    exact .inr<|(q3.px b hb).imp_left λq=>absurd q<|qj b⟩
  cases e' with
  |normal=>exact fin (.inl rfl)
  |ret=>exact fin (.inr rfl)
  |exit id=>exact q1.elim
  |goto l=>exact q1.elim
  |panic ch=>exact q1.elim
  |outgrown=>exact q1.elim
end
end
section
section
variable{P:bG}{n:Nat}
theorem jb{f:FuncId}{rs:List RV}{p:PC}{args:bj}{H:aE}{d:D}{H2:aE}(hf:wT P f n rs p)(hn:args.length<=n)(hlen:H.length<=H2.length)
  (h:PWp P n p (DP rs λr Hf=>r=d/\Hf.take H2.length=H2/\H2.length<=Hf.length) (params 0 args) H) (hd:aK H2.length d) (hH:∀o∈H2,o.under H2.length):bZ P f args H d H2:=by
 refine⟨OI hf,hlen,λJ F w vs az jH iG=>?_⟩;obtain⟨fn,h1,h2,h3,h4,h5⟩:=hf.out
 cases e:fn.body with
 |none=>rw[e] at h5;cases h5
 |some c =>
  rw[e] at h5;simp only[zK] at h5;refine calls_of_wp h1 e ?_;rw[h2];refine wp_mono (qC h h5<|MT hn iG az jH) λe' a' w' ⟨env',H',J',F',q1,q2,q3⟩=>?_;have fin:e'=.normal\/e'=.ret->a'.defers=[]/\∃v,(results fn a'.tmps).run P w'=.ok v w'/\∃v' J'' F'',Ending.returned v=Ending.returned v'/\cC J'' F'' w' (λi=>H2[i]?)/\(∀id,J'' id≠none->id<H2.length)/\rep J'' F'' w' d v'/\Ext J F w J'' F'' w':=λhe=>by
   obtain⟨r,v,⟨rfl,k1,zC⟩,k2,k3⟩:=Qy h4 q2 he q1;have pX:∀i,i<H2.length->H2[i]? = H'[i]?:=λi hi=>by
    conv=>lhs;rw[<-k1]
    rw[List.getElem?_take,ae hi]
   have kle:(dK H2.length J').le J':=λi s hs=>by
    unfold dK at hs;split at hs
    ·exact⟨s,hs,aS _,λ_=>rfl⟩
    cases hs
   refine⟨q2.defers,v,k2,v,dK H2.length J',F',rfl,⟨λi s hs=>?_,λi i' s s' b g1 g2 g3 g4=>?_,λi s b o g1 g2 g3 g4=>?_,q2.ok.lt⟩,λi hi=>?_,Gw _ _ hd k3,?_⟩
   ·unfold dK at hs;split at hs
    ·rename_i hi;obtain⟨o,g1,g2⟩:=q2.ok.obj i s hs;have XA:H2[i]? = some o:=(by rw[pX i hi];exact g1);exact⟨o,XA,OS (hH o<|o7 XA) g2⟩
    cases hs
   ·unfold dK at g1 g2;split at g1<;>split at g2
    ·exact q2.ok.one i i' s s' b g1 g2 g3 g4
    all_goals first|cases g1|cases g2
   ·unfold dK at g1;split at g1
    ·rename_i hi;exact q2.ok.apart i s b o g1 g2 (by rw[<-pX i hi];exact g3) g4
    cases g1
   ·unfold dK at hi;split at hi
    ·assumption
    exact absurd rfl hi
   refine⟨q3.os,q3.tape,q3.output,q3.size,q3.block,q3.frozen,λi s hs=>?_,q3.grow,λb ⟨i,s,hs,hb⟩=>?_,q3.pJ⟩
   ·obtain⟨s',g1,g2,g3⟩:=q3.le i s hs;have hi:i<H2.length:=(by have:=jH i (by rw[hs];simp);omega);exact⟨s',by simp[dK,hi,g1],g2,g3⟩
   obtain⟨s',g1,_⟩:=kle i s hs;unfold dK at hs;split at hs
   ·exact q3.px b ⟨i,s,hs,hb⟩
   cases hs
  cases e' with
  |normal=>exact fin (.inl rfl)
  |ret=>exact fin (.inr rfl)
  |exit id=>exact q1.elim
  |goto l=>exact q1.elim
  |panic ch=>exact q1.elim
  |outgrown=>exact q1.elim
end
end
section
mutual
inductive iP(S:aq)(H:aE):D->D->Prop
 |refl (d:D):iP S H d d
 |dL (d:D):iP S H d .dL
 |none (an:Nat):iP S H (.sc (.slice none 0 0)) (.aM an [])
 |loc (id off:Nat) (q:Bool) (cs ds:bj) (hm:S id=true) (h:H[id]? = some (.row q cs)) (k:l9 S H (cs.drop off) ds):iP S H (.loc id off) (.ax ds)
 |own (id ar lo hi an:Nat) (q:Bool) (xs ys:fc) (hm:S id=true) (h:H[id]? = some (.vec q ar an xs)) (k:kc S H ((xs.take hi).drop lo) ys):iP S H (.own id ar lo hi) (.aM an ys)
 |fn (f:Fn) (a b c e:bj) (h:l9 S H a b) (k:l9 S H c e):iP S H (.fn f a c) (.fn f b e)
 |agg (a b:bj) (h:l9 S H a b):iP S H (.agg a) (.agg b)
 |aJ (a b:bj) (h:l9 S H a b):iP S H (.aJ a) (.aJ b)
inductive l9(S:aq)(H:aE):bj->bj->Prop
 |refl (l:bj):l9 S H l l
 |cons (d e:D) (a b:bj) (h:iP S H d e) (k:l9 S H a b):l9 S H (d::a) (e::b)
inductive kc(S:aq)(H:aE):fc->fc->Prop
 |refl (l:fc):kc S H l l
 |cons (x y:bj) (a b:fc) (h:l9 S H x y) (k:kc S H a b):kc S H (x::a) (y::b)
 |append (x y a b:fc) (h:kc S H x y) (k:kc S H a b):kc S H (x++a) (y++b)
end
def AO(S:aq)(J:bh)(b:Nat):Prop:=∃id s,S id/\J id=some s/\s.cE=some b
section
variable{J:bh}{F:Nat->Prop}{w:bl}{H:aE}{S:aq}
mutual
theorem HV:∀(d e:bj),l9 S H d e->d.length=e.length
 |_,_,.refl _=>rfl
 |_,_,.cons d e a b _ k=>by simp[HV a b k]
theorem Bb:∀(d e:fc),kc S H d e->d.length=e.length
 |_,_,.refl _=>rfl
 |_,_,.cons d e a b _ k=>by simp[Bb a b k]
 |_,_,.append x y a b h k=>by simp[Bb x y h,Bb a b k]
end
theorem Wn{b an:Nat}:∀(xs ys:fc) (o:Nat),fm J F w b an (xs++ys) o↔fm J F w b an xs o/\fm J F w b an ys (o+xs.length*an)
 |[],ys,o=>by simp[fm]
 |x::r,ys,o=>by
  simp only[pQ,fm,Wn r ys,dC,and_assoc];rw[show o+an+r.length*an=o+(r.length+1)*an by rw[oa];omega]
mutual
theorem F4(az:cC J F w λi=>H[i]?):∀(d e:D) (v:aW),iP S H d e->rep J F w d v->rep J (λb=>F b\/AO S J b) w e v
 |d,_,v,.refl _,h=>kO (bh.le_refl J) (λ_ h=>.inl h) (λ_ _=>rfl) d v h
 |_,_,v,.dL _,_=>by simp only[rep]
 |_,_,v,.none an,h=>by
  simp only[rep] at h⊢;exact⟨none,0,0,h,rfl,aS _,.inl rfl⟩
 |_,_,v,.loc id off q cs ds hm h k,hv=>by
  simp only[rep] at hv⊢;obtain⟨s,b,h1,h2,h3,rfl⟩:=hv;have hc:=Hl (M5 az h1 h3 h) off;refine⟨b,off,rfl,.inr ⟨id,s,hm,h1,by simp[Site.cE,h2,h3]⟩,?_⟩;rw[lp] at hc;exact HH az _ _ b off k hc
 |_,_,v,.own id ar lo hi an q xs ys hm h k,hv=>by
  simp only[rep] at hv⊢;obtain⟨s,A,n,c,h1,rfl,h2,h3⟩:=hv;obtain⟨p1,p2,p3,p4,p5,p6⟩:=vo az h1 h;obtain⟨t1,t2,t3,rfl,rfl,t6⟩:=h3 p2.symm;have hl:ys.length=hi-lo:=by
   rw[<-Bb _ _ k];simp;omega
  refine⟨A,_,_,rfl,hl.symm,by omega,?_⟩;rcases t6 with t6|⟨b,o,t6,rfl⟩
  ·exact .inl<|by omega
  rcases p6 with p6|⟨b',o',vals,te,e,q1,q2,q3,q4⟩
  ·exact .inl<|by omega
  rw[t6] at e;cases e;by_cases hz:s.cap=0
  ·exact .inl<|by omega
  refine .inr ⟨b,_,rfl,.inr ⟨id,s,hm,h1,by simp[Site.cE,hz,t6]⟩,?_⟩;rw[p3];exact Df az _ _ b an _ k<|Da q3 lo hi
 |_,_,v,.fn f a b c e h k,hv=>by
  simp only[rep] at hv⊢;obtain⟨vs,us,rfl,h2,h3⟩:=hv;exact⟨vs,us,rfl,Hp az _ _ vs h h2,Hp az _ _ us k h3⟩
 |_,_,v,.agg a b h,hv=>by
  simp only[rep] at hv⊢;obtain⟨vs,rfl,h2⟩:=hv;exact⟨vs,rfl,Hp az _ _ vs h h2⟩
 |_,_,v,.aJ a b h,hv=>by
  simp only[rep] at hv⊢;obtain⟨vs,rfl,h2⟩:=hv;exact⟨vs,rfl,Hp az _ _ vs h h2⟩
theorem Hp(az:cC J F w λi=>H[i]?):∀(d e:bj) (v:List aW),l9 S H d e->bA J F w d v->bA J (λb=>F b\/AO S J b) w e v
 |d,_,v,.refl _,h=>B8 (bh.le_refl J) (λ_ h=>.inl h) (λ_ _=>rfl) d v h
 |_,_,v,.cons d e a b h k,hv=>by
  simp only[bA] at hv⊢;obtain⟨u,us,rfl,h2,h3⟩:=hv;exact⟨u,us,rfl,F4 az _ _ u h h2,Hp az _ _ us k h3⟩
theorem HH(az:cC J F w λi=>H[i]?):∀(d e:bj) (b o:Nat),l9 S H d e->dY J F w b d o->dY J (λb=>F b\/AO S J b) w b e o
 |d,_,b,o,.refl _,h=>FM (bh.le_refl J) (λ_ h=>.inl h) (λ_ _=>rfl) b (λ_=>rfl) d o h
 |_,_,b,o,.cons d e x y h k,hv=>by
  simp only[dY] at hv⊢;obtain⟨⟨u,h1,h2,h3⟩,h4⟩:=hv;exact⟨⟨u,h1,h2,F4 az _ _ u h h3⟩,HH az _ _ b (o+1) k h4⟩
theorem Df(az:cC J F w λi=>H[i]?):∀(d e:fc) (b an o:Nat),kc S H d e->fm J F w b an d o->fm J (λb=>F b\/AO S J b) w b an e o
 |d,_,b,an,o,.refl _,h=>Jq (bh.le_refl J) (λ_ h=>.inl h) (λ_ _=>rfl) b an (λ_=>rfl) d o h
 |_,_,b,an,o,.cons d e x y h k,hv=>by
  simp only[fm] at hv⊢;obtain⟨h1,h2,h3⟩:=hv;exact⟨by rw[<-HV _ _ h];exact h1,HH az _ _ b o h h2,Df az _ _ b an (o+an) k h3⟩
 |_,_,b,an,o,.append x y a c h k,hv=>by
  rw[Wn] at hv⊢;refine⟨Df az _ _ b an o h hv.1,?_⟩;rw[<-Bb _ _ h];exact Df az _ _ b an _ k hv.2
end
end
def mq(m:Nat):Nat->Bool:=λi=>Nat.ble m i
variable{m:Nat}
theorem Sz{i:Nat}:mq m i↔m<=i:=by simp[mq]
def St.leB(L n:Nat)(env:Env)(H:aE)(env':Env)(H':aE):Prop:=∀J F a w,jt n J F env H a w->∃J' F',jt n J' F' env' H' a w/\(∀i s,i<L->J i=some s->J' i=some s)/\(∀b,F b->F' b)/\(∀b,jV J' b->jV J b)/\∀b,F' b->F b\/jV J b
variable{L n:Nat}{env env':Env}{H:aE}
theorem pN(h:uI env env'):St.leB L n env H env' H:=λJ F a w hr =>
 ⟨J,F,⟨hr.defers,hr.size,λt=>by
  rcases Mx env' h t with e|e
  ·rw[e];exact hr.tmps t
  rw[e];simp only[rep],hr.ok,hr.dom⟩,λ_ _ _ h=>h,λ_ h=>h,λ_ h=>h,λ_ h=>.inl h⟩
variable{H':aE}
theorem kY{J8:Env}{H'':aE}(h:St.leB L n env H env' H')(k:St.leB L n env' H' J8 H''):St.leB L n env H J8 H'':=λJ F a w hr=>by
 obtain⟨J',F',h1,h2,h3,h4,h5⟩:=h J F a w hr;obtain⟨J'',F'',k1,k2,k3,k4,k5⟩:=k J' F' a w h1;exact⟨J'',F'',k1,λi s q1 q2=>k2 i s q1<|h2 i s q1 q2,λb hb=>k3 b<|h3 b hb,λb hb=>h4 b<|k4 b hb,λb hb=>(k5 b hb).elim (h5 b) λq=>.inr<|h4 b q⟩
def KP(m:Nat)(H:aE)(env:Env):Env->Prop
 |[]=>True
 |(t,d)::r=>iP (mq m) H (iv t env) d/\aK m d/\KP m H env r
def ON(m:Nat)(H:aE):al->al->Prop
 | .row q cs t,.row q' gA t'=>(q,t)=(q',t')/\l9 (mq m) H cs gA/\aG m gA
 | .vec q v e xs t,.vec q' v' e' zl t'=>(q,t)=(q',t')/\v=v'/\e=e'/\kc (mq m) H xs zl/\bB m zl
 | .dV q I,.dV q' I'=>q=q'/\I=I'
 |_,_=>False
def xv(m:Nat)(H:aE):aE->aE->Prop
 |_,[]=>True
 |o::r,o'::r'=>ON m H o o'/\xv m H r r'
 |[],_::_=>False
theorem WG{m:Nat}{H:aE}{env:Env}:∀(env':Env),KP m H env env'->∀t,(iP (mq m) H (iv t env) (iv t env')/\aK m (iv t env'))\/iv t env'=.dL
 |[],_,t=>.inr rfl
 |(k,d)::r,h,t=>by
  simp only[KP] at h;rw[Cc];split
  ·rename_i e;subst e;exact .inl ⟨h.1,h.2.1⟩
  exact WG r h.2.2 t
theorem G0{m:Nat}{H:aE}:∀(l l':aE),xv m H l l'->∀i (o:al),i<l'.length->l[i]? = some o->∃o',l'[i]? = some o'/\ON m H o o'
 |_,[],_,i,o,hi,_=>by simp at hi
 |[],_::_,h,i,o,hi,_=>by simp only[xv] at h
 |o::r,o'::r',h,0,x,_,hx=>by
  simp at hx;subst hx;exact⟨o',rfl,h.1⟩
 |o::r,o'::r',h,i+1,x,hi,hx=>by
  simpa using G0 r r' h.2 i x (by simpa using hi)<|by simpa using hx
theorem KH{J:bh}{F:Nat->Prop}{w:bl}(az:cC J F w λi=>H[i]?){s:Site}{o o':al}(h:ON m H o o')(k:pc J F w s o):pc (dK m J) (λb=>F b\/AO (mq m) J b) w s o'/\o'.mut=o.mut:=by
 cases o with
 |row q cs =>
  cases o' with
  |vec=>exact h.elim
  |dV=>exact h.elim
  |row q' gA =>
   obtain⟨⟨⟩,h1,h2⟩:=h;obtain⟨k1,k2,k3,k4,k5,b,vals,te,t1,t2,t3,t4,t5⟩:=k;have hl:=HV _ _ h1;exact⟨⟨k1,k2,k3,by rw[<-hl];exact k4,by rw[<-hl];exact k5,b,vals,te,t1,t2,by rw[<-hl];exact t3,Hq b gA 0 h2<|HH az _ _ b 0 h1 t4,λe=>.inl<|t5 e⟩,rfl⟩
 |vec q v e xs =>
  cases o' with
  |row=>exact h.elim
  |dV=>exact h.elim
  |vec q' v' e' zl =>
   obtain⟨⟨⟩,rfl,rfl,h1,h2⟩:=h;obtain⟨k1,k2,k3,k4,k5,k6⟩:=k;have hl:=Bb _ _ h1;exact⟨⟨k1,k2,k3,by rw[<-hl];exact k4,k5,k6.imp_right λ⟨b,o,vals,te,t1,t2,t3,t4,t5⟩=>⟨b,o,vals,te,t1,t2,t3,HY b e zl o h2<|Df az _ _ b e o h1 t4,λe=>.inl<|t5 e⟩⟩,rfl⟩
 |dV q I =>
  cases o' with
  |row=>exact h.elim
  |vec=>exact h.elim
  |dV q' I' =>
   obtain⟨rfl,rfl⟩:=h;exact⟨k,rfl⟩
theorem aL(m:Nat)(hL:L<=m)(hm:H'.length=m)(hE:KP m H env env')(hH:xv m H H H'):St.leB L n env H env' H':=λJ F a w hr=>by
 refine⟨dK m J,λb=>F b\/AO (mq m) J b,⟨hr.defers,hr.size,λt=>?_,⟨λi s hs=>?_,λi i' s s' b g1 g2 g3 g4=>?_,λi s b o g1 g2 g3 g4=>?_,hr.ok.lt.mono (λ_ h=>.inl h) (λ_ _=>rfl) λb hb=>?_⟩,λi hi=>?_⟩,λi s hi hs=>?_,λb hb=>.inl hb,λb ⟨i,s,hs,hb⟩=>?_,λb hb=>hb.imp_right λ⟨i,s,_,h1,h2⟩=>⟨i,s,h1,h2⟩⟩
 ·rcases WG env' hE t with⟨h1,h2⟩|e
  ·exact Gw _ _ h2<|F4 hr.ok _ _ _ h1<|hr.tmps t
  rw[e];simp only[rep]
 ·unfold dK at hs;split at hs
  ·rename_i hi;obtain⟨o,h1,h2⟩:=hr.ok.obj i s hs;obtain⟨o',h3,h4⟩:=G0 H H' hH i o (by omega) h1;exact⟨o',h3,(KH hr.ok h4 h2).1⟩
  cases hs
 ·unfold dK at g1 g2;split at g1<;>split at g2
  ·exact hr.ok.one i i' s s' b g1 g2 g3 g4
  all_goals first|cases g1|cases g2
 ·unfold dK at g1;split at g1
  ·rename_i hi;obtain⟨o1,h1,h2⟩:=hr.ok.obj i s g1;obtain⟨o',h3,h4⟩:=G0 H H' hH i o1 (by omega) h1;have vD:H'[i]? = some o:=g3;rw[vD] at h3;cases h3;have zj:=(KH hr.ok h4 h2).2;rintro(hx|⟨i',s',p1,p2,p3⟩)
   ·exact hr.ok.apart i s b o1 g1 g2 h1 (by rw[<-zj];exact g4) hx
   have p1:=Sz.1 p1;have:=hr.ok.one i i' s s' b g1 p2 g2 p3;omega
  cases g1
 ·exact hb.elim (hr.ok.lt b) λ⟨i,s,_,h1,h2⟩=>hr.ok.jk h1 h2
 ·unfold dK at hi;split at hi
  ·omega
  exact absurd rfl hi
 ·unfold dK;rw[ae<|by omega];exact hs
 unfold dK at hs;split at hs
 ·exact⟨i,s,hs,hb⟩
 cases hs
theorem VX(t an ar:Nat)(hL:L<=H.length)(h:iv t env=au):St.leB L n env H ((t,.own H.length ar 0 0)::env)<|H++[.vec true ar an []]:=λJ F a w hr=>by
 have Gd:J H.length=none:=by
  cases e:J H.length with
  |none=>rfl
  |some s=>have:=hr.dom H.length (by rw[e];simp);omega
 let J':bh:=λi=>if i=H.length then some ⟨false,ar,none,an,0,0⟩ else J i
 have hle:J.le J':=λi s hs=>⟨s,by
  have:i≠H.length:=λe=>by subst e;rw[Gd] at hs;cases hs
  simp[J',this,hs],aS _,λ_=>rfl⟩
 have pX:∀i,i≠H.length->(H++[al.vec true ar an []])[i]? = H[i]?:=λi hi=>by
  rcases gK i H.length with q|q
  ·rw[iz q]
  rw[dG q,dG<|by simp;omega]
 refine⟨J',F,⟨hr.defers,hr.size,λu=>?_,⟨λi s hs=>?_,λi i' s s' b g1 g2 g3 g4=>?_,λi s b o g1 g2 g3 g4=>?_,hr.ok.lt⟩,λi hi=>?_⟩,λi s hi hs=>?_,λb hb=>hb,λb ⟨i,s,hs,hb⟩=>?_,λb hb=>.inl hb⟩
 ·rw[Cc];split
  ·rename_i e;subst e;have:=hr.tmps u;rw[h] at this;simp only[rep] at this⊢;exact⟨_,none,0,0,by simp[J'];rfl,this,aS _,λ_=>⟨rfl,aS _,kZ _,rfl,rfl,.inl rfl⟩⟩
  exact kO hle (λ_ h=>h) (λ_ _=>rfl) _ _<|hr.tmps u
 ·simp only[J'] at hs;split at hs
  ·rename_i e;subst e;cases hs;exact⟨.vec true ar an [],by simp,rfl,rfl,rfl,rfl,aS _,.inl rfl⟩
  rename_i e;obtain⟨o,h1,h2⟩:=hr.ok.obj i s hs;exact⟨o,by rw[pX i e];exact h1,sk hle (λ_ h=>h) (λ_ _=>rfl) (λ_ _=>rfl) h2⟩
 ·simp only[J'] at g1 g2;split at g1
  ·cases g1;simp[Site.cE] at g3
  split at g2
  ·cases g2;simp[Site.cE] at g4
  exact hr.ok.one i i' s s' b g1 g2 g3 g4
 ·simp only[J'] at g1;split at g1
  ·cases g1;simp[Site.cE] at g2
  rename_i e;exact hr.ok.apart i s b o g1 g2 (by rw[<-pX i e];exact g3) g4
 ·simp only[J'] at hi;rw[cL,lb];split at hi
  ·omega
  have:=hr.dom i hi;omega
 ·have:i≠H.length:=by omega
  simp[J',this,hs]
 simp only[J'] at hs;split at hs
 ·cases hs;simp[Site.cE] at hb
 exact⟨i,s,hs,hb⟩
theorem eo(t an:Nat)(hL:L<=H.length)(h:iv t env=au):St.leB L n env H ((t,.own H.length 0 0 0)::env)<|H++[.vec true 0 an []]:=VX t an 0 hL h
section
variable{P:bG}{n:Nat}
def MM{ι:Type}(L n:Nat)(Q:iY)(E:ι->Env)(O:ι->aE)(G:ι->Prop)(m:ι->Nat)(k:Nat):iY
 | .normal,env,H=>∃j,G j/\m j<k/\St.leB L n env H (E j) (O j)
 |e,env,H=>Q e env H
theorem JP{J J1 J2:bh}{F F1 F2:Nat->Prop}{w w1:bl}(hd:∀id,J id≠none->id<L)(h:Ext J F w J1 F1 w1)(k1:∀i s,i<L->J1 i=some s->J2 i=some s)(k2:∀b,F1 b->F2 b)(k3:∀b,jV J2 b->jV J1 b)(k4:∀b,F2 b->F1 b\/jV J1 b):Ext J F w J2 F2 w1 :=
 ⟨h.os,h.tape,h.output,h.size,h.block,h.frozen,λi s hs=>by
  obtain⟨s',g1,g2⟩:=h.le i s hs;exact⟨s',k1 i s' (hd i<|by rw[hs];simp) g1,g2⟩,λb hb=>k2 b<|h.grow b hb,λb hb=>h.px b<|k3 b hb,λb hb=>by
  rcases k4 b hb with q|q
  ·exact h.pJ b q
  rcases h.px b q with q|q
  ·exact .inr (.inl q)
  exact .inr (.inr q)⟩
theorem wc{p:PC}{Q:iY}{ι:Type}(E:ι->Env)(O:ι->aE)(G:ι->Prop)(m:ι->Nat)(i:ι)(h0:G i)(h1:St.leB H.length n env H (E i)<|O i)
  (round:∀j,G j->PWp P n p (MM H.length n Q E O G m<|m j) (E j) (O j)):PWp P n (.loop p) Q env H:=ta λc hc J F a w hr=>by
 obtain⟨c',rfl,gb⟩:=LB hc;obtain⟨J0,F0,k1,k2,k3,k4,k5⟩:=h1 J F a w hr;have k6:Ext J F w J0 F0 w:=JP hr.dom (Ext.refl J F w) k2 k3 k4 k5;refine wp_loop_ghost (λk a' w'=>∃j J' F',G j/\m j=k/\jt n J' F' (E j) (O j) a' w'/\Ext J F w J' F' w') (m i) ⟨i,J0,F0,h0,rfl,k1,k6⟩ λk a1 w1 ⟨j,J1,F1,g1,g2,g3,g4⟩=>?_;refine wp_mono (qC (round j g1) gb g3) λe a2 w2 ⟨env',H',J',F',q1,q2,q3⟩=>?_
 cases e with
 |normal =>
  obtain⟨j',r1,r2,r3⟩:=q1;obtain⟨J2,F2,t1,t2,t3,t4,t5⟩:=r3 J' F' a2 w2 q2;exact⟨m j',by omega,j',J2,F2,r1,rfl,t1,JP hr.dom (g4.trans q3) t2 t3 t4 t5⟩
 |_=>exact⟨env',H',J',F',q1,q2,g4.trans q3⟩
def OQ(P:bG)(n:Nat)(c:PC)(Q:iY):Nat->iY
 |0,e,env,H=>match e with
  | .normal=>False
  |e=>Q e env H
 |k+1,e,env,H=>match e with
  | .normal=>PWp P n c (OQ P n c Q k) env H
  |e=>Q e env H
variable{p:PC}{Q:iY}
theorem zqQ(k:Nat)(h:PWp P n p (OQ P n p Q k) env H):PWp P n (.loop p) Q env H:=ta λc hc J F a w hr=>by
 obtain⟨c',rfl,gb⟩:=LB hc;refine wp_loop_rounds (k+1) ?_;have key:∀(k:Nat) (env:Env) (H:aE) (J1:bh) (F1:Nat->Prop) (a1:Act) (w1:bl),PWp P n p (OQ P n p Q k) env H->jt n J1 F1 env H a1 w1->Ext J F w J1 F1 w1->Code.rounds P c' (AY n J F w Q) (k+1) a1 w1:=by
  intro k
  induction k with
  |zero =>
   intro env H J1 F1 a1 w1 h1 h2 h3;rw[rounds_succ];refine wp_mono (qC h1 gb h2) λe a2 w2 ⟨env',H',J',F',q1,q2,q3⟩=>?_
   cases e with
   |normal=>exact q1.elim
   |_=>exact⟨env',H',J',F',q1,q2,h3.trans q3⟩
  |succ k ih =>
   intro env H J1 F1 a1 w1 h1 h2 h3;rw[rounds_succ];refine wp_mono (qC h1 gb h2) λe a2 w2 ⟨env',H',J',F',q1,q2,q3⟩=>?_
   cases e with
   |normal=>exact ih env' H' J' F' a2 w2 q1 q2<|h3.trans q3
   |_=>exact⟨env',H',J',F',q1,q2,h3.trans q3⟩
 exact key k env H J F a w h hr<|Ext.refl J F w
theorem bQ(h:St.leB H.length n env H env' H')(k:PWp P n p Q env' H'):PWp P n p Q env H :=
 ta λc hc J F a w hr=>by
  obtain⟨J',F',h1,h2,h3,h4,h5⟩:=h J F a w hr;exact wp_mono (qC k hc h1) λe a' w' q=>Xk (JP hr.dom (Ext.refl J F w) h2 h3 h4 h5) q
end
section
variable{P:bG}
variable{args args':bj}
theorem zpG{F:Nat->Prop}{w:bl}(hF:FOK F w){vs:List aW}(h:jr [] args args')(k:bA jX F w args vs):bA jX F w args' vs:=by
 have:=x4 (G:=λ_=>none) (W5 hF _) (H:=[]) (λi o hi=>by simp at hi) _ _ _ h k;have e:(λb=>F b\/jV jX b)=F:=funext λb=>propext ⟨λh=>h.elim id λq=>absurd q<|qj b,.inl⟩
 grind
theorem Zi{f:FuncId}{d:D}(hp:aA args)(h:jr [] args args')(k:ao P f args' d):ao P f args d :=
 ⟨k.1,λJ F w vs hF iG=>k.2 jX F w vs hF<|zpG hF h<|Cx args vs hp iG⟩
end
end
section
section
variable{P:bG}{f:FuncId}
variable{args:bj}{H0 H0':aE}{d:D}
theorem XX{H H':aE}(ρ:Nat->Nat)(hA:bZ P f args H0 d H0')(inj:∀i j,i<H0'.length->j<H0'.length->ρ i=ρ j->i=j)(hold:∀i o,H0[i]? = some o->H[ρ i]? = some (o.aP ρ))
  (pV:∀i,H0.length<=i->i<H0'.length->H.length<=ρ i) (hlen:H.length<=H'.length) (h1:∀i o,H0'[i]? = some o->H'[ρ i]? = some (o.aP ρ)) (h2:∀j,j<H.length->(∀i,i<H0.length->ρ i≠j)->H'[j]? = H[j]?)
  (iG:aG H0.length args) (qg:∀o∈H0,o.under H0.length):bZ P f (bL ρ args) H (D.aP ρ d) H':=by
 obtain⟨az,Og,kR⟩:=hA;refine⟨az,hlen,λJ F w vs bW jH uz=>?_⟩;have Pd:∀i,i<H0.length->H0[i]? = some (H0[i]!):=λi hi=>by rw[List.getElem!_eq_getElem?_getD,aX hi];rfl
 have pC:cC (dK H0.length λi=>J<|ρ i) F w λi=>H0[i]?:=by
  refine⟨λi s hs=>?_,λi i' s s' b g1 g2 g3 g4=>?_,λi s b o g1 g2 g3 g4=>?_,bW.lt⟩
  ·unfold dK at hs;split at hs
   ·rename_i hi;have ho:=Pd i hi;refine⟨_,ho,OS (qg _<|o7 ho)<|KL.2 ?_⟩;obtain⟨o',q1,q2⟩:=bW.obj (ρ i) s hs;have V1:H[ρ i]? = some o':=q1;rw[hold i _ ho] at V1;cases V1;exact q2
   cases hs
  ·unfold dK at g1 g2;split at g1<;>split at g2
   ·exact inj i i' (by omega) (by omega)<|bW.one (ρ i) (ρ i') s s' b g1 g2 g3 g4
   all_goals first|cases g1|cases g2
  unfold dK at g1;split at g1
  ·exact bW.apart (ρ i) s b (o.aP ρ) g1 g2 (hold i o g3)<|by rw[Jg];exact g4
  cases g1
 have rz:∀id,dK H0.length (λi=>J<|ρ i) id≠none->id<H0.length:=λid hid=>by
  unfold dK at hid;split at hid
  ·assumption
  exact absurd rfl hid
 have LM:bA (dK H0.length λi=>J<|ρ i) F w args vs:=A6 _ _ iG<|(uG args vs).2 uz;have own0:∀b,jV (dK H0.length λi=>J<|ρ i) b->∃i s,i<H0.length/\J (ρ i)=some s/\s.cE=some b:=λb ⟨i,s,hs,hb⟩=>by
  unfold dK at hs;split at hs
  ·exact⟨i,s,by assumption,hs,hb⟩
  cases hs
 have main:=kR _ F w vs pC rz LM;refine Calls.mono main λe w' ⟨v,J0',F',he,u6,Pj,PJ,ex⟩=>?_
 let J':bh:=λid=>match back ρ H0'.length id with|some i=>J0' i|none=>J id
 have jat:∀i,i<H0'.length->J' (ρ i)=J0' i:=λi hi=>by simp only[J',R5 inj hi]
 have jno:∀id,back ρ H0'.length id=none->J' id=J id:=λid h=>by simp only[J',h]
 have hle:J.le J':=λid s hs=>by
  cases e:back ρ H0'.length id with
  |none=>exact⟨s,by rw[jno id e];exact hs,aS _,λ_=>rfl⟩
  |some i =>
   obtain⟨k1,rfl⟩:=ph e;have hi:i<H0.length:=by
    rcases gK i H0.length with q|q
    ·exact q
    have:=pV i q k1;have:=jH (ρ i) (by rw[hs];simp);omega
   obtain⟨s',g1,g2⟩:=ex.le i s (by simp only[dK,ae hi];exact hs);exact⟨s',by rw[jat i k1];exact g1,g2⟩
 have hleρ:J0'.le λi=>J'<|ρ i:=λi s hs=>⟨s,by
  dsimp only;rw[jat i<|Pj i<|by rw[hs];simp];exact hs,aS _,λ_=>rfl⟩
 have nown:∀id s b,back ρ H0'.length id=none->J id=some s->s.cE=some b->¬jV (dK H0.length λi=>J<|ρ i) b:=λid s b hb hs kv ho=>by
  obtain⟨i,s',k1,k2,k3⟩:=own0 b ho;exact Bp hb i (by omega)<|bW.one (ρ i) id s' s b k2 hs k3 kv
 refine⟨v,J',F',he,⟨λid s hs=>?_,λid jQ s s' b g1 g2 g3 g4=>?_,λid s b o g1 g2 g3 g4=>?_,u6.lt⟩,λid hid=>?_,(DM d v).1<|kO hleρ (λ_ h=>h) (λ_ _=>rfl) _ _ PJ,?_⟩
 ·cases e:back ρ H0'.length id with
  |some i =>
   obtain⟨k1,rfl⟩:=ph e;rw[jat i k1] at hs;obtain⟨o,q1,q2⟩:=u6.obj i s hs;exact⟨o.aP ρ,h1 i o q1,KL.1<|sk hleρ (λ_ h=>h) (λ_ _=>rfl) (λ_ _=>rfl) q2⟩
  |none =>
   rw[jno id e] at hs;obtain⟨o,q1,q2⟩:=bW.obj id s hs;refine⟨o,?_,sk hle ex.grow ex.frozen (λb hb=>ex.block b (bW.jk hs hb)<|nown id s b e hs hb) q2⟩;show H'[id]? = some o;rw[h2 id (jH id<|by rw[hs];simp) λi hi=>Bp e i<|by omega];exact q1
 ·cases e:back ρ H0'.length id with
  |some i =>
   obtain⟨k1,rfl⟩:=ph e;rw[jat i k1] at g1
   cases e':back ρ H0'.length jQ with
   |some i' =>
    obtain⟨zC,rfl⟩:=ph e';rw[jat i' zC] at g2;rw[u6.one i i' s s' b g1 g2 g3 g4]
   |none =>
    rw[jno jQ e'] at g2;rcases ex.px b ⟨i,s,g1,g3⟩ with q|q
    ·exact absurd q<|nown jQ s' b e' g2 g4
    have:=bW.jk g2 g4;omega
  |none =>
   rw[jno id e] at g1
   cases e':back ρ H0'.length jQ with
   |some i' =>
    obtain⟨zC,rfl⟩:=ph e';rw[jat i' zC] at g2;rcases ex.px b ⟨i',s',g2,g4⟩ with q|q
    ·exact absurd q<|nown id s b e g1 g3
    have:=bW.jk g1 g3;omega
   |none =>
    rw[jno jQ e'] at g2;exact bW.one id jQ s s' b g1 g2 g3 g4
 ·have rD:H'[id]? = some o:=g3
  cases e:back ρ H0'.length id with
  |some i =>
   obtain⟨k1,rfl⟩:=ph e;rw[jat i k1] at g1;obtain⟨o0,q1,_⟩:=u6.obj i s g1;rw[h1 i o0 q1] at rD;cases rD;exact u6.apart i s b o0 g1 g2 q1<|by rw[Jg] at g4;exact g4
  |none =>
   rw[jno id e] at g1;rw[h2 id (jH id<|by rw[g1];simp) λi hi=>Bp e i<|by omega] at rD;intro hx;rcases ex.pJ b hx with q|q|q
   ·exact bW.apart id s b o g1 g2 rD g4 q
   ·exact nown id s b e g1 g2 q
   have:=bW.jk g1 g2;omega
 ·cases e:back ρ H0'.length id with
  |some i =>
   obtain⟨k1,rfl⟩:=ph e;have:=h1 i _<|aX k1;exact nY this
  |none =>
   rw[jno id e] at hid;have:=jH id hid;omega
 refine⟨ex.os,ex.tape,ex.output,ex.size,λb hb hn=>ex.block b hb λho=>?_,ex.frozen,hle,ex.grow,λb ⟨id,s,hs,hb⟩=>?_,λb hb=>?_⟩
 ·obtain⟨i,s,_,k2,k3⟩:=own0 b ho;exact hn ⟨ρ i,s,k2,k3⟩
 ·cases e:back ρ H0'.length id with
  |some i =>
   obtain⟨k1,rfl⟩:=ph e;rw[jat i k1] at hs;refine(ex.px b ⟨i,s,hs,hb⟩).imp_left λq=>?_;obtain⟨k,s',_,k2,k3⟩:=own0 b q;exact⟨ρ k,s',k2,k3⟩
  |none =>
   rw[jno id e] at hs;exact .inl ⟨id,s,hs,hb⟩
 rcases ex.pJ b hb with q|q|q
 ·exact .inl q
 ·obtain⟨k,s',_,k2,k3⟩:=own0 b q;exact .inr (.inl ⟨ρ k,s',k2,k3⟩)
 exact .inr (.inr q)
variable{pre post cs gA:bj}
theorem r7(h:bZ P f (pre++.loc 0 0::post) [.row true cs] d [.row true gA])(Ax:aA pre)(y0:aA post)(Bf:aA cs)(Qs:aA gA)(hd:Pure d)
  {H:aE} {id:Nat} (hid:H[id]? = some (.row true cs)):bZ P f (pre++.loc id 0::post) H d<|H.set id (.row true gA):=by
 have uo:∀(a b:bj) (ρ:Nat->Nat),bL ρ (a++b)=bL ρ a++bL ρ b:=λa b ρ=>by
  induction a with
  |nil=>simp only[bL,nG]
  |cons x r ih=>simp only[pQ,bL,ih]
 have E5:∀(a b:bj),aG 1 a->aG 1 b->aG 1 (a++b):=λa b ha hb=>by
  induction a with
  |nil=>exact hb
  |cons x r ih=>simp only[aG,pQ] at ha⊢;exact⟨ha.1,ih ha.2⟩
 have one:∀(i:Nat) (x y:al),[x][i]? = some y->i=0/\y=x:=λi x y h=>by
  cases i with
  |zero=>simp at h;exact⟨rfl,h.symm⟩
  |succ i=>simp at h
 have:=XX (H:=H) (H':=H.set id (.row true gA)) (λ_=>id) h (λi j hi hj _=>by simp at hi hj;omega) (λi o ho=>by
   obtain⟨_,rfl⟩:=one i _ o ho;simp only[al.aP,mj cs Bf];exact hid) (λi h1 h2=>by simp at h1 h2;omega) (by simp) (λi o ho=>by
   obtain⟨_,rfl⟩:=one i _ o ho;simp only[al.aP,mj gA Qs];rw[EP<|nY hid]) (λj hj b9=>by
   rw[DS<|b9 0<|by simp]) (by
   refine E5 _ _ (bI _ Ax) ?_;simp only[aG,aK];exact⟨by simp,bI _ y0⟩) (λo ho=>by
   simp at ho;subst ho;exact bI _ Bf)
 rw[uo,mj _ Ax,iQ _ hd] at this;simpa only[bL,D.aP,mj _ y0] using this
def mF:aE->List Nat->aE->aE
 |H,i::L,o::r=>mF (H.set i o) L r
 |H,_,_=>H
theorem zM:∀(L:List Nat) (os H:aE),(mF H L os).length=H.length
 |[],os,H=>by cases os<;>rfl
 |i::L,[],H=>rfl
 |i::L,o::r,H=>by simp only[mF];rw[zM L r];simp
theorem KT:∀(L:List Nat) (os H:aE) (j:Nat),j ∉ L->(mF H L os)[j]? = H[j]?
 |[],os,H,j,_=>by cases os<;>rfl
 |i::L,[],H,j,_=>rfl
 |i::L,o::r,H,j,h=>by
  simp only[mF];rw[KT L r _ j λq=>h<|by simp[q],DS λe=>h<|by simp[e]]
theorem IW:∀(L:List Nat) (os H:aE) (k:Nat) (o:al),L.Nodup->(∀i∈L,i<H.length)->k<L.length->os[k]? = some o->(mF H L os)[L.getD k 0]? = some o
 |[],os,H,k,o,_,_,h,_=>by simp at h
 |i::L,[],H,k,o,_,_,_,h=>by simp at h
 |i::L,x::r,H,0,o,hn,hl,_,h=>by
  simp only[mF,It];rw[KT L r _ i (List.nodup_cons.1 hn).1,EP<|hl i<|by simp];simpa using h
 |i::L,x::r,H,k+1,o,hn,hl,hk,h=>by
  simp only[mF,yI];exact IW L r _ k o (List.nodup_cons.1 hn).2 (λj hj=>by simpa using hl j<|by simp[hj]) (by simpa using hk)<|by simpa using h
variable{args0:bj}{d0:D}
theorem FL(hA:bZ P f args0 H0 d0 H0')(hl:H0'.length=H0.length)(L:List Nat)(hL:L.length=H0.length)(fE:L.Nodup)
  (iG:aG H0.length args0) (qg:dX H0.length H0) {args:bj} {d:D} {H:aE} (e1:bL (λi=>L.getD i 0) args0=args) (e2:D.aP (λi=>L.getD i 0) d0=d)
  (h1:∀i o,H0[i]? = some o->H[L.getD i 0]? = some (o.aP λi=>L.getD i 0)):ov P f args H d (mF H L<|H0'.map<|al.aP λi=>L.getD i 0) L:=by
 subst e1 e2;have mem:∀{j},j∈L↔∃i,i<H0.length/\L.getD i 0=j:=λ{j}=>by
  rw[iD];constructor
  ·rintro⟨i,hi,rfl⟩;exact⟨i,by omega,by rw[a8,aX hi];rfl⟩
  rintro⟨i,hi,rfl⟩;exact⟨i,by omega,by rw[a8,aX<|by omega];rfl⟩
 have bE:∀id∈L,id<H.length:=λid hid=>by
  obtain⟨i,hi,rfl⟩:=mem.1 hid;exact nY<|h1 i _<|aX hi
 have inj:∀i j,i<H0'.length->j<H0'.length->L.getD i 0=L.getD j 0->i=j:=λi j hi hj e=>by
  rw[a8,a8,aX<|by omega,aX<|by omega] at e;exact(List.getElem_inj fE).1 e
 refine⟨hA.ok,by rw[zM];exact aS _,λid hid=>KT _ _ _ _ hid,λid hid=>by rw[zM];exact bE id hid,λJ F w vs G bW hG _ uz=>?_⟩;have core:=QF (G:=G) (G':=λid=>if id∈L then (mF H L<|H0'.map<|al.aP λi=>L.getD i 0)[id]? else G id) (λi=>L.getD i 0) hA inj bW (λi o ho=>by
   rw[hG _<|mem.2 ⟨i,nY ho,rfl⟩];exact h1 i o ho) (λi h1 h2=>by omega) uz (λi o ho=>by
   have hi:=nY ho;rw[ae<|mem.2 ⟨i,by omega,rfl⟩];exact IW L _ H i _ fE bE (by omega)<|by rw[fx,ho];rfl) (λj hj=>by
   rw[ab λh=>by obtain⟨i,hi,e⟩:=mem.1 h;exact hj i (by omega) e]) iG (CB qg)
 refine core.mono λe w' ⟨v,J',F',q1,q2,q3,q4,q5⟩=>⟨v,J',F',q1,q2,λid hid=>(q3 id hid).imp_right λ⟨i,hi,e⟩=>mem.2 ⟨i,by omega,e⟩,q4,q5⟩
theorem OU(hA:bZ P f args0 H0 d0 H0)(L:List Nat)(hL:L.length=H0.length)(fE:L.Nodup)
  (iG:aG H0.length args0) (qg:dX H0.length H0) {args:bj} {d:D} {H:aE} (e1:bL (λi=>L.getD i 0) args0=args) (e2:D.aP (λi=>L.getD i 0) d0=d)
  (h1:∀i o,H0[i]? = some o->H[L.getD i 0]? = some (o.aP λi=>L.getD i 0)) (m:Nat) {q:Bool} {cs:bj} (hm:D.loc m 0∈args) (cR:H[m]? = some (.row q cs)) (hmL:m∈L) (aY:∀id∈L,id=m\/∃v lo hi,D.own id v lo hi∈cs):B7 P f args H d L:=by
 have wQ:=FL hA rfl L hL fE iG qg e1 e2 h1;have bE:∀id∈L,id<H.length/\(mF H L<|H0.map<|al.aP λi=>L.getD i 0)[id]? = H[id]?:=λid hid=>by
  obtain⟨i,hi,rfl⟩:=iD.1 hid;have e:L.getD i 0=L[i]:=(by rw[a8,aX hi];rfl);have hk:=h1 i _<|aX (by omega);rw[<-e];refine⟨nY hk,?_⟩;rw[hk];refine IW L _ H i _ fE (λj hj=>?_) hi (by rw[fx,aX<|by omega];rfl);obtain⟨i',aT,rfl⟩:=iD.1 hj;have:=nY<|h1 i' _<|aX<|by omega
  grind
 refine⟨hA.ok,λJ F w vs G az hG uz=>?_⟩;have hJm:∃s,J m=some s:=by
  have:∀(ds:bj) (us:List aW),D.loc m 0∈ds->bA J F w ds us->∃s,J m=some s:=λds=>by
   induction ds with
   |nil=>intro us h;simp at h
   |cons x r ih =>
    intro us h k;simp only[bA] at k;obtain⟨v,us,rfl,k1,k2⟩:=k;rcases eQ.1 h with rfl|h
    ·simp only[rep] at k1
     grind
    grind
  grind
 have hJ:∀id∈L,J id≠none:=λid hid=>by
  obtain⟨s,hs⟩:=hJm;rcases aY id hid with rfl|⟨v,lo,hi,hc⟩
  ·rw[hs];simp
  obtain⟨o,k1,k2⟩:=az.obj m s hs;rw[hG m hmL,cR] at k1;cases k1;obtain⟨_,_,_,_,_,b,vals,te,_,_,_,k3,_⟩:=k2;have:∀(ds:bj) (n:Nat),D.own id v lo hi∈ds->dY J F w b ds n->J id≠none:=λds=>by
   induction ds with
   |nil=>intro n h;simp at h
   |cons x r ih =>
    intro n h k;simp only[dY] at k;obtain⟨⟨u,_,_,k1⟩,k2⟩:=k;rcases eQ.1 h with rfl|h
    ·simp only[rep] at k1;obtain⟨s',_,_,_,k1,_⟩:=k1;rw[k1];simp
    exact ih _ h k2
  exact this _ _ hc k3
 refine(wQ.run J F w vs G az hG (λid hid AN=>by have:=(bE id hid).1;omega) uz).mono λe w' hR=>?_;obtain⟨v,J',F',rfl,k1,k2,k3,k4⟩:=hR;refine⟨v,J',F',rfl,?_,λid h=>(k2 id h).elim (λh=>h)<|hJ id,k3,k4⟩;have e:(λid=>if id∈L then (mF H L<|H0.map<|al.aP λi=>L.getD i 0)[id]? else G id)=G:=by
  grind
 grind
def Cg(L:List Nat)(h n:Nat):List Nat:=L++List.range' h n
theorem PL(hA:bZ P f args0 H0 d0 H0')(L:List Nat)(hL:L.length=H0.length)(fE:L.Nodup)
  (iG:aG H0.length args0) (qg:dX H0.length H0) {args:bj} {d:D} {H:aE} (W:List Nat) (hW:W=Cg L H.length (H0'.length-H0.length)) (e1:bL (λi=>W.getD i 0) args0=args) (e2:D.aP (λi=>W.getD i 0) d0=d)
  (h1:∀i o,H0[i]? = some o->H[L.getD i 0]? = some (o.aP λi=>W.getD i 0)) {H2:aE} (e3:mF H L ((H0'.take H0.length).map<|al.aP λi=>W.getD i 0)++(H0'.drop H0.length).map (al.aP λi=>W.getD i 0)=H2):ov P f args H d H2 W:=by
 subst e1 e2 e3;have Og:=hA.len;have bE:∀id∈L,id<H.length:=λid hid=>by
  obtain⟨i,hi,rfl⟩:=iD.1 hid;have:=nY<|h1 i _<|aX (by omega);rwa [a8,aX hi] at this
 have hWl:W.length=H0'.length:=by rw[hW,Cg,cL,List.length_range'];omega
 have hWn:W.Nodup:=by
  rw[hW,Cg,List.nodup_append];refine⟨fE,List.nodup_range',λa ha b hb e=>?_⟩;have:=bE a ha;have:=(List.mem_range'_1.1 hb).1;omega
 have mem:∀{j},j∈W↔∃i,i<H0'.length/\W.getD i 0=j:=λ{j}=>by
  rw[iD];constructor
  ·rintro⟨i,hi,rfl⟩;exact⟨i,by omega,by rw[a8,aX hi];rfl⟩
  rintro⟨i,hi,rfl⟩;exact⟨i,by omega,by rw[a8,aX<|by omega];rfl⟩
 have inj:∀i j,i<H0'.length->j<H0'.length->W.getD i 0=W.getD j 0->i=j:=λi j hi hj e=>by
  rw[a8,a8,aX<|by omega,aX<|by omega] at e;exact(List.getElem_inj hWn).1 e
 have wold:∀i,i<L.length->W.getD i 0=L.getD i 0:=λi hi=>by
  rw[hW,Cg,a8,iz hi,a8]
 have wnew:∀i,L.length<=i->i<H0'.length->W.getD i 0=H.length+(i-L.length):=λi h1 h2=>by
  rw[hW,Cg,a8,jF h1,List.getElem?_range'<|by omega];simp
 have hN:(mF H L ((H0'.take H0.length).map<|al.aP λi=>W.getD i 0)++(H0'.drop H0.length).map (al.aP λi=>W.getD i 0)).length=H.length+(H0'.length-H0.length):=by
  rw[cL,zM,aI,lD]
 have at2:∀i o,H0'[i]? = some o->(mF H L ((H0'.take H0.length).map<|al.aP λi=>W.getD i 0)++(H0'.drop H0.length).map (al.aP λi=>W.getD i 0))[W.getD i 0]? = some (o.aP λi=>W.getD i 0):=λi o ho=>by
  have hi:=nY ho;rcases gK i L.length with q|q
  ·rw[wold i q,iz<|by rw[zM];exact bE _<|by rw[a8,aX q];exact iZ q];refine IW L _ H i _ fE bE q ?_;rw[fx,List.getElem?_take_of_lt<|by omega,ho];rfl
  rw[wnew i q hi,jF<|by rw[zM];omega,zM,fx,Dr,show H0.length+(H.length+(i-L.length)-H.length)=i by omega,ho];rfl
 refine⟨hA.ok,by rw[hN];omega,λid hid=>?_,λid hid=>?_,λJ F w vs G bW hG AD uz=>?_⟩
 ·have h2:id ∉ L:=λh=>hid (by rw[hW,Cg];exact Fh _ h);rcases gK id H.length with q|q
  ·rw[iz<|by rw[zM];exact q,KT _ _ _ _ h2]
  rcases gK id<|H.length+(H0'.length-H0.length) with q2|q2
  ·exact absurd (by rw[hW,Cg];exact zy _<|List.mem_range'_1.2 ⟨q,q2⟩) hid
  rw[dG q,dG<|by rw[hN];exact q2]
 ·obtain⟨i,hi,rfl⟩:=mem.1 hid;exact nY<|at2 i _<|aX hi
 have core:=QF (G:=G) (G':=λid=>if id∈W then (mF H L ((H0'.take H0.length).map<|al.aP λi=>W.getD i 0)++(H0'.drop H0.length).map (al.aP λi=>W.getD i 0))[id]? else G id) (λi=>W.getD i 0) hA inj bW (λi o ho=>by
   have hi:=nY ho;rw[hG _<|mem.2 ⟨i,by omega,rfl⟩,wold i<|by omega];exact h1 i o ho) (λi q1 q2=>by
   refine AD _ (mem.2 ⟨i,q2,rfl⟩) ?_;rw[wnew i (by omega) q2];omega) uz (λi o ho=>by
   rw[ae<|mem.2 ⟨i,nY ho,rfl⟩];exact at2 i o ho) (λj hj=>by
   rw[ab λh=>by obtain⟨i,hi,e⟩:=mem.1 h;exact hj i hi e]) iG (CB qg)
 exact core.mono λe w' ⟨v,J',F',q1,q2,q3,q4,q5⟩=>⟨v,J',F',q1,q2,λid hid=>(q3 id hid).imp_right λ⟨i,hi,e⟩=>mem.2 ⟨i,hi,e⟩,q4,q5⟩
theorem rA(hA:bZ P f args [] d0 H0')(hp:aA args){H H2:aE}(W:List Nat)(hW:W=List.range' H.length H0'.length)(e2:D.aP (λi=>W.getD i 0) d0=d)
  (e3:H++H0'.map (al.aP λi=>W.getD i 0)=H2):ov P f args H d H2 W :=
 PL hA [] rfl .nil (bI _ hp) trivial W (by rw[hW];rfl) (mj _ hp) e2 (λi o h=>by simp at h) (by rw[<-e3];rfl)
theorem uh(h:bZ P f (pre++.loc 0 0::post) [.row true cs] d [.row true gA])(Ax:aA pre)(y0:aA post)(Bf:aA cs)(Qs:aA gA)(hd:Pure d)
  {H:aE} {id:Nat} (hid:H[id]? = some (.row true cs)):ov P f (pre++.loc id 0::post) H d (H.set id (.row true gA)) [id]:=by
 have uo:∀(a b:bj) (ρ:Nat->Nat),bL ρ (a++b)=bL ρ a++bL ρ b:=λa b ρ=>by
  induction a with
  |nil=>simp only[bL,nG]
  |cons x r ih=>simp only[pQ,bL,ih]
 have E5:∀(a b:bj),aG 1 a->aG 1 b->aG 1 (a++b):=λa b ha hb=>by
  induction a with
  |nil=>exact hb
  |cons x r ih=>simp only[aG,pQ] at ha⊢;exact⟨ha.1,ih ha.2⟩
 have:=FL h rfl [id] rfl (by simp) (E5 _ _ (bI _ Ax) ⟨by simp[aK],bI _ y0⟩) ⟨bI _ Bf,trivial⟩ (H:=H) (args:=pre++.loc id 0::post) (d:=d)
  (by rw[uo,mj _ Ax];simp only[bL,D.aP,mj _ y0];rfl) (iQ _ hd) (λi o ho=>by
   cases i with
   |zero=>simp at ho;subst ho;simp only[al.aP,mj cs Bf];exact hid
   |succ i=>simp at ho)
 simpa only[fR,jc,mF,al.aP,mj gA Qs] using this
end
end
section
section
variable{P:bG}{n:Nat}
def endD(d:D)(H2:aE)(r:D)(Hf:aE):Prop:=iP (mq H2.length) Hf r d/\xv H2.length Hf Hf H2
theorem oQ{f:FuncId}{rs:List RV}{p:PC}{args:bj}{H:aE}{d:D}{H2:aE}(hf:wT P f n rs p)(hn:args.length<=n)(hlen:H.length<=H2.length)
  (h:PWp P n p (DP rs λr Hf=>endD d H2 r Hf) (params 0 args) H) (hd:aK H2.length d):bZ P f args H d H2:=by
 refine⟨OI hf,hlen,λJ F w vs az jH iG=>?_⟩;obtain⟨fn,h1,h2,h3,h4,h5⟩:=hf.out
 cases e:fn.body with
 |none=>rw[e] at h5;cases h5
 |some c =>
  rw[e] at h5;simp only[zK] at h5;refine calls_of_wp h1 e ?_;rw[h2];refine wp_mono (qC h h5<|MT hn iG az jH) λe' a' w' ⟨env',H',J',F',q1,q2,q3⟩=>?_;have fin:e'=.normal\/e'=.ret->a'.defers=[]/\∃v,(results fn a'.tmps).run P w'=.ok v w'/\∃v' J'' F'',Ending.returned v=Ending.returned v'/\cC J'' F'' w' (λi=>H2[i]?)/\(∀id,J'' id≠none->id<H2.length)/\rep J'' F'' w' d v'/\Ext J F w J'' F'' w':=λhe=>by
   obtain⟨r,v,⟨Iz,fN⟩,k2,k3⟩:=Qy h4 q2 he q1;have uW:=q2.ok;have kle:(dK H2.length J').le J':=λi s hs=>by
    unfold dK at hs;split at hs
    ·exact⟨s,hs,aS _,λ_=>rfl⟩
    cases hs
   refine⟨q2.defers,v,k2,v,dK H2.length J',λb=>F' b\/AO (mq H2.length) J' b,rfl,⟨λi s hs=>?_,λi i' s s' b g1 g2 g3 g4=>?_,λi s b o g1 g2 g3 g4=>?_,uW.lt.mono (λ_ h=>.inl h) (λ_ _=>rfl) λb hb=>?_⟩,λi hi=>?_,Gw _ _ hd<|F4 uW _ _ _ Iz k3,?_⟩
   ·unfold dK at hs;split at hs
    ·rename_i hi;obtain⟨o,g1,g2⟩:=uW.obj i s hs;obtain⟨o',g3,g4⟩:=G0 H' H2 fN i o hi g1;exact⟨o',g3,(KH uW g4 g2).1⟩
    cases hs
   ·unfold dK at g1 g2;split at g1<;>split at g2
    ·exact uW.one i i' s s' b g1 g2 g3 g4
    all_goals first|cases g1|cases g2
   ·unfold dK at g1;split at g1
    ·rename_i hi;obtain⟨o1,t1,t2⟩:=uW.obj i s g1;obtain⟨o',t3,t4⟩:=G0 H' H2 fN i o1 hi t1;have rD:H2[i]? = some o:=g3;rw[rD] at t3;cases t3;have zj:=(KH uW t4 t2).2;rintro(hx|⟨i',s',p1,p2,p3⟩)
     ·exact uW.apart i s b o1 g1 g2 t1 (by rw[<-zj];exact g4) hx
     have p1:=Sz.1 p1;have:=uW.one i i' s s' b g1 p2 g2 p3;omega
    cases g1
   ·exact hb.elim (uW.lt b) λ⟨i,s,_,t1,t2⟩=>uW.jk t1 t2
   ·unfold dK at hi;split at hi
    ·assumption
    exact absurd rfl hi
   refine⟨q3.os,q3.tape,q3.output,q3.size,q3.block,q3.frozen,λi s hs=>?_,λb hb=>.inl<|q3.grow b hb,λb ⟨i,s,hs,hb⟩=>?_,λb hb=>?_⟩
   ·obtain⟨s',g1,g2,g3⟩:=q3.le i s hs;have hi:i<H2.length:=(by have:=jH i (by rw[hs];simp);omega);exact⟨s',by simp[dK,hi,g1],g2,g3⟩
   ·obtain⟨s',g1,_⟩:=kle i s hs;unfold dK at hs;split at hs
    ·exact q3.px b ⟨i,s,hs,hb⟩
    cases hs
   rcases hb with hb|⟨i,s,_,t1,t2⟩
   ·exact q3.pJ b hb
   rcases q3.px b ⟨i,s,t1,t2⟩ with q|q
   ·exact .inr (.inl q)
   exact .inr (.inr q)
  cases e' with
  |normal=>exact fin (.inl rfl)
  |ret=>exact fin (.inr rfl)
  |exit id=>exact q1.elim
  |goto l=>exact q1.elim
  |panic ch=>exact q1.elim
  |outgrown=>exact q1.elim
end
end
section
abbrev WP:=iY->Env->aE->Prop
def X8:WP:=λQ env H=>Q .normal env H
def seqQ(g:WP)(Q:iY):iY:=λe env H=>match e with
 | .normal=>g Q env H
 |e=>Q e env H
def seqW(f g:WP):WP:=λQ env H=>f (seqQ g Q) env H
def S8(c:bn)(f g:WP):WP:=λQ env H=>dT env c λd=>match d with
 | .sc (.bool t)=>ifK t (f Q env H)<|g Q env H
 |_=>False
def zB5(id:Nat)(Q:iY):iY:=λe env H=>match e with
 | .exit jQ=>match Nat.beq jQ id with
  |true=>Q .normal env H
  |false=>Q (.exit jQ) env H
 |e=>Q e env H
def Ur(id:Nat)(f:WP):WP:=λQ env H=>f (zB5 id Q) env H
def Yy(P:bG)(n:Nat)(c:PC):WP:=λQ env H=>PWp P n (.loop c) Q env H
def Uu(P:bG)(n:Nat)(c:PC):WP:=λQ env H=>PWp P n c Q env H
def Wp(id:Nat):WP:=λQ env H=>Q (.exit id) env H
def retW:WP:=λQ env H=>Q .ret env H
abbrev WO:=Env->aE->(Env->aE->Prop)->Prop
def nilO:WO:=λenv H K=>K env H
def opO(P:bG)(o:cO)(g:WO):WO:=λenv H K =>
 match o.guard with
 |none=>step P true o.op env H λd H' _ _=>match o.dst with
  |some t=>g ((t,d)::env) H' K
  |none=>g env H' K
 |some (t,b)=>ux t (λq=>match q with
  | .sc (.bool c)=>match b with
   |true=>ifK c
    (step P true o.op env H λd H' _ _=>match o.dst with
     |some u=>g ((u,d)::env) H' K
     |none=>g env H' K)
    (match o.dst with
     |some u=>g ((u,.sc undef)::env) H K
     |none=>g env H K)
   |false=>ifK c
    (match o.dst with
     |some u=>g ((u,.sc undef)::env) H K
     |none=>g env H K)
    (step P true o.op env H λd H' _ _=>match o.dst with
     |some u=>g ((u,d)::env) H' K
     |none=>g env H' K)
  | .sc (.tuple _)=>match o.dst with
   |some u=>g ((u,.sc undef)::env) H K
   |none=>g env H K
  |_=>False) env
def opsW(f:WO):WP:=λQ env H=>f env H λenv H=>Q .normal env H
abbrev WD:=Env->aE->(Env->aE->Trace->Prop)->Prop
def nilD:WD:=λenv H K=>K env H []
def opD(P:bG)(o:cO)(g:WD):WD:=λenv H K =>
 match o.guard with
 |none=>step P false o.op env H λd H' rd wr=>match o.dst with
  |some t=>g ((t,d)::env) H' λe h tr=>K e h<|((rd,wr),(B3 o.op env,d,H'))::tr
  |none=>g env H' λe h tr=>K e h<|((rd,wr),(B3 o.op env,d,H'))::tr
 |some (t,b)=>ux t (λq=>match q with
  | .sc (.bool c)=>match b with
   |true=>ifK c
    (step P false o.op env H λd H' rd wr=>match o.dst with
     |some u=>g ((u,d)::env) H' λe h tr=>K e h<|((rd,wr),(none,d,H'))::tr
     |none=>g env H' λe h tr=>K e h<|((rd,wr),(none,d,H'))::tr)
    (match o.dst with
     |some u=>g ((u,.sc undef)::env) H λe h tr=>K e h<|(([],[]),(none,.sc undef,H))::tr
     |none=>g env H λe h tr=>K e h<|(([],[]),(none,.sc undef,H))::tr)
   |false=>ifK c
    (match o.dst with
     |some u=>g ((u,.sc undef)::env) H λe h tr=>K e h<|(([],[]),(none,.sc undef,H))::tr
     |none=>g env H λe h tr=>K e h<|(([],[]),(none,.sc undef,H))::tr)
    (step P false o.op env H λd H' rd wr=>match o.dst with
     |some u=>g ((u,d)::env) H' λe h tr=>K e h<|((rd,wr),(none,d,H'))::tr
     |none=>g env H' λe h tr=>K e h<|((rd,wr),(none,d,H'))::tr)
  | .sc (.tuple _)=>match o.dst with
   |some u=>g ((u,.sc undef)::env) H λe h tr=>K e h<|(([],[]),(none,.sc undef,H))::tr
   |none=>g env H λe h tr=>K e h<|(([],[]),(none,.sc undef,H))::tr
  |_=>False) env
def YH(l:List cO)(f:WD):WP:=λQ env H=>f env H λe h tr=>match DD [] l tr with
 |true=>Q .normal e h
 |false=>match Dg [] l tr with
  |true=>Eh (Q .normal e h) 0 [] l tr
  |false=>False
section
variable{P:bG}{n:Nat}
def xU(P:bG)(l:List cO)(f:WO):Prop:=f=nj P l
def yL(P:bG)(l:List cO)(f:WD):Prop:=f=oq P l
def Red(P:bG)(n:Nat)(p:PC)(f:WP):Prop:=f=pw P n p
theorem xU.nil:xU P [] nilO:=rfl
variable(o:cO){l:List cO}
theorem xU.cons{g:WO}(h:xU P l g):xU P (o::l)<|opO P o g:=by
 unfold xU at h⊢;subst h;funext env H K;rfl
theorem yL.nil:yL P [] nilD:=rfl
theorem yL.cons{g:WD}(h:yL P l g):yL P (o::l)<|opD P o g:=by
 unfold yL at h⊢;subst h;funext env H K;rfl
theorem Red.skip:Red P n .skip X8:=rfl
theorem Red.ops{l:List cO}{f:WO}(h:xU P l f):Red P n (.ops l false)<|opsW f:=by
 unfold xU at h;subst h;rfl
theorem Red.draw{f:WD}(h:yL P l f):Red P n (.ops l true)<|YH l f:=by
 unfold yL at h;subst h;rfl
theorem Red.seq{a b:PC}{f g:WP}(h:Red P n a f)(k:Red P n b g):Red P n (.seq a b)<|seqW f g:=by
 unfold Red at h k;subst h;subst k;rfl
theorem Red.cond(c:bn){a b:PC}{f g:WP}(h:Red P n a f)(k:Red P n b g):Red P n (.cond c a b)<|S8 c f g:=by
 unfold Red at h k;subst h;subst k;rfl
theorem Red.block(id:Nat){a:PC}{f:WP}(h:Red P n a f):Red P n (.block id a)<|Ur id f:=by
 unfold Red at h;subst h;rfl
theorem Red.loop(c:PC):Red P n (.loop c)<|Yy P n c:=rfl
theorem Red.stop(c:PC):Red P n (.stop c)<|Uu P n c:=rfl
theorem Red.exit(id:Nat):Red P n (.exit id)<|Wp id:=rfl
theorem Red.ret:Red P n .ret retW:=rfl
variable{f:WP}{p:PC}{Q:iY}{env:Env}{H:aE}
theorem zt5(h:Red P n p f)(k:f Q env H):PWp P n p Q env H :=
 EN _ _ _ _ (by unfold Red at h;subst h;exact k)
inductive RdO(P:bG):List cO->WO->Prop
 |nil:RdO P [] nilO
 |cons {o:cO} {l:List cO} {g:WO} (h:RdO P l g):RdO P (o::l) (opO P o g)
inductive RdD(P:bG):List cO->WD->Prop
 |nil:RdD P [] nilD
 |cons {o:cO} {l:List cO} {g:WD} (h:RdD P l g):RdD P (o::l) (opD P o g)
inductive Rd(P:bG)(n:Nat):PC->WP->Prop
 |skip:Rd P n .skip X8
 |ret:Rd P n .ret retW
 |exit {id:Nat}:Rd P n (.exit id) (Wp id)
 |loop {c:PC}:Rd P n (.loop c) (Yy P n c)
 |stop {c:PC}:Rd P n (.stop c) (Uu P n c)
 |ops {l:List cO} {f:WO} (h:RdO P l f):Rd P n (.ops l false) (opsW f)
 |draw {l:List cO} {f:WD} (h:RdD P l f):Rd P n (.ops l true) (YH l f)
 |seq {a b:PC} {f g:WP} (h:Rd P n a f) (k:Rd P n b g):Rd P n (.seq a b) (seqW f g)
 |cond {c:bn} {a b:PC} {f g:WP} (h:Rd P n a f) (k:Rd P n b g):Rd P n (.cond c a b) (S8 c f g)
 |block {id:Nat} {a:PC} {f:WP} (h:Rd P n a f):Rd P n (.block id a) (Ur id f)
theorem RdO.red{f:WO}(h:RdO P l f):xU P l f:=by
 induction h with
 |nil=>exact .nil
 |cons _ ih=>exact .cons _ ih
theorem RdD.red{f:WD}(h:RdD P l f):yL P l f:=by
 induction h with
 |nil=>exact .nil
 |cons _ ih=>exact .cons _ ih
theorem Rd.red{p:PC}{f:WP}(h:Rd P n p f):Red P n p f:=by
 induction h with
 |skip=>exact .skip
 |ret=>exact .ret
 |exit=>exact .exit _
 |loop=>exact .loop _
 |stop=>exact .stop _
 |ops h=>exact .ops h.red
 |draw h=>exact .draw h.red
 |seq _ _ ih ik=>exact .seq ih ik
 |cond _ _ ih ik=>exact .cond _ ih ik
 |block _ ih=>exact .block _ ih
theorem ry(h:Rd P n p f)(k:f Q env H):PWp P n p Q env H:=zt5 h.red k
end
end
section
theorem gG{L n:Nat}(id j an:Nat){env:Env}{H:aE}{cs:bj}{t:Option bp}(hL:L<=H.length)(hid:H[id]? = some (.row true cs t))(hj:cs[j]? = some au)(z:Bool:=false) :
  St.leB L n env H env (H.set id (.row true (cs.set j (.own H.length 0 0 0)) t)++[.vec true 0 an [] z]):=λJ F a w hr=>by
 have Gd:J H.length=none:=by
  cases e:J H.length with
  |none=>rfl
  |some s=>have:=hr.dom H.length (by rw[e];simp);omega
 have yN:=nY hid
 let J':bh:=λi=>if i=H.length then some ⟨false,0,none,an,0,0⟩ else J i
 have hle:J.le J':=λi s hs=>⟨s,by
  have:i≠H.length:=λe=>by subst e;rw[Gd] at hs;cases hs
  simp[J',this,hs],aS _,λ_=>rfl⟩
 have pX:∀i,i≠H.length->i≠id->(H.set id (.row true (cs.set j (.own H.length 0 0 0)) t)++[al.vec true 0 an [] z])[i]? = H[i]?:=λi hi b9=>by
  rcases gK i H.length with q|q
  ·rw[iz<|by simpa using q,DS λe=>b9 e.symm]
  rw[dG q,dG<|by simp;omega]
 have MJ:(H.set id (.row true (cs.set j (.own H.length 0 0 0)) t)++[al.vec true 0 an [] z])[id]? = some (.row true (cs.set j (.own H.length 0 0 0)) t):=by
  rw[iz<|by simpa using yN,EP yN]
 have pV:∀v,v=Value.slice none 0 0->rep J' F w (.own H.length 0 0 0) v:=λv hv=>by
  simp only[rep];exact⟨_,none,0,0,by simp[J'];rfl,hv,aS _,λ_=>⟨rfl,aS _,kZ _,rfl,rfl,.inl rfl⟩⟩
 refine⟨J',F,⟨hr.defers,hr.size,λu=>kO hle (λ_ h=>h) (λ_ _=>rfl) _ _<|hr.tmps u,⟨λi s hs=>?_,λi i' s s' b g1 g2 g3 g4=>?_,λi s b o g1 g2 g3 g4=>?_,hr.ok.lt⟩,λi hi=>?_⟩,λi s hi hs=>?_,λb hb=>hb,λb ⟨i,s,hs,hb⟩=>?_,λb hb=>.inl hb⟩
 ·simp only[J'] at hs;split at hs
  ·rename_i e;subst e;cases hs;exact⟨.vec true 0 an [] z,by simp,rfl,rfl,rfl,rfl,aS _,.inl rfl⟩
  rename_i e;obtain⟨o,h1,h2⟩:=hr.ok.obj i s hs;by_cases e2:i=id
  ·subst e2;have Ft:H[i]? = some o:=h1;rw[hid] at Ft;cases Ft;obtain⟨k1,k2,k3,k4,k5,b,vals,te,t1,t2,t3,t4,t5⟩:=h2;refine⟨_,MJ,k1,k2,k3,by rw[tU];exact k4,by rw[tU];exact k5,b,vals,te,t1,t2,by rw[tU];exact t3,rU _ _ λq c hq=>?_,t5⟩;by_cases e3:q=j
   ·subst e3;rw[EP<|nY hj] at hq;cases hq;obtain⟨u,p1,p2,p3⟩:=rn _ _ _ _ hj t4;simp only[rep] at p3;exact⟨u,p1,p2,pV u p3⟩
   rw[DS λe=>e3 e.symm] at hq;obtain⟨u,p1,p2,p3⟩:=rn _ _ _ _ hq t4;exact⟨u,p1,p2,kO hle (λ_ h=>h) (λ_ _=>rfl) _ _ p3⟩
  exact⟨o,by rw[pX i e e2];exact h1,sk hle (λ_ h=>h) (λ_ _=>rfl) (λ_ _=>rfl) h2⟩
 ·simp only[J'] at g1 g2;split at g1
  ·cases g1;simp[Site.cE] at g3
  split at g2
  ·cases g2;simp[Site.cE] at g4
  exact hr.ok.one i i' s s' b g1 g2 g3 g4
 ·simp only[J'] at g1;split at g1
  ·cases g1;simp[Site.cE] at g2
  rename_i e;by_cases e2:i=id
  ·subst e2;exact hr.ok.apart i s b _ g1 g2 hid rfl
  exact hr.ok.apart i s b o g1 g2 (by rw[<-pX i e e2];exact g3) g4
 ·simp only[J'] at hi;rw[cL,lb,tU];split at hi
  ·omega
  have:=hr.dom i hi;omega
 ·have:i≠H.length:=by omega
  simp[J',this,hs]
 simp only[J'] at hs;split at hs
 ·cases hs;simp[Site.cE] at hb
 exact⟨i,s,hs,hb⟩
end
section
def Jk(S:aq)(H:aE)(env:Env):Env->Prop
 |[]=>True
 |(t,d)::r=>iP S H (iv t env) d/\Jk S H env r
def Vc(S:aq)(H:aE)(i:Nat):al->al->Prop
 | .row q cs t,.row q' gA t'=>((q',t')=(q,t)\/(S i=true/\(q',t')=(false,t)))/\(S i=true->q'=false)/\l9 S H cs gA
 | .vec q v e xs t,.vec q' v' e' zl t'=>((q',t')=(q,t)\/(S i=true/\(q',t')=(false,t)))/\(S i=true->q'=false)/\v=v'/\e=e'/\kc S H xs zl
 | .dV q I,.dV q' I'=>(q'=q\/(S i=true/\q'=false))/\(S i=true->q'=false)/\I=I'
 |_,_=>False
def CT(S:aq)(H:aE):Nat->aE->aE->Prop
 |_,[],[]=>True
 |i,o::r,o'::r'=>Vc S H i o o'/\CT S H (i+1) r r'
 |_,_,_=>False
theorem UN{S:aq}{H:aE}{env:Env}:∀(env':Env),Jk S H env env'->∀t,iP S H (iv t env) (iv t env')\/iv t env'=.dL
 |[],_,t=>.inr rfl
 |(k,d)::r,h,t=>by
  simp only[Jk] at h;rw[Cc];split
  ·rename_i e;subst e;exact .inl h.1
  exact UN r h.2 t
theorem Uw{S:aq}{H:aE}:∀(l l':aE) (k:Nat),CT S H k l l'->l.length=l'.length/\∀i (o:al),l[i]? = some o->∃o',l'[i]? = some o'/\Vc S H (k+i) o o'
 |[],[],k,_=>⟨rfl,λi o h=>by simp at h⟩
 |[],_::_,k,h=>by simp only[CT] at h
 |_::_,[],k,h=>by simp only[CT] at h
 |o::r,o'::r',k,h=>by
  simp only[CT] at h;obtain⟨h1,h2⟩:=Uw r r' (k+1) h.2;refine⟨by simp[h1],λi x hx=>?_⟩
  cases i with
  |zero=>simp at hx;subst hx;exact⟨o',rfl,h.1⟩
  |succ i =>
   obtain⟨y,q1,q2⟩:=h2 i x (by simpa using hx);exact⟨y,by simpa using q1,by rw[show k+(i+1)=k+1+i by omega];exact q2⟩
theorem nX{L n:Nat}(S:aq){env env':Env}{H H':aE}(hE:Jk S H env env')(hH:CT S H 0 H H'):St.leB L n env H env' H':=λJ F a w hr=>by
 obtain⟨hlen,pX⟩:=Uw H H' 0 hH;have az:=hr.ok;refine⟨J,λb=>F b\/AO S J b,⟨hr.defers,hr.size,λt=>?_,⟨λi s hs=>?_,az.one,λi s b o g1 g2 g3 g4=>?_,az.lt.mono (λ_ h=>.inl h) (λ_ _=>rfl) λb hb=>hb.elim (az.lt b) λ⟨i,s,_,h1,h2⟩=>az.jk h1 h2⟩,λi hi=>by rw[<-hlen];exact hr.dom i hi⟩,λi s hi hs=>hs,λb hb=>.inl hb,λb hb=>hb,λb hb=>hb.imp_right λ⟨i,s,_,h1,h2⟩=>⟨i,s,h1,h2⟩⟩
 ·rcases UN env' hE t with h1|e
  ·exact F4 az _ _ _ h1<|hr.tmps t
  rw[e];simp only[rep]
 ·obtain⟨o,h1,h2⟩:=az.obj i s hs;obtain⟨o',h3,h4⟩:=pX i o h1;rw[lp] at h4;refine⟨o',h3,?_⟩
  cases o with
  |row q cs t =>
   cases o' with
   |vec=>exact h4.elim
   |dV=>exact h4.elim
   |row q' gA t' =>
    obtain⟨p1,_,p2⟩:=h4;obtain⟨k1,k2,k3,k4,k5,b,vals,te,t1,t2,t3,t4,t5⟩:=h2;have hl:=HV _ _ p2;have ht:t'=t:=by rcases p1 with e|⟨_,e⟩<;>exact(Prod.mk.inj e).2
    subst ht;refine⟨k1,k2,k3,by rw[<-hl];exact k4,by rw[<-hl];exact k5,b,vals,te,t1,t2,by rw[<-hl];exact t3,HH az _ _ b 0 p2 t4,λe=>?_⟩;rcases p1 with p1|⟨p1,_⟩
    ·cases p1;exact .inl<|t5 e
    exact .inr ⟨i,s,p1,hs,by simp[Site.cE,k1,t1]⟩
  |vec q v e xs t =>
   cases o' with
   |row=>exact h4.elim
   |dV=>exact h4.elim
   |vec q' v' e' zl t' =>
    obtain⟨p1,_,rfl,rfl,p2⟩:=h4;obtain⟨k1,k2,k3,k4,k5,k6⟩:=h2;have ht:t'=t:=by rcases p1 with e|⟨_,e⟩<;>exact(Prod.mk.inj e).2
    subst ht;have hl:=Bb _ _ p2;refine⟨k1,k2,k3,by rw[<-hl];exact k4,k5,?_⟩;by_cases hz:s.cap=0
    ·exact .inl hz
    rcases k6 with k6|⟨b,o,vals,te,t1,t2,t3,t4,t5⟩
    ·exact .inl k6
    refine .inr ⟨b,o,vals,te,t1,t2,t3,Df az _ _ b e o p2 t4,λe=>?_⟩;rcases p1 with p1|⟨p1,_⟩
    ·cases p1;exact .inl<|t5 e
    exact .inr ⟨i,s,p1,hs,by simp[Site.cE,k1,hz,t1]⟩
  |dV q I =>
   cases o' with
   |row=>exact h4.elim
   |vec=>exact h4.elim
   |dV q' I' =>
    obtain⟨_,_,rfl⟩:=h4;exact h2
 obtain⟨o0,h1,h2⟩:=az.obj i s g1;obtain⟨o',h3,h4⟩:=pX i o0 h1;rw[lp] at h4;have rD:H'[i]? = some o:=g3;rw[h3] at rD;cases rD;have hm:¬S i=true/\o0.mut=true:=by
  cases o0 with
  |row q cs =>
   cases o with
   |vec=>exact h4.elim
   |dV=>exact h4.elim
   |row q' gA =>
    obtain⟨p1,p2,_⟩:=h4;simp only[al.mut] at g4⊢;refine⟨λh=>?_,?_⟩
    ·rw[p2 h] at g4;cases g4
    rcases p1 with p1|⟨_,p1⟩<;>cases p1
    ·exact g4
    cases g4
  |vec q v e xs =>
   cases o with
   |row=>exact h4.elim
   |dV=>exact h4.elim
   |vec q' v' e' zl =>
    obtain⟨p1,p2,_⟩:=h4;simp only[al.mut] at g4⊢;refine⟨λh=>?_,?_⟩
    ·rw[p2 h] at g4;cases g4
    rcases p1 with p1|⟨_,p1⟩<;>cases p1
    ·exact g4
    cases g4
  |dV q I =>
   cases o with
   |row=>exact h4.elim
   |vec=>exact h4.elim
   |dV q' I' =>
    obtain⟨p1,p2,_⟩:=h4;simp only[al.mut] at g4⊢;refine⟨λh=>?_,?_⟩
    ·rw[p2 h] at g4;cases g4
    rcases p1 with rfl|⟨_,rfl⟩
    ·exact g4
    cases g4
 rintro(hx|⟨i',s',p1,p2,p3⟩)
 ·exact az.apart i s b o0 g1 g2 h1 hm.2 hx
 have:=az.one i i' s s' b g1 p2 g2 p3;subst this;exact hm.1 p1
end
def EU(env:Env):List Nat->(Env->Prop)->Prop
 |[],K=>K []
 |t::ts,K=>ux t (λd=>EU env ts λe=>K<|(t,d)::e) env
def Ge:Env->Env->(Env->Prop)->Prop
 |[],e,K=>K e
 |p::r,e,K=>Ge r e λE=>K<|p::E
def Dl:List (Nat×al)->aE->aE
 |[],H=>H
 |(i,o)::r,H=>Dl r<|H.set i o
def JF:List (Nat×al)->aE->(aE->Prop)->Prop
 |[],H,K=>K H
 |(i,o)::r,H,K=>qB H i o λH'=>JF r H' K
theorem OB(env:Env):∀(ts:List Nat) (K:Env->Prop),EU env ts K=K (ts.map λt=>(t,iv t env))
 |[],K=>rfl
 |t::ts,K=>by simp only[EU,AM,OB env ts,fR]
theorem L2:∀(a e:Env) (K:Env->Prop),Ge a e K=K (a++e)
 |[],e,K=>rfl
 |p::r,e,K=>by simp only[Ge,L2 r e,pQ]
theorem Rg:∀(l:List<|Nat×al) (H:aE) (K:aE->Prop),JF l H K->K (Dl l H)
 |[],H,K,h=>h
 |(i,o)::r,H,K,h=>by
  simp only[JF,wX] at h;simp only[Dl];exact Rg r _ K h.2
theorem L9{env:Env}:∀(a e:Env),uI env a->uI env e->uI env (a++e)
 |[],e,_,k=>k
 |(t,d)::r,e,h,k=>⟨h.1,L9 r e h.2 k⟩
theorem Ni{env:Env}:∀ts:List Nat,uI env (ts.map λt=>(t,iv t env))
 |[]=>trivial
 |t::ts=>⟨rfl,Ni ts⟩
variable{n:Nat}{env:Env}{H:aE}
theorem aC{L:Nat}{env':Env}{H':aE}(h:uI env env')(e:H=H'):St.leB L n env H env' H':=e▸pN h
structure ForK(P:bG)(n:Nat)(p:PC)(Q:iY)(env:Env)(H:aE){ι:Type}(upd:ι->Env)(Ei:ι->List (Nat×al))(G:ι->Prop)(m:ι->Nat)(i:ι)(e:Env):Prop where
 fC:G i
 start:uI env<|upd i
 heap:H=Dl (Ei i) H
 round:∀j,G j->Ge (upd j) e λE=>JF (Ei j) H λO=>PWp P n p (MM H.length n Q (λj=>upd j++e) (λj=>Dl (Ei j) H) G m<|m j) E O
variable{ι:Type}
theorem bb{P:bG}{n:Nat}{p:PC}{Q:iY}{env:Env}{H:aE}(kept:List Nat)(upd:ι->Env)(Ei:ι->List (Nat×al))(G:ι->Prop)(m:ι->Nat)(i:ι)
  (h:EU env kept λe=>ForK P n p Q env H upd Ei G m i e):PWp P n (.loop p) Q env H:=by
 rw[OB] at h;refine wc (λj=>upd j++kept.map λt=>(t,iv t env)) (λj=>Dl (Ei j) H) G m i h.fC (aC (L9 _ _ h.start<|Ni _) h.heap) λj hj=>?_;have:=h.round j hj;rw[L2] at this;exact Rg _ _ _ this
section
variable{w w':bl}{B B' size n:Nat}{A:Option Addr}{xs:List aW}
end
section
variable{w w':bl}{g:Nat}{t:bp}{cs:Array aW}
end
inductive Tree where
 |node (kind n:Int) (kids:List Tree)
namespace Tree
instance:Inhabited Tree:=⟨.node 0 0 []⟩
def kind:Tree->Int|.node k _ _=>k
def num:Tree->Int|.node _ n _=>n
def kids:Tree->List Tree|.node _ _ ks=>ks
def aD(t:Tree)(j:Nat):Tree:=t.kids.getD j default
def width(t:Tree):Nat:=t.kids.length
theorem oJ{t:Tree}{j:Nat}(h:j<t.kids.length):t.aD j=t.kids[j]:=by simp[aD,List.getD,aX h]
theorem eta(t:Tree):Tree.node t.kind t.num t.kids=t:=by cases t;rfl
theorem ind{p:Tree->Prop}(h:∀t:Tree,(∀j,j<t.width->p (t.aD j))->p t):∀t,p t:=by
 intro t;refine Tree.rec (motive_1:=p) (motive_2:=λks=>∀t∈ks,p t) ?_ ?_ ?_ t
 ·intro k n ks ih;refine h _ λj hj=>?_;rw[oJ (t:=.node k n ks) hj];exact ih _<|iZ hj
 repeat grind
end Tree
def bw(k:Int):Int:=if k=1\/k=2\/k=3 then 0 else if k=4\/k=7\/k=10\/k=11 then 1 else if k=5\/k=6\/k=8\/k=9 then 2 else -1
def c9(k:Int):Int:=if k=1\/k=2\/k=3 then 0 else if k=4\/k=7\/k=8\/k=9\/k=11\/k=12\/k=13 then 1 else if k=5\/k=6\/k=10\/k=14 then 2 else -1
def eY(kd:Int->Int)(t:Tree):Prop:=kd t.kind≠(t.width:Int)\/t.num<0\/63<t.num\/(t.kind≠3/\t.num≠0)
instance (kd:Int->Int) (t:Tree):Decidable<|eY kd t:=by unfold eY;infer_instance
mutual
def dj(kd:Int->Int):Tree->Int->Int->Int×Int
 | .node k x ks,d,n =>
  if 60<n+1 then (2,n+1) else if 20<d then (5,n+1) else if eY kd (.node k x ks) then (1,n+1) else iN kd ks (d+1)<|n+1
def iN(kd:Int->Int):List Tree->Int->Int->Int×Int
 |[],_,n=>(0,n)
 |t::ts,d,n=>if (dj kd t d n).1=0 then iN kd ts d (dj kd t d n).2 else dj kd t d n
end
theorem JA(kd:Int->Int)(t:Tree)(d n:Int) :
  dj kd t d n=if 60<n+1 then (2,n+1) else if 20<d then (5,n+1) else if eY kd t then (1,n+1) else iN kd t.kids (d+1)<|n+1:=by
 cases t;rw[dj];rfl
variable{t:Tree}{j:Nat}
theorem Iy(kd:Int->Int)(hj:j<t.width)(d n:Int) :
  iN kd (t.kids.drop j) d n=if (dj kd (t.aD j) d n).1=0 then iN kd (t.kids.drop<|j+1) d (dj kd (t.aD j) d n).2 else dj kd (t.aD j) d n:=by
 rw[Ct hj,iN,Tree.oJ hj]
variable(kd:Int->Int)
theorem IU(t:Tree)(d n:Int):iN kd (t.kids.drop t.width) d n=(0,n):=by
 rw[Tree.width,um,iN]
def aU(kd:Int->Int)(t:Tree):Int:=(dj kd t 1 0).1
mutual
theorem GC(kd:Int->Int):∀(t:Tree) (d n:Int),n+1<=(dj kd t d n).2/\(n<=60->(dj kd t d n).2<=61)
 | .node k x ks,d,n=>by
  have:=Sq kd ks (d+1)<|n+1;rw[dj];split
  ·simp;omega
  split
  ·simp;omega
  split
  ·simp;omega
  omega
theorem Sq(kd:Int->Int):∀(ts:List Tree) (d n:Int),n<=(iN kd ts d n).2/\(n<=60->(iN kd ts d n).2<=61)
 |[],_,n=>by rw[iN];simp;omega
 |t::ts,d,n=>by
  have h1:=GC kd t d n;have h2:=Sq kd ts d (dj kd t d n).2;have h3:=Ew kd t d n;rw[iN];split
  ·rename_i h;have:=h3 h;omega
  omega
theorem Ew(kd:Int->Int):∀(t:Tree) (d n:Int),(dj kd t d n).1=0->(dj kd t d n).2<=60
 | .node k x ks,d,n=>by
  have:=U8 kd ks (d+1)<|n+1;rw[dj];split
  ·simp
  split
  ·simp
  split
  ·simp
  intro h;exact this (by omega) h
theorem U8(kd:Int->Int):∀(ts:List Tree) (d n:Int),n<=60->(iN kd ts d n).1=0->(iN kd ts d n).2<=60
 |[],_,n=>by rw[iN];simp
 |t::ts,d,n=>by
  have h1:=Ew kd t d n;have h2:=U8 kd ts d (dj kd t d n).2;intro hn;rw[iN];split
  ·rename_i h;exact h2<|h1 h
  intro h;contradiction
end
variable{a b:Tree}
theorem Tree.Pt(h1:a.kind=b.kind)(h2:a.num=b.num)(h3:a.width=b.width)(h4:∀j,j<a.width->a.aD j=b.aD j):a=b:=by
 rw[<-Tree.eta a,<-Tree.eta b,h1,h2]
 congr 1
 refine Ea h3 λi hi aT=>?_;have:=h4 i hi;rwa [Tree.oJ hi,Tree.oJ aT] at this
open Classical in
noncomputable def dI(a b:Tree):Bool:=decide (a=b)
theorem Pb(h:a=b):true=dI a b:=by simp[dI,h]
theorem Dc(h:a≠b):false=dI a b:=by simp[dI,h]
theorem Cs:dI a b↔a=b:=by simp[dI]
mutual
def Tree.size:Tree->Nat
 | .node _ _ ks=>1+Tree.oB ks
def Tree.oB:List Tree->Nat
 |[]=>0
 |t::ts=>t.size+Tree.oB ts
end
mutual
def Tree.depth:Tree->Nat
 | .node _ _ ks=>1+Tree.Eo ks
def Tree.Eo:List Tree->Nat
 |[]=>0
 |t::ts=>max t.depth<|Tree.Eo ts
end
mutual
def Tree.wf(kd:Int->Int):Tree->Prop
 | .node k n ks=>¬eY kd (.node k n ks)/\Tree.wfs kd ks
def Tree.wfs(kd:Int->Int):List Tree->Prop
 |[]=>True
 |t::ts=>t.wf kd/\Tree.wfs kd ts
end
theorem Tree.ztj:∀t:Tree,1<=t.depth:=λt=>by cases t;rw[Tree.depth];omega
mutual
theorem Zd(kd:Int->Int):∀(t:Tree) (d n:Int),(dj kd t d n).1=0↔(n+t.size<=60/\d+t.depth<=21/\t.wf kd)
 | .node k x ks,d,n=>by
  have h1:=Sh kd ks (d+1)<|n+1;rw[dj,Tree.size,Tree.depth,Tree.wf];by_cases c1:60<n+1
  ·rw[ae c1];simp;omega
  rw[ab c1];by_cases c2:20<d
  ·rw[ae c2];simp;omega
  rw[ab c2];by_cases c3:eY kd (.node k x ks)
  ·rw[ae c3];simp[c3]
  rw[ab c3,h1];constructor
  ·rintro⟨a,b,c⟩
   cases ks with
   |nil=>rw[Tree.oB,Tree.Eo] at *;exact⟨by omega,by omega,c3,c⟩
   |cons t ts=>have:=a (by simp);have:=b (by simp);exact⟨by omega,by omega,c3,c⟩
  rintro⟨a,b,_,c⟩;exact⟨by omega,λ_=>by omega,c⟩
theorem Sh(kd:Int->Int):∀(ts:List Tree) (d n:Int),(iN kd ts d n).1=0↔((ts≠[]->n+Tree.oB ts<=60)/\(ts≠[]->d+Tree.Eo ts<=21)/\Tree.wfs kd ts)
 |[],_,n=>by rw[iN,Tree.wfs];simp
 |t::ts,d,n=>by
  have h1:=Zd kd t d n;have h3:=Yx kd t d n;have h2:=Sh kd ts d (dj kd t d n).2;rw[iN,Tree.oB,Tree.Eo,Tree.wfs];have hd:=Tree.ztj t;by_cases c:(dj kd t d n).1=0
  ·rw[ae c,h2,h3 c];rw[h1] at c;obtain⟨c1,c2,c3⟩:=c
   cases ts with
   |nil=>rw[Tree.oB,Tree.Eo,Tree.wfs];simp[c3];omega
   |cons u us =>
    simp only[ne_eq,reduceCtorEq,not_false_eq_true,true_implies,c3,true_and];constructor
    ·rintro⟨a,b,e⟩;exact⟨by omega,by omega,e⟩
    rintro⟨a,b,e⟩;exact⟨by omega,by omega,e⟩
  rw[ab c];constructor
  ·intro h;exact absurd h c
  rintro⟨a,b,e⟩;refine absurd (h1.2 ⟨?_,?_,e.1⟩) c
  ·have:=a (by simp);omega
  have:=b (by simp);omega
theorem Yx(kd:Int->Int):∀(t:Tree) (d n:Int),(dj kd t d n).1=0->(dj kd t d n).2=n+t.size
 | .node k x ks,d,n=>by
  have h1:=WN kd ks (d+1)<|n+1;rw[dj,Tree.size];split
  ·simp
  split
  ·simp
  split
  ·simp
  intro h;rw[h1 h];omega
theorem WN(kd:Int->Int):∀(ts:List Tree) (d n:Int),(iN kd ts d n).1=0->(iN kd ts d n).2=n+Tree.oB ts
 |[],_,n=>by rw[iN,Tree.oB];simp
 |t::ts,d,n=>by
  have h1:=Yx kd t d n;have h2:=WN kd ts d (dj kd t d n).2;rw[iN,Tree.oB];split
  ·rename_i h;intro h';rw[h2 h',h1 h];omega
  intro h;contradiction
end
theorem rW(t:Tree):aU kd t=0↔(t.size<=60/\t.depth<=20/\t.wf kd):=by
 unfold aU;rw[Zd];repeat grind
theorem Rq(kd:Int->Int):∀ts:List Tree,Tree.wfs kd ts↔∀t∈ts,t.wf kd
 |[]=>by simp[Tree.wfs]
 |t::ts=>by rw[Tree.wfs,Rq kd ts];simp
theorem jD(t:Tree):t.wf kd↔¬eY kd t/\∀u∈t.kids,u.wf kd:=by
 cases t;rw[Tree.wf,Rq];rfl
theorem gB{kd:Int->Int}(h:t.wf kd)(hj:j<t.width):(t.aD j).wf kd:=by
 rw[Tree.oJ hj];exact((jD kd t).1 h).2 _ (iZ hj)
def cx(k n:Int):Tree:=.node k n []
def bK(k:Int)(a:Tree):Tree:=.node k 0 [a]
def cW(k:Int)(a b:Tree):Tree:=.node k 0 [a,b]
theorem tT(h:¬eY bw t):(t.kind=1\/t.kind=2\/t.kind=3)/\t.width=0\/(t.kind=4\/t.kind=7\/t.kind=10\/t.kind=11)/\t.width=1\/(t.kind=5\/t.kind=6\/t.kind=8\/t.kind=9)/\t.width=2:=by
 unfold eY bw at h
 grind
def D1(b:Bool):D:=ay b
variable(b:Bool)
@[simp] theorem zBS:Pure<|D1 b:=by simp[D1,Pure]
def aF(l:ah):D:=.aM 1<|l.map λn=>[aa n]
def bN(g:ak):D:=.aM 1<|g.map λl=>[aF l]
theorem c6{α:Type}(f:α->bj)(h:∀a,aA<|f a):∀l:List α,dF (l.map f)
 |[]=>by simp only[jc,dF]
 |a::l=>by simp only[fR,dF];exact⟨h a,c6 f h l⟩
@[simp] theorem cX(l:ah):Pure<|aF l:=by
 simp only[aF,Pure];exact c6 _ (λn=>by simp[aA,Pure]) l
@[simp] theorem l5(g:ak):Pure<|bN g:=by
 simp only[bN,Pure];exact c6 _ (λl=>by simp[aA,cX]) g
mutual
def gF:Tree->bj
 | .node k n ks=>[.sc (.int .i64 k),.sc (.int .i64 n),.aM 3<|Al ks]
def Al:List Tree->fc
 |[]=>[]
 |t::r=>gF t::Al r
end
def aO(t:Tree):bj:=[aa t.kind,aa t.num,.aM 3<|t.kids.map gF]
def ba(t:Tree):D:=.agg<|aO t
theorem V3:∀l,Al l=l.map gF
 |[]=>by simp only[Al,jc]
 |t::r=>by simp only[Al,fR,V3 r]
variable(t:Tree)
theorem wY:gF t=aO t:=by
 cases t;simp only[gF,V3];rfl
mutual
theorem EA:∀t:Tree,aA (gF t)
 | .node k n ks=>by simp only[gF,aA,Pure,true_and,and_true];exact XK ks
theorem XK:∀l:List Tree,dF (Al l)
 |[]=>by simp only[Al,dF]
 |t::r=>by simp only[Al,dF];exact⟨EA t,XK r⟩
end
@[simp] theorem im:Pure<|ba t:=by simp only[ba,Pure];rw[<-wY];exact EA t
theorem mE{H:aE}:∀l:bj,jr H l l
 |[]=>.nil
 |d::r=>.cons _ _ _ _ (.refl d)<|mE r
theorem gw{H:aE}:∀l:fc,oy H l l
 |[]=>.nil
 |d::r=>.cons _ _ _ _ (mE d)<|gw r
theorem Le:jr H (aO t)<|gF t:=by rw[wY];exact mE _
inductive Small:Tree->Prop where
 |mk (t:Tree) (h:t.width<=9223372036854775807) (k:∀j,j<t.width->Small (t.aD j)):Small t
theorem Small.width{t:Tree}(h:Small t):t.kids.length<=9223372036854775807:=by cases h;assumption
theorem Small.aD{t:Tree}(h:Small t){j:Nat}(hj:j<t.width):Small<|t.aD j:=by cases h with|mk _ _ k=>exact k j hj
theorem vl:∀t:Tree,t.wf bw->Small t:=by
 intro t
 induction t using Tree.ind with
 |h t ih =>
  intro hw;refine .mk t ?_ λj hj=>ih j hj<|gB hw hj;have:=tT ((jD _ _).1 hw).1;omega
theorem aV{m:aq}{xs ys:fc}(h:xs=ys):kc m H xs ys:=h▸.refl xs
@[simp] theorem eU:aA<|aO t:=by rw[<-wY];exact EA t
@[simp] theorem Ch:dF<|t.kids.map gF:=c6 _ EA _
variable{α:Type}{k:Nat}
theorem Lc{β:Type}(f:α->β){l:List α}{a:α}(h:l[k]? = some a):List.drop 0 (List.take k<|(l.take k).map f)++[f a]=(l.take<|k+1).map f:=by
 rw[dP,fG<|by simp;omega,jP,h];simp
theorem kid_get? {t:Tree} {j:Nat} (h:j<t.width):t.kids[j]? = some (t.aD j):=by rw[Tree.oJ h,aX h]
variable{t:Tree}
theorem Zo(f:Tree->α)(h:j<t.width):((t.kids.take t.width).map f)[j]? = some (f<|t.aD j):=by
 rw[Tree.width,dM,fx,kid_get? h];rfl
theorem db(h:j<t.width):(t.kids.map gF)[j]? = some (aO<|t.aD j):=by
 rw[fx,Tree.oJ h,aX h,<-wY];rfl
variable{d:D}
theorem cf{e:D}(h:d=e):Deep H d e:=h▸.refl d
theorem nB{u:Tree}(h:t=u)(k:Deep H d<|ba u):Deep H d<|ba t:=h▸k
section
variable{P:bG}{f:FuncId}
variable{args:bj}{H0 H0':aE}
theorem rX(hA:bZ P f args H0 d H0')(L R:aE)(hlen:H0'.length=H0.length)(iG:aG H0.length args)(qg:dX H0.length H0)
  {args2:bj} {d2:D} {H H2:aE} (e1:bL (λi=>L.length+i) args=args2) (e2:D.aP (λi=>L.length+i) d=d2) (e3:L++(H0.map (al.aP λi=>L.length+i)++R)=H) (e4:L++(H0'.map (al.aP λi=>L.length+i)++R)=H2) :
  bZ P f args2 H d2 H2:=by
 subst e1 e2 e3 e4;refine XX (λi=>L.length+i) hA (λi j _ _ h=>by omega) (λi o h=>?_) (λi h1 h2=>by omega) (by simp[hlen]) (λi o h=>?_) (λj hj b9=>?_) iG<|CB qg
 ·rw[jF<|by omega,GQ,iz<|by simpa using nY h,fx,h];rfl
 ·rw[jF<|by omega,GQ,iz<|by simpa using nY h,fx,h];rfl
 rcases gK j L.length with h|h
 ·rw[iz h,iz h]
 have:H0.length<=j-L.length:=by
  rcases gK (j-L.length) H0.length with q|q
  ·exact absurd (by omega)<|b9 (j-L.length) q
  exact q
 rw[jF h,jF h,jF<|by simp;omega,jF<|by simp;omega];simp[hlen]
theorem nk(hA:bZ P f args H0 d H0')(R:aE)(hlen:H0'.length=H0.length)(iG:aG H0.length args)(qg:dX H0.length H0):bZ P f args (H0++R) d<|H0'++R:=by
 have h:(λi=>([]:aE).length+i)=λi=>i:=by funext i;simp
 refine rX hA [] R hlen iG qg ?_ ?_ ?_ ?_<;>rw[h]
 ·exact xh _
 ·exact MR _
 ·rw[show(al.aP λi=>i)=id from funext I5];simp
 rw[show(al.aP λi=>i)=id from funext I5];simp
end
variable{c:Bool}{A B:Prop}
theorem wJ(h:c)(k:A):ifK c A B:=by subst h;exact k
theorem ue(h:c=false)(k:B):ifK c A B:=by subst h;exact k
def cutQ{ι:Type}(L n:Nat)(Q:iY)(E:ι->Env)(O:ι->aE)(G:ι->Prop):iY
 | .normal,env,H=>∃i,G i/\St.leB L n env H (E i) (O i)
 |e,env,H=>Q e env H
variable{P:bG}{p:PC}{Q:iY}
theorem pj(E:ι->Env)(O:ι->aE)(G:ι->Prop)(h1:PWp P n p (cutQ H.length n Q E O G) env H)
  (h2:∀i,G i->Q .normal (E i) (O i)):PWp P n p Q env H:=ta λc hc J F a w hr=>by
 refine wp_mono (qC h1 hc hr) λe a2 w2 ⟨env',H',J',F',q1,q2,q3⟩=>?_
 cases e with
 |normal =>
  obtain⟨i,r1,r2⟩:=q1;obtain⟨J2,F2,t1,t2,t3,t4,t5⟩:=r2 J' F' a2 w2 q2;exact⟨E i,O i,J2,F2,h2 i r1,t1,JP hr.dom q3 t2 t3 t4 t5⟩
 |_=>exact⟨env',H',J',F',q1,q2,q3⟩
variable(t:Tree){m:Nat}
@[simp] theorem zAj:aK m (ba t)↔True:=⟨λ_=>trivial,λ_=>bz _<|im t⟩
@[simp] theorem zAG:aG m (aO t)↔True:=⟨λ_=>trivial,λ_=>bI _<|eU t⟩
@[simp] theorem zxR(l:List Tree):bB m (l.map gF)↔True:=⟨λ_=>trivial,λ_=>bm _<|c6 _ EA _⟩
@[simp] theorem zx6:aG m (gF t)↔True:=⟨λ_=>trivial,λ_=>bI _<|EA t⟩
variable{ρ:Nat->Nat}
@[simp] theorem zCg:D.aP ρ (ba t)=ba t:=iQ _<|im t
instance (n:Nat):OfNat bn n:=⟨.tmp n⟩
def cI(n:Int):bn:=.const (.int .i64 n)
def cS(l:Array UInt8):bn:=.const (.string ⟨l⟩)
def cT:bn:=.const (.bool true)
def cF:bn:=.const (.bool false)
def cN:bn:=.const (.slice none 0 0)
def GT(d g:Nat)(o:POp):cO:=⟨some d,o,some (g,true),0⟩
def GF(d g:Nat)(o:POp):cO:=⟨some d,o,some (g,false),0⟩
def Fa(d k:Nat)(x:bn):cO:=q d (.kM k x)
def Lo(d:Nat)(x:bn):cO:=q d (.nv x)
def LA(d n:Nat)(x:bn):cO:=q d (.xI n x)
def Xt(d k:Nat)(x:bn):cO:=q d (.ext k x)
def Bx(d:Nat)(x:bn):cO:=q d (.box x)
def Nt(d:Nat)(x:bn):cO:=q d (.un .not x)
def Ln(d:Nat)(x:bn):cO:=q d (.len x)
def Mv(d:Nat)(x:bn):cO:=q d (.move x)
def Bi(d:Nat)(o:BinOp)(x y:bn):cO:=q d (.bin o x y)
def Ia(d e:Nat)(x y:bn):cO:=q d (.DJ e x y)
def Ap(d e b:Nat)(x y:bn):cO:=q d (.append e b x y)
def Pk(d:Nat)(c x y:bn):cO:=q d (.pick c x y)
def Ca(d:Nat)(f:FuncId)(l:List bn):cO:=q d (.call f l)
def Bs(d e n:Nat)(l:List bn):cO:=q d (.GH e n l)
def So(n:Nat)(x y:bn):cO:=qn (.store n x y)
abbrev OP(l:List cO):PC:=.ops l false
abbrev SO(l:List cO)(p:PC):PC:=.seq (.ops l false) p
abbrev If(c:bn)(p:PC):PC:=.cond c p .skip
abbrev CX(c:bn)(n:Nat):PC:=.cond c .skip (.exit n)
abbrev BL(n:Nat)(p:PC):PC:=.block n (.loop p)
def Ld(d:Nat)(x:bn)(m:Nat):cO:=qd d (.nv x) m
def Ja(d e:Nat)(x y:bn)(m:Nat):cO:=qd d (.DJ e x y) m
def Bd(d:Nat)(o:BinOp)(x y:bn)(m:Nat):cO:=qd d (.bin o x y) m
def Fd(d k:Nat)(x:bn)(m:Nat):cO:=qd d (.kM k x) m
def Md(d:Nat)(x:bn)(m:Nat):cO:=qd d (.move x) m
def Cd(d:Nat)(f:FuncId)(l:List bn)(m:Nat):cO:=qd d (.call f l) m
def K0:bn:=.const (.int .i64 0)
def K1:bn:=.const (.int .i64 1)
def K2:bn:=.const (.int .i64 2)
def K3:bn:=.const (.int .i64 3)
def K4:bn:=.const (.int .i64 4)
def K5:bn:=.const (.int .i64 5)
def K6:bn:=.const (.int .i64 6)
def K7:bn:=.const (.int .i64 7)
def K8:bn:=.const (.int .i64 8)
def K9:bn:=.const (.int .i64 9)
abbrev vN:aW:=.slice none 0 0
abbrev v0:aW:=.int .i64 0
abbrev v8:aW:=.int .i8 0
abbrev vF:aW:=.bool false
abbrev vS:aW:=.string ⟨#[]⟩
theorem fK {P : Program} {f : FuncId} {n : Nat} {rs : List RV} {p : PC} {fn : Func} (h : P.funcs[f]? = some fn) (a : fn.ntmps = n := by rfl) (b : (fn.name == "runtime.NumGoroutine") = false := by kernel_rfl) (c : xn P fn.results.toList = some rs := by rfl) (d : fn.body.bind (comp P n) = some p.bare := by kernel_rfl) : wT P f n rs p := ⟨⟨fn, h, a, b, c, d⟩⟩
theorem fJ {P : Program} {f : FuncId} (n : Nat) (rs : List RV) (p : PC) {fn : Func} (h : P.funcs[f]? = some fn) (a : fn.ntmps = n := by rfl) (b : (fn.name == "runtime.NumGoroutine") = false := by kernel_rfl) (c : xn P fn.results.toList = some rs := by rfl) (d : fn.body.bind (comp P n) = some p.bare := by kernel_rfl) : wT P f n rs p := ⟨⟨fn, h, a, b, c, d⟩⟩
variable{f:FuncId}{rs:List RV}{args:bj}
theorem bS(hf:wT P f n rs p)(h:PWp P n p (DP rs λr H=>Deep H r d) (params 0 args) [])(hn:args.length<=n:=by simp)(hp:aA args:=by simp[aA,Pure])(hd:Pure d:=by simp[aA,Pure]):ao P f args d:=dh hf hn hp h hd
theorem sO(h:A:=by((try simp only[oo,reduceCtorEq]at*)<;>omega)):A:=h
theorem zo(h:A:=by omega):A:=h
theorem zs(h:A:=by simp):A:=h
theorem zd(h:A:=by(dsimp only;omega)):A:=h
theorem zc(h:A:=by decide):A:=h
theorem sW(b:B)(e:B->A:=by(intro h;((conv=>whnf);repeat(refine⟨rfl,?_⟩;conv=>whnf));exact h)):A:=e b
theorem sR{f:WP}(b:B)(h:Rd P n p f:=by(focus (repeat' constructor)))(e:B->f Q env H:=by(intro h;((conv=>whnf);repeat(refine⟨rfl,?_⟩;conv=>whnf));exact h)):PWp P n p Q env H:=ry h<|e b
theorem sS{A' B':Prop}(a:c->A')(b:c=false->B')(e:c->A'->A:=by(intro h k;rw[h];((conv=>whnf);repeat(refine⟨rfl,?_⟩;conv=>whnf));exact k))(g:c=false->B'->B:=by(intro h k;rw[h];((conv=>whnf);repeat(refine⟨rfl,?_⟩;conv=>whnf));exact k)):ifK c A B:=pW (λh=>e h<|a h) λh=>g h<|b h
variable{K:D->Prop}{R:Prop}
theorem sC(t:ao P f args d)(b:B)(e:B->K d:=by(intro h;((conv=>whnf);repeat(refine⟨rfl,?_⟩;conv=>whnf));exact h)):(∃d,ao P f args d/\K d)\/R:=.inl ⟨d,t,e b⟩
variable{H2:aE}{X Y:Prop}
theorem sA{K:D->aE->Prop}(t:bZ P f args H d H2)(b:B)(e:B->K d H2:=by(intro h;((conv=>whnf);repeat(refine⟨rfl,?_⟩;conv=>whnf));exact h)):X\/Y\/(true=true/\∃d H2,bZ P f args H d H2/\K d H2)\/R:=.inr (.inr (.inl ⟨rfl,d,H2,t,e b⟩))
variable{L:List Nat}
theorem sE{K:D->aE->List Nat->Prop}{Z U:Prop}(t:ov P f args H d H2 L)(b:B)(e:B->K d H2 L:=by(intro h;((conv=>whnf);repeat(refine⟨rfl,?_⟩;conv=>whnf));exact h)):X\/Y\/Z\/U\/(∃d H2 L,ov P f args H d H2 L/\K d H2 L)\/R:=.inr (.inr (.inr (.inr (.inl ⟨d,H2,L,t,e b⟩))))
theorem sX{K:D->List Nat->Prop}{Z U V W:Prop}(t:B7 P f args H d L)(b:B)(e:B->K d L:=by(intro h;((conv=>whnf);repeat(refine⟨rfl,?_⟩;conv=>whnf));exact h)):X\/Y\/Z\/U\/V\/W\/(∃d L,B7 P f args H d L/\K d L):=.inr (.inr (.inr (.inr (.inr (.inr ⟨d,L,t,e b⟩)))))
theorem Y3{l:fc}(h:l.length<=n):oy H (List.drop 0<|List.take n l) l:=by rw[dP,fG h];exact gw _
variable{args':bj}
theorem sN(t:ao P f args' d)(b:B)(h:jr H args args':=by(repeat' (first|exact Deep.refl _|exact Deep.none _|exact Le _|exact jr.nil|exact oy.nil|refine Deep.agg _ _ ?_|refine Deep.aJ _ _ ?_|refine Deep.own _ _ _ _ _ _ _ _ rfl ?_|refine Deep.loc _ _ _ _ _ rfl ?_|refine Deep.fn _ _ _ _ _ ?_ ?_|refine jr.cons _ _ _ _ ?_ ?_|refine oy.cons _ _ _ _ ?_ ?_|exact gw _|exact Y3 (by first|(simp;done)|(simp[aw];done)))))(r:HE d:=by rfl)(e:B->K d:=by(intro h;((conv=>whnf);repeat(refine⟨rfl,?_⟩;conv=>whnf));exact h)):X\/(∃args' d,jr H args args'/\ao P f args' d/\HE d/\K d)\/R:=.inr (.inl ⟨args',d,h,t,r,e b⟩)
theorem sV{Z U V:Prop}(t:ao P f args' d)(b:B)(h:jr H args args':=by(repeat' (first|exact Deep.refl _|exact Deep.none _|exact Le _|exact jr.nil|exact oy.nil|refine Deep.agg _ _ ?_|refine Deep.aJ _ _ ?_|refine Deep.own _ _ _ _ _ _ _ _ rfl ?_|refine Deep.loc _ _ _ _ _ rfl ?_|refine Deep.fn _ _ _ _ _ ?_ ?_|refine jr.cons _ _ _ _ ?_ ?_|refine oy.cons _ _ _ _ ?_ ?_|exact gw _|exact Y3 (by first|(simp;done)|(simp[aw];done)))))(e:B->K d:=by(intro h;((conv=>whnf);repeat(refine⟨rfl,?_⟩;conv=>whnf));exact h)):X\/Y\/Z\/U\/V\/(true=true/\∃args' d,jr H args args'/\ao P f args' d/\K d)\/R:=.inr (.inr (.inr (.inr (.inr (.inl ⟨rfl,args',d,h,t,e b⟩)))))
theorem sL{o:Option α}{a:α}{K:α->Prop}(t:o=some a)(b:B)(h:X:=by omega)(e:B->K a:=by(intro h;((conv=>whnf);repeat(refine⟨rfl,?_⟩;conv=>whnf));exact h)):X/\∃a,o=some a/\K a:=⟨h,a,t,e b⟩
variable{K:Prop}
theorem sJ(b:B)(h:A:=by(unfold iF;simp only[ll];omega))(e:B->K:=by(intro h;((conv=>whnf);repeat(refine⟨rfl,?_⟩;conv=>whnf));exact h)):A/\K:=⟨h,e b⟩
theorem sI{k:IntKind}{z:Int}(b:B)(h:InR k z:=by(unfold InR;rw[po];omega))(e:B->K:=by(intro h;((conv=>whnf);repeat(refine⟨rfl,?_⟩;conv=>whnf));exact h)):(InR k z/\K)\/R:=.inl ⟨h,e b⟩
theorem sB(b:B)(h:X:=by omega)(g:Y:=by(first|omega|(simp;done)|(simp;omega)|(simp only[ll];omega)))(e:B->K:=by(intro h;((conv=>whnf);repeat(refine⟨rfl,?_⟩;conv=>whnf));exact h)):X/\Y/\K:=⟨h,g,e b⟩
theorem sP(h:A:=by(repeat' (first|exact Deep.refl _|exact Deep.none _|exact Le _|exact jr.nil|exact oy.nil|refine Deep.agg _ _ ?_|refine Deep.aJ _ _ ?_|refine Deep.own _ _ _ _ _ _ _ _ rfl ?_|refine Deep.loc _ _ _ _ _ rfl ?_|refine Deep.fn _ _ _ _ _ ?_ ?_|refine jr.cons _ _ _ _ ?_ ?_|refine oy.cons _ _ _ _ ?_ ?_|exact gw _))):A:=h
theorem sD(h:A:=by(repeat' (first|exact trivial|exact iP.none _|refine And.intro ?_ ?_|exact Or.inl rfl|exact Or.inr ⟨rfl,rfl⟩|exact λ_=>rfl|exact(λh=>by cases h)|refine iP.loc _ _ _ _ _ rfl rfl ?_|refine iP.own _ _ _ _ _ _ _ _ rfl rfl ?_|refine iP.fn _ _ _ _ _ ?_ ?_|refine iP.agg _ _ ?_|refine iP.aJ _ _ ?_|exact iP.refl _|refine l9.cons _ _ _ _ ?_ ?_|exact l9.refl _|refine kc.cons _ _ _ _ ?_ ?_|exact kc.refl _|exact rfl))):A:=h
theorem sQ(h:A:=by(repeat' (first|exact trivial|exact rfl|exact iP.refl _|exact l9.refl _|exact kc.refl _|refine And.intro ?_ ?_|(simp[aK,aG,bB,-List.map_take,-List.map_drop];done)))):A:=h
theorem sU(b:B)(e:B->A:=by(intro h;(repeat' (first|exact trivial|exact rfl|exact iP.refl _|exact l9.refl _|exact kc.refl _|refine And.intro ?_ ?_|(simp[aK,aG,bB,-List.map_take,-List.map_drop];done)|exact h)))):A:=e b
theorem sK(h:A:=by(repeat' (first|exact trivial|refine And.intro rfl ?_))):A:=h
theorem ck(b:B)(e:B->A:=by(intro h;((conv=>whnf);repeat(refine⟨rfl,?_⟩;conv=>whnf));(apply ry;focus (repeat' constructor));((conv=>whnf);repeat(refine⟨rfl,?_⟩;conv=>whnf));exact h)):A:=e b
theorem aQ(b:B)(e:B->A:=by(intro h;((conv=>whnf);repeat(refine⟨rfl,?_⟩;conv=>whnf));refine .inl ⟨by(clear h;unfold InR;rw[po];omega),?_⟩;((conv=>whnf);repeat(refine⟨rfl,?_⟩;conv=>whnf));exact h)):A:=e b
theorem bC(b:B)(e:B->A:=by(intro h;((conv=>whnf);repeat(refine⟨rfl,?_⟩;conv=>whnf));refine⟨by(clear h;omega),(by(clear h;first|omega|(simp;done)|(simp;omega)|(simp only[ll];omega))),?_⟩;((conv=>whnf);repeat(refine⟨rfl,?_⟩;conv=>whnf));exact h)):A:=e b
theorem sWJ(b:B)(e:B->A:=by(intro h;((conv=>whnf);repeat(refine⟨rfl,?_⟩;conv=>whnf));refine⟨by(clear h;unfold iF;simp only[ll];omega),?_⟩;((conv=>whnf);repeat(refine⟨rfl,?_⟩;conv=>whnf));exact h)):A:=e b
theorem ee(b:B)(e:B->A:=by(intro h;refine⟨by(clear h;unfold iF;simp only[ll];omega),?_⟩;((conv=>whnf);repeat(refine⟨rfl,?_⟩;conv=>whnf));refine .inl ⟨by(clear h;unfold InR;rw[po];omega),?_⟩;((conv=>whnf);repeat(refine⟨rfl,?_⟩;conv=>whnf));exact h)):A:=e b
theorem ke(b:B)(e:B->A:=by(intro h;((conv=>whnf);repeat(refine⟨rfl,?_⟩;conv=>whnf));refine⟨by(clear h;unfold iF;simp only[ll];omega),?_⟩;((conv=>whnf);repeat(refine⟨rfl,?_⟩;conv=>whnf));refine .inl ⟨by(clear h;unfold InR;rw[po];omega),?_⟩;((conv=>whnf);repeat(refine⟨rfl,?_⟩;conv=>whnf));exact h)):A:=e b
theorem sIB(b:B)(e:B->A:=by(intro h;refine .inl ⟨by(clear h;unfold InR;rw[po];omega),?_⟩;((conv=>whnf);repeat(refine⟨rfl,?_⟩;conv=>whnf));refine⟨by(clear h;omega),(by(clear h;first|omega|(simp;done)|(simp;omega)|(simp only[ll];omega))),?_⟩;((conv=>whnf);repeat(refine⟨rfl,?_⟩;conv=>whnf));exact h)):A:=e b
variable{C:Prop}
theorem bf(a:c->B)(b:c=false->C)(e:(c=true->B)->(c=false->C)->A:=by(intro h k;((conv=>whnf);repeat(refine⟨rfl,?_⟩;conv=>whnf));(apply ry;focus (repeat' constructor));((conv=>whnf);repeat(refine⟨rfl,?_⟩;conv=>whnf));exact pW (λq=>by(rw[q];((conv=>whnf);repeat(refine⟨rfl,?_⟩;conv=>whnf));exact h q)) λq=>by(rw[q];((conv=>whnf);repeat(refine⟨rfl,?_⟩;conv=>whnf));exact k q))):A:=e a b
theorem sRS(a:c->B)(b:c=false->C)(e:(c=true->B)->(c=false->C)->A:=by(intro h k;(apply ry;focus (repeat' constructor));((conv=>whnf);repeat(refine⟨rfl,?_⟩;conv=>whnf));exact pW (λq=>by(rw[q];((conv=>whnf);repeat(refine⟨rfl,?_⟩;conv=>whnf));exact h q)) λq=>by(rw[q];((conv=>whnf);repeat(refine⟨rfl,?_⟩;conv=>whnf));exact k q))):A:=e a b
theorem sWS(a:c->B)(b:c=false->C)(e:(c=true->B)->(c=false->C)->A:=by(intro h k;((conv=>whnf);repeat(refine⟨rfl,?_⟩;conv=>whnf));exact pW (λq=>by(rw[q];((conv=>whnf);repeat(refine⟨rfl,?_⟩;conv=>whnf));exact h q)) λq=>by(rw[q];((conv=>whnf);repeat(refine⟨rfl,?_⟩;conv=>whnf));exact k q))):A:=e a b
theorem zq(h:A:=by(simp;omega)):A:=h
theorem zk(h:A:=by(kernel_rfl)):A:=h
theorem zI(h:A:=by(unfold InR;rw[po];omega)):A:=h
theorem zp(h:A:=by(simp[aA,Pure])):A:=h
theorem zu(h:A:=by(simp[aK,aG,bB])):A:=h
theorem zW(h:A:=by(unfold InR;rw[po];unfold Tree.width at *;omega)):A:=h
theorem sG(h:A:=by(repeat' (first|exact trivial|exact rfl|exact .refl _|refine And.intro ?_ ?_|(simp[aK,aG,bB,-List.map_take,-List.map_drop];done)|exact bz _ (by first|assumption|(simp[aA,Pure];done))|exact bI _ (by first|assumption|(simp[aA,Pure];done))|exact bm _ (by first|assumption|(simp[aA,Pure];done))|exact .none _|apply_assumption))):A:=h
theorem sZ(b:B)(e:B->A:=by(intro h;(repeat' (first|exact trivial|exact rfl|exact .refl _|refine And.intro ?_ ?_|(simp[aK,aG,bB,-List.map_take,-List.map_drop];done)|exact bz _ (by first|assumption|(simp[aA,Pure];done))|exact bI _ (by first|assumption|(simp[aA,Pure];done))|exact bm _ (by first|assumption|(simp[aA,Pure];done))|exact .none _|exact h)))):A:=e b
theorem sZ2(b:B)(c:C)(e:B->C->A:=by(intro h k;(repeat' (first|exact trivial|exact rfl|exact .refl _|refine And.intro ?_ ?_|(simp[aK,aG,bB,-List.map_take,-List.map_drop];done)|exact bz _ (by first|assumption|(simp[aA,Pure];done))|exact bI _ (by first|assumption|(simp[aA,Pure];done))|exact bm _ (by first|assumption|(simp[aA,Pure];done))|exact .none _|exact h|exact k)))):A:=e b c
theorem dd(b:B)(e:B->A:=by(intro h;((conv=>whnf);repeat(refine⟨rfl,?_⟩;conv=>whnf));exact⟨by(clear h;omega),by exact sK,rfl,h⟩)):A:=e b
theorem fU{h:k<2^8}:UInt8.ofBitVec (BitVec.ofFin ⟨k,h⟩)=UInt8.ofNat k:=by
 apply UInt8.toBitVec_inj.1;apply BitVec.eq_of_toNat_eq;simp;omega
theorem fA(l:List UInt8):Array.mk l=l.toArray:=rfl
theorem fZ {P : Program} {f : FuncId} {n : Nat} {rs : List RV} {p : PC} {fn : Func} (h : P.funcs[f]? = some fn := by (conv=>lhs;whnf)) (a : fn.ntmps = n := by (conv=>lhs;whnf)) (b : (fn.name == "runtime.NumGoroutine") = false := by kernel_rfl) (c : xn P fn.results.toList = some rs := by (conv=>lhs;reduce)) (d : fn.body.bind (comp P n) = some p := by (conv=>lhs;reduce;(try simp only [Int.reduceOfNat, Int.reduceNegSucc, fU, UInt8.reduceOfNat, fA]))) (e : p.bare = p := by rfl) : wT P f n rs p := ⟨⟨fn, h, a, b, c, by rw [e]; exact d⟩⟩
theorem bt{w:WP}(b:B)(hf:wT P f n rs p:=by exact fZ)(g:Rd P n p w:=by(focus (repeat' constructor)))(e:B->w (DP rs λr H=>Deep H r d) (params 0 args) []:=by(intro h;((conv=>whnf);repeat(refine⟨rfl,?_⟩;conv=>whnf));exact h))(hn:args.length<=n:=by simp)(hp:aA args:=by simp[aA,Pure])(hd:Pure d:=by simp[aA,Pure]):ao P f args d:=bS hf (ry g<|e b) hn hp hd
def PC.at:PC->Nat->PC
 | .seq a b,n=>match Nat.beq n 1 with
  |true=>.stop (.seq a b)
  |false=>match Nat.beq (n%2) 0 with
   |true=>.seq (a.at<|n/2) b
   |false=>.seq a<|b.at<|n/2
 | .cond c a b,n=>match Nat.beq n 1 with
  |true=>.stop (.cond c a b)
  |false=>match Nat.beq (n%2) 0 with
   |true=>.cond c (a.at<|n/2) b
   |false=>.cond c a<|b.at<|n/2
 | .block i c,n=>match Nat.beq n 1 with
  |true=>.stop (.block i c)
  |false=>.block i<|c.at<|n/2
 | .loop c,n=>match Nat.beq n 1 with
  |true=>.stop (.loop c)
  |false=>.loop<|c.at<|n/2
 | .stop c,n=>.stop<|c.at n
 |c,_=>.stop c
theorem fY {P : Program} {f : FuncId} {n : Nat} {rs : List RV} {p : PC} {fn : Func} (L : List Nat) (h : P.funcs[f]? = some fn := by (conv=>lhs;whnf)) (a : fn.ntmps = n := by (conv=>lhs;whnf)) (b : (fn.name == "runtime.NumGoroutine") = false := by kernel_rfl) (c : xn P fn.results.toList = some rs := by (conv=>lhs;reduce)) (d : (fn.body.bind (comp P n)).map (L.foldl PC.at) = some p := by (conv=>lhs;reduce;(try simp only [Int.reduceOfNat, Int.reduceNegSucc, fU, UInt8.reduceOfNat, fA]))) (e : fn.body.bind (comp P n) = some p.bare := by kernel_rfl) : wT P f n rs p := ⟨⟨fn, h, a, b, c, e⟩⟩
mutual
def lens{H:Type}(L:Nat):DataW H->Prop
 | .lit (.string b)=>b.length<=L
 | .lit _=>True
 | .slice elems _=>elems.length<=L/\Ae L elems
 | .agg parts=>Ae L parts
 |_=>True
def Ae{H:Type}(L:Nat):List (DataW H)->Prop
 |[]=>True
 |d::r=>lens L d/\Ae L r
end
theorem P5{H:Type}{L:Nat}:∀{l:List<|DataW H},Ae L l->∀d∈l,lens L d
 |[],_,_,h=>by cases h
 |x::r,h,d,hd=>by
  simp only[Ae] at h;rcases eQ.1 hd with rfl|hd
  ·exact h.1
  exact P5 h.2 d hd
mutual
inductive kT(P:bG)(L:Nat):bp->bj->Prop
 |bool (t:bp) (b:Bool) (ht:P.underlying t=some .bool):kT P L t [.sc (.bool b)]
 |int (t:bp) (k:IntKind) (n:Int) (ht:P.underlying t=some (.int k)) (h:k.min<=n/\n<=k.max):kT P L t [.sc (.int k n)]
 |str (t:bp) (s:aB) (ht:P.underlying t=some .string) (h:s.size<=140737488351232) (hL:L=0\/s.size<=L):kT P L t [.sc (.string s)]
 |slice (t e:bp) (xs:fc) (ht:P.underlying t=some (.slice e)) (hn:xs.length<=9223372036854775807/\xs.length*P.bytesOf e<=140737488351232) (hL:L=0\/xs.length<=L) (h:wz P L e xs):kT P L t [.aM (P.cellsOf e) xs]
 |struct (t:bp) (fs:Array Field) (cs:bj) (ht:P.underlying t=some (.struct fs)) (h:qQ P L (fs.toList.map (·.type)) cs):kT P L t cs
inductive qQ(P:bG)(L:Nat):List bp->bj->Prop
 |nil:qQ P L [] []
 |cons (t:bp) (ts:List bp) (a b:bj) (h:kT P L t a) (k:qQ P L ts b):qQ P L (t::ts) (a++b)
inductive wz(P:bG)(L:Nat):bp->fc->Prop
 |nil (e:bp):wz P L e []
 |cons (e:bp) (x:bj) (r:fc) (h:kT P L e x) (k:wz P L e r):wz P L e (x::r)
end
abbrev OfT(P:bG):=kT P 0
abbrev OfTL(P:bG):=wz P 0
section
variable{P:bG}{L:Nat}{t:bp}{cs:bj}
variable{k:IntKind}
theorem of_int(ht:P.underlying t=some (.int k))(h:kT P L t cs):∃n,cs=[.sc (.int k n)]/\k.min<=n/\n<=k.max:=by
 cases h<;>simp_all
theorem zz4(ht:P.underlying t=some .string)(h:kT P L t cs):∃s:aB,cs=[.sc (.string s)]/\s.size<=140737488351232:=by
 cases h<;>simp_all
theorem zA6(ht:P.underlying t=some .string)(h:kT P L t cs):∃s:aB,cs=[.sc (.string s)]/\s.size<=9223372036854775807:=by
 obtain⟨s,e,h⟩:=zz4 ht h
 grind
variable{e:bp}
theorem zsT(ht:P.underlying t=some (.slice e))(h:kT P L t cs):∃xs,cs=[.aM (P.cellsOf e) xs]/\(xs.length<=9223372036854775807/\xs.length*P.bytesOf e<=140737488351232)/\wz P L e xs:=by
 cases h<;>simp_all
theorem of_slice(ht:P.underlying t=some (.slice e))(h:kT P L t cs):∃xs,cs=[.aM (P.cellsOf e) xs]/\xs.length<=9223372036854775807/\wz P L e xs:=by
 obtain⟨xs,e,h,k⟩:=zsT ht h
 grind
theorem of_struct{fs:Array Field}(ht:P.underlying t=some (.struct fs))(h:kT P L t cs):qQ P L (fs.toList.map (·.type)) cs:=by
 cases h<;>simp_all
theorem Cb(h:qQ P L [] cs):cs=[]:=by cases h;rfl
variable{ts:List bp}
theorem xw(h:qQ P L (t::ts) cs):∃a b,cs=a++b/\kT P L t a/\qQ P L ts b:=by
 cases h with
 |cons t ts a b h k=>exact⟨a,b,rfl,h,k⟩
theorem qG(ht:P.underlying t=some (.int k))(h:qQ P L (t::ts) cs):∃n b,cs=.sc (.int k n)::b/\(k.min<=n/\n<=k.max)/\qQ P L ts b:=by
 obtain⟨a,b,rfl,ha,hb⟩:=xw h;obtain⟨n,rfl,hn⟩:=of_int ht ha
 grind
theorem WR(ht:P.underlying t=some .string)(h:qQ P L (t::ts) cs):∃(s:aB) (b:bj),cs=.sc (.string s)::b/\s.size<=9223372036854775807/\qQ P L ts b:=by
 obtain⟨a,b,rfl,ha,hb⟩:=xw h;obtain⟨n,rfl,hn⟩:=zA6 ht ha
 grind
theorem UT(ht:P.underlying t=some (.slice e))(h:qQ P L (t::ts) cs):∃xs b,cs=.aM (P.cellsOf e) xs::b/\xs.length<=9223372036854775807/\wz P L e xs/\qQ P L ts b:=by
 obtain⟨a,b,rfl,ha,hb⟩:=xw h;obtain⟨n,rfl,h1,h2⟩:=of_slice ht ha
 grind
end
def F9(P:bG):List Field->Nat->Nat->Bool
 |[],o,n=>o==n
 |f::r,o,n=>f.offset==o&&F9 P r (o+P.cellsOf f.type) n
def Hu(P:bG)(S:List bp):Bool:=S.all λt=>match P.underlying t with
 |some .bool|some .string=>true
 |some (.int _)=>true
 |some (.slice e)=>S.contains e&&decide (0<P.cellsOf e)
 |some (.struct fs)=>F9 P fs.toList 0 (P.cellsOf t)&&fs.toList.all λf=>S.contains f.type
 |_=>false
section
variable{P:bG}
theorem QX{L:Nat}{e:bp}:∀{xs:fc},(∀x∈xs,kT P L e x)->wz P L e xs
 |[],_=>.nil e
 |x::r,h=>.cons e x r (h x<|by simp)<|QX λy hy=>h y<|by simp[hy]
theorem RT{L:Nat}{e:bp}:∀{xs:fc},wz P L e xs->∀x∈xs,kT P L e x
 |_,.nil _,x,h=>by cases h
 |_,.cons _ y r h k,x,hx=>by
  rcases eQ.1 hx with rfl|hx
  ·exact h
  exact RT k x hx
variable{H:Type}{enc:bp×aW->H}{W:bl}{spare:aq}{held:Bool}
def ri(W:bl):Nat->Prop:=λb=>b<W.heap.size
theorem Ww{L:Nat}{cs:List aW}{N:Nat}(hl:cs.length=N):∀(l:List Field) (o:Nat),F9 P l o N=true ->
  (∀f∈l,∃ds,kT P L f.type ds/\bA jX (ri W) W ds ((cs.drop f.offset).take<|P.cellsOf f.type)/\(∀v∈(cs.drop f.offset).take (P.cellsOf f.type),gC v)) ->
  ∃ds,qQ P L (l.map (·.type)) ds/\bA jX (ri W) W ds (cs.drop o)/\∀v∈cs.drop o,gC v=true
 |[],o,ho,_=>by
  simp only[F9,ib] at ho;refine⟨[],.nil,?_,?_⟩
  ·simp only[bA];exact DA<|by omega
  rw[DA<|by omega];intro v hv;cases hv
 |f::r,o,ho,h=>by
  simp only[F9,gr,ib] at ho;obtain⟨Qh,Qj⟩:=ho;obtain⟨a,h1,h2,h3⟩:=h f (by simp);obtain⟨b,k1,k2,k3⟩:=Ww hl r (o+P.cellsOf f.type) Qj λg hg=>h g (by simp[hg]);rw[Qh] at h2 h3;have e:cs.drop o=(cs.drop o).take (P.cellsOf f.type)++cs.drop (o+P.cellsOf f.type):=by
   rw[<-List.drop_drop,List.take_append_drop]
  refine⟨a++b,.cons _ _ _ _ h1 k1,?_,?_⟩
  ·rw[e];exact Gx h2 k2
  intro v hv;rw[e] at hv;rcases dz.1 hv with hv|hv
  ·exact h3 v hv
  exact k3 v hv
theorem WS{e:bp}:∀{ds:List<|DataW H} {d:DataW H},d∈ds->∀n∈d.weights P e,n∈DataW.weightsAll P e ds
 |d0::ds,d,hd,n,hn=>by
  simp only[DataW.weightsAll,dz];rcases eQ.1 hd with rfl|hd
  ·exact .inl hn
  exact .inr<|WS hd n hn
 |[],_,hd,_,_=>by cases hd
variable{L:Nat}{S:List bp}
theorem zuo(hS:Hu P S):∀(fuel:Nat) (t:bp) (cs:List aW) (x:DataW H×List MemPlace),t∈S->DataW.trod enc P W 0 spare held fuel t cs=some x->(∀n∈x.1.weights P t,n<=reachBytes)->(L=0\/lens L x.1) ->
  ∃ds,kT P L t ds/\bA jX (ri W) W ds cs/\∀v∈cs,gC v:=by
 intro fuel
 induction fuel using Nat.strongRecOn with
 |ind fuel ih =>
  intro t cs x ht h hz hL;have hT:=kb.1 hS t ht;split at hT
  ·rename_i hu;obtain⟨b,rfl,_⟩:=DataW.trod_bool hu h;exact⟨_,.bool t b hu,by simp[bA,rep],by simp[gC]⟩
  ·rename_i hu;obtain⟨s,rfl,hx,hs⟩:=DataW.trod_string hu h;subst hx;have hw:=hz s.size (by simp[DataW.weights]);exact⟨_,.str t s hu (by unfold reachBytes at hw;omega) (hL.imp_right λq=>by
    simp only[lens] at q;have e:s.data.toList.length=s.size:=(by rw[Array.length_toList];rfl);omega),by simp[bA,rep],by simp[gC]⟩
  ·rename_i k hu;obtain⟨n,rfl,_,hw⟩:=DataW.trod_int hu h;simp only[Lit.wf,gr,ja] at hw;exact⟨_,.int t k n hu hw,by simp[bA,rep],by simp[gC]⟩
  ·rename_i e hu;simp only[gr,u7,ja] at hT;obtain⟨he,lO⟩:=hT;rcases DataW.trod_slice hu h with⟨rfl,_⟩|⟨a,len,cap,elems,rest,n',du,rfl,hx,_,hl,hm,GS,fS,_,_⟩
   ·refine⟨_,.slice t e [] hu (by simp) (.inr<|kZ _) (.nil e),?_,by simp[gC]⟩;simp only[bA,rep];exact⟨_,_,rfl,⟨none,0,0,rfl,rfl,aS _,.inl rfl⟩,rfl⟩
   have Pp:x.1=.slice (elems.map (·.1)) (rest.map (·.1)):=(by rw[hx]);rw[Pp] at hz hL;have JY:L=0\/(elems.length<=L/\∀d∈elems.map (·.1),lens L d):=hL.imp_right λq=>by
    simp only[lens,aI] at q;exact⟨q.1,P5 q.2⟩
   have hw:=hz ((elems.length+rest.length)*P.bytesOf e) (by simp[DataW.weights,hu]);have hwe:∀d∈elems.map (·.1),∀n∈d.weights P e,n<=reachBytes:=λd hd n hn=>hz n (by
    have:=WS hd n hn;simp[DataW.weights,hu,this])
   have each:∀i,i<len->∃ds,kT P L e ds/\ds.length=P.cellsOf e/\(∀j c,ds[j]? = some c->∃u,W.cell? ((a.add<|i*P.cellsOf e).add j)=some u/\gC u/\rep jX (ri W) W c u):=λi hi=>by
    have aT:=fS i hi;rw[aX<|by omega] at aT;obtain⟨gA,HC,xZ⟩:=Option.bind_eq_some_iff.1 aT;obtain⟨ds,q1,q2,q3⟩:=ih n' (by omega) e gA _ he xZ (hwe _<|List.mem_map_of_mem<|iZ _)<|JY.imp_right λq=>q.2 _<|List.mem_map_of_mem<|iZ _;obtain⟨_,fN,hc⟩:=World.cells?_some HC;have hlen:=nS _ _ q2;refine⟨ds,q1,by omega,λj c hj=>?_⟩;have vt:j<ds.length:=by
     rcases gK j ds.length with q|q
     ·exact q
     rw[dG q] at hj;cases hj
    obtain⟨v,k1,k2⟩:=uu _ _ j c hj q2;exact⟨v,by rw[hc j<|by omega];exact k1,q3 v<|o7 k1,k2⟩
   obtain⟨R,hR⟩:∃R:Nat->bj,∀i,i<len->kT P L e (R i)/\(R i).length=P.cellsOf e/\(∀j c,(R i)[j]? = some c->∃u,W.cell? ((a.add (i*P.cellsOf e)).add j)=some u/\gC u/\rep jX (ri W) W c u):=by
    refine⟨λi=>if h:i<len then Classical.choose<|each i h else [],λi hi=>?_⟩;simp only[dif_pos hi];exact Classical.choose_spec<|each i hi
   refine⟨_,.slice t e ((List.range len).map R) hu (by
    rw[aI,List.length_range];refine⟨by unfold maxLen at hm;omega,jI (yH _ ?_) hw⟩;omega) (JY.imp_right λq=>by
     rw[aI,List.length_range];omega) (QX λx hx=>?_),?_,by simp[gC]⟩
   ·obtain⟨i,hi,rfl⟩:=dq.1 hx;exact(hR i<|jz.1 hi).1
   simp only[bA,rep];refine⟨_,_,rfl,⟨some a,len,cap,rfl,by simp,hl,?_⟩,rfl⟩;rcases B4 len with h0|h0
   ·exact .inl h0
   refine .inr ?_;obtain⟨_,g2,g3⟩:=hR 0 h0;obtain⟨u,hu,_⟩:=g3 0 _<|aX (by omega);obtain⟨b,o,sp⟩:=a;have yx:sp=none:=by
    simp only[Addr.add,World.cell?] at hu;split at hu
    ·cases sp with
     |none=>rfl
     |some q=>simp at hu
    cases hu
   subst yx;rw[oK,oK] at hu;have hb:b<W.heap.size:=World.block_lt_of_cell? _ _ hu;refine⟨b,o,rfl,hb,wN _ o λi x hx=>?_⟩;have hi:i<len:=by
    rcases gK i len with q|q
    ·exact q
    rw[dG<|by simpa using q] at hx;cases hx
   rw[fx,xK hi] at hx;simp at hx;subst hx;obtain⟨_,w2,w3⟩:=hR i hi;exact⟨w2,rU _ _ λj c hc=>by
    have:=w3 j c hc;rwa [oK,oK] at this⟩
  ·rename_i fs hu;simp only[gr] at hT;obtain⟨ho,hf⟩:=hT;obtain⟨ys,n,hn,hx,hlen,hyl,pX⟩:=DataW.trod_struct hu h;have Pp:x.1=.agg (ys.map (·.1)):=(by rw[hx]);rw[Pp] at hz hL;obtain⟨ds,k1,k2,k3⟩:=Ww (P:=P) (W:=W) (L:=L) hlen fs.toList 0 ho λf gE=>by
    obtain⟨i,hi,rfl⟩:=iD.1 gE;have aT:i<fs.size:=(by simpa using hi);have hg:=pX i _<|wP aT;rw[aX<|by omega] at hg;have aY:(fs[i]).type∈S:=by
     have:=kb.1 hf _ gE;simpa using this
    have e:fs.toList[i]=fs[i]:=(by simp);rw[e];refine ih n (by omega) _ _ _ aY hg (λm hm=>hz m ?_) (hL.imp_right λq=>by
     simp only[lens] at q;exact P5 q _<|List.mem_map_of_mem<|iZ _)
    have hwm:=DataW.weights_mem_each (P:=P) (ts:=fs.toList.map (·.type)) (ds:=ys.map (·.1)) (j:=i) (t:=(fs[i]).type) (d:=(ys[i]'(by omega)).1) (by rw[fx,Array.getElem?_toList,wP aT];rfl) (by rw[fx,aX<|by omega];rfl) m hm;simpa [DataW.weights,hu] using hwm
   rw[dP] at k2 k3;exact⟨ds,.struct t fs ds hu k1,k2,k3⟩
  cases hT
theorem zyD(hS:Hu P S){t:bp}(ht:t∈S){v:aW}{d:DataW H}{ps:List MemPlace}(h:DataW.Trod enc P W 0 spare held t v d ps)(hz:∀n∈d.weights P t,n<=reachBytes)(hL:L=0\/lens L d):∃ds,kT P L t ds/\bA jX (ri W) W ds v.cells.toList/\∀u∈v.cells.toList,gC u:=by
 obtain⟨fuel,hf⟩:=h;exact zuo hS fuel t _ _ ht hf hz hL
theorem zz8{cs:bj}{xs:Array aW}(h:bA jX (ri W) W cs (Value.agg xs).cells.toList):rep jX (ri W) W (.agg cs) (.agg xs):=by
 simp only[rep];exact⟨xs.toList,by simp,h⟩
end
section
open Go.ChangeShapes Go.WideShapes Go.ChangeAt Go.RowKit Go.Deep
def BP(P:bG)(L:Nat)(t:bp)(d:D):Prop:=match P.underlying t with
 |some (.struct _)=>∃cs,d=.agg cs/\kT P L t cs
 |_=>kT P L t [d]
def Pa(P:bG)(L:Nat):List bp->bj->Prop
 |[],[]=>True
 |t::ts,d::ds=>BP P L t d/\Pa P L ts ds
 |_,_=>False
abbrev OfA(P:bG):=BP P 0
abbrev OfAs(P:bG):=Pa P 0
section
variable{H:Type}{enc:bp×aW->H}{P:bG}{W:bl}
theorem zzr{L:Nat}{t:bp}{ds:bj}(hu:∀fs,P.underlying t≠some (.struct fs))(h:kT P L t ds):∃d,ds=[d]:=by
 cases h with
 |struct=>grind
 |_=>exact⟨_,rfl⟩
theorem Th{L:Nat}{S:List bp}(hS:Hu P S){base:Nat}:∀(ts:List bp) (vs:List aW) (ds:List<|DataW H) (ps:List MemPlace),(∀t∈ts,t∈S)->(∀(j:Nat) (t:bp) (v:aW),ts[j]? = some t->vs[j]? = some v->Value.okWide P W .any base t v) ->
  DataW.TrodAll enc P W 0 (λ_=>true) true ts vs ds ps->(∀n∈DataW.weightsEach P ts ds,n<=reachBytes)->(L=0\/Ae L ds)->∃Ds,Pa P L ts Ds/\bA jX (ri W) W Ds vs
 |[],[],[],_,_,_,_,_,_=>⟨[],trivial,by simp only[bA]⟩
 |t::ts,v::vs,d::ds,ps,kF,Bn,h,hz,hL=>by
  obtain⟨p,q,h1,h2,_⟩:=h;obtain⟨cs,k1,k2,k3⟩:=zyD hS (kF t<|by simp) h1 (λn hn=>hz n<|by simp[DataW.weightsEach,hn]) (hL.imp_right λq=>by simp only[Ae] at q;exact q.1);obtain⟨Ds,g1,g2⟩:=Th hS ts vs ds q (λu hu=>kF u<|by simp[hu]) (λj u x hj hx=>Bn (j+1) u x (by simpa using hj)<|by simpa using hx) h2 (λn hn=>hz n<|by simp[DataW.weightsEach,hn]) (hL.imp_right λq=>by simp only[Ae] at q;exact q.2);have hv:=Bn 0 t v rfl rfl;have one:∃c,BP P L t c/\rep jX (ri W) W c v:=by
   unfold BP;split
   ·rename_i fs hu;obtain⟨xs,rfl,_⟩:=okWide_struct hu hv;exact⟨_,⟨cs,rfl,k1⟩,zz8 k2⟩
   rename_i hu;obtain⟨c,rfl⟩:=zzr hu k1;have h1v:v.cells.toList=[v]:=by
    have hlen:=nS _ _ k2
    cases v with
    |agg xs =>
     exfalso;have hT:=kb.1 hS t<|kF t (by simp);unfold Value.okWide at hv;split at hT
     ·rename_i e;rw[e] at hv;simp[Cell.okWide,Cell.ok,e] at hv
     ·rename_i e;rw[e] at hv;simp[Cell.okWide,Cell.ok,e] at hv
     ·rename_i e;rw[e] at hv;simp[Cell.okWide,Cell.ok,e] at hv
     ·rename_i e;rw[e] at hv;simp[Cell.okWide,Cell.ok,e] at hv
     ·rename_i fs e;exact hu fs e
     cases hT
    |_=>rfl
   refine⟨c,k1,?_⟩;rw[h1v] at k2;simp only[bA] at k2;obtain⟨u,us,e,k,_⟩:=k2;simp at e;rw[e.1];exact k
  obtain⟨c,c1,c2⟩:=one;exact⟨c::Ds,⟨c1,g1⟩,by simp only[bA];exact⟨v,vs,rfl,c2,g2⟩⟩
 |[],_::_,_,_,_,_,h,_,_=>by simp[DataW.TrodAll] at h
 |[],[],_::_,_,_,_,h,_,_=>by simp[DataW.TrodAll] at h
 |_::_,[],_,_,_,_,h,_,_=>by simp[DataW.TrodAll] at h
 |_::_,_::_,[],_,_,_,h,_,_=>by simp[DataW.TrodAll] at h
theorem zvN{S:List bp}(hS:Hu P S){base:Nat}(ts:List bp)(vs:List aW)(ds:List<|DataW H)(ps:List MemPlace)(h1:∀t∈ts,t∈S)(h2:∀(j:Nat) (t:bp) (v:aW),ts[j]? = some t->vs[j]? = some v->Value.okWide P W .any base t v)
  (h3:DataW.TrodAll enc P W 0 (λ_=>true) true ts vs ds ps) (h4:∀n∈DataW.weightsEach P ts ds,n<=reachBytes):∃Ds,OfAs P ts Ds/\bA jX (ri W) W Ds vs:=Th hS ts vs ds ps h1 h2 h3 h4 (.inl rfl)
theorem X0:∀(ts Pf:List bp) (ds O9:List<|DataW H),ts.length=ds.length->∀n∈DataW.weightsEach P ts ds,n∈DataW.weightsEach P (ts++Pf) (ds++O9)
 |[],_,[],_,_,n,hn=>by simp[DataW.weightsEach] at hn
 |t::ts,Pf,d::ds,O9,hl,n,hn=>by
  simp only[pQ,DataW.weightsEach,dz] at hn⊢;exact hn.imp_right (X0 ts Pf ds O9 (by simpa using hl) n)
theorem Wt(hl:laidOutB P){W':bl}{sp:aq}(hb:Below W.heap.size W W'):∀(ts:List bp) (vs:List aW) (ds:List<|DataW H) (ps:List MemPlace),(∀t∈ts,P.readableRec t/\t<P.types.size) ->
  (∀x∈ps,x.block<W.heap.size)->(∀x∈ps,sp x.block)->DataW.TrodAll enc P W 0 (λ_=>true) true ts vs ds ps->DataW.TrodAll enc P W' 0 sp true ts vs ds ps
 |[],[],[],_,_,_,_,h=>h
 |t::ts,v::vs,d::ds,ps,kF,cG,yx,h=>by
  obtain⟨p,q,h1,h2,rfl⟩:=h;refine⟨p,q,WideElems.Trod_stays hl (kF t<|by simp).1 (kF t<|by simp).2 h1 (λx hx=>hb.same<|cG x<|by simp[hx]) λx hx=>yx x<|by simp[hx],Wt hl hb ts vs ds q (λu hu=>kF u<|by simp[hu]) (λx hx=>cG x<|by simp[hx]) (λx hx=>yx x<|by simp[hx]) h2,rfl⟩
 |[],_::_,_,_,_,_,_,h=>by simp[DataW.TrodAll] at h
 |[],[],_::_,_,_,_,_,h=>by simp[DataW.TrodAll] at h
 |_::_,[],_,_,_,_,_,h=>by simp[DataW.TrodAll] at h
 |_::_,_::_,[],_,_,_,_,h=>by simp[DataW.TrodAll] at h
theorem O'{sp:aq}{hd:Bool}{b:Nat}:∀(ts:List bp) (vs:List aW) (ds:List<|DataW H) (ps:List MemPlace),DataW.TrodAll enc P W b sp hd ts vs ds ps->ds.length=ts.length
 |[],[],[],_,_=>rfl
 |t::ts,v::vs,d::ds,ps,h=>by
  obtain⟨p,q,_,h2,_⟩:=h;simp[O' ts vs ds q h2]
 |[],_::_,_,_,h=>by simp[DataW.TrodAll] at h
 |[],[],_::_,_,h=>by simp[DataW.TrodAll] at h
 |_::_,[],_,_,h=>by simp[DataW.TrodAll] at h
 |_::_,_::_,[],_,h=>by simp[DataW.TrodAll] at h
theorem zmN{F':Nat->Prop}{W':bl}(h:Ext jX (ri W) W jX F' W'):Below W.heap.size W W':=⟨h.os,h.tape,h.output,h.size,λk hk=>h.block k hk<|qj k⟩
theorem zxh{f:Func}{s:ChangeSpec}{apart fresh handsOn again:Bool}{W':bl}{args:Array aW}{ds gs:List<|DataW H}{before:List MemPlace}{tb:bp}
  (hW:DataW.Whole enc P f.params.toList s.vars apart W args.toList ds gs before) (Vw:s.vars=[]) (mv:f.resultTypes=#[tb]) (htb:P.underlying tb=some .bool)
  (hl:laidOutB P) (hr:∀t∈f.params.toList,P.readableRec t/\t<P.types.size)
  (hs:∀ds:List<|DataW H,ds.length=f.params.toList.length->s.fn H ds={ results:=[.lit (.bool true)],args:=ds })
  (hb:Below W.heap.size W W') (az:∀(j:Nat) (t:bp) (r:aW),f.resultTypes[j]? = some t->((Value.bool true).resultList f.resultTypes.size)[j]? = some r->Value.okWide P W' .any 0 t r) :
  s.post enc P f apart fresh handsOn again W args (.bool true) W':=by
 have cG:∀p∈before,p.block<W.heap.size:=λp hp=>hW.lt p hp;have hold:∀p∈before,(λb=>decide (b<W.heap.size)) p.block=true:=λp hp=>by simpa using cG p hp
 obtain⟨pa,pv,hA,hV,tC,hz,hn⟩:=id hW;rw[Vw] at hV;have hV':gs=[]/\pv=[]:=by
  cases gs with
  |nil=>exact⟨rfl,hV⟩
  |cons _ _=>simp[DataW.TrodVars] at hV
 obtain⟨rfl,rfl⟩:=hV';simp only[lv] at tC;subst tC;have HA:=hs ds<|O' _ _ _ _ hA;have zPh:((Value.bool true).resultList f.resultTypes.size)=[.bool true]:=by rw[mv];rfl
 have SF:∀(b:Nat) (sp:aq) (hd:Bool),DataW.TrodAll enc P W' b sp hd f.resultTypes.toList ((Value.bool true).resultList f.resultTypes.size) (s.fn H<|ds++[]).results []:=λb sp hd=>by
  rw[lv,HA,mv];exact trodAll_cons_mk (shut_bool htb _) trodAll_mk0
 have iG:∀sp:Nat->Bool,(∀p∈before,sp p.block)->DataW.TrodAll enc P W' 0 sp true f.params.toList args.toList (s.fn H<|ds++[]).args before:=λsp yx=>by
  rw[lv,HA];exact Wt hl hb _ _ _ _ hr cG yx hA
 have Su:∀sp:Nat->Bool,DataW.TrodVars enc P W' sp s.vars (s.fn H<|ds++[]).vars []:=λsp=>by
  rw[lv,HA,Vw];rfl
 refine⟨ds,[],before,[],before,[],hW,SF _ _ _,iG _ hold,Su _,World.keptBut_mono (λp hp=>⟨hp,Or.inr<|Or.inl hp⟩) (hb.frame (·∈before)),λ_=>?_⟩;refine⟨az,_,_,([]++before)++[],⟨[]++before,[],trodAll_append (iG _ λ_ _=>rfl)<|SF _ _ _,Su _,rfl,?_,?_⟩,?_⟩
 ·intro b off hp;have aY:MemPlace.cell b off∈before:=(by simpa using hp);rw[hb.frozen<|cG _ aY];exact hz b off aY
 ·intro ha;have:=hn ha;simpa using this
 intro p hp _;simpa using hp
end
end
theorem cC.put1{J:bh}{F:Nat->Prop}{w:World}{G:Nat->Option al}(az:cC J F w G){id b off:Nat}{s:Site}{cs:List D}{t:Option TypeId}{c:D}{u:Value}(q1:J id=some s)(q3:s.ad=some ⟨b,0,none⟩)(h1:G id=some (.row true cs t))(hl:off<cs.length)(hu:gC u)(hc:rep J F w c u) :
  cC J F (w.setCell ⟨b,off,none⟩ u) (λi=>if i=id then some (.row true (cs.take off++[c]++cs.drop (off+1)) t) else G i)/\Ext J F w J F (w.setCell ⟨b,off,none⟩ u):=by
 obtain⟨o',p1,p2⟩:=az.obj id s q1;rw[h1] at p1;cases p1;obtain⟨p2,p3,p4,p5,p6,b',vals,te,p7,p8,p9,p10,p11⟩:=p2;rw[q3] at p7;cases p7;have iH:s.cE=some b:=by simp[Site.cE,p2,q3]
 have ky:¬F b:=az.apart id s b _ q1 iH h1 rfl;have r2:wg w (w.setCell ⟨b,off,none⟩ u) b off [u] vals<|t.getD te:=by
  have js:=heap_setCell_same w b off vals (t.getD te) u p8;refine⟨rfl,rfl,rfl,by simp[World.setCell],λk hk=>?_,vals.setIfInBounds off u,js,zs,λj=>?_⟩
  ·exact heap_setCell_other w _ k u hk
  repeat grind
 have oj:∀z,F z->(w.setCell ⟨b,off,none⟩ u).heap[z]? = w.heap[z]?:=λz vz=>r2.other z λe=>ky<|e▸vz;refine⟨?_,r2.ext az (bh.le_refl J) ⟨id,s,q1,iH⟩ (λ_ h=>h) ky⟩;refine az.update id s _ (λi=>by by_cases e:i=id<;>simp[e,q1]) (λ_=>rfl) (bh.le_refl J) oj (by rw[r2.size];exact aS _) (λi s' b' b9 hi hb=>r2.other b' λe=>b9<|az.one i id s' s b' hi q1 hb<|e▸iH) (λb' hb=>.inr ⟨s,q1,hb⟩) (λi s' b' hi hb=>az.jk hi hb) (λb' hb _=>by rw[iH] at hb;cases hb;exact ky) ?_;obtain⟨pY,r3,r4,_⟩:=r2.here;refine⟨p2,p3,p4,zq,zq,b,pY,te,q3,r3,by rw[r4,p9];simp;omega,?_,λq=>by cases q⟩;have LC:wg w (w.setCell ⟨b,off,none⟩ u) b (0+off) [u] vals<|t.getD te:=by grind
 exact M8 LC p8 (bh.le_refl J) oj p10 (by simpa using hu) (by simp only[bA];exact⟨u,[],rfl,hc,rfl⟩) zq
theorem zuu{p q l A B:D}{r:List al}(hA:A=.sc (.pointer none)\/A=.loc 0 3):bZ Tryz.prog 64 [.loc 0 3] (.row true [p,q,l,A,B] (some uf)::r) (.aJ []) (.row true [p,q,l,.loc 0 3,B] (some uf)::r) where
 ok:=⟨_,Tryz.func64,zk,zk⟩
 len:=aS _
 run J F w vs az jH hr:=by
  simp only[bA,rep] at hr;obtain⟨_,_,rfl,⟨s,b,q1,q2,q3,rfl⟩,rfl⟩:=hr;obtain⟨o,e,k⟩:=az.obj 0 s q1;obtain rfl:al.row true [p,q,l,A,B] (some uf)=o:=Cu e;obtain⟨k1,k2,k3,k4,k5,b',vals,te,g1,g2,g3,g4,g5⟩:=k;rw[q3] at g1;cases g1;obtain⟨u,u1,_,u3⟩:=rn _ 0 3 A rfl g4;have eJ:vals.size=5:=g3;have hP:Tryz.prog.underlying 41=some (.pointer 44):=(by kernel_rfl);have hU:Tryz.prog.underlying 211=some .unsafePointer:=(by kernel_rfl);obtain⟨j,hj,L5⟩:=Option.map_eq_some_iff.1 (show(Tryz.prog.info? 44).map (·.size)=some 2 by kernel_rfl);rcases hA with rfl|rfl
  ·simp only[rep] at u3;subst u3;have hc:w.cell? ⟨b,3,none⟩=some (.pointer none):=u1;have Kx:w.shape? b=some (uf,5):=(by simp[World.shape?,g2,eJ]);obtain⟨z1,z2⟩:=az.put1 (off:=3) (c:=.loc 0 3) (u:=.pointer<|some ⟨b,3,none⟩) q1 q3 rfl zs rfl (by simp only[rep];exact⟨s,b,q1,q2,q3,rfl⟩);have Gp:w.frozen? ⟨b,3,none⟩=false:=frozen_of_row w b 3 vals _ g2;refine Calls.mono (R:=λe w'=>e=.returned (.tuple #[])/\w'=w.setCell ⟨b,3,none⟩ (.pointer<|some ⟨b,3,none⟩)) ?_ ?_
   ·go_enter Tryz.func64,Tryz.ntmps64
    go_wp2
    rw[Lib.run_to_unsafe w ⟨b,3,none⟩ hP hU hj zo Kx zs];simp only[Result.andThen];rw[Oper.upon_value]
    go_wp2
    rw[run_callFunc_extern Tryz.func131 zk zk zk (e:=Extern.AbiNoEscape.same) zk,Lib.run_noEscape];simp only[Result.andThen];rw[Oper.upon_value]
    go_wp2
    rw[Lib.run_from_unsafe w ⟨b,3,none⟩ hU hP hj Kx zk];simp only[Result.andThen];rw[Oper.upon_value]
    go_wp2
    go_end0
    exact⟨rfl,rfl⟩
   rintro e w' ⟨rfl,rfl⟩;refine⟨_,J,F,rfl,?_,jH,by simp[rep,bA],z2⟩;rwa [show(λi=>if i=0 then some<|al.row true ([p,q,l,D.sc (.pointer none),B].take 3++[.loc 0 3]++[p,q,l,D.sc (.pointer none),B].drop (3+1))<|some uf else (al.row true [p,q,l,.sc (.pointer none),B] (some uf)::r)[i]?)=λi=>(al.row true [p,q,l,.loc 0 3,B] (some uf)::r)[i]? from funext λi=>by cases i<;>rfl] at z1
  simp only[rep] at u3;obtain⟨s',b',q4,_,q5,rfl⟩:=u3;rw[q1] at q4;cases q4;rw[q3] at q5;cases q5;have hc:w.cell? ⟨b,3,none⟩=some (.pointer<|some ⟨b,3,none⟩):=u1;refine Calls.mono (R:=λe w'=>e=.returned (.tuple #[])/\w'=w) ?_ ?_
  ·go_enter Tryz.func64,Tryz.ntmps64
   go_wp2
   rw[Lib.run_neq_ptr_same w _ hP hj]
   go_wp2
   go_end0
   exact⟨rfl,rfl⟩
  rintro e w' ⟨rfl,rfl⟩;exact⟨_,J,F,rfl,az,jH,by simp[rep,bA],.refl _ _ _⟩
@[simp] def wrB(p q l A:D)(ar:Nat)(t:ByteArray):List al:=[.row true [p,q,l,A,.own 1 ar 0 t.size]<|some uf,.vec true ar 1 (oe t) true]
variable(t:ByteArray)
theorem Oc:(oe t).length=t.size:=by rw[oe,aI,byteCells_length]
theorem zlr(t s:ByteArray):oe (t++s)=((oe t).take t.size).drop 0++oe s:=by
 rw[dP,fG<|by rw[Oc];exact aS _];simp[oe,byteCells,ByteArray.data_append,Array.toList_append]
@[simp] theorem BE:dF<|oe t:=c6 _ (λa=>by simp[aA,Pure]) _
@[simp] theorem ztp:bB m (oe t)↔True:=⟨λ_=>trivial,λ_=>bm _<|BE t⟩
variable{t:ByteArray}
theorem LQ{p q l A:D}(hA:A=.sc (.pointer none)\/A=.loc 0 3)(hp:aG 2 [p,q,l]){ar:Nat}{s:ByteArray}(hs:t.size+s.size<=1000000) :
  bZ Tryz.prog 25 [.loc 0 3,.sc (.string s)] (wrB p q l A ar t) (.aJ [.sc (.int .i64 s.size),.sc .nilIface]) (wrB p q l (.loc 0 3) (ar+1)<|t++s):=by
 refine oQ fZ zs (by simp[wrB]) ?_ zu;unfold wrB;refine sR ?_;refine sA (zuu hA) ?_;refine sW ?_;rw[Oc];refine⟨by unfold iF;omega,?_⟩;refine sW ?_;rw[<-zlr,show t.size-0+s.size=(t++s).size by simp];exact⟨.refl _,⟨rfl,.refl _,by simpa [aG,aK] using hp⟩,⟨rfl,rfl,rfl,.refl _,zs⟩,trivial⟩
theorem zrc{P:Program}{e:TypeId}(hc:P.cellsOf e=1)(count off n:Nat)(hn:off+n<=count):liesAt P P.depth e count off e n:=by
 have hd:P.depth=(2*(P.types.size+Made.depth)+1)+1:=rfl;rw[hd];simp only[liesAt,sq];left;rw[hd];simp[Go.rowAt,hc,hn,Nat.mod_one,sameLayout]
theorem zqS{p q l:D}{ar:Nat}(h0:t.size≠0)(hs:t.size<=1000000) :
  bZ Tryz.prog 13 [.loc 0 3] (wrB p q l (.loc 0 3) ar t) (.sc (.string t)) [.row true [p,q,l,.loc 0 3,.own 1 ar 0 t.size]<|some uf,.vec true (ar+1) 1 [] true] where
 ok:=⟨_,Tryz.func13,zk,zk⟩
 len:=aS _
 run J F w vs az jH hr:=by
  simp only[bA,rep] at hr;obtain⟨_,_,rfl,⟨s,b,q1,q2,q3,rfl⟩,rfl⟩:=hr;obtain⟨o,e,k⟩:=az.obj 0 s q1;obtain rfl:al.row true [p,q,l,.loc 0 3,.own 1 ar 0 t.size] (some uf)=o:=Cu e;obtain⟨k1,k2,k3,k4,k5,b',vals,te,g1,g2,g3,g4,g5⟩:=k;rw[q3] at g1;cases g1;obtain⟨u,u1,_,u3⟩:=rn _ 0 4 (.own 1 ar 0 t.size) rfl g4;simp only[rep] at u3;obtain⟨s1,A,n,c,j1,rfl,j2,j3⟩:=u3;obtain⟨v1,v2,v3,v4,v5,v6⟩:=vo az (id:=1) (t:=true) j1 rfl;obtain⟨j4,_,j5,rfl,rfl,j6⟩:=j3 v2.symm;rw[Oc] at v4;rw[v4] at v5;have yi:s1.cap≠0:=λh=>h0<|Nat.le_zero.1<|h▸v5;obtain⟨g,o',e1,rfl⟩:=j6.resolve_left yi;obtain⟨g',o'',cur,te',e2,e3,e4,e5,_⟩:=v6.resolve_left yi;rw[e1] at e2;cases e2;clear j3 j6 v6;simp only[Nat.zero_mul,wU,ua,BQ] at u1 e4;have iH:s1.cE=some g:=by
   have:¬(s1.row=false/\s1.cap=0):=λh=>yi h.2;simp[Site.cE,this,e1]
  have ky:¬F g:=az.apart 1 s1 g _ j1 iH rfl rfl;have c1:w.drew.cell? ⟨b,4,none⟩=some (.slice (some ⟨g,o',none⟩) t.size s1.cap):=u1;have Kx:w.drew.shape? g=some (5,cur.size):=(by have h:w.drew.heap[g]? = _:=e3;simp[World.shape?,h,GW,Kt]);have Gl:∀j x,t.data.toList[j]? = some x->w.drew.cell? ((⟨g,o',none⟩:Addr).add j)=some (.int .u8 x.toNat):=λj x hx=>by
   obtain⟨_,h⟩:=vq _ o' j [.sc (.int .u8 x.toNat)] (by simp[oe,byteCells,hx]) e5;simp only[dY,rep,BQ] at h;obtain⟨⟨_,h1,_,rfl⟩,_⟩:=h;rw[oK];exact h1
  have hSD:(Builtin.unsafeSliceData_ #[42] 114 #[.slice (some ⟨g,o',none⟩) t.size s1.cap]).run Tryz.prog w.drew=.ok (.pointer<|some ⟨g,o',none⟩) w.drew:=Lib.run_unsafeSliceData_row _ _ _ _ _ _ yi;have hUS:(Builtin.unsafeString_ #[114,3] 9 #[.pointer<|some ⟨g,o',none⟩,.int .i64 t.size]).run Tryz.prog w.drew=.ok (.string t) (w.drew.freeze ⟨g,o',none⟩ t.size):=by
   have Ir:=Lib.run_loadBytes (P:=Tryz.prog) w.drew t.data.toList ⟨g,o',none⟩ .empty Gl;have hl:=zrc (P:=Tryz.prog) (e:=5) zk cur.size o' t.size zo;have hp:Tryz.prog.underlying 114=some (.pointer 5):=(by kernel_rfl);have zGj:IntKind.i64.max=9223372036854775807:=rfl;have h9:¬(9223372036854775807:Int)<(t.size:Int):=zo;have HC:Tryz.prog.cellsOf 5=1:=(by kernel_rfl);rw[show t.data.toList.length=t.size by simp] at Ir
   rw[show Builtin.unsafeString_ #[114,3] 9 #[.pointer<|some ⟨g,o',none⟩,.int .i64 t.size]=(do
    let n <-asInt (.int .i64 t.size)
    if n < 0 then runtimePanic (.error "unsafe.String: len out of range")
    if n > IntKind.i64.max then unsupported (.unsafePointer "String: a length above the largest int")
    if n=0 then pure (.string .empty)
    else if <-variablesAt ⟨g,o',none⟩ (<-elemOf 114) n.toNat then do
     let s <-loadBytes ⟨g,o',none⟩ .empty n.toNat
     freeze ⟨g,o',none⟩ n.toNat
     pure (.string s)
    else unsupported (.unsafePointer "String: not so many bytes at ptr")) from rfl]
   simp[asInt,asIntOf,zGj,h9,show ¬(t.size:Int)<0 by omega,h0,variablesAt,Kx,elemOf,run_underlying hp,HC,hl,Ir]
  refine Calls.mono (R:=λe w'=>e=.returned (.string t)/\w'=w.drew.freeze ⟨g,o',none⟩ t.size) ?_ ?_
  ·go_enter Tryz.func13,Tryz.ntmps13
   go_wp2
   go_region
   all_goals (go_wp2;go_ret;exact⟨rfl,rfl⟩)
  rintro e w' ⟨rfl,rfl⟩;have hz:∀k,k≠g->(w.drew.freeze ⟨g,o',none⟩ t.size).heap[k]? = w.heap[k]?:=λk hk=>by
   unfold World.freeze;split
   ·rfl
   simp only[Array.getElem?_modify];rw[ab λh=>hk h.symm];rfl
  obtain⟨y1,y2,y3,y4⟩:(w.drew.freeze ⟨g,o',none⟩ t.size).os=w.os/\(w.drew.freeze ⟨g,o',none⟩ t.size).tape=w.tape/\(w.drew.freeze ⟨g,o',none⟩ t.size).output=w.output/\(w.drew.freeze ⟨g,o',none⟩ t.size).heap.size=w.heap.size:=by
   unfold World.freeze;split
   ·exact⟨rfl,rfl,rfl,rfl⟩
   exact⟨rfl,rfl,rfl,zs⟩
  have hF:∀k,F k->(w.drew.freeze ⟨g,o',none⟩ t.size).heap[k]? = w.heap[k]?:=λk hk=>hz k λh=>ky<|h▸hk;have hle:=bh.Iq (s':=⟨false,ar+1,none,1,0,0⟩) j1 v1 (by show s1.ar<ar+1;omega);refine⟨_,λi=>if i=1 then some ⟨false,ar+1,none,1,0,0⟩ else J i,F,rfl,az.update 1 ⟨false,ar+1,none,1,0,0⟩ (.vec true (ar+1) 1 [] true) (λ_=>rfl) (λi=>?_) hle hF (by rw[y4];exact aS _) (λi s' b' b9 hi hb=>hz b' λh=>b9<|az.one i 1 s' s1 b' hi j1 hb<|h▸iH) (λb' hb=>by simp[Site.cE] at hb) (λi s' b' hi hb=>az.jk hi hb) (λb' hb=>by simp[Site.cE] at hb) ⟨rfl,rfl,rfl,rfl,aS _,.inl rfl⟩,λi hi=>?_,by simp only[rep],y1,y2,y3,by rw[y4];exact aS _,λk hk hn=>hz k λh=>hn ⟨1,s1,j1,h▸iH⟩,hF,hle,λ_ h=>h,λk ⟨i,s',hi,hb⟩=>?_,λ_ h=>.inl h⟩
  ·match i with
   |0=>rfl
   |1=>rfl
   |i+2=>simp[wrB]
  ·by_cases h:i=1
   ·subst h;simp
   exact jH i<|by simpa [h] using hi
  dsimp only at hi;split at hi
  ·cases hi;simp[Site.cE] at hb
  exact .inl ⟨i,s',hi,hb⟩
def jO(f:Nat->Nat):Nat->Nat
 |0=>0
 |n+1=>jO f n+f n
theorem Ns{f f':Nat->Nat}:∀n,(∀j,j<n->f j=f' j)->jO f n=jO f' n
 |0,_=>rfl
 |n+1,h=>by simp only[jO];rw[Ns n λj hj=>h j<|by omega,h n<|by omega]
theorem JN{f f':Nat->Nat}{i:Nat}:∀n,i<n->(∀j,j<n->j≠i->f' j=f j)->jO f' n+f i=jO f n+f' i
 |0,h,_=>by omega
 |n+1,h,k=>by
  simp only[jO];by_cases e:i=n
  ·subst e;rw[Ns i λj hj=>k j (by omega)<|by omega];omega
  have:=JN n (by omega) λj hj b9=>k j (by omega) b9;rw[k n (by omega) λq=>e q.symm];omega
theorem PF{f f':Nat->Nat}:∀n,(∀j,j<n->f j<=f' j)->jO f n<=jO f' n
 |0,_=>aS _
 |n+1,h=>by simp only[jO];have:=PF n λj hj=>h j (by omega);have:=h n (by omega);omega
theorem VC{f f':Nat->Nat}{i:Nat}:∀n,i<n->(∀j,j<n->f j<=f' j)->f i<f' i->jO f n<jO f' n
 |0,h,_,_=>by omega
 |n+1,h,k,q=>by
  simp only[jO];have:=k n (by omega);by_cases e:i=n
  ·subst e;have:=PF i λj hj=>k j (by omega);omega
  have:=VC n (by omega) (λj hj=>k j<|by omega) q;omega
def cQ(s:aq)(n:Nat):Nat:=jO (λi=>if s i then 0 else 1) n
theorem yb(s:aq):∀n,cQ s n<=n
 |0=>aS _
 |n+1=>by unfold cQ;simp only[jO];have:=yb s n;unfold cQ at this;split<;>omega
variable{s s':aq}
theorem zS(h:∀j,j<n->s j->s' j):cQ s' n<=cQ s n:=PF n λj hj=>by
 cases e:s j with
 |true=>simp[h j hj e]
 |false=>split<;>simp
variable{i:Nat}
theorem nK(hi:i<n)(h:∀j,j<n->s j->s' j)(h1:s i=false)(h2:s' i):cQ s' n<cQ s n:=VC n hi (λj hj=>by
 cases e:s j with
 |true=>simp[h j hj e]
 |false=>split<;>simp) (by simp[h1,h2])
def mark(s:aq)(v:Nat):Nat->Bool:=λi=>if i=v then true else s i
@[simp] theorem km(s:aq)(v:Nat):mark s v v=true:=by simp[mark]
variable{v:Nat}
theorem zyy(h:i≠v):mark s v i=s i:=by simp[mark,h]
theorem fo(h:s i):mark s v i:=by unfold mark;split<;>simp[h]
theorem nE:mark s v i↔i=v\/s i:=by
 unfold mark;repeat grind
inductive gx(g:ak)(from_:ah):Nat->Prop
 |base {x:Int} (h:x∈from_):gx g from_ x.toNat
 |step {u:Nat} {x:Int} (h:gx g from_ u) (k:x∈g.getD u []):gx g from_ x.toNat
variable{g:ak}{from_:ah}
theorem P2(h0:∀x∈from_,s x.toNat)(h1:∀v,s v->∀x∈g.getD v [],s x.toNat):∀v,gx g from_ v->s v:=by
 intro v h
 induction h with
 |base h=>exact h0 _ h
 |step _ k ih=>grind
open Classical in
noncomputable def gL(g:ak)(from_:ah)(v:Nat):Bool:=decide (gx g from_ v)
theorem pO:gL g from_ v↔gx g from_ v:=by unfold gL;simp
theorem OD(h:s v↔gx g from_ v):s v=gL g from_ v:=by
 rw[j9,h,pO]
variable{l:ah}
theorem df(h:k<l.length):l.getD k 0∈l:=by
 grind
theorem pd{x:Int}(h:x∈l):∃k,k<l.length/\l.getD k 0=x:=by
 obtain⟨k,hk,rfl⟩:=iD.1 h;exact⟨k,hk,by rw[a8,aX hk];rfl⟩
def qU(g:ak)(s:aq):Nat:=jO (λv=>if s v then 0 else (g.getD v []).length) g.length
theorem Tp(hv:v<g.length)(h:s v=false):qU g (mark s v)+(g.getD v []).length=qU g s:=by
 have:=JN (f:=λv=>if s v then 0 else (g.getD v []).length) (f':=λw=>if mark s v w then 0 else (g.getD w []).length) g.length hv λj _ b9=>by rw[zyy b9]
 unfold qU;simp only[km,h,if_true,xt,if_false] at this;omega
def dZ(a b:aB):Bool:=a.toList==b.toList
variable(a:aB)
theorem Vd(a b:aB):dZ a b=dZ b a:=by
 unfold dZ
 grind
@[simp] theorem zC3:dZ a a=true:=by simp[dZ]
theorem HZ:dZ a ⟨#[]⟩=true↔a.size=0:=by
 unfold dZ;rw[ib,ByteArray.toList_eq,ByteArray.toList_eq];show a.data.toList=[]↔a.data.size=0;rw[List.eq_nil_iff_length_eq_zero,Array.length_toList]
theorem N1(l:Array UInt8):(⟨l⟩:aB).size=l.size:=rfl
def zJ:aB:=⟨#[116,114,117,101]⟩
def AF:aB:=⟨#[102,97,108,115,101]⟩
def wR:aB:=⟨#[115,105,108,101,110,116]⟩
def tF(s:aB)(i:Nat):Bool:=match s[i]? with
 |some b=>decide (97<=b.toNat)&&decide (b.toNat<=122)
 |none=>true
def BR(s:aB):Bool:=(List.range s.size).all<|tF s
variable{s:aB}
theorem Ry(h:∀i,i<s.size->tF s i):BR s:=by
 unfold BR
 grind
theorem Qz(hi:i<s.size)(h:tF s i=false):BR s=false:=by
 unfold BR
 grind
def fF(s:aB):Bool:=!(dZ s ⟨#[]⟩)&&decide (s.size<=8)&&!(dZ s zJ)&&!(dZ s AF)&&!(dZ s wR)&&BR s
def pD(names:List aB)(n:Nat)(s:aB):Bool:=(List.range n).any λi=>dZ (names.getD i ⟨#[]⟩) s
variable{names:List aB}
theorem zpN(h:∀i,i<n->dZ (names.getD i ⟨#[]⟩) s=false):pD names n s=false:=by
 unfold pD
 grind
theorem Uj(hi:i<n)(h:dZ (names.getD i ⟨#[]⟩) s):pD names n s:=by
 unfold pD
 grind
def nm(names:List aB)(n:Int):aB :=
 if n=63 then wR
 else if (names.length:Int)<=n then ⟨#[]⟩
 else if fF (names.getD n.toNat ⟨#[]⟩)=false then ⟨#[]⟩
 else if pD names n.toNat (names.getD n.toNat ⟨#[]⟩)=true then ⟨#[]⟩
 else names.getD n.toNat ⟨#[]⟩
variable(names:List aB)
theorem Xv(n:Int):(nm names n).size<=8:=by
 unfold nm;split
 ·decide
 split
 ·decide
 split
 ·decide
 split
 ·decide
 rename_i h _;have:fF<|names.getD n.toNat ⟨#[]⟩:=by grind
 unfold fF at this
 grind
def pB(b:Bool)(s:aB):aB:=if b then s else ⟨#[40]⟩++s++⟨#[41]⟩
theorem wb(s:aB):(pB b s).size<=s.size+2:=by
 unfold pB;split
 ·omega
 simp only[mW];have:(⟨#[40]⟩:aB).size=1:=rfl;have:(⟨#[41]⟩:aB).size=1:=rfl;omega
def rR(k i c:Int):Bool:=if c=5 then k==6||(k==5&&i==0) else if c=6 then k==6&&i==0 else if c=8\/c=9 then k==c&&i==1 else true
def Hg(k i c:Int):Bool:=if c=5 then k==6||(k==5&&i==0) else if c=6 then k==6&&i==0 else true
def o8(k i c:Int):Bool:=if k=10\/k=14 then true else Hg k i c
def xj(names:List aB)(k n:Int)(a b:aB):aB :=
 if k=1 then zJ else if k=2 then AF else if k=3 then nm names n
 else if k=4 then ⟨#[33]⟩++a else if k=7 then ⟨#[88,32]⟩++a else if k=10 then ⟨#[70,32]⟩++a else if k=11 then ⟨#[71,32]⟩++a
 else if k=5 then a++⟨#[32,38,32]⟩++b else if k=6 then a++⟨#[32,47,32]⟩++b else if k=8 then a++⟨#[32,85,32]⟩++b else a++⟨#[32,82,32]⟩++b
def xJ(names:List aB)(k n:Int)(a b:aB):aB :=
 if k=1 then zJ else if k=2 then AF else if k=3 then nm names n
 else if k=5 then a++⟨#[32,38,32]⟩++b else if k=6 then a++⟨#[32,47,32]⟩++b
 else if k=10 then ⟨#[69,32,91]⟩++a++⟨#[32,85,32]⟩++b++⟨#[93]⟩ else if k=14 then ⟨#[65,32,91]⟩++a++⟨#[32,85,32]⟩++b++⟨#[93]⟩
 else if k=4 then ⟨#[33]⟩++a else if k=7 then ⟨#[69,88,32]⟩++a else if k=8 then ⟨#[69,70,32]⟩++a else if k=9 then ⟨#[69,71,32]⟩++a
 else if k=11 then ⟨#[65,88,32]⟩++a else if k=12 then ⟨#[65,70,32]⟩++a else ⟨#[65,71,32]⟩++a
theorem X'{p:Prop} [Decidable p] {a b:aB} (h:p->a.size<=n) (k:¬p->b.size<=n):(if p then a else b).size<=n:=by
 grind
theorem Ip(k n:Int)(ks:List Tree):(Tree.node k n ks).kind=k:=rfl
theorem DO(k n:Int)(ks:List Tree):(Tree.node k n ks).kids=ks:=rfl
theorem zqH(k n:Int)(a b:aB):(xj names k n a b).size<=a.size+b.size+8:=by
 have:=Xv names n;unfold xj zJ AF;generalize nm names n=z at this⊢;repeat' (refine X' (λ_=>?_) (λ_=>?_))
 all_goals ((try simp only[mW]);(try simp only[N1,List.size_toArray,dC,fy]);omega)
theorem zq1(k n:Int)(a b:aB):(xJ names k n a b).size<=a.size+b.size+8:=by
 have:=Xv names n;unfold xJ zJ AF;generalize nm names n=z at this⊢;repeat' (refine X' (λ_=>?_) (λ_=>?_))
 all_goals ((try simp only[mW]);(try simp only[N1,List.size_toArray,dC,fy]);omega)
mutual
def gZ(names:List aB):Tree->aB
 | .node k n ks=>xj names k n ((pU names k 0 ks).getD 0 ⟨#[]⟩)<|(pU names k 0 ks).getD 1 ⟨#[]⟩
def pU(names:List aB)(k i:Int):List Tree->List aB
 |[]=>[]
 |t::r=>pB (rR k i t.kind) (gZ names t)::pU names k (i+1) r
end
def jU(names:List aB)(t:Tree)(j:Nat):aB:=pB (rR t.kind j (t.aD j).kind)<|gZ names<|t.aD j
theorem Jt(names:List aB)(k:Int):∀(ks:List Tree) (i:Int) (j:Nat),j<ks.length->(pU names k i ks).getD j ⟨#[]⟩=pB (rR k (i+j) (ks.getD j default).kind) (gZ names<|ks.getD j default)
 |[],_,_,h=>by simp at h
 |t::r,i,0,_=>by simp[pU]
 |t::r,i,j+1,h=>by
  have:=Jt names k r (i+1) j (by simpa using h);simp only[pU,yI];rw[this,show i+1+(j:Int)=i+((j+1:Nat):Int) by omega]
theorem IY(names:List aB)(k:Int):∀(ks:List Tree) (i:Int) (j:Nat),ks.length<=j->(pU names k i ks).getD j ⟨#[]⟩=⟨#[]⟩
 |[],_,_,_=>by simp[pU]
 |t::r,i,0,h=>by simp at h
 |t::r,i,j+1,h=>by
  simp only[pU,yI];exact IY names k r (i+1) j<|by simpa using h
theorem Ko(t:Tree):gZ names t=xj names t.kind t.num ((pU names t.kind 0 t.kids).getD 0 ⟨#[]⟩) ((pU names t.kind 0 t.kids).getD 1 ⟨#[]⟩):=by
 cases t;simp only[gZ];rfl
variable{t:Tree}
theorem Jv(h:t.width=0):gZ names t=xj names t.kind t.num ⟨#[]⟩ ⟨#[]⟩:=by
 rw[Ko,IY _ _ _ _ _ (by unfold Tree.width at h;omega),IY _ _ _ _ _<|by unfold Tree.width at h;omega]
theorem EZ(h:t.width=1):gZ names t=xj names t.kind t.num (jU names t 0) ⟨#[]⟩:=by
 rw[Ko,Jt _ _ _ _ _ (by unfold Tree.width at h;omega),IY _ _ _ _ _<|by unfold Tree.width at h;omega];simp[jU,Tree.aD]
theorem Hw(h:t.width=2):gZ names t=xj names t.kind t.num (jU names t 0) (jU names t 1):=by
 rw[Ko,Jt _ _ _ _ _ (by unfold Tree.width at h;omega),Jt _ _ _ _ _<|by unfold Tree.width at h;omega];simp[jU,Tree.aD]
theorem XE(t:Tree):(gZ names t).size<=12*t.size:=by
 induction t using Tree.ind with
 |h t ih =>
  rw[Ko];have hj:=zqH names t.kind t.num ((pU names t.kind 0 t.kids).getD 0 ⟨#[]⟩)<|(pU names t.kind 0 t.kids).getD 1 ⟨#[]⟩;refine jI hj ?_;have e0:(⟨#[]⟩:aB).size=0:=rfl;obtain⟨k,n,ks⟩:=t
  match ks with
  |[]=>simp only[DO,pU,List.getD_nil,e0,Tree.size];omega
  |[a] =>
   have h0:=ih 0 (by simp[Tree.width,Tree.kids]);have w0:=wb (rR k 0 a.kind) (gZ names a);simp only[DO,Ip,pU,It,yI,List.getD_nil,e0,Tree.size,Tree.oB,Tree.aD] at h0⊢;omega
  |a::b::r =>
   have h0:=ih 0 (by simp[Tree.width,Tree.kids]);have h1:=ih 1 (by simp[Tree.width,Tree.kids]);have w0:=wb (rR k 0 a.kind) (gZ names a);have w1:=wb (rR k (0+1) b.kind) (gZ names b);simp only[DO,Ip,pU,It,yI,Tree.size,Tree.oB,Tree.aD] at h0 h1⊢;omega
mutual
def gq(names:List aB):Tree->aB
 | .node k n ks=>xJ names k n ((qe names k 0 ks).getD 0 ⟨#[]⟩)<|(qe names k 0 ks).getD 1 ⟨#[]⟩
def qe(names:List aB)(k i:Int):List Tree->List aB
 |[]=>[]
 |t::r=>pB (o8 k i t.kind) (gq names t)::qe names k (i+1) r
end
def jJ(names:List aB)(t:Tree)(j:Nat):aB:=pB (o8 t.kind j (t.aD j).kind)<|gq names<|t.aD j
theorem Kb(names:List aB)(k:Int):∀(ks:List Tree) (i:Int) (j:Nat),j<ks.length->(qe names k i ks).getD j ⟨#[]⟩=pB (o8 k (i+j) (ks.getD j default).kind) (gq names<|ks.getD j default)
 |[],_,_,h=>by simp at h
 |t::r,i,0,_=>by simp[qe]
 |t::r,i,j+1,h=>by
  have:=Kb names k r (i+1) j (by simpa using h);simp only[qe,yI];rw[this,show i+1+(j:Int)=i+((j+1:Nat):Int) by omega]
theorem I9(names:List aB)(k:Int):∀(ks:List Tree) (i:Int) (j:Nat),ks.length<=j->(qe names k i ks).getD j ⟨#[]⟩=⟨#[]⟩
 |[],_,_,_=>by simp[qe]
 |t::r,i,0,h=>by simp at h
 |t::r,i,j+1,h=>by
  simp only[qe,yI];exact I9 names k r (i+1) j<|by simpa using h
theorem Kp(t:Tree):gq names t=xJ names t.kind t.num ((qe names t.kind 0 t.kids).getD 0 ⟨#[]⟩) ((qe names t.kind 0 t.kids).getD 1 ⟨#[]⟩):=by
 cases t;simp only[gq];rfl
theorem HX(h:t.width=0):gq names t=xJ names t.kind t.num ⟨#[]⟩ ⟨#[]⟩:=by
 rw[Kp,I9 _ _ _ _ _ (by unfold Tree.width at h;omega),I9 _ _ _ _ _<|by unfold Tree.width at h;omega]
theorem XZ(h:t.width=1):gq names t=xJ names t.kind t.num (jJ names t 0) ⟨#[]⟩:=by
 rw[Kp,Kb _ _ _ _ _ (by unfold Tree.width at h;omega),I9 _ _ _ _ _<|by unfold Tree.width at h;omega];simp[jJ,Tree.aD]
theorem Fc(h:t.width=2):gq names t=xJ names t.kind t.num (jJ names t 0) (jJ names t 1):=by
 rw[Kp,Kb _ _ _ _ _ (by unfold Tree.width at h;omega),Kb _ _ _ _ _<|by unfold Tree.width at h;omega];simp[jJ,Tree.aD]
theorem XN(t:Tree):(gq names t).size<=12*t.size:=by
 induction t using Tree.ind with
 |h t ih =>
  rw[Kp];have hj:=zq1 names t.kind t.num ((qe names t.kind 0 t.kids).getD 0 ⟨#[]⟩)<|(qe names t.kind 0 t.kids).getD 1 ⟨#[]⟩;refine jI hj ?_;have e0:(⟨#[]⟩:aB).size=0:=rfl;obtain⟨k,n,ks⟩:=t
  match ks with
  |[]=>simp only[DO,qe,List.getD_nil,e0,Tree.size];omega
  |[a] =>
   have h0:=ih 0 (by simp[Tree.width,Tree.kids]);have w0:=wb (o8 k 0 a.kind) (gq names a);simp only[DO,Ip,qe,It,yI,List.getD_nil,e0,Tree.size,Tree.oB,Tree.aD] at h0⊢;omega
  |a::b::r =>
   have h0:=ih 0 (by simp[Tree.width,Tree.kids]);have h1:=ih 1 (by simp[Tree.width,Tree.kids]);have w0:=wb (o8 k 0 a.kind) (gq names a);have w1:=wb (o8 k (0+1) b.kind) (gq names b);simp only[DO,Ip,qe,It,yI,Tree.size,Tree.oB,Tree.aD] at h0 h1⊢;omega
def qy(names:List aB)(k n:Int):Bool:=k != 3||!(dZ (nm names n) ⟨#[]⟩)
mutual
def cJ(names:List aB):Tree->Bool
 | .node k n ks=>qy names k n&&G8 names ks
def G8(names:List aB):List Tree->Bool
 |[]=>true
 |t::r=>cJ names t&&G8 names r
end
theorem Zh(names:List aB):∀ks,G8 names ks=ks.all (cJ names)
 |[]=>by simp only[G8,List.all_nil]
 |t::r=>by simp only[G8,List.all_cons,Zh names r]
theorem CH(t:Tree):cJ names t=(qy names t.kind t.num&&t.kids.all (cJ names)):=by
 cases t;simp only[cJ,Zh];rfl
theorem zAZ(h:t.width=1):t.kids=[t.aD 0]:=by
 unfold Tree.width at h;unfold Tree.aD
 match e:t.kids,h with
 |[a],_=>rfl
theorem zBs(h:t.width=2):t.kids=[t.aD 0,t.aD 1]:=by
 unfold Tree.width at h;unfold Tree.aD
 match e:t.kids,h with
 |[a,b],_=>rfl
theorem IC(h:t.width=0):cJ names t=qy names t.kind t.num:=by
 rw[CH,pM.1 h];simp
theorem Xc(h:t.width=1)(hk:t.kind≠3):cJ names t=cJ names (t.aD 0):=by
 rw[CH,zAZ h];simp[hk,qy]
theorem SL(h:t.width=2)(hk:t.kind≠3):cJ names t=(cJ names (t.aD 0)&&cJ names (t.aD 1)):=by
 rw[CH,zBs h];simp[hk,qy]
theorem sM(h:A:=by(simp only[mW,N1,List.size_toArray,dC,fy];omega)):A:=h
noncomputable abbrev aj : Program := Tryz.prog
def dr(l:List aB):D:=.aM 1<|l.map λs=>[.sc (.string s)]
@[simp] theorem qL(l:List aB):Pure<|dr l:=by
 simp only[dr,Pure];exact c6 _ (λs=>by simp[aA,Pure]) l
def pq(l:List aB):Prop:=l.length<=9223372036854775807/\∀s∈l,s.size<=9223372036854775807
variable{l:List aB}
theorem rO(h:k<l.length):(l.map λs=>[D.sc (.string s)])[k]? = some [.sc (.string<|l.getD k ⟨#[]⟩)]:=by
 rw[fx,aX h,a8,aX h];rfl
theorem pq.at(h:pq l)(hk:k<l.length):(l.getD k ⟨#[]⟩).size<=9223372036854775807:=by
 rw[a8,aX hk];exact h.2 _<|iZ _
theorem XM(h:k<s.size):∃b,s[k]? = some b:=⟨s[k],by simp[getElem?_pos,h]⟩
variable(s:aB)
theorem DL(hs:s.size<=9223372036854775807):ao aj 34 [.sc (.string s)]<|ay<|fF s:=by
 refine bS fZ ?_;refine sRS (λh1=>?_) λh1=>?_
 ·exact cf<|bH (λb=>ay b)<|by have:dZ s ⟨#[]⟩=true:=h1;simp[fF,this]
 refine sS (λh2=>?_) λh2=>?_
 ·exact cf (congrArg (λb=>D.sc (.bool b)) (by have:¬s.size≤8:=sO
                                              simp[fF,this]))
 refine sS (λh3=>?_) λh3=>?_
 ·exact cf<|bH (λb=>ay b)<|by have:dZ s zJ=true:=h3;simp[fF,this]
 refine sS (λh4=>?_) λh4=>?_
 ·exact cf<|bH (λb=>ay b)<|by have:dZ s AF=true:=h4;simp[fF,this]
 refine sS (λh5=>?_) λh5=>?_
 ·exact cf<|bH (λb=>ay b)<|by have:dZ s wR=true:=h5;simp[fF,this]
 have hn:fF s=BR s:=by
  have g1:dZ s ⟨#[]⟩=false:=h1;have g2:s.size<=8:=sO;have g3:dZ s zJ=false:=h3;have g4:dZ s AF=false:=h4;have g5:dZ s wR=false:=h5;simp[fF,g1,g2,g3,g4,g5]
 rw[hn];clear hn h1 h2 h3 h4 h5
 refine A5 (λk:Nat=>[(0,.sc (.string s)),(24,aa s.size),(25,aa k)]) (λ_=>[])
  (λk=>k<=s.size/\∀j,j<k->tF s j=true) (λk=>s.size-k) 0 ⟨zo,λj h=>zo⟩ (rK ⟨rfl,rfl,rfl,trivial⟩) ?_
 rintro k ⟨hk,bR⟩;refine sRS (λh1=>?_) λh1=>?_
 ·have ai:k<s.size:=sO;obtain⟨b,hb⟩:=XM ai;refine⟨zo,b,hb,?_⟩;refine sWS (λh2=>?_) λh2=>?_
  ·exact cf<|bH (λb=>ay b) (Qz ai<|by simp only[tF,hb];simp only[ja] at h2;simp;omega).symm
  refine⟨zo,b,hb,?_⟩;refine sWS (λh3=>?_) λh3=>?_
  ·exact cf<|bH (λb=>ay b) (Qz ai<|by simp only[tF,hb];simp only[ja] at h3;simp;omega).symm
  refine .inl ⟨zI,?_⟩;refine sW ?_;refine⟨k+1,⟨zo,λj hj=>?_⟩,zd,rK ⟨rfl,rfl,rfl,trivial⟩⟩;by_cases e:j=k
  ·subst e;simp only[tF,hb];simp only[Bt] at h2 h3;simp;omega
  exact bR j zo
 have ai:¬k<s.size:=sO;exact cf<|bH (λb=>ay b) (Ry λi hi=>bR i zo).symm
theorem JV(hs:s.size<=9223372036854775807):ao aj 20 [.sc (.string s)]<|ay<|fF s:=by
 refine bt ?_
 refine A5 (λk:Nat=>[(0,.sc (.string s)),(3,aa k)]) (λ_=>[])
  (λk=>k<=s.size/\∀j,j<k->tF s j=true) (λk=>s.size-k) 0 ⟨zo,λj h=>zo⟩ (rK ⟨rfl,rfl,trivial⟩) ?_
 rintro k ⟨hk,bR⟩;refine sR ?_;have low:∀{i:Nat},i<s.size->tF s i=false->false=fF s:=λhi h=>by simp[fF,Qz hi h]
 refine sS (λh1=>?_) λh1=>?_
 ·have ai:k<s.size:=sO;obtain⟨b,hb⟩:=XM ai;refine⟨zo,b,hb,?_⟩;refine sWS (λh2=>?_) λh2=>?_
  ·exact cf<|bH (λb=>ay b)<|low ai<|by simp only[tF,hb];simp only[ja] at h2;simp;omega
  refine⟨zo,b,hb,?_⟩;refine sWS (λh3=>?_) λh3=>?_
  ·exact cf<|bH (λb=>ay b)<|low ai<|by simp only[tF,hb];simp only[ja] at h3;simp;omega
  refine .inl ⟨zI,?_⟩;refine sW ?_;refine⟨k+1,⟨zo,λj hj=>?_⟩,zd,rK ⟨rfl,rfl,trivial⟩⟩;by_cases e:j=k
  ·subst e;simp only[tF,hb];simp only[Bt] at h2 h3;simp;omega
  exact bR j zo
 have ai:¬k<s.size:=sO;have hl:BR s:=Ry λi hi=>bR i zo;have he:=HZ s;clear low h1
 repeat' (first
  |refine sS (λh=>?_) λh=>?_
  |exact cf (bH (λb=>D.sc (.bool b)) (by
    unfold fF;rw[hl];have e0:dZ s ⟨#[]⟩=decide (s.size=0):=(by rw[j9,he];simp);rw[e0];simp_all [dZ,zJ,AF,wR,-ByteArray.size_eq_zero_iff];try omega)))
theorem Oi(l:List aB)(s:aB)(hl:l.length<=9223372036854775807):ao aj 246 [dr l,.sc (.string s)]<|aa<|match l.findIdx? (dZ s) with|some i=>(i:Int)|none=>-1:=by
 refine bS fZ ?_;unfold dr;refine sR ?_;rw[aI]
 refine A5 (λk:Nat=>[(0,dr l),(1,.sc (.string s)),(7,aa l.length),(8,aa k)]) (λ_=>[]) (λk=>k<=l.length/\∀j (h:j<k) (h2:j<l.length),dZ s l[j]=false) (λk=>l.length-k) 0 ⟨zo,λ_ h=>zo⟩
  (rK ⟨rfl,rfl,rfl,rfl,trivial⟩) ?_
 rintro k ⟨hk,cg⟩;unfold dr;refine sRS (λh=>?_) λh=>?_
 ·have ai:k<l.length:=sO;refine sL (rO ai) ?_;have hg:l.getD k ⟨#[]⟩=l[k]:=(by rw[a8,aX ai];rfl);refine sS (λh2=>?_) λh2=>?_
  ·have:l.findIdx? (dZ s)=some k:=by
    rw[N4];exact⟨zo,by rw[<-hg];exact h2,λj hj=>by simp[cg j hj zo]⟩
   rw[this];exact Deep.refl _
  refine .inl ⟨zI,?_⟩;refine sW ?_;refine⟨k+1,⟨zo,λj hj hl=>?_⟩,zd,rK ⟨rfl,rfl,rfl,rfl,trivial⟩⟩;by_cases e:j=k
  ·subst e;rw[<-hg];exact h2
  exact cg j zo hl
 have:l.findIdx? (dZ s)=none:=by
  have ai:¬k<l.length:=sO;rw[List.findIdx?_eq_none_iff];intro x hx;obtain⟨j,hj,rfl⟩:=iD.1 hx;simp[cg j zo hj]
 rw[this];exact Deep.refl _
theorem Nz(hn:n<l.length):((match l.findIdx? (dZ<|l.getD n ⟨#[]⟩) with|some i=>(i:Int)|none=>-1):Int)≠(n:Int)↔pD l n (l.getD n ⟨#[]⟩):=by
 have hg:∀j (h:j<l.length),l.getD j ⟨#[]⟩=l[j]:=λj h=>by rw[a8,aX h];rfl
 cases h:l.findIdx?<|dZ<|l.getD n ⟨#[]⟩ with
 |none =>
  rw[List.findIdx?_eq_none_iff] at h;have:=h l[n]<|iZ _;rw[hg n hn] at this;simp at this
 |some i =>
  rw[N4] at h;obtain⟨h1,h2,h3⟩:=h;constructor
  ·intro b9;have b9:(i:Int)≠n:=b9;have:i<n:=by
    rcases xS i n with q|q|q
    ·exact q
    ·omega
    have:=h3 n q;rw[hg n hn] at this;simp at this
   exact Uj this<|by rw[Vd,hg i h1];exact h2
  intro hd;show(i:Int)≠n;unfold pD at hd;rw[mJ] at hd;obtain⟨j,hj,hd⟩:=hd;rw[jz] at hj;rintro e;have:=h3 j zo;rw[<-hg j zo,Vd,hd] at this;simp at this
theorem zxU(hs:pq names)(n:Int)(hn:0<=n):ao aj 299 [aa n,dr names] (.sc (.string<|nm names n)):=by
 refine bS fZ ?_;unfold dr;refine sR ?_;have eq:∀{s:aB},s=nm names n->Deep [] (D.sc (.string s)) (.sc (.string<|nm names n)):=λh=>h▸.refl _;refine sS (λh1=>?_) λh1=>?_
 ·exact eq<|by simp only[ib] at h1;simp[nm,h1,wR]
 have h1:n≠63:=sO;rw[aI];refine sS (λh2=>?_) λh2=>?_
 ·exact eq (by have:(names.length:Int)≤n:=sO
               simp[nm,h1,this])
 have h2:¬(names.length:Int)<=n:=sO;have hk:n.toNat<names.length:=zo;refine⟨hn,_,rO hk,?_⟩;refine sW ?_;refine sC (DL _<|hs.at hk) ?_;refine sS (λh3=>?_) λh3=>?_
 ·exact eq (by have:fF (names.getD n.toNat ⟨#[]⟩)=false:=by simpa using h3
               unfold nm;rw[ab h1,ab h2,ae this])
 have h3:¬fF (names.getD n.toNat ⟨#[]⟩)=false:=by simpa using h3
 refine⟨hn,_,rO hk,?_⟩;refine sW ?_;refine sC (Oi names _ hs.1) ?_;have hd:=Nz hk;rw[show(n.toNat:Int)=n by omega] at hd;refine sS (λh4=>?_) λh4=>?_
 ·exact eq (by have:pD names n.toNat<|names.getD n.toNat ⟨#[]⟩:=hd.1 (by simpa using h4)
               unfold nm;rw[ab h1,ab h2,ab h3,ae this])
 refine⟨hn,_,rO hk,?_⟩;refine sW ?_
 exact eq (by have:¬pD names n.toNat (names.getD n.toNat ⟨#[]⟩):=λh=>hd.2 h (by simpa using h4)
              unfold nm;rw[ab h1,ab h2,ab h3,ab this])
theorem PH(hs:pq names)(n:Int)(hn:0<=n):ao aj 94 [aa n,dr names] (.sc (.string<|nm names n)):=by
 refine bS fZ ?_;unfold dr;refine sR ?_;have eq:∀{s:aB},s=nm names n->Deep [] (D.sc (.string s)) (.sc (.string<|nm names n)):=λh=>h▸.refl _;refine sS (λh1=>?_) λh1=>?_
 ·exact eq<|by simp only[ib] at h1;simp[nm,h1,wR]
 have h1:n≠63:=sO;refine sS (λh0=>?_) λh0=>?_
 ·exfalso;exact sO
 rw[aI];refine sS (λh2=>?_) λh2=>?_
 ·exact eq (by have:(names.length:Int)≤n:=sO
               simp[nm,h1,this])
 have h2:¬(names.length:Int)<=n:=sO;have hk:n.toNat<names.length:=zo;refine⟨hn,_,rO hk,?_⟩;refine sW ?_;refine sC (JV _<|hs.at hk) ?_;refine sS (λh3=>?_) λh3=>?_
 ·exact eq (by have:fF (names.getD n.toNat ⟨#[]⟩)=false:=by simpa using h3
               unfold nm;rw[ab h1,ab h2,ae this])
 have h3:¬fF (names.getD n.toNat ⟨#[]⟩)=false:=by simpa using h3
 have hl:=hs.1;clear h0;refine A5 (λk:Nat=>[(0,aa n),(1,dr names),(5,aa k)]) (λ_=>[]) (λk=>k<=n.toNat/\∀j,j<k->dZ (names.getD j ⟨#[]⟩) (names.getD n.toNat ⟨#[]⟩)=false) (λk=>n.toNat-k) 0 ⟨zo,λj h=>zo⟩ (rK ⟨rfl,rfl,rfl,trivial⟩) ?_;rintro k ⟨Iu,bR⟩;unfold dr;refine sRS (λh4=>?_) λh4=>?_
 ·have Y9:k<n.toNat:=sO;refine sL (rO zo) ?_;refine sL (rO hk) ?_;refine sS (λh5=>?_) λh5=>?_
  ·exact eq (by have:pD names n.toNat<|names.getD n.toNat ⟨#[]⟩:=Uj Y9 h5
                unfold nm;rw[ab h1,ab h2,ab h3,ae this])
  refine .inl ⟨zI,?_⟩;refine sW ?_;refine⟨k+1,⟨zo,λj hj=>?_⟩,zd,rK ⟨rfl,rfl,rfl,trivial⟩⟩;by_cases e:j=k
  ·subst e;exact h5
  exact bR j zo
 have Y9:¬k<n.toNat:=sO;refine⟨hn,_,rO hk,?_⟩;refine sW ?_
 exact eq (by have:¬pD names n.toNat (names.getD n.toNat ⟨#[]⟩):=by rw[zpN λi hi=>bR i zo];simp
              unfold nm;rw[ab h1,ab h2,ab h3,ab this])
def dN{α:Type}(p:α->Bool)(l:List α):Int:=match l.findIdx? p with|some i=>(i:Int)|none=>-1
theorem xd{p:α->Bool}{l:List α}(hk:k<l.length)(h:p l[k])(no:∀j (hj:j<k),p (l[j]'zo)=false):dN p l=k:=by
 have:l.findIdx? p=some k:=by
  rw[N4]
  grind
 unfold dN;rw[this]
theorem Av{p:α->Bool}{l:List α}(no:∀j (hj:j<l.length),p l[j]=false):dN p l=-1:=by
 have:l.findIdx? p=none:=by
  rw[List.findIdx?_eq_none_iff];intro x hx;obtain⟨j,hj,rfl⟩:=iD.1 hx
  grind
 unfold dN;rw[this]
theorem sz(p:α->Bool)(l:List α):decide (dN p l>=0)=l.any p:=by
 unfold dN
 grind
theorem Gs{p:α->Bool}{l:List α}(h:0<=dN p l):∃k:Nat,dN p l=(k:Int)/\∃hk:k<l.length,p l[k]/\∀j (hj:j<k),p (l[j]'zo)=false:=by
 unfold dN at h⊢
 cases e:l.findIdx? p with
 |none=>grind
 |some i =>
  rw[N4] at e
  grind
variable{z:Nat}
theorem Am{c:α->D}{l:List α}(hz:z=k)(h:k<l.length):(l.map λa=>[c a])[z]? = some [c l[k]]:=by
 grind
theorem zu6(h:k<n)(hn:n<=9223372036854775807):InR .i64<|(k:Int)+1:=by unfold InR;rw[po];omega
@[simp] theorem Tr(f:α->bj)(l:List α):bB m (l.map f)↔∀a∈l,aG m<|f a:=by
 induction l with
 |nil=>simp[bB]
 |cons a r ih=>simp[bB,ih]
@[simp] theorem zAp(f:α->bj)(l:List α):dF (l.map f)↔∀a∈l,aA<|f a:=by
 induction l with
 |nil=>simp[dF]
 |cons a r ih=>simp[dF,ih]
@[simp] theorem zCx(f:α->bj)(l:List α):kl ρ (l.map f)=l.map λa=>bL ρ<|f a:=by
 induction l with
 |nil=>simp[kl]
 |cons a r ih=>simp[kl,ih]
variable(l:ah)
@[simp] theorem zAn:aK m (aF l)↔True:=⟨λ_=>trivial,λ_=>bz _<|cX l⟩
@[simp] theorem zAH(l:ak):aK m (bN l)↔True:=⟨λ_=>trivial,λ_=>bz _<|l5 l⟩
@[simp] theorem tJ:D.aP ρ (aF l)=aF l:=iQ _<|cX l
@[simp] theorem Vp(l:ak):D.aP ρ (bN l)=bN l:=iQ _<|l5 l
theorem cB{l:List α}(h:l.length<=n):List.drop 0 (List.take n l)=l:=by rw[dP,fG h]
theorem OR(hl:l.length<=17592186044416):bZ aj 138 [.aM 1<|l.map λn=>[aa n]] [] (.own 0 1 0 l.length) [.vec true 1 1<|l.map λn=>[aa n]]:=by
 refine jb (fY [37]) zs zs ?_ zu (by simp[al.under,aG,aK]);refine sR ?_;intro b hb;cases b
 ·refine sWJ ?_;simp
 refine sW ?_;have hb:=hb rfl;obtain rfl:l=[]:=by simpa using hb
 refine pj (λ_:Unit=>[(2,.own 0 1 0 0)]) (λ_=>[.vec true 1 1 []]) (λ_=>True) ?_ ?_
 ·refine sR ?_;exact⟨(),trivial,kY (VX 2 1 1 zs rfl)<|pN<|by exact sK⟩
 rintro _ _;refine sW ?_;simp
theorem zq7(c:α->D)(lz:∀a,Pure<|c a)(l:List α)(hl:l.length<=9223372036854775807)(p:α->Bool)(cl:FuncId)(cap:bj)(hp:aA cap)(hc:∀a∈l,ao aj cl (c a::cap)<|ay<|p a) :
  ao aj 136 [.aM 1<|l.map λa=>[c a],.fn (.func cl) [] cap] (aa<|dN p l):=by
 have jC:dF<|l.map λa=>[c a]:=c6 _ (λa=>by simp[aA,lz]) l;refine dh fZ zs (by simp[aA,Pure,hp,jC]) ?_ zp;refine sR ?_;rw[aI];have fin:∀{z:Int},z=dN p l->Deep [] (aa z) (aa<|dN p l):=λh=>h▸.refl _;refine bb [0,1,7] (λk:Nat=>[(8,aa k)]) (λ_=>[]) (λk=>k<=l.length/\∀j (hj:j<k) (hl:j<l.length),p l[j]=false) (λk=>l.length-k) 0 ?_;refine sW ?_;refine⟨⟨zo,λj hj=>zo⟩,by exact sK,rfl,?_⟩;rintro k ⟨hk,cg⟩;refine bf (λh=>?_) λh=>?_
 ·have ai:k<l.length:=sO;refine sL (Am (k:=k) zo ai) ?_;refine sC (hc _<|iZ ai) ?_;refine sS (λh2=>?_) λh2=>?_
  ·exact fin (xd ai h2 λj hj=>cg j hj zo).symm
  refine sI ?_;refine⟨k+1,⟨zo,λj hj hl=>?_⟩,zd,aC (by exact sK) rfl⟩;by_cases e:j=k
  ·subst e;exact h2
  exact cg j zo hl
 have ai:¬k<l.length:=sO;exact fin (Av λj hj=>cg j zo hj).symm
theorem mh(c:α->D)(lz:∀a,Pure<|c a)(l:List α)(hl:l.length<=9223372036854775807)(p:α->Bool)(cl:FuncId)(cap:bj)(hp:aA cap)(hc:∀a∈l,ao aj cl (c a::cap)<|ay<|p a) :
  ao aj 66 [.aM 1<|l.map λa=>[c a],.fn (.func cl) [] cap] (ay<|l.any p):=by
 have jC:dF<|l.map λa=>[c a]:=c6 _ (λa=>by simp[aA,lz]) l;refine dh fZ zs (by simp[aA,Pure,hp,jC]) ?_ zp;refine sR ?_;refine sC (zq7 c lz l hl p cl cap hp hc) ?_;rw[sz];exact .refl _
theorem zpj(c:α->D)(lz:∀a,Pure<|c a)(l:List α)(hl:l.length<=9223372036854775807)(p:α->Bool)(cl:FuncId)(cap:bj)(hp:aA cap)(hc:∀a∈l,ao aj cl (c a::cap)<|ay<|p a) :
  ao aj 277 [.aM 1<|l.map λa=>[c a],.fn (.func cl) [] cap] (aa<|dN p l):=by
 have jC:dF<|l.map λa=>[c a]:=c6 _ (λa=>by simp[aA,lz]) l;refine dh fZ zs (by simp[aA,Pure,hp,jC]) ?_ zp;refine sR ?_;rw[aI];have fin:∀{z:Int},z=dN p l->Deep [] (aa z) (aa<|dN p l):=λh=>h▸.refl _;refine bb [0,1,7] (λk:Nat=>[(8,aa k)]) (λ_=>[]) (λk=>k<=l.length/\∀j (hj:j<k) (hl:j<l.length),p l[j]=false) (λk=>l.length-k) 0 ?_;refine sW ?_;refine⟨⟨zo,λj hj=>zo⟩,by exact sK,rfl,?_⟩;rintro k ⟨hk,cg⟩;refine bf (λh=>?_) λh=>?_
 ·have ai:k<l.length:=sO;refine sL (Am (k:=k) zo ai) ?_;refine sC (hc _<|iZ ai) ?_;refine sS (λh2=>?_) λh2=>?_
  ·exact fin (xd ai h2 λj hj=>cg j hj zo).symm
  refine sI ?_;refine⟨k+1,⟨zo,λj hj hl=>?_⟩,zd,aC (by exact sK) rfl⟩;by_cases e:j=k
  ·subst e;exact h2
  exact cg j zo hl
 have ai:¬k<l.length:=sO;exact fin (Av λj hj=>cg j zo hj).symm
theorem Lq(c:α->D)(lz:∀a,Pure<|c a)(l:List α)(hl:l.length<=9223372036854775807)(p:α->Bool)(cl:FuncId)(cap:bj)(hp:aA cap)(hc:∀a∈l,ao aj cl (c a::cap)<|ay<|p a) :
  ao aj 206 [.aM 1<|l.map λa=>[c a],.fn (.func cl) [] cap] (ay<|l.any p):=by
 have jC:dF<|l.map λa=>[c a]:=c6 _ (λa=>by simp[aA,lz]) l;refine dh fZ zs (by simp[aA,Pure,hp,jC]) ?_ zp;refine sR ?_;refine sC (zpj c lz l hl p cl cap hp hc) ?_;rw[sz];exact .refl _
theorem Zr(hl:l.length<=9223372036854775807)(b:Int) :
  ao aj 316 [.aM 1<|l.map λa=>[aa a],aa b] (aa<|dN (λa=>b==a) l):=by
 have jC:dF<|l.map λa=>[aa a]:=c6 _ (λa=>by simp[aA,Pure]) l;refine dh fZ zs (by simp[aA,Pure,jC]) ?_ zp;refine sR ?_;rw[aI];have fin:∀{z:Int},z=dN (λa=>b==a) l->Deep [] (aa z) (aa<|dN (λa=>b==a) l):=λh=>h▸.refl _;refine bb [0,1,7] (λk:Nat=>[(8,aa k)]) (λ_=>[]) (λk=>k<=l.length/\∀j (hj:j<k) (hl:j<l.length),(b==l[j])=false) (λk=>l.length-k) 0 ?_;refine sW ?_;refine⟨⟨zo,λj hj=>zo⟩,by exact sK,rfl,?_⟩;rintro k ⟨hk,cg⟩;refine bf (λh=>?_) λh=>?_
 ·have ai:k<l.length:=sO;refine sL (Am (c:=λa=>aa a) (k:=k) zo ai) ?_;refine sS (λh2=>?_) λh2=>?_
  ·exact fin (xd ai h2 λj hj=>cg j hj zo).symm
  refine sI ?_;refine⟨k+1,⟨zo,λj hj hl=>?_⟩,zd,aC (by exact sK) rfl⟩;by_cases e:j=k
  ·subst e;exact h2
  exact cg j zo hl
 have ai:¬k<l.length:=sO;exact fin (Av λj hj=>cg j zo hj).symm
theorem zlQ(hl:l.length<=9223372036854775807)(b:Int) :
  ao aj 280 [.aM 1<|l.map λa=>[aa a],aa b] (ay<|l.contains b):=by
 have jC:dF<|l.map λa=>[aa a]:=c6 _ (λa=>by simp[aA,Pure]) l;refine dh fZ zs (by simp[aA,Pure,jC]) ?_ zp;refine sR ?_;refine sC (Zr l hl b) ?_;rw[sz];exact cf<|by rw[List.contains_eq_any_beq]
variable(l:List Bool)
theorem N8(hl:l.length<=9223372036854775807)(b:Bool) :
  ao aj 72 [.aM 1<|l.map λa=>[ay a],ay b] (aa<|dN (λa=>b==a) l):=by
 have jC:dF<|l.map λa=>[ay a]:=c6 _ (λa=>by simp[aA,Pure]) l;refine dh fZ zs (by simp[aA,Pure,jC]) ?_ zp;refine sR ?_;rw[aI];have fin:∀{z:Int},z=dN (λa=>b==a) l->Deep [] (aa z) (aa<|dN (λa=>b==a) l):=λh=>h▸.refl _;refine bb [0,1,7] (λk:Nat=>[(8,aa k)]) (λ_=>[]) (λk=>k<=l.length/\∀j (hj:j<k) (hl:j<l.length),(b==l[j])=false) (λk=>l.length-k) 0 ?_;refine sW ?_;refine⟨⟨zo,λj hj=>zo⟩,by exact sK,rfl,?_⟩;rintro k ⟨hk,cg⟩;refine bf (λh=>?_) λh=>?_
 ·have ai:k<l.length:=sO;refine sL (Am (c:=λa=>ay a) (k:=k) zo ai) ?_;refine sS (λh2=>?_) λh2=>?_
  ·exact fin (xd ai h2 λj hj=>cg j hj zo).symm
  refine sI ?_;refine⟨k+1,⟨zo,λj hj hl=>?_⟩,zd,aC (by exact sK) rfl⟩;by_cases e:j=k
  ·subst e;exact h2
  exact cg j zo hl
 have ai:¬k<l.length:=sO;exact fin (Av λj hj=>cg j zo hj).symm
theorem zjn(hl:l.length<=9223372036854775807)(b:Bool) :
  ao aj 61 [.aM 1<|l.map λa=>[ay a],ay b] (ay<|l.contains b):=by
 have jC:dF<|l.map λa=>[ay a]:=c6 _ (λa=>by simp[aA,Pure]) l;refine dh fZ zs (by simp[aA,Pure,jC]) ?_ zp;refine sR ?_;refine sC (N8 l hl b) ?_;rw[sz];exact cf<|by rw[List.contains_eq_any_beq]
theorem ztM(a b:ah)(ha:a.length<=9223372036854775807):ao aj 39 [aF a,aF b]<|ay<|decide (a=b):=by
 refine bS fZ ?_;unfold aF;refine sR ?_;rw[aI,aI];have fin:∀{c:Bool},c=decide (a=b)->Deep [] (ay c) (ay<|decide (a=b)):=λh=>h▸.refl _;refine sS (λh1=>?_) λh1=>?_
 ·exact fin<|by rw[eq_comm,Bt];rintro rfl;simp at h1
 have hl:a.length=b.length:=sO;rw[aI];refine bb [0,1,12] (λk:Nat=>[(13,aa k)]) (λ_=>[]) (λk=>k<=a.length/\∀j (hj:j<k) (h1:j<a.length) (h2:j<b.length),a[j]=b[j]) (λk=>a.length-k) 0 ?_;refine sW ?_;refine⟨⟨zo,λj h=>zo⟩,by exact sK,rfl,?_⟩;rintro k ⟨hk,bR⟩;refine bf (λh2=>?_) λh2=>?_
 ·have ai:k<a.length:=sO;refine sL (Am (c:=λn=>aa n) (k:=k) zo ai) ?_;refine sL (Am (c:=λn=>aa n) (l:=b) (k:=k) zo zo) ?_;refine sS (λh3=>?_) λh3=>?_
  ·exact fin<|by rw[eq_comm,Bt];rintro rfl;simp at h3
  refine sI ?_;refine⟨k+1,⟨zo,λj hj h1 h2=>?_⟩,zd,aC (by exact sK) rfl⟩;by_cases e:j=k
  ·subst e;simpa using h3
  exact bR j zo h1 h2
 refine fin ?_;rw[eq_comm,ja];have ai:¬k<a.length:=sO;exact Ea hl λi h1 h2=>bR i zo h1 h2
section
variable{α:Type}
def iT(b:Nat)(L:List<|List α):fc:=(List.range L.length).map λj=>[.own (j+b) (L.getD j []).length 0 (L.getD j []).length]
def eu(an:Nat)(c:α->bj)(L:List<|List α):aE:=L.map λl=>.vec true l.length an<|l.map c
@[simp] theorem zBO(b:Nat)(L:List<|List α):(iT b L).length=L.length:=by simp[iT]
@[simp] theorem Gy(an:Nat)(c:α->bj)(L:List<|List α):(eu an c L).length=L.length:=by simp[eu]
variable{b:Nat}{L:List<|List α}
theorem kW(hz:z=i)(h:i<L.length):(iT b L)[z]? = some [.own (i+b) (L.getD i []).length 0 (L.getD i []).length]:=by
 subst hz;simp[iT,fx,xK h]
theorem getD_at(h:i<L.length):L[i]? = some (L.getD i []):=by
 grind
variable{an:Nat}{c:α->bj}
theorem vP(h:i<L.length):(eu an c L)[i]? = some (.vec true (L.getD i []).length an<|(L.getD i []).map c):=by
 unfold eu
 grind
theorem MH{K:al->Prop}(h:i<L.length)(k:K (.vec true (L.getD i []).length an<|(L.getD i []).map c)):kx (eu an c L) i K:=(lX _ _ _).2 ⟨_,vP h,k⟩
theorem XD(l:List α):(eu an c L).set i (.vec true l.length an<|l.map c)=eu an c (L.set i l):=by
 unfold eu;rw[List.map_set]
theorem Qi{l:List α}(h:i<L.length):(L.set i l).getD j []=if j=i then l else L.getD j []:=by
 grind
theorem vT(hz:z=i)(h:i<L.length)(l:List α)(hk:k=l.length):(iT b L).set z [.own (i+b) k 0 k]=iT b (L.set i l):=by
 subst hz hk;apply pS;intro j;by_cases hj:j<L.length
 ·rw[kW rfl (by simpa using hj),Qi h,Hm];by_cases e:z=j
  ·subst e;simp[h]
  rw[ab e,kW rfl hj,ab λq=>e q.symm]
 rw[dG zq,dG zq]
@[simp] theorem vf(h:b+L.length<=m):bB m<|iT b L:=by
 unfold iT;rw[Tr];intro j hj;have:=jz.1 hj;simp only[aG,aK,and_true];omega
theorem zml(hc:∀a,aG m<|c a):∀o∈eu an c L,o.under m:=by
 intro o ho;unfold eu at ho;obtain⟨l,_,rfl⟩:=dq.1 ho;simp only[al.under,Tr]
 grind
theorem Vi(hH:∀i,i<L.length->H[i+b]? = some (.vec true (L.getD i []).length an<|(L.getD i []).map c)) :
  oy H (iT b L) (L.map λl=>[.aM an<|l.map c]):=by
 have e:(L.map λl=>[D.aM an<|l.map c])=(List.range L.length).map λj=>[D.aM an<|(L.getD j []).map c]:=by
  apply pS;repeat grind
 rw[e];unfold iT;have:∀l:List Nat,(∀j∈l,j<L.length)->oy H (l.map λj=>[D.own (j+b) (L.getD j []).length 0 (L.getD j []).length]) (l.map λj=>[D.aM an<|(L.getD j []).map c]):=by
  intro l
  induction l with
  |nil=>intro _;exact .nil
  |cons j r ih =>
   intro hl;refine .cons _ _ _ _ (.cons _ _ _ _ (.own _ _ _ _ _ _ _ _ (hH j<|hl j zs) ?_) .nil)<|ih λk hk=>hl k (by simp[hk]);rw[cB zs];exact gw _
 grind
theorem CA{S:aq}(hS:∀i,i<L.length->S (i+b))(hH:∀i,i<L.length->H[i+b]? = some (.vec true (L.getD i []).length an<|(L.getD i []).map c)) :
  kc S H (iT b L) (L.map λl=>[.aM an<|l.map c]):=by
 have e:(L.map λl=>[D.aM an<|l.map c])=(List.range L.length).map λj=>[D.aM an<|(L.getD j []).map c]:=by
  apply pS;repeat grind
 rw[e];unfold iT;have:∀l:List Nat,(∀j∈l,j<L.length)->kc S H (l.map λj=>[D.own (j+b) (L.getD j []).length 0 (L.getD j []).length]) (l.map λj=>[D.aM an<|(L.getD j []).map c]):=by
  intro l
  induction l with
  |nil=>intro _;exact .refl _
  |cons j r ih =>
   intro hl;refine .cons _ _ _ _ (.cons _ _ _ _ (.own _ _ _ _ _ _ _ _ (hS j<|hl j zs) (hH j<|hl j zs) ?_) (.refl _))<|ih λk hk=>hl k (by simp[hk]);rw[cB zs];exact .refl _
 grind
end
theorem yX{L n:Nat}(id an k ar:Nat){env:Env}(hL:L<=H.length)(hid:H[id]? = some (.vec true ar 1<|List.replicate k [au])) :
  St.leB L n env H env (H.set id (.vec true ar 1<|(List.range k).map λj=>[.own (j+H.length) 0 0 0])++List.replicate k (.vec true 0 an [])):=λJ F a w hr=>by
 have yN:=nY hid;have Gd:∀i,H.length<=i->J i=none:=λi hi=>by
  cases e:J i with
  |none=>rfl
  |some s=>have:=hr.dom i (by rw[e];simp);omega
 let J':bh:=λi=>if H.length<=i/\i<H.length+k then some ⟨false,0,none,an,0,0⟩ else J i
 have hle:J.le J':=λi s hs=>⟨s,by
  have:¬(H.length<=i/\i<H.length+k):=λe=>by rw[Gd i e.1] at hs;cases hs
  simp only[J'];rw[ab this];exact hs,aS _,λ_=>rfl⟩
 have hlen:(H.set id (.vec true ar 1<|(List.range k).map λj=>[D.own (j+H.length) 0 0 0])).length=H.length:=tU;have pX:∀i,¬(H.length<=i/\i<H.length+k)->i≠id->(H.set id (.vec true ar 1<|(List.range k).map λj=>[D.own (j+H.length) 0 0 0])++List.replicate k (al.vec true 0 an []))[i]? = H[i]?:=λi hi b9=>by
  rcases gK i H.length with q|q
  ·rw[iz<|by rw[hlen];exact q,DS λe=>b9 e.symm]
  rw[dG q,dG<|by rw[cL,hlen,F3];omega]
 have pV:∀i,H.length<=i/\i<H.length+k->(H.set id (.vec true ar 1<|(List.range k).map λj=>[D.own (j+H.length) 0 0 0])++List.replicate k (al.vec true 0 an []))[i]? = some (.vec true 0 an []):=λi hi=>by
  rw[jF<|by rw[hlen];omega,hlen,vi,ae zo]
 have MJ:(H.set id (.vec true ar 1<|(List.range k).map λj=>[D.own (j+H.length) 0 0 0])++List.replicate k (al.vec true 0 an []))[id]? = some (.vec true ar 1<|(List.range k).map λj=>[D.own (j+H.length) 0 0 0]):=by
  rw[iz<|by rw[hlen];exact yN,EP yN]
 refine⟨J',F,⟨hr.defers,hr.size,λu=>kO hle (λ_ h=>h) (λ_ _=>rfl) _ _<|hr.tmps u,⟨λi s hs=>?_,λi i' s s' b g1 g2 g3 g4=>?_,λi s b o g1 g2 g3 g4=>?_,hr.ok.lt⟩,λi hi=>?_⟩,λi s hi hs=>?_,λb hb=>hb,λb ⟨i,s,hs,hb⟩=>?_,λb hb=>.inl hb⟩
 ·simp only[J'] at hs;split at hs
  ·rename_i e;cases hs;exact⟨_,pV i e,rfl,rfl,rfl,rfl,aS _,.inl rfl⟩
  rename_i e;obtain⟨o,h1,h2⟩:=hr.ok.obj i s hs;by_cases e2:i=id
  ·subst e2;have Ft:H[i]? = some o:=h1;rw[hid] at Ft;cases Ft;obtain⟨k1,k2,k3,k4,k5,k6⟩:=h2;refine⟨_,MJ,k1,k2,k3,by rw[k4];simp,k5,?_⟩;rcases k6 with k6|⟨b,o,vals,te,t1,t2,t3,t4,t5⟩
   ·exact .inl k6
   refine .inr ⟨b,o,vals,te,t1,t2,t3,wN _ _ λj x hj=>?_,λq=>by cases q⟩;have Fy:j<k:=by
    rcases gK j k with q|q
    ·exact q
    rw[dG<|by simpa using q] at hj;cases hj
   rw[fx,xK Fy] at hj;simp only[C4,Option.some.injEq] at hj;subst hj;obtain⟨r1,r2⟩:=vq _ _ j [au] (by rw[vi,ae Fy]) t4;refine⟨rfl,rU _ _ λq c hq=>?_⟩
   cases q with
   |zero =>
    simp at hq;subst hq;obtain⟨u,p1,p2,p3⟩:=rn _ _ 0 au rfl r2;simp only[rep] at p3;refine⟨u,p1,p2,?_⟩;simp only[rep];refine⟨⟨false,0,none,an,0,0⟩,none,0,0,?_,p3,aS _,λ_=>⟨rfl,aS _,kZ _,rfl,rfl,.inl rfl⟩⟩;simp only[J'];rw[ae zo]
   |succ q=>simp at hq
  exact⟨o,by rw[pX i e e2];exact h1,sk hle (λ_ h=>h) (λ_ _=>rfl) (λ_ _=>rfl) h2⟩
 ·simp only[J'] at g1 g2;split at g1
  ·cases g1;simp[Site.cE] at g3
  split at g2
  ·cases g2;simp[Site.cE] at g4
  exact hr.ok.one i i' s s' b g1 g2 g3 g4
 ·simp only[J'] at g1;split at g1
  ·cases g1;simp[Site.cE] at g2
  rename_i e;by_cases e2:i=id
  ·subst e2;exact hr.ok.apart i s b _ g1 g2 hid rfl
  exact hr.ok.apart i s b o g1 g2 (by rw[<-pX i e e2];exact g3) g4
 ·simp only[J'] at hi;rw[cL,hlen,F3];split at hi
  ·omega
  have:=hr.dom i hi;omega
 ·have:¬(H.length<=i/\i<H.length+k):=zo;simp only[J'];rw[ab this];exact hs
 simp only[J'] at hs;split at hs
 ·cases hs;simp[Site.cE] at hb
 exact⟨i,s,hs,hb⟩
theorem x'(b k:Nat):((List.range k).map λj=>[D.own (j+b) 0 0 0])=iT b (List.replicate k ([]:List α)):=by
 unfold iT
 grind
theorem xL(an k:Nat)(c:α->bj):List.replicate k (al.vec true 0 an [])=eu an c (List.replicate k []):=by
 unfold eu;rw[List.map_replicate];rfl
theorem lB{m:Nat}{G:aE}:∀(l t:aE),(∀o∈l,o.under m)->xv m G (l++t) l
 |[],t,_=>by cases t<;>exact trivial
 |o::r,t,h=>by
  refine⟨?_,lB r t λo ho=>h o<|by simp[ho]⟩;have:=h o zs
  cases o with
  |row q cs=>exact⟨rfl,.refl _,this⟩
  |vec q v e xs=>exact⟨rfl,rfl,rfl,.refl _,this⟩
  |dV q I=>exact⟨rfl,rfl⟩
theorem A9{G:aE}:∀l:aE,xv m G l []
 |[]=>trivial
 |_::_=>trivial
structure ForH(P:bG)(n:Nat)(p:PC)(Q:iY)(env:Env)(H:aE){ι:Type}(upd:ι->Env)(O:ι->aE)(G:ι->Prop)(m:ι->Nat)(i:ι)(e:Env):Prop where
 fC:G i
 start:uI env<|upd i
 heap:H=O i
 round:∀j,G j->Ge (upd j) e λE=>PWp P n p (MM H.length n Q (λj=>upd j++e) O G m<|m j) E<|O j
theorem cq{P:bG}{n:Nat}{p:PC}{Q:iY}{env:Env}{H:aE}(kept:List Nat)(upd:ι->Env)(O:ι->aE)(G:ι->Prop)(m:ι->Nat)(i:ι)
  (h:EU env kept λe=>ForH P n p Q env H upd O G m i e):PWp P n (.loop p) Q env H:=by
 rw[OB] at h;refine wc (λj=>upd j++kept.map λt=>(t,iv t env)) O G m i h.fC (aC (L9 _ _ h.start<|Ni _) h.heap) λj hj=>?_;have:=h.round j hj;rwa [L2] at this
theorem uK{an:Nat}{c:α->bj}{l:List α}{x:α}:al.vec true (l.length+1) an (List.drop 0 (List.take l.length<|l.map c)++List.drop 0 (List.take 1 [c x]))=al.vec true (l++[x]).length an ((l++[x]).map c):=by
 grind
def okK(b:Bool)(K K2:Prop):Prop:=match b with
 |true=>K
 |false=>K2
variable(x:Nat)
theorem zuP(x y:Nat)(r:List Nat):uk x (y::r)=(decide (x=y)||uk x r):=by
 have e:Nat.beq x y=decide (x=y):=by
  rw[j9,ja];exact⟨Bz,λh=>h▸Nat.beq_refl x⟩
 simp only[uk,e]
 grind
theorem zvm:uk x []=false:=rfl
theorem zqb(r l:List Nat):meets (x::r) l=(uk x l||meets r l):=by
 simp only[meets]
 grind
theorem zsA(l:List Nat):meets [] l=false:=rfl
theorem zA5(b c:Bool):(match b with|true=>c|false=>false)=(b&&c):=by cases b<;>rfl
variable{b:Bool}
theorem zBJ{K2:Prop}(h:b)(k:K):okK b K K2:=by subst h;exact k
section
variable{α:Type}{an:Nat}{c:α->bj}{L:List<|List α}{T:aE}{K:al->Prop}{K':aE->Prop}
theorem u4(h:i<L.length)(k:K (.vec true (L.getD i []).length an<|(L.getD i []).map c)):kx (eu an c L++T) i K:=by
 rw[lX];exact⟨_,by rw[iz<|by simpa using h];exact vP h,k⟩
variable(j:Nat)
theorem We(hi:i=L.length+j)(k:kx T j K):kx (eu an c L++T) i K:=by
 subst hi;rw[lX] at k⊢;obtain⟨o,h1,h2⟩:=k;exact⟨o,by rw[jF zs,Gy,GQ];exact h1,h2⟩
variable{o:al}
theorem xg(l:List α)(h:i<L.length)(ho:o=.vec true l.length an (l.map c))(k:K'<|eu an c (L.set i l)++T):qB (eu an c L++T) i o K':=by
 subst ho;rw[wX];exact⟨zq,by rw[List.set_append_left _ _<|by simpa using h,XD];exact k⟩
theorem XP(hi:i=L.length+j)(k:qB T j o λT'=>K'<|eu an c L++T'):qB (eu an c L++T) i o K':=by
 subst hi;rw[wX] at k⊢;exact⟨by rw[cL,Gy];omega,by
  rw[List.set_append_right _ _ zs,Gy,GQ];exact k.2⟩
theorem wo{K:aE->Nat->Prop}(k:K (eu an c L++[o]) L.length):tN (eu an c L) o K:=by
 rw[yg,Gy];exact k
theorem JK{K:aE->Nat->Prop}(k:K (eu an c L++(T++[o]))<|L.length+T.length):tN (eu an c L++T) o K:=by
 rw[yg,cL,Gy,ig];exact k
theorem vG{G:aE}(hc:∀a,aG m<|c a):xv m G (eu an c L++T)<|eu an c L:=lB _ _<|zml hc
end
def l6(n:Int):bj:=[aa n]
@[simp] theorem Kz(n:Int):aG m<|l6 n:=by simp[l6,aG,aK]
@[simp] theorem uP(L:ak):dF<|L.map λl=>[aF l]:=c6 _ (λl=>by simp[aA,cX]) L
theorem sY(b:B)(e:B->A:=by(intro h;(repeat (first|(refine We 0 rfl ?_;((conv=>whnf);repeat(refine⟨rfl,?_⟩;conv=>whnf)))|(refine XP 0 rfl ?_;((conv=>whnf);repeat(refine⟨rfl,?_⟩;conv=>whnf)))|(refine We 1 rfl ?_;((conv=>whnf);repeat(refine⟨rfl,?_⟩;conv=>whnf)))|(refine XP 1 rfl ?_;((conv=>whnf);repeat(refine⟨rfl,?_⟩;conv=>whnf)))));exact h)):A:=e b
def bq(l:ah)(n:Nat):Bool:=l.all λx=>decide (0<=x)&&decide (x<(n:Int))
variable{l:ah}
theorem zzs(h:bq l n)(hk:k<l.length):0<=l[k]/\l[k]<(n:Int):=by
 have:=kb.1 h _<|iZ hk
 grind
theorem L1(l:ah)(n:Nat):(l.any λx=>decide (x<0)||decide (x>=(n:Int)))=!(bq l n):=by
 unfold bq
 grind
theorem ND{p:α->Bool}{l:List α}(h:∀j (hj:j<l.length),p l[j]=false):l.any p=false:=by
 rw[yK];intro x hx;obtain⟨j,hj,rfl⟩:=iD.1 hx
 grind
theorem PN{p:α->Bool}{l:List α}(hk:k<l.length)(h:p l[k]):l.any p:=mJ.2 ⟨_,iZ hk,h⟩
theorem VA{p:α->Bool}{l:List α}(hk:k<l.length)(h:p l[k]=false):l.all p=false:=by
 grind
theorem zyk{p:α->Bool}{l:List α}(h:∀j (hj:j<l.length),p l[j]):l.all p:=by
 rw[kb];intro x hx;obtain⟨j,hj,rfl⟩:=iD.1 hx;exact h j hj
theorem YG(hz:z=k)(h:k<g.length):(g.map λl=>[aF l])[z]? = some [aF g[k]]:=Am (c:=aF) hz h
theorem ints_at(hz:z=k)(h:k<l.length):(l.map λn=>[aa n])[z]? = some [.sc (.int .i64 l[k])]:=Am (c:=λn=>aa n) hz h
theorem zA0(l:ah)(hl:l.length<=9223372036854775807)(n:Nat):ao aj 83 [aF l,aa n]<|ay<|bq l n:=by
 refine bS fZ ?_;unfold aF;refine sR ?_;have fin:∀{b:Bool},b=bq l n->Deep [] (ay b) (ay<|bq l n):=λh=>h▸.refl _;refine bb [0,1] (λk:Nat=>[(5,aa k)]) (λ_=>[]) (λk=>k<=l.length/\∀j (hj:j<k) (hl:j<l.length),0<=l[j]/\l[j]<(n:Int)) (λk=>l.length-k) 0 ?_;refine sW ?_;refine⟨⟨zo,λj hj=>zo⟩,by exact sK,rfl,?_⟩;rintro k ⟨hk,bR⟩;refine ck ?_;rw[aI];refine sS (λh=>?_) λh=>?_
 ·have ai:k<l.length:=sO;refine sL (ints_at (k:=k) zo ai) ?_;refine sS (λh1=>?_) λh1=>?_
  ·exact fin (VA ai<|sO).symm
  refine sL (ints_at (k:=k) zo ai) ?_;refine sS (λh2=>?_) λh2=>?_
  ·exact fin (VA ai<|sO).symm
  refine sI ?_;refine⟨k+1,⟨zo,λj hj hl=>?_⟩,zd,aC (by exact sK) rfl⟩;by_cases e:j=k
  ·subst e;exact sO
  exact bR j zo hl
 have ai:¬k<l.length:=sO;exact fin (zyk λj hj=>by have:=bR j zo hj;simpa using this).symm
def l7(g:ak):Int:=if 20000<g.length then 2 else if (g.any λl=>!(bq l g.length))=true then 1 else 0
theorem oP:l7 g=0↔g.length<=20000/\∀l∈g,bq l g.length:=by
 unfold l7;repeat grind
structure iu(g:ak):Prop where
 len:g.length<=17592186043904
 each:∀l∈g,l.length<=17592186043904
theorem iu.at(h:iu g)(i:Nat):(g.getD i []).length<=17592186043904:=by
 rw[a8]
 cases e:g[i]? with
 |none=>simp
 |some l=>exact h.each l<|o7 e
theorem eV(hz:z=k)(h:k<g.length):(g.map λl=>[aF l])[z]? = some [aF<|g.getD k []]:=by
 grind
theorem bV(hz:z=k)(h:k<l.length):(l.map λn=>[aa n])[z]? = some [aa<|l.getD k 0]:=by
 grind
theorem nZ(h:bq l n)(hk:k<l.length):0<=l.getD k 0/\l.getD k 0<(n:Int):=by
 rw[a8,aX hk];exact zzs h hk
theorem ft(h:∀l∈g,bq l n)(k:Nat):bq (g.getD k []) n:=by
 rw[a8]
 cases e:g[k]? with
 |none=>rfl
 |some l=>grind
variable(g:ak)
theorem zvy(x:Int):ao aj 137 [aa x,.ax [bN g]]<|ay<|decide (x<0)||decide (x>=(g.length:Int)):=by
 refine bS fZ ?_;refine sRS (λh=>?_) λh=>?_
 ·exact cf zs
 rw[aI];exact cf zs
theorem Lk(l:ah)(hl:l.length<=9223372036854775807):ao aj 70 [bN g,aF l] (.sc (.bool !(bq l g.length))):=by
 refine bt ?_;refine sN (mh (λn=>aa n) (λa=>by simp[Pure]) l hl (λx=>decide (x<0)||decide (x>=(g.length:Int))) 137 [.ax [bN g]] zp λa _=>zvy g a) ?_;rw[L1];exact .refl _
theorem ME(hg:iu g):ao aj 68 [bN g]<|aa<|l7 g:=by
 have b1:=hg.len;refine bS fZ ?_;unfold bN;refine sR ?_;rw[aI];have fin:∀{H:aE} {z:Int},z=l7 g->Deep H (aa z) (aa<|l7 g):=λh=>h▸.refl _;refine sS (λh1=>?_) λh1=>?_
 ·exact fin<|by unfold l7;rw[ae<|sO]
 have h1:¬20000<g.length:=sO;rw[aI];refine bb [0,8,9] (λk:Nat=>[(10,aa k)]) (λ_=>[]) (λk=>k<=g.length/\∀j (hj:j<k) (hl:j<g.length),(!(bq g[j] g.length))=false) (λk=>g.length-k) 0 ?_;refine sW ?_;refine⟨⟨zo,λj hj=>zo⟩,by exact sK,rfl,?_⟩;rintro k ⟨hk,bR⟩;refine bf (λh2=>?_) λh2=>?_
 ·have ai:k<g.length:=sO;refine sL (YG (k:=k) zo ai) ?_;refine sC (Lk g g[k]<|by have:=hg.each _<|iZ ai;omega) ?_;refine sS (λh3=>?_) λh3=>?_
  ·exact fin<|by unfold l7;rw[ab h1,ae<|PN ai h3]
  refine sI ?_;refine⟨k+1,⟨zo,λj hj hl=>?_⟩,zd,aC (by exact sK) rfl⟩;by_cases e:j=k
  ·subst e;exact h3
  exact bR j zo hl
 have ai:¬k<g.length:=sO;exact fin<|by unfold l7;rw[ab h1,ab<|by rw[ND λj hj=>bR j zo hj];simp]
def bF(n:Nat)(g:aq):fc:=(List.range n).map λi=>[ay<|g i]
def bx(n:Nat)(g:aq):D:=.aM 1<|bF n g
@[simp] theorem Ep(n:Nat)(g:aq):(bF n g).length=n:=by simp[bF]
variable{g:aq}
theorem Gq(h:i<n):(bF n g)[i]? = some [ay<|g i]:=by
 simp[bF,fx,xK h]
theorem bc(i:Nat)(hz:z=i)(h:i<n):(bF n g)[z]? = some [ay<|g i]:=by
 subst hz;exact Gq h
variable{g':aq}
theorem iI(h:∀i,i<n->g i=g' i):bF n g=bF n g':=by
 unfold bF;exact vj λi hi=>by rw[h i<|jz.1 hi]
variable(n:Nat)
theorem oI(g:aq)(k:Nat)(v:Bool):(bF n g).set k [ay v]=bF n (λi=>if i=k then v else g i):=by
 apply pS;intro i;by_cases hi:i<n
 ·by_cases hk:i=k
  ·subst hk;rw[EP<|by simpa using hi,Gq hi];simp
  rw[DS λe=>hk e.symm,Gq hi,Gq hi];simp[hk]
 rw[dG zq,dG zq]
theorem jS:List.replicate n [ay false]=bF n (λ_=>false):=by
 apply pS;intro i;by_cases hi:i<n
 ·rw[Gq hi,vi,ae hi]
 rw[dG zq,dG zq]
@[simp] theorem uj(g:aq):dF<|bF n g:=c6 _ (λi=>by simp[aA,Pure]) _
@[simp] theorem lg(g:aq):Pure<|bx n g:=by simp only[bx,Pure];exact uj n g
theorem Cv(g:aq):List.drop 0 (List.take n<|bF n g)=bF n g:=by rw[dP,fG zs]
variable{n:Nat}
theorem V2(h:∀i,i<n->g i=g' i):bx n g=bx n g':=by unfold bx;rw[iI h]
theorem qi{id:Nat}{q:Bool}(h:H[id]? = some (.vec q v 1<|bF n g)):Deep H (.own id v 0 n)<|bx n g:=.own _ _ _ _ _ _ _ _ h<|by rw[Cv];exact gw _
def sT(T:aq)(k:Nat)(o:Bool):Nat->Bool:=λi=>if i<k then T i else if i=k then o else false
variable{T:aq}{o:Bool}
theorem GO{v:Bool}(hz:z=k):(bF n<|sT T k o).set z [ay v]=bF n (sT T k v):=by
 subst hz;rw[oI];refine iI λi _=>?_;unfold sT;repeat grind
theorem GB(h:o=T k):bF n (sT T k o)=bF n (sT T (k+1) false):=by
 refine iI λi _=>?_;unfold sT;repeat grind
variable(n:Nat)
theorem Ut(T:aq):bF n (λ_=>false)=bF n (sT T 0 false):=by
 refine iI λi _=>?_;unfold sT;simp
theorem Xn(T:aq)(o:Bool):bF n (sT T n o)=bF n T:=iI λi hi=>ae hi
@[simp] theorem zAB{n:Nat}(g:aq):bB m (bF n g)↔True:=⟨λ_=>trivial,λ_=>bm _<|uj n g⟩
@[simp] theorem zCt{n:Nat}(g:aq):aK m (bx n g)↔True:=⟨λ_=>trivial,λ_=>bz _<|lg n g⟩
theorem NR(g:aq):bF n g=((List.range n).map g).map λa=>[ay a]:=by simp[bF]
theorem Wq(g:aq)(hn:n<=9223372036854775807)(b:Bool):ao aj 61 [bx n g,ay b]<|ay<|((List.range n).map g).contains b:=by
 have:=zjn ((List.range n).map g) (by simpa using hn) b;rwa [<-NR] at this
variable{n:Nat}
theorem HW:((List.range n).map g).contains b↔∃i,i<n/\g i=b:=by
 grind
variable{s:aq}
theorem nV(hz:z=v):(bF n s).set z [ay true]=bF n (mark s v):=by
 subst hz;rw[oI];rfl
structure tV(g:ak)(from_:ah)(B:Nat)(s:aq)(T:ah):Prop where
 todo:bq T g.length=true
 comes:∀x∈T,gx g from_ x.toNat
 seen:∀v,s v->gx g from_ v
 start:∀x∈from_,s x.toNat\/x∈T
 closed:∀v,s v->∀x∈g.getD v [],s x.toNat\/x∈T
 room:T.length+qU g s<=B
variable{x:Int}
theorem cZ(h:bq l n)(hx:x∈l):0<=x/\x<(n:Int):=by
 have:=kb.1 h x hx
 grind
theorem iS(h:∀x∈l,0<=x/\x<(n:Int)):bq l n:=by
 unfold bq
 grind
variable{g:ak}{B:Nat}{T:ah}
theorem tV.pop(h:tV g from_ B s<|T++[x])(hs:s x.toNat):tV g from_ B s T where
 todo:=iS λy hy=>cZ h.todo<|by simp[hy]
 comes y hy:=h.comes y<|by simp[hy]
 seen:=h.seen
 start y hy:=by
  rcases h.start y hy with q|q
  ·exact .inl q
  rcases dz.1 q with q|q
  ·exact .inr q
  rw[cV] at q;subst q;exact .inl hs
 closed v hv y hy:=by
  rcases h.closed v hv y hy with q|q
  ·exact .inl q
  rcases dz.1 q with q|q
  ·exact .inr q
  rw[cV] at q;subst q;exact .inl hs
 room:=by have:=h.room;rw[cL] at this;omega
theorem tV.push(hg:∀l∈g,bq l g.length)(h:tV g from_ B s<|T++[x])(hs:s x.toNat=false):tV g from_ B (mark s x.toNat) (T++g.getD x.toNat []) where
 todo:=iS λy hy=>by
  rcases dz.1 hy with q|q
  ·exact cZ h.todo<|by simp[q]
  exact cZ (ft hg _) q
 comes y hy:=by
  rcases dz.1 hy with q|q
  ·exact h.comes y<|by simp[q]
  exact .step (h.comes x zs) q
 seen v hv:=by
  rcases nE.1 hv with q|q
  ·subst q;exact h.comes x zs
  exact h.seen v q
 start y hy:=by
  rcases h.start y hy with q|q
  ·exact .inl<|fo q
  rcases dz.1 q with q|q
  ·exact .inr<|by simp[q]
  rw[cV] at q;subst q;exact .inl<|km _ _
 closed v hv y hy:=by
  rcases nE.1 hv with q|q
  ·subst q;exact .inr<|zy _ hy
  rcases h.closed v q y hy with q|q
  ·exact .inl<|fo q
  rcases dz.1 q with q|q
  ·exact .inr<|by simp[q]
  rw[cV] at q;subst q;exact .inl<|km _ _
 room:=by
  have h1:=h.room;have h2:=cZ h.todo (x:=x) zs;have h3:=Tp (g:=g) (v:=x.toNat) zo hs;rw[cL] at h1⊢;simp only[dC,fy] at h1;omega
theorem tV.done(h:tV g from_ B s [])(v:Nat):s v=gL g from_ v:=OD ⟨h.seen v,P2 (λx hx=>(h.start x hx).resolve_right zs) (λv hv x hx=>(h.closed v hv x hx).resolve_right zs) v⟩
theorem tV.begin(hf:bq from_ g.length)(hB:from_.length+qU g (λ_=>false)<=B):tV g from_ B (λ_=>false) from_ where
 todo:=hf
 comes _ hx:=.base hx
 seen v h:=by cases h
 start _ hx:=.inr hx
 closed v h:=by cases h
 room:=hB
def aw(l:ah):fc:=l.map λn=>[aa n]
@[simp] theorem zzq(l:ah):bB m (aw l)↔True:=by simp[aw,aG,aK]
variable{h:Nat}
theorem zwN{Z:ah}(hz:z=h):List.drop (0+0) (List.take z<|aw Z)++l.map (λn=>[aa n])=aw (Z.take h++l):=by
 subst hz;unfold aw;rw[lp,dP,oD,List.map_take]
theorem zus(h1:1<=h)(h2:h<=l.length):l.take h=l.take (h-1)++[l.getD (h-1) 0]:=by
 obtain⟨k,rfl⟩:∃k,h=k+1:=⟨h-1,zo⟩;rw[jP,aX zo,Nat.add_sub_cancel,a8,aX zo];rfl
variable(g:ak)
theorem zs3(hg:l7 g=0)(hF:iu g)(from_:ah)(hf:bq from_ g.length)(hB:from_.length+qU g (λ_=>false)<=1000000000000) :
  ao aj 71 [bN g,aF from_] (bx g.length<|gL g from_):=by
 obtain⟨hn,aY⟩:=oP.1 hg;refine bS fZ ?_;unfold bN;refine sR ?_;rw[aI];refine⟨zo,zo,zo,?_⟩;rw[bO];refine sW ?_;refine sE (rA (OR from_ zo) zp [1] rfl rfl (by simp[al.aP,bL,D.aP];rfl)) ?_
 refine bb [0,5] (λ((s,Z,h,ar):aq×ah×Nat×Nat)=>[(6,.own 1 ar 0 h)]) (λ(s,Z,h,ar)=>[(0,.vec true 0 1<|bF g.length s),(1,.vec true ar 1<|aw Z)])
  (λ(s,Z,h,ar)=>h<=Z.length/\tV g from_ 1000000000000 s (Z.take h)) (λ(s,Z,h,ar)=>h+qU g s) ((λ_=>false),from_,from_.length,1) ?_
 refine sW ?_;refine⟨⟨zs,by rw[dM];exact tV.begin hf hB⟩,by exact sK,by rw[jS];rfl,?_⟩;rintro⟨s,Z,h,ar⟩ ⟨hh,hI⟩;refine bf (λh1=>?_) λh1=>?_
 ·have h1:1<=h:=sO;rw[zus h1 hh] at hI;have hx:=cZ hI.todo (x:=Z.getD (h-1) 0) zs;have room:=hI.room;rw[cL,fg] at room;refine sIB ?_;refine⟨_,bV (l:=Z) (k:=h-1) zo zo,?_⟩;refine sW ?_;generalize hv:Z.getD (h-1) 0=x at hx hI;refine sI ?_;refine⟨zo,zo,zo,?_⟩;refine bC ?_;refine⟨_,bc x.toNat zo zo,?_⟩;refine sW ?_;cases hs:s x.toNat
  ·refine bC ?_;refine⟨_,bc x.toNat zo zo,?_⟩;refine sW ?_;refine sL (eV (k:=x.toNat) zo zo) ?_;have lx:=hF.at x.toNat;have key:=Tp (g:=g) (s:=s) (v:=x.toNat) zo hs;have hP:=hI.push aY hs;refine sJ ?_;refine⟨(mark s x.toNat,Z.take (h-1)++g.getD x.toNat [],(h-1)+(g.getD x.toNat []).length,ar+1),⟨zq,?_⟩,?_,?_⟩
   ·rw[fG zq];exact hP
   ·dsimp only;omega
   refine aC ⟨bH (D.own 1 (ar+1) 0)<|by simp only[aI];omega,by exact sK⟩ ?_;rw[nV (v:=x.toNat) zo,zwN (h:=h-1) zo];rfl
  refine sW ?_;refine⟨(s,Z,h-1,ar),⟨zo,hI.pop hs⟩,zd,?_⟩;exact aC ⟨bH (D.own 1 ar 0) zo,by exact sK⟩ rfl
 have h0:h=0:=sO;subst h0;rw[s5] at hI;rw[iI (g':=gL g from_) λi _=>hI.done i];exact qi rfl
theorem LV(hg:l7 g=0)(hF:iu g)(from_:ah)(hf:bq from_ g.length)(hB:from_.length+qU g (λ_=>false)<=1000000000000) :
  ao aj 30 [bN g,aF from_] (.aJ [bx g.length<|gL g from_,aa 0]):=by
 refine bt ?_;refine sC (ME g hF) ?_;refine sS (λh1=>?_) λh1=>?_
 ·exfalso;exact sO
 refine sC (Lk g from_ zo) ?_;rw[hf];refine sW ?_;refine sC (zs3 g hg hF from_ hf hB) ?_;exact .refl _
structure af where
 nodes:List<|aB×Int
 aH:List<|Int×Int
namespace af
def name(P:af)(i:Nat):aB:=(P.nodes.getD i (⟨#[]⟩,0)).1
def kind(P:af)(i:Nat):Int:=(P.nodes.getD i (⟨#[]⟩,0)).2
def src(P:af)(i:Nat):Int:=(P.aH.getD i (0,0)).1
def dst(P:af)(i:Nat):Int:=(P.aH.getD i (0,0)).2
def mg(P:af)(i:Nat):Int :=
 if fF (P.name i)=false\/P.kind i<1\/7<P.kind i then 1
 else if (List.range i).any (λk=>dZ (P.name k)<|P.name i)=true then 4 else 0
def Ay(f:Nat->Int):Nat->Int
 |0=>0
 |n+1=>if Ay f n≠0 then Ay f n else f n
theorem Br{f:Nat->Int}:∀{n:Nat},Ay f n=0↔∀i,i<n->f i=0
 |0=>⟨λ_ i h=>zo,λ_=>rfl⟩
 |n+1=>by
  simp only[Ay];constructor
  ·intro h;split at h
   ·exact absurd h<|by assumption
   rename_i q;have q:=Classical.not_not.1 q;intro i hi;by_cases e:i=n
   ·subst e;exact h
   exact Br.1 q i zo
  intro h;have:Ay f n=0:=Br.2 λi hi=>h i zo;rw[ab<|by simp[this]];exact h n zo
theorem Nu{f:Nat->Int}{k:Nat}:∀{n:Nat},k<n->(∀i,i<k->f i=0)->f k≠0->Ay f n=f k
 |0,h,_,_=>zo
 |n+1,h,h1,h2=>by
  simp only[Ay];by_cases e:k=n
  ·subst e;rw[ab<|by simp[Br.2 h1]]
  rw[Nu (n:=n) zo h1 h2,ae h2]
def wa(P:af):Int:=Ay P.mg P.nodes.length
def pick(p:aq):Nat->ah
 |0=>[]
 |n+1=>if p n then pick p n++[(n:Int)] else pick p n
theorem DQ{p:aq}{x:Int}:∀{n:Nat},x∈pick p n↔∃i,i<n/\p i/\x=(i:Int)
 |0=>by simp[pick]
 |n+1=>by
  simp only[pick];split
  ·rename_i h;rw[dz,DQ,cV];constructor
   ·rintro(⟨i,h1,h2,h3⟩|h1)
    ·exact⟨i,zo,h2,h3⟩
    exact⟨n,zo,h,h1⟩
   rintro⟨i,h1,h2,h3⟩;by_cases e:i=n
   ·subst e;exact .inr h3
   exact .inl ⟨i,zo,h2,h3⟩
  rename_i h;rw[DQ];constructor
  ·rintro⟨i,h1,h2,h3⟩;exact⟨i,zo,h2,h3⟩
  rintro⟨i,h1,h2,h3⟩;refine⟨i,?_,h2,h3⟩;by_cases e:i=n
  ·subst e;exact absurd h2 h
  omega
theorem L6(p:aq):∀n,(pick p n).length<=n
 |0=>by simp[pick]
 |n+1=>by simp only[pick];have:=L6 p n;split<;>simp<;>omega
def bE(P:af)(v:Int):ah:=pick (λi=>P.dst i==v) P.aH.length
def cn(P:af)(v:Int):ah:=pick (λi=>P.src i==v) P.aH.length
variable(P:af)
theorem CS(v:Int):(P.bE v).length<=P.aH.length:=L6 _ _
theorem Cz(v:Int):(P.cn v).length<=P.aH.length:=L6 _ _
def oM(P:af)(i:Nat):Bool:=decide (0<=P.src i)&&decide (P.src i<P.nodes.length)&&decide (0<=P.dst i)&&decide (P.dst i<P.nodes.length)
def mM(P:af):Nat->Int
 |0=>0
 |n+1=>if P.kind n=1 then P.mM n+1 else P.mM n
def kX(P:af):Nat->Int
 |0=>-1
 |n+1=>if P.kind n=1 then (n:Int) else P.kX n
theorem Qd(P:af):∀n,0<=P.mM n/\P.mM n<=n
 |0=>by simp[mM]
 |n+1=>by simp only[mM];have:=Qd P n;split<;>omega
theorem OZ(P:af):∀n,0<P.mM n->0<=P.kX n/\P.kX n<n
 |0,h=>by simp[mM] at h
 |n+1,h=>by
  simp only[mM,kX] at h⊢;split
  ·omega
  rename_i e;rw[ab e] at h;have:=OZ P n h;omega
def BF(k i o:Int):Bool :=
 if k=1 then i==0&&o==1
 else if k=2\/k=3 then decide (i>0)&&o==0
 else if k=4 then decide (i>0)&&o==1
 else if k=7 then decide (o<=4)&&(decide (i>0)&&decide (o>0))
 else if k=5\/k=6 then decide (i>0)&&decide (o>0)
 else false
def oC(P:af)(i:Nat):Bool:=BF (P.kind i) (P.bE i).length (P.cn i).length
def graph(P:af):Nat->ak
 |0=>List.replicate P.nodes.length []
 |k+1=>(P.graph k).set (P.src k).toNat<|(P.graph k).getD (P.src k).toNat []++[P.dst k]
theorem CG(P:af):∀k,(P.graph k).length=P.nodes.length
 |0=>by simp[graph]
 |k+1=>by simp only[graph,tU];exact CG P k
theorem Zj{L:List α}{d l:α}(h:i<L.length):(L.set i l).getD j d=if j=i then l else L.getD j d:=by
 grind
theorem x8{P:af}:P.oM i↔0<=P.src i/\P.src i<P.nodes.length/\0<=P.dst i/\P.dst i<P.nodes.length:=by
 unfold oM
 grind
theorem KN{P:af}{u:Nat}{x:Int}:∀{k:Nat},(∀i,i<k->P.oM i)->(x∈(P.graph k).getD u []↔∃i,i<k/\P.src i=u/\P.dst i=x)
 |0,_=>by
  simp only[graph];rw[a8,vi];constructor
  ·intro h;split at h<;>simp at h
  rintro⟨i,h,_⟩;omega
 |k+1,hf=>by
  have ih:=KN (P:=P) (u:=u) (x:=x) (k:=k) λi hi=>hf i zo;have hk:=x8.1<|hf k zo;simp only[graph];rw[Zj<|by rw[CG];omega];split
  ·rename_i e;subst e;rw[dz,ih,cV];constructor
   ·rintro(⟨i,h1,h2,h3⟩|h)
    ·exact⟨i,zo,h2,h3⟩
    exact⟨k,zo,zo,h.symm⟩
   rintro⟨i,h1,h2,h3⟩;by_cases e:i=k
   ·subst e;exact .inr h3.symm
   exact .inl ⟨i,zo,h2,h3⟩
  rename_i e;rw[ih];constructor
  ·rintro⟨i,h1,h2,h3⟩;exact⟨i,zo,h2,h3⟩
  rintro⟨i,h1,h2,h3⟩;refine⟨i,?_,h2,h3⟩;by_cases q:i=k
  ·subst q;omega
  omega
theorem FV(P:af):∀(k u:Nat),(P.graph k).getD u []=(P.graph k).getD u []/\((P.graph k).getD u []).length<=k
 |0,u=>⟨rfl,by
  simp only[graph];rw[a8,vi];split<;>simp⟩
 |k+1,u=>⟨rfl,by
  have h1:=(FV P k u).2;have h2:=(FV P k (P.src k).toNat).2;simp only[graph];by_cases q:(P.src k).toNat<(P.graph k).length
  ·rw[Zj q];split
   ·rw[cL,lb];omega
   omega
  rw[List.set_eq_of_length_le zo];omega⟩
def Dt(P:af)(v:Nat):Prop:=gx (P.graph P.aH.length) [P.kX P.nodes.length] v
open Classical in
noncomputable def aU(P:af):Int :=
 if 20<P.nodes.length\/30<P.aH.length then 2
 else if P.wa≠0 then P.wa
 else if ¬∀i,i<P.aH.length->P.oM i=true then 1
 else if P.mM P.nodes.length≠1 then 1
 else if ¬∀i,i<P.nodes.length->P.oC i=true then 1
 else if ¬∀v,v<P.nodes.length->P.Dt v then 6
 else 0
end af
section
def jj(x:aB×Int):bj:=[.sc (.string x.1),aa x.2]
def lL(x:Int×Int):bj:=[aa x.1,aa x.2]
def af.cells(P:af):bj:=[.aM 2<|P.nodes.map jj,.aM 2<|P.aH.map lL]
def b7(P:af):D:=.agg P.cells
@[simp] theorem JJ(x:aB×Int):aA<|jj x:=by simp[jj,aA,Pure]
variable(x:Int×Int)
@[simp] theorem W4:aA<|lL x:=by simp[lL,aA,Pure]
variable(P:af)
@[simp] theorem N6:aA P.cells:=by simp[af.cells,aA,Pure,JJ,W4]
@[simp] theorem Ss:Pure<|b7 P:=by simp[b7,Pure,N6]
@[simp] theorem zAh:aG m P.cells↔True:=⟨λ_=>trivial,λ_=>bI _<|N6 P⟩
@[simp] theorem zAf(x:aB×Int):aG m (jj x)↔True:=⟨λ_=>trivial,λ_=>bI _<|JJ x⟩
@[simp] theorem zAi:aG m (lL x)↔True:=⟨λ_=>trivial,λ_=>bI _<|W4 x⟩
theorem jv(hz:z=k)(h:k<P.nodes.length):(P.nodes.map jj)[z]? = some [.sc (.string<|P.name k),aa<|P.kind k]:=by
 subst hz;rw[fx,aX h];unfold af.name af.kind;rw[a8,aX h];rfl
theorem oR(hz:z=k)(h:k<P.aH.length):(P.aH.map lL)[z]? = some [aa<|P.src k,aa<|P.dst k]:=by
 subst hz;rw[fx,aX h];unfold af.src af.dst;rw[a8,aX h];rfl
structure af.Fits(P:af):Prop where
 nodes:P.nodes.length<=9223372036854775807
 aH:P.aH.length<=9223372036854775807
 name:∀x∈P.nodes,x.1.size<=9223372036854775807
theorem af.Fits.at{P:af}(h:P.Fits)(hi:i<P.nodes.length):(P.name i).size<=9223372036854775807:=by
 unfold af.name;rw[a8,aX hi];exact h.name _<|iZ hi
theorem kJ{c:Nat}{x:Int}(h:c=l.length):List.drop 0 (List.take c<|aw l)++[[aa x]]=aw (l++[x]):=by
 subst h;rw[cB<|by simp[aw]];simp[aw]
theorem oY{id:Nat}{q:Bool}(hn:n=l.length)(h:H[id]? = some (.vec q v 1<|aw l)):Deep H (.own id v 0 n)<|aF l:=by
 subst hn;exact .own _ _ _ _ _ _ _ _ h<|by rw[cB<|by simp[aw]];exact gw _
theorem VV(hP:P.Fits)(hf:P.aH.length<=1000)(v:Int):ao aj 59 [b7 P,aa v]<|aF<|P.bE v:=by
 have b:=hP.aH;refine bt ?_;rw[aI];refine bQ (eo 5 1 zs rfl) ?_;refine bb [1,9,10] (λ((k,c,l):Nat×Nat×ah)=>[(5,.own 1 c 0 c),(11,aa k)]) (λ(k,c,l)=>[(1,.vec true c 1<|aw l)]) (λ(k,c,l)=>k<=P.aH.length/\c=l.length/\c<=k/\l=af.pick (λi=>P.dst i==v) k) (λ(k,c,l)=>P.aH.length-k) (0,0,[]) ?_;refine sW ?_;refine⟨⟨zo,rfl,zo,rfl⟩,by exact sK,rfl,?_⟩;rintro⟨k,c,l⟩ ⟨hk,hc,lH,hl⟩;refine bf (λh=>?_) λh=>?_
 ·have ai:k<P.aH.length:=sO;refine sL (oR P (k:=k) zo ai) ?_;refine sS (λh2=>?_) λh2=>?_
  ·refine ee ?_;refine⟨(k+1,c+1,l++[(k:Int)]),⟨zo,by simp[hc],zo,by rw[hl];simp[af.pick,h2]⟩,zd,?_⟩;refine aL 2 zs rfl sQ (sU ?_);exact aV<|kJ hc
  refine sI ?_;refine⟨(k+1,c,l),⟨zo,hc,zo,by rw[hl];simp[af.pick,h2]⟩,zd,?_⟩;exact aL 2 zs rfl sQ sQ
 have ai:k=P.aH.length:=by have:¬k<P.aH.length:=sO
                           omega
 subst ai;subst hl;exact oY hc rfl
theorem V0(hP:P.Fits)(hf:P.aH.length<=1000)(v:Int):ao aj 60 [b7 P,aa v]<|aF<|P.cn v:=by
 have b:=hP.aH;refine bt ?_;rw[aI];refine bQ (eo 5 1 zs rfl) ?_;refine bb [1,9,10] (λ((k,c,l):Nat×Nat×ah)=>[(5,.own 1 c 0 c),(11,aa k)]) (λ(k,c,l)=>[(1,.vec true c 1<|aw l)]) (λ(k,c,l)=>k<=P.aH.length/\c=l.length/\c<=k/\l=af.pick (λi=>P.src i==v) k) (λ(k,c,l)=>P.aH.length-k) (0,0,[]) ?_;refine sW ?_;refine⟨⟨zo,rfl,zo,rfl⟩,by exact sK,rfl,?_⟩;rintro⟨k,c,l⟩ ⟨hk,hc,lH,hl⟩;refine bf (λh=>?_) λh=>?_
 ·have ai:k<P.aH.length:=sO;refine sL (oR P (k:=k) zo ai) ?_;refine sS (λh2=>?_) λh2=>?_
  ·refine ee ?_;refine⟨(k+1,c+1,l++[(k:Int)]),⟨zo,by simp[hc],zo,by rw[hl];simp[af.pick,h2]⟩,zd,?_⟩;refine aL 2 zs rfl sQ (sU ?_);exact aV<|kJ hc
  refine sI ?_;refine⟨(k+1,c,l),⟨zo,hc,zo,by rw[hl];simp[af.pick,h2]⟩,zd,?_⟩;exact aL 2 zs rfl sQ sQ
 have ai:k=P.aH.length:=by have:¬k<P.aH.length:=sO
                           omega
 subst ai;subst hl;exact oY hc rfl
theorem Mz(hP:P.Fits)(hf:P.aH.length<=1000)(v:Int):ao aj 41 [b7 P,aa v]<|aF<|P.bE v:=by
 have b:=hP.aH;refine bt ?_;refine bQ (eo 5 1 zs rfl) ?_;refine bb [1,2] (λ((k,c,l):Nat×Nat×ah)=>[(5,.own 1 c 0 c),(6,aa k)]) (λ(k,c,l)=>[(1,.vec true c 1<|aw l)]) (λ(k,c,l)=>k<=P.aH.length/\c=l.length/\c<=k/\l=af.pick (λi=>P.dst i==v) k) (λ(k,c,l)=>P.aH.length-k) (0,0,[]) ?_;refine sW ?_;refine⟨⟨zo,rfl,zo,rfl⟩,by exact sK,rfl,?_⟩;rintro⟨k,c,l⟩ ⟨hk,hc,lH,hl⟩;refine ck ?_;rw[aI];refine sS (λh=>?_) λh=>?_
 ·have ai:k<P.aH.length:=sO;refine sL (oR P (k:=k) zo ai) ?_;refine sS (λh2=>?_) λh2=>?_
  ·refine ee ?_;refine⟨(k+1,c+1,l++[(k:Int)]),⟨zo,by simp[hc],zo,by rw[hl];simp[af.pick,h2]⟩,zd,?_⟩;refine aL 2 zs rfl sQ (sU ?_);exact aV<|kJ hc
  refine sI ?_;refine⟨(k+1,c,l),⟨zo,hc,zo,by rw[hl];simp[af.pick,h2]⟩,zd,?_⟩;exact aL 2 zs rfl sQ sQ
 have ai:k=P.aH.length:=by have:¬k<P.aH.length:=sO
                           omega
 subst ai;subst hl;exact oY hc rfl
theorem Oz(hP:P.Fits)(hf:P.aH.length<=1000)(v:Int):ao aj 42 [b7 P,aa v]<|aF<|P.cn v:=by
 have b:=hP.aH;refine bt ?_;refine bQ (eo 5 1 zs rfl) ?_;refine bb [1,2] (λ((k,c,l):Nat×Nat×ah)=>[(5,.own 1 c 0 c),(6,aa k)]) (λ(k,c,l)=>[(1,.vec true c 1<|aw l)]) (λ(k,c,l)=>k<=P.aH.length/\c=l.length/\c<=k/\l=af.pick (λi=>P.src i==v) k) (λ(k,c,l)=>P.aH.length-k) (0,0,[]) ?_;refine sW ?_;refine⟨⟨zo,rfl,zo,rfl⟩,by exact sK,rfl,?_⟩;rintro⟨k,c,l⟩ ⟨hk,hc,lH,hl⟩;refine ck ?_;rw[aI];refine sS (λh=>?_) λh=>?_
 ·have ai:k<P.aH.length:=sO;refine sL (oR P (k:=k) zo ai) ?_;refine sS (λh2=>?_) λh2=>?_
  ·refine ee ?_;refine⟨(k+1,c+1,l++[(k:Int)]),⟨zo,by simp[hc],zo,by rw[hl];simp[af.pick,h2]⟩,zd,?_⟩;refine aL 2 zs rfl sQ (sU ?_);exact aV<|kJ hc
  refine sI ?_;refine⟨(k+1,c,l),⟨zo,hc,zo,by rw[hl];simp[af.pick,h2]⟩,zd,?_⟩;exact aL 2 zs rfl sQ sQ
 have ai:k=P.aH.length:=by have:¬k<P.aH.length:=sO
                           omega
 subst ai;subst hl;exact oY hc rfl
theorem zn2(k i o:Int):ao aj 58 [aa k,aa i,aa o]<|ay<|af.BF k i o:=by
 refine bt ?_;repeat' (first|refine sS (λh=>?_) λh=>?_|exact cf<|by unfold af.BF;simp_all;try omega)
variable(l:List<|aB×Int)
theorem znP(hl:l.length<=9223372036854775807)(p:aB×Int->Bool)(cl:FuncId)(cap:bj)(hp:aA cap)(hc:∀a∈l,ao aj cl (.agg (jj a)::cap)<|ay<|p a) :
  ao aj 176 [.aM 2<|l.map jj,.fn (.func cl) [] cap] (aa<|dN p l):=by
 refine dh fZ zs (by simp[aA,Pure,hp,JJ]) ?_ zp;refine sR ?_;rw[aI];have fin:∀{z:Int},z=dN p l->Deep [] (aa z) (aa<|dN p l):=λh=>h▸.refl _;refine bb [0,1,7] (λk:Nat=>[(8,aa k)]) (λ_=>[]) (λk=>k<=l.length/\∀j (hj:j<k) (hl:j<l.length),p l[j]=false) (λk=>l.length-k) 0 ?_;refine sW ?_;refine⟨⟨zo,λj hj=>zo⟩,by exact sK,rfl,?_⟩;rintro k ⟨hk,cg⟩;refine bf (λh=>?_) λh=>?_
 ·have ai:k<l.length:=sO;refine⟨zo,jj l[k],by rw[fx,bO,aX ai];rfl,?_⟩;refine sW ?_;refine sC (hc _<|iZ ai) ?_;refine sS (λh2=>?_) λh2=>?_
  ·exact fin (xd ai h2 λj hj=>cg j hj zo).symm
  refine sI ?_;refine⟨k+1,⟨zo,λj hj hl=>?_⟩,zd,aC (by exact sK) rfl⟩;by_cases e:j=k
  ·subst e;exact h2
  exact cg j zo hl
 have ai:¬k<l.length:=sO;exact fin (Av λj hj=>cg j zo hj).symm
theorem zhA(hl:l.length<=9223372036854775807)(p:aB×Int->Bool)(cl:FuncId)(cap:bj)(hp:aA cap)(hc:∀a∈l,ao aj cl (.agg (jj a)::cap)<|ay<|p a) :
  ao aj 128 [.aM 2<|l.map jj,.fn (.func cl) [] cap] (ay<|l.any p):=by
 refine dh fZ zs (by simp[aA,Pure,hp,JJ]) ?_ zp;refine sR ?_;refine sC (znP l hl p cl cap hp hc) ?_;rw[sz];exact .refl _
theorem S7(P:af)(f:aB->Bool):∀i,i<=P.nodes.length->((P.nodes.take i).any λm=>f m.1)=(List.range i).any λk=>f (P.name k)
 |0,_=>rfl
 |i+1,h=>by
  rw[List.take_succ_eq_append_getElem zo,tZ,S7 P f i zo,qf,tZ]
  congr 1
  simp only[List.any_cons,List.any_nil,wM];unfold af.name;rw[a8,aX zo];rfl
theorem zov(m n:aB×Int):ao aj 129 [.agg<|jj m,.ax<|jj n]<|ay<|dZ m.1 n.1:=by
 refine bt ?_;exact .refl _
theorem zrd(hP:P.Fits):ao aj 57 [b7 P]<|aa P.wa:=by
 have b:=hP.nodes;refine bt ?_;rw[aI];have bD:∀{H:aE} {z:Int} (k:Nat),k<P.nodes.length->(∀j,j<k->P.mg j=0)->P.mg k=z->z≠0->Deep H (aa z) (aa P.wa):=λk h1 h2 h3 h4=>by
  unfold af.wa;rw[af.Nu h1 h2<|by rw[h3];exact h4,h3];exact .refl _
 refine bb [1,6,7] (λk:Nat=>[(8,aa k)]) (λ_=>[]) (λk=>k<=P.nodes.length/\∀j,j<k->P.mg j=0) (λk=>P.nodes.length-k) 0 ?_;refine sW ?_;refine⟨⟨zo,λj hj=>zo⟩,by exact sK,rfl,?_⟩;rintro k ⟨hk,bR⟩;refine bf (λh=>?_) λh=>?_
 ·have ai:k<P.nodes.length:=sO;refine sL (jv P (k:=k) zo ai) ?_;refine sC (DL (P.name k)<|hP.at ai) ?_;refine sS (λh1=>?_) λh1=>?_
  ·exact bD k ai bR (by unfold af.mg;rw[ae (.inl<|by simpa using h1)]) zc
  have h1:fF<|P.name k:=(by simpa using h1);refine sS (λh2=>?_) λh2=>?_
  ·exact bD k ai bR (by unfold af.mg;rw[ae (.inr (.inl<|sO))]) zc
  refine sS (λh3=>?_) λh3=>?_
  ·exact bD k ai bR (by unfold af.mg;rw[ae (.inr (.inr<|sO))]) zc
  have c1:¬(fF (P.name k)=false\/P.kind k<1\/7<P.kind k):=by
   rintro(q|q|q)
   ·rw[h1] at q;cases q
   ·exact sO
   exact sO
  refine⟨zo,zo,by rw[aI];omega,?_⟩;refine sW ?_;rw[dP,bO,<-List.map_take];refine sN (zhA (P.nodes.take k) (by rw[fg];omega) (λm=>dZ m.1<|P.name k) 129 [.ax<|jj (P.name k,P.kind k)] zp λa _=>zov a _) ?_;rw[S7 P (λs=>dZ s<|P.name k) k zo];refine sS (λh4=>?_) λh4=>?_
  ·exact bD k ai bR (by unfold af.mg;rw[ab c1,ae h4]) zc
  refine sI ?_;refine⟨k+1,⟨zo,λj hj=>?_⟩,zd,?_⟩
  ·by_cases e:j=k
   ·subst e;unfold af.mg;rw[ab c1,ab<|by rw[h4];simp]
   exact bR j zo
  exact aL 1 zs rfl sQ sQ
 have ai:k=P.nodes.length:=by have:¬k<P.nodes.length:=sO
                              omega
 subst ai;have e:P.wa=0:=af.Br.2 bR;rw[e];exact .refl _
end
section
def D7(n:Int):bj:=[aa n]
theorem Z8(n:Int):aG m<|D7 n:=by simp[D7,aG,aK]
theorem Mk{f:Nat->Nat}{c:Nat}:∀n,(∀j,j<n->f j<=c)->jO f n<=n*c
 |0,_=>by simp[jO]
 |n+1,h=>by
  simp only[jO];have h1:=Mk n λj hj=>h j zo;have h2:=h n zo;rw[oa];omega
theorem zyt{an:Nat}{c:α->bj}{L:List<|List α}{T:aE}{a b:al}{K:aE->Prop}{o:al}(l:List α)(h:i<L.length)(ho:o=.vec true l.length an (l.map c))(k:K<|a::b::(eu an c (L.set i l)++T)):qB (a::b::(eu an c L++T)) (i+2) o K:=by
 subst ho;rw[wX];refine⟨zq,?_⟩;rw[List.set_cons_succ,List.set_cons_succ,List.set_append_left _ _<|by simpa using h,XD];exact k
variable(P:af)
theorem zpH(h1:P.nodes.length<=20)(h2:P.aH.length<=30)(hf:∀i,i<P.aH.length->P.oM i) :
  l7 (P.graph P.aH.length)=0/\iu (P.graph P.aH.length)/\qU (P.graph P.aH.length) (λ_=>false)<=600:=by
 have hl:=P.CG P.aH.length;have row:∀l∈P.graph P.aH.length,∃u,l=(P.graph P.aH.length).getD u []:=λl hl=>by
  obtain⟨u,hu,rfl⟩:=iD.1 hl;exact⟨u,by rw[a8,aX hu];rfl⟩
 refine⟨oP.2 ⟨zo,λl h=>?_⟩,⟨zo,λl h=>?_⟩,?_⟩
 ·obtain⟨u,rfl⟩:=row l h;refine iS λx hx=>?_;obtain⟨i,q1,_,q3⟩:=(af.KN hf).1 hx;have:=af.x8.1 (hf i q1)
  grind
 ·obtain⟨u,rfl⟩:=row l h;have:=(P.FV P.aH.length u).2;omega
 have:=Mk (f:=λv=>if false=true then 0 else ((P.graph P.aH.length).getD v []).length) (c:=30) (P.graph P.aH.length).length λj _=>by
  have:=(P.FV P.aH.length j).2
  grind
 unfold qU
 grind
theorem zqs{id:Nat}{q:Bool}{L:ak}(h:H[id]? = some (.vec q v 1<|L.map λl=>[aF l]))(hn:n=L.length):Deep H (.own id v 0 n)<|bN L:=by
 subst hn;exact .own _ _ _ _ _ _ _ _ h<|by rw[cB zs];exact gw _
theorem Ty(hP:P.Fits):ao aj 23 [b7 P]<|aa P.aU:=by
 have b1:=hP.nodes;have b2:=hP.aH;refine bS (fY [111]) ?_;refine sR ?_;rw[aI];have fin:∀{H:aE} {z:Int},z=P.aU->Deep H (aa z) (aa P.aU):=λh=>h▸.refl _;refine sS (λh1=>?_) λh1=>?_
 ·exact fin<|by unfold af.aU;rw[ae (.inl<|sO)]
 rw[aI];refine sS (λh2=>?_) λh2=>?_
 ·exact fin<|by unfold af.aU;rw[ae (.inr<|sO)]
 have c1:¬(20<P.nodes.length\/30<P.aH.length):=sO;refine sC (zrd P hP) ?_;refine sS (λh3=>?_) λh3=>?_
 ·have h3:P.wa≠0:=sO;exact fin<|by unfold af.aU;rw[ab c1,ae h3]
 have c2:¬P.wa≠0:=sO;rw[aI];refine⟨zo,zo,zo,?_⟩;rw[bO];refine sW ?_;rw[aI];refine pj (λ_:Unit=>[(1,.loc 0 0),(4,.own 1 0 0 P.nodes.length)]) (λ_=>[.row true P.cells,.vec true 0 1<|(P.graph P.aH.length).map λl=>[aF l]]) (λ_=>∀i,i<P.aH.length->P.oM i=true) ?_ ?_
 ·refine sR ?_;refine bQ (yX 1 1 P.nodes.length 0 zs rfl) ?_;refine cq [1,4,35,36] (λk:Nat=>[(37,aa k)]) (λk=>.row true P.cells::.vec true 0 1 (iT 2<|P.graph k)::eu 1 D7 (P.graph k)) (λk=>k<=P.aH.length/\∀i,i<k->P.oM i=true) (λk=>P.aH.length-k) 0 ?_;refine sW ?_;refine⟨⟨zo,λi hi=>zo⟩,by exact sK,?_,?_⟩
  ·show _::_::_=_::_::_;rw[xL 1 _ D7];exact bH (λx=>al.row true P.cells::al.vec true 0 1 x::_)<|x' (α:=Int) 2 _
  rintro k ⟨hk,bR⟩;have Dk:=P.CG k;refine bf (λh=>?_) λh=>?_
  ·have ai:k<P.aH.length:=sO;refine sL (oR P (k:=k) zo ai) ?_;refine wo ?_;refine sW ?_;refine sY ?_;have bad:∀{H:aE},P.oM k=false->Deep H (aa 1) (aa P.aU):=λh=>fin (by
    unfold af.aU;rw[ab c1,ab c2,ae];intro q;rw[q k ai] at h;cases h)
   have nok:¬(0<=P.src k/\P.src k<P.nodes.length/\0<=P.dst k/\P.dst k<P.nodes.length)->P.oM k=false:=λh=>by rw[<-uQ,af.x8];exact h
   refine sS (λh4=>?_) λh4=>?_
   ·exact bad<|nok<|sO
   refine sY ?_
   (refine pW (λh5=>?_) (λh5=>?_)<;>(rw[h5];((conv=>whnf);repeat(refine⟨rfl,?_⟩;conv=>whnf))))
   ·exact bad<|nok<|by((try simp only[oo,reduceCtorEq]at*)<;>omega)
   refine sY ?_
   (refine pW (λh6=>?_) (λh6=>?_)<;>(rw[h6];((conv=>whnf);repeat(refine⟨rfl,?_⟩;conv=>whnf))))
   ·exact bad<|nok<|by((try simp only[oo,reduceCtorEq]at*)<;>omega)
   refine sY ?_
   (refine pW (λh7=>?_) (λh7=>?_)<;>(rw[h7];((conv=>whnf);repeat(refine⟨rfl,?_⟩;conv=>whnf))))
   ·exact bad<|nok<|by((try simp only[oo,reduceCtorEq]at*)<;>omega)
   have az:P.oM k:=af.x8.2 (by((try simp only[oo,reduceCtorEq]at*)<;>omega));have ho:=af.x8.1 az;have cR:=(P.FV k (P.src k).toNat).2;refine sY ?_
   (refine⟨zo,(by first|omega|(simp;done)|(simp;omega)|(simp only[ll];omega)),?_⟩;((conv=>whnf);repeat(refine⟨rfl,?_⟩;conv=>whnf)))
   refine⟨_,kW (i:=(P.src k).toNat) zo zo,?_⟩
   ((conv=>whnf);repeat(refine⟨rfl,?_⟩;conv=>whnf))
   refine sY ?_;refine JK ?_
   ((conv=>whnf);repeat(refine⟨rfl,?_⟩;conv=>whnf))
   refine sY ?_;refine u4 zo ?_;refine sW ?_;refine⟨by unfold iF;simp only[lD,fg,dC,fy];omega,?_⟩;refine zyt (((P.graph k).getD (P.src k).toNat [])++[P.dst k]) zo ?_ ?_
   ·exact uK
   refine bC ?_;refine⟨_,kW (i:=(P.src k).toNat) zo zo,?_⟩;refine sW ?_;have b9:(P.src k).toNat≠(P.graph k).length:=zo
   (refine zBJ (by dsimp only[q,qm,qw,qd,qn,qk];simp[DD,EH,vv,zqb,zsA,zuP,zvm,xy,zA5,b9]) ?_;((conv=>whnf);repeat(refine⟨rfl,?_⟩;conv=>whnf)))
   refine sI ?_;refine⟨k+1,⟨zo,λi hi=>?_⟩,zd,?_⟩
   ·by_cases e:i=k
    ·subst e;exact az
    exact bR i zo
   refine aL (P.nodes.length+2) zs (by simp[Dk,af.CG]) (by exact sQ) ⟨⟨rfl,.refl _,zs⟩,⟨rfl,rfl,rfl,aV ?_,vf<|by rw[af.CG];omega⟩,vG Z8⟩;exact vT zo zo _ zs
  have rh:k=P.aH.length:=sO;subst rh;refine⟨(),bR,aL 2 zs rfl (by exact sQ) ⟨⟨rfl,.refl _,zs⟩,⟨rfl,rfl,rfl,CA (c:=D7) (λi hi=>by simp[mq]) λi hi=>?_,zu⟩,A9 _⟩⟩;show(eu 1 D7<|P.graph P.aH.length)[i]? = _;exact vP hi
 rintro _ bR;refine sW ?_;rw[aI];have c3:¬¬∀i,i<P.aH.length->P.oM i=true:=λq=>q bR;refine bb [1,4,78,79] (λ((k,s,m):Nat×Int×Int)=>[(7,aa s),(8,aa m),(80,aa k)]) (λ_=>[]) (λ(k,s,m)=>k<=P.nodes.length/\s=P.kX k/\m=P.mM k) (λ(k,s,m)=>P.nodes.length-k) (0,-1,0) ?_;refine sW ?_;refine⟨⟨zo,rfl,rfl⟩,by exact sK,rfl,?_⟩;rintro⟨k,s,m⟩ ⟨hk,hs,hm⟩;refine bf (λh=>?_) λh=>?_
 ·have ai:k<P.nodes.length:=sO;have hle:=P.Qd k;refine sL (jv P (k:=k) zo ai) ?_;refine sS (λh4=>?_) λh4=>?_
  ·have h4:P.kind k=1:=sO;refine sI ?_;refine sI ?_;refine⟨(k+1,k,m+1),⟨zo,by simp[af.kX,h4],by simp[af.mM,h4,hm]⟩,zd,?_⟩;exact aL 2 zs rfl sQ sQ
  have h4:P.kind k≠1:=sO;refine sI ?_;refine⟨(k+1,s,m),⟨zo,by simp[af.kX,h4,hs],by simp[af.mM,h4,hm]⟩,zd,?_⟩;exact aL 2 zs rfl sQ sQ
 have rh:k=P.nodes.length:=sO;subst hs hm;subst rh;clear h hk;refine sS (λh4=>?_) λh4=>?_
 ·have h4:P.mM P.nodes.length≠1:=sO;exact fin<|by unfold af.aU;rw[ab c1,ab c2,ab c3,ae h4]
 have h4:P.mM P.nodes.length=1:=sO;have bW:=P.OZ P.nodes.length zo;have c4:¬P.mM P.nodes.length≠1:=λq=>q h4;rw[aI];refine bb [1,4,7,95,96] (λk:Nat=>[(97,aa k)]) (λ_=>[]) (λk=>k<=P.nodes.length/\∀i,i<k->P.oC i=true) (λk=>P.nodes.length-k) 0 ?_;refine sW ?_;refine⟨⟨zo,λi hi=>zo⟩,by exact sK,rfl,?_⟩;rintro k ⟨hk,az⟩;refine bf (λh=>?_) λh=>?_
 ·have ai:k<P.nodes.length:=sO;refine sL (jv P (k:=k) zo ai) ?_;refine sC (VV P hP zo k) ?_;refine sC (V0 P hP zo k) ?_;rw[aI,aI];refine sC (zn2 (P.kind k) (P.bE k).length (P.cn k).length) ?_;refine sS (λh5=>?_) λh5=>?_
  ·exact fin (by
    unfold af.aU;rw[ab c1,ab c2,ab c3,ab c4,ae];intro q;have:=q k ai;unfold af.oC at this;rw[this] at h5;cases h5)
  refine sI ?_;refine⟨k+1,⟨zo,λi hi=>?_⟩,zd,?_⟩
  ·by_cases e:i=k
   ·subst e;unfold af.oC;simpa using h5
   exact az i zo
  exact aL 2 zs rfl sQ sQ
 have rh:k=P.nodes.length:=sO;subst rh;have c5:¬¬∀i,i<P.nodes.length->P.oC i:=λq=>q az;obtain⟨g1,g2,g3⟩:=zpH P zo zo bR;have hlen:=P.CG P.aH.length
 refine .inr (.inr (.inr (.inr (.inr (.inl ⟨rfl,_,_,.cons _ _ _ _ (zqs rfl hlen.symm) (.cons _ _ _ _ (oY (l:=[P.kX P.nodes.length]) rfl rfl) .nil),
  LV (P.graph P.aH.length) g1 g2 [P.kX P.nodes.length] (iS λx hx=>by rw[cV] at hx;subst hx;omega) zq,?_⟩)))))
 refine sW ?_;refine sC (Wq _ (gL (P.graph P.aH.length) [P.kX P.nodes.length]) zo false) ?_;rw[hlen];refine sS (λh6=>?_) λh6=>?_
 ·obtain⟨v,q1,q2⟩:=HW.1 h6;exact fin (by
   unfold af.aU;rw[ab c1,ab c2,ab c3,ab c4,ab c5,ae];intro q;rw[pO.2<|q v q1] at q2;cases q2)
 exact fin (by
  unfold af.aU;rw[ab c1,ab c2,ab c3,ab c4,ab c5,ab];intro q;refine q λv hv=>?_;unfold af.Dt;rw[<-pO,<-Bool.not_eq_false];intro q2;rw[HW.2 ⟨v,hv,q2⟩] at h6;cases h6)
end
section
variable(P:af)
theorem zvL(i:Nat):bq [P.src i,P.dst i] P.nodes.length=P.oM i:=by
 unfold bq af.oM
 grind
theorem zpY{P:af}(h:P.mg i=0):1<=P.kind i/\P.kind i<=7:=by
 unfold af.mg at h;repeat grind
def IH(P:af)(s:aq):Prop:=∀i,i<P.aH.length->s (P.src i).toNat->s (P.dst i).toNat=true
theorem Vo(h:s v):mark s v=s:=by
 funext i;unfold mark;repeat grind
theorem zmG{P:af}(hf:∀i,i<P.aH.length->P.oM i)(h0:s (P.kX P.nodes.length).toNat)(hc:IH P s)(hs:∀v,s v->P.Dt v)(v:Nat):s v=gL (P.graph P.aH.length) [P.kX P.nodes.length] v :=
 OD ⟨hs v,P2 (λx hx=>by rw[cV] at hx;subst hx;exact h0) (λv hv x hx=>by
  obtain⟨i,q1,q2,q3⟩:=(af.KN hf).1 hx;have:=hc i q1 (by rw[q2];exact hv);rwa [q3] at this) v⟩
theorem znS(hP:P.Fits):ao aj 40 [b7 P]<|aa P.aU:=by
 have b1:=hP.nodes;have b2:=hP.aH;refine bt ?_;rw[aI];have fin:∀{H:aE} {z:Int},z=P.aU->Deep H (aa z) (aa P.aU):=λh=>h▸.refl _;refine sS (λh1=>?_) λh1=>?_
 ·exact fin<|by unfold af.aU;rw[ae (.inl<|sO)]
 rw[aI];refine sS (λh2=>?_) λh2=>?_
 ·exact fin<|by unfold af.aU;rw[ae (.inr<|sO)]
 have c1:¬(20<P.nodes.length\/30<P.aH.length):=sO;have bD:∀{H:aE} {z:Int} (k:Nat),k<P.nodes.length->(∀j,j<k->P.mg j=0)->P.mg k=z->z≠0->Deep H (aa z) (aa P.aU):=λk h1 h2 h3 h4=>fin (by
  have e:P.wa=P.mg k:=af.Nu h1 h2 (by rw[h3];exact h4);unfold af.aU;rw[ab c1,ae<|by rw[e,h3];exact h4,e,h3])
 refine bb [1,3] (λ((k,s,m):Nat×Int×Int)=>[(4,aa s),(5,aa m),(6,aa k)]) (λ_=>[]) (λ(k,s,m)=>k<=P.nodes.length/\s=P.kX k/\m=P.mM k/\∀j,j<k->P.mg j=0) (λ(k,s,m)=>P.nodes.length-k) (0,-1,0) ?_;refine sW ?_;refine⟨⟨zo,rfl,rfl,λj hj=>zo⟩,by exact sK,rfl,?_⟩;rintro⟨k,s,m⟩ ⟨hk,hs,hm,bR⟩;refine bf (λh=>?_) λh=>?_
 ·have ai:k<P.nodes.length:=sO;have hle:=P.Qd k;refine sL (jv P (k:=k) zo ai) ?_;refine sC (JV (P.name k)<|hP.at ai) ?_;refine sS (λh3=>?_) λh3=>?_
  ·exact bD k ai bR (by unfold af.mg;rw[ae (.inl<|by simpa using h3)]) zc
  have h3:fF<|P.name k:=(by simpa using h3);refine sL (jv P (k:=k) zo ai) ?_;refine sS (λh4=>?_) λh4=>?_
  ·exact bD k ai bR (by unfold af.mg;rw[ae (.inr (.inl<|sO))]) zc
  refine sL (jv P (k:=k) zo ai) ?_;refine sS (λh5=>?_) λh5=>?_
  ·exact bD k ai bR (by unfold af.mg;rw[ae (.inr (.inr<|sO))]) zc
  have d1:¬(fF (P.name k)=false\/P.kind k<1\/7<P.kind k):=by
   rintro(q|q|q)
   ·rw[h3] at q;cases q
   ·exact sO
   exact sO
  refine bb [1,3,4,5,6] (λj:Nat=>[(7,aa j)]) (λ_=>[]) (λj=>j<=k/\∀i,i<j->dZ (P.name i) (P.name k)=false) (λj=>k-j) 0 ?_;refine sW ?_;refine⟨⟨zo,λj hj=>zo⟩,by exact sK,rfl,?_⟩;rintro j ⟨hj,cg⟩;refine bf (λh6=>?_) λh6=>?_
  ·have de:j<k:=sO;refine sL (jv P (k:=j) zo zo) ?_;refine sL (jv P (k:=k) zo ai) ?_;refine sS (λh7=>?_) λh7=>?_
   ·exact bD k ai bR (by
     unfold af.mg;rw[ab d1,ae];rw[mJ];exact⟨j,jz.2 de,h7⟩) zc
   refine sI ?_;refine⟨j+1,⟨zo,λi hi=>?_⟩,zd,aC (by exact sK) rfl⟩;by_cases e:i=j
   ·subst e;exact h7
   exact cg i zo
  have Fy:j=k:=sO;subst Fy;have hz:P.mg j=0:=by
   unfold af.mg;rw[ab d1,ab];rw[mJ];rintro⟨i,q1,q2⟩;rw[cg i<|jz.1 q1] at q2;cases q2
  have IG:∀i,i<j+1->P.mg i=0:=λi hi=>by
   by_cases e:i=j
   ·subst e;exact hz
   exact bR i zo
  refine sL (jv P (k:=j) zo ai) ?_;refine sS (λh8=>?_) λh8=>?_
  ·have h8:P.kind j=1:=sO;refine sI ?_;refine sI ?_;exact⟨(j+1,j,m+1),⟨zo,by simp[af.kX,h8],by simp[af.mM,h8,hm],IG⟩,zd,aC (by exact sK) rfl⟩
  have h8:P.kind j≠1:=sO;refine sI ?_;exact⟨(j+1,s,m),⟨zo,by simp[af.kX,h8,hs],by simp[af.mM,h8,hm],IG⟩,zd,aC (by exact sK) rfl⟩
 have rh:k=P.nodes.length:=sO;subst hs hm;subst rh;clear h hk;have c2:¬P.wa≠0:=λq=>q<|af.Br.2 bR;clear bR;refine bb [1,3,4,5] (λk:Nat=>[(8,aa k)]) (λ_=>[]) (λk=>k<=P.aH.length/\∀i,i<k->P.oM i=true) (λk=>P.aH.length-k) 0 ?_;refine sW ?_;refine⟨⟨zo,λi hi=>zo⟩,by exact sK,rfl,?_⟩;rintro k ⟨hk,bR⟩;refine ck ?_;rw[aI];refine sS (λh=>?_) λh=>?_
 ·have ai:k<P.aH.length:=sO;refine sL (oR P (k:=k) zo ai) ?_;refine sL (oR P (k:=k) zo ai) ?_;refine .inr (.inl ⟨_,_,.cons _ _ _ _ (oY (l:=[P.src k,P.dst k]) rfl rfl) (.cons _ _ _ _ (.refl _) .nil),zA0 [P.src k,P.dst k] zs P.nodes.length,rfl,?_⟩);refine sW ?_;rw[zvL];refine sS (λh3=>?_) λh3=>?_
  ·exact fin (by
    unfold af.aU;rw[ab c1,ab c2,ae];intro q;rw[q k ai] at h3;cases h3)
  refine sI ?_;refine⟨k+1,⟨zo,λi hi=>?_⟩,zd,?_⟩
  ·by_cases e:i=k
   ·subst e;simpa using h3
   exact bR i zo
  exact aL 1 zs rfl sQ sQ
 have rh:k=P.aH.length:=sO;subst rh;have c3:¬¬∀i,i<P.aH.length->P.oM i:=λq=>q bR;refine sS (λh4=>?_) λh4=>?_
 ·have h4:P.mM P.nodes.length≠1:=sO;exact fin<|by unfold af.aU;rw[ab c1,ab c2,ab c3,ae h4]
 have h4:P.mM P.nodes.length=1:=sO;have bW:=P.OZ P.nodes.length zo;have c4:¬P.mM P.nodes.length≠1:=λq=>q h4;clear h hk;refine bb [1,3,4] (λk:Nat=>[(9,aa k)]) (λ_=>[]) (λk=>k<=P.nodes.length/\∀i,i<k->P.oC i=true) (λk=>P.nodes.length-k) 0 ?_;refine sW ?_;refine⟨⟨zo,λi hi=>zo⟩,by exact sK,rfl,?_⟩;rintro k ⟨hk,az⟩;refine bf (λh=>?_) λh=>?_
 ·have ai:k<P.nodes.length:=sO;refine sC (Mz P hP zo k) ?_;refine sC (Oz P hP zo k) ?_;rw[aI,aI];have no:P.oC k=false->Deep [al.row true P.cells] (aa 1) (aa P.aU):=λh5=>fin (by
    unfold af.aU;rw[ab c1,ab c2,ab c3,ab c4,ae];intro q;rw[q k ai] at h5;cases h5)
  have yes:P.oC k->∀i,i<k+1->P.oC i:=λh5 i hi=>by
   by_cases e:i=k
   ·subst e;exact h5
   exact az i zo
  have eOK:P.oC k=af.BF (P.kind k) (P.bE k).length (P.cn k).length:=rfl;generalize (P.bE k).length=a at eOK⊢;generalize (P.cn k).length=b at eOK⊢;have hi:InR .i64 ((k:Int)+1):=zu6 ai zo;have Z5:1<=P.kind k/\P.kind k<=7:=zpY (af.Br.1 (Classical.not_not.1 c2) k ai);generalize hK:P.kind k=K at eOK Z5;have hn:∀{z:Nat},z=k->(P.nodes.map jj)[z]? = some [.sc (.string (P.name k)),aa K]:=λh=>hK▸jv P h ai;generalize P.oC k=ok at eOK no yes;have Ng:ok=true->k+1<=P.nodes.length/\∀i,i<k+1->P.oC i=true:=λh=>⟨zo,yes h⟩;clear bD h1 h2 c1 c2 c3 c4 h4 bW az bR fin b1 b2 yes hK h hP
  repeat' (first
   |(refine⟨zo,_,hn zo,?_⟩;refine sW ?_)
   |refine sS (λh=>?_) λh=>?_
   |exact no (by rw[eOK];clear no Ng hn eOK hk ai hi;unfold af.BF;simp_all;try omega)
   |(refine .inl ⟨hi,?_⟩;refine sW ?_)
   |exact⟨k+1,Ng (by rw[eOK];clear no Ng hn eOK hk ai hi;unfold af.BF;simp_all;try omega),zd,aC (by exact sK) rfl⟩)
 have rh:k=P.nodes.length:=sO;subst rh;have c5:¬¬∀i,i<P.nodes.length->P.oC i:=λq=>q az;clear h hk az;refine⟨zo,zo,zo,?_⟩;rw[bO,show List.replicate P.nodes.length (List.map D.sc [Value.bool false])=bF P.nodes.length (λ_=>false) from jS _];refine bC ?_;refine⟨_,bc (P.kX P.nodes.length).toNat zo zo,?_⟩;refine sW ?_;rw[nV (v:=(P.kX P.nodes.length).toNat) zo];have s0:cQ (mark (λ_=>false) (P.kX P.nodes.length).toNat) P.nodes.length+1<=P.nodes.length:=by
  have:=nK (s:=λ_=>false) (s':=mark (λ_=>false) (P.kX P.nodes.length).toNat) (n:=P.nodes.length) (i:=(P.kX P.nodes.length).toNat) zo (λj _ h=>by cases h) rfl (km _ _);have:=yb (λ_=>false) P.nodes.length;omega
 refine bb [1,3,13] (λ((r,s):Nat×aq)=>[(14,aa r)]) (λ(r,s)=>[(1,.vec true 0 1<|bF P.nodes.length s)]) (λ(r,s)=>r<=P.nodes.length/\s (P.kX P.nodes.length).toNat=true/\(∀v,s v->P.Dt v)/\(IH P s\/cQ s P.nodes.length+r+1<=P.nodes.length)) (λ(r,s)=>P.nodes.length-r) (0,mark (λ_=>false) (P.kX P.nodes.length).toNat) ?_;refine sW ?_;refine⟨⟨zo,km _ _,λv hv=>?_,.inr zo⟩,by exact sK,rfl,?_⟩
 ·rcases nE.1 hv with q|q
  ·subst q;exact .base zs
  cases q
 rintro⟨r,s⟩ ⟨hr,Ro,yj,fN⟩;refine bf (λh=>?_) λh=>?_
 ·have xl:r<P.nodes.length:=sO;refine bb [1,3,13,14] (λ((j,s'):Nat×aq)=>[(15,aa j)]) (λ(j,s')=>[(1,.vec true 0 1<|bF P.nodes.length s')]) (λ(j,s')=>j<=P.aH.length/\s' (P.kX P.nodes.length).toNat=true/\(∀v,s' v->P.Dt v)/\(IH P s->s'=s)/\((s'=s/\∀i,i<j->s (P.src i).toNat->s (P.dst i).toNat)\/cQ s' P.nodes.length<cQ s P.nodes.length)) (λ(j,s')=>P.aH.length-j) (0,s) ?_;refine sW ?_;refine⟨⟨zo,Ro,yj,λ_=>rfl,.inl ⟨rfl,λi hi=>zo⟩⟩,by exact sK,rfl,?_⟩;rintro⟨j,s'⟩ ⟨hj,LO,KJ,heq,I4⟩;refine ck ?_;rw[aI];refine sS (λh6=>?_) λh6=>?_
  ·have de:j<P.aH.length:=sO;have ho:=af.x8.1<|bR j de;refine sL (oR P (k:=j) zo de) ?_;refine sB ?_;refine⟨_,bc (P.src j).toNat zo zo,?_⟩;refine sWS (λh7=>?_) λh7=>?_
   ·refine sL (oR P (k:=j) zo de) ?_;refine sB ?_;refine⟨_,bc (P.dst j).toNat zo zo,?_⟩;refine aQ ?_;refine⟨(j+1,mark s' (P.dst j).toNat),⟨zo,fo LO,λv hv=>?_,λhc=>?_,?_⟩,zd,aC (by exact sK) ?_⟩
    ·rcases nE.1 hv with q|q
     ·subst q;exact .step (KJ _ h7)<|(af.KN bR).2 ⟨j,de,zo,rfl⟩
     exact KJ v q
    ·have e:=heq hc;subst e;exact Vo<|hc j de h7
    ·cases hd:s' (P.dst j).toNat with
     |true =>
      rw[Vo hd];refine I4.imp_left λ⟨q1,q2⟩=>⟨q1,λi hi=>?_⟩;by_cases e:i=j
      ·subst e;subst q1;exact λ_=>hd
      exact q2 i zo
     |false =>
      refine .inr ?_;have:=nK (s:=s') (s':=mark s' (P.dst j).toNat) (n:=P.nodes.length) (i:=(P.dst j).toNat) zo (λ_ _ h=>fo h) hd<|km _ _;rcases I4 with⟨q,_⟩|q
      ·subst q;exact this
      omega
    rw[nV (v:=(P.dst j).toNat) zo];rfl
   refine sI ?_;refine⟨(j+1,s'),⟨zo,LO,KJ,heq,I4.imp_left λ⟨q1,q2⟩=>⟨q1,λi hi=>?_⟩⟩,zd,aC (by exact sK) rfl⟩;by_cases e:i=j
   ·subst e;subst q1;intro q;rw[q] at h7;cases h7
   exact q2 i zo
  have hjn:j=P.aH.length:=sO;subst hjn;refine sI ?_;refine⟨(r+1,s'),⟨zo,LO,KJ,?_⟩,zd,aC (by exact sK) rfl⟩;rcases I4 with⟨q1,q2⟩|q
  ·subst q1;exact .inl q2
  rcases fN with hc|hc
  ·have e:=heq hc;subst e;exact .inl hc
  exact .inr zo
 have I1:r=P.nodes.length:=sO;subst I1;have hc:IH P s:=fN.resolve_right zo;have hB:=λv=>zmG bR Ro hc yj v;rw[iI (g':=gL (P.graph P.aH.length) [P.kX P.nodes.length]) λi _=>hB i];refine .inr (.inl ⟨_,_,.cons _ _ _ _ (qi rfl) (.cons _ _ _ _ (.refl _) .nil),Wq _ (gL (P.graph P.aH.length) [P.kX P.nodes.length]) zo false,rfl,?_⟩);refine sWS (λh6=>?_) λh6=>?_
 ·obtain⟨v,q1,q2⟩:=HW.1 h6;exact fin (by
   unfold af.aU;rw[ab c1,ab c2,ab c3,ab c4,ab c5,ae];intro q;rw[pO.2<|q v q1] at q2;cases q2)
 exact fin (by
  unfold af.aU;rw[ab c1,ab c2,ab c3,ab c4,ab c5,ab];intro q;refine q λv hv=>?_;unfold af.Dt;rw[<-pO,<-Bool.not_eq_false];intro q2;rw[HW.2 ⟨v,hv,q2⟩] at h6;cases h6)
end
section
noncomputable def af.mV(P:af)(n:Int):Int:=if P.aU≠0 then P.aU else if n<0\/(P.nodes.length:Int)<=n then 1 else 0
theorem jo{P:af}(h:P.aU=0):P.nodes.length<=20/\P.aH.length<=30:=by
 unfold af.aU at h;repeat grind
variable(P:af)
theorem Uy(hP:P.Fits)(n:Int)(f:FuncId)(l:ah)(hl:P.mV n=0->ao aj f [b7 P,aa n] (aF l))(hb:P.mV n≠0->l=[]) :
  ao aj 130 [b7 P,aa n,.fn (.func f) [] []] (.aJ [aF l,aa<|P.mV n]):=by
 have b1:=hP.nodes;refine bS fZ ?_;have bad:∀{H:aE} {e:Int},e≠0->P.mV n=e->Deep H (.aJ [au,aa e]) (.aJ [aF l,aa<|P.mV n]):=λh k=>by
  rw[k,hb<|by rw[k];exact h];exact .aJ _ _ (.cons _ _ _ _ (.none _) (.cons _ _ _ _ (.refl _) .nil))
 refine sR ?_;refine sC (Ty P hP) ?_;refine sS (λh1=>?_) λh1=>?_
 ·have h1:P.aU≠0:=sO;exact bad h1<|by unfold af.mV;rw[ae h1]
 have h1:P.aU=0:=sO;refine sS (λh2=>?_) λh2=>?_
 ·exact bad zc<|by unfold af.mV;rw[ab zo,ae (.inl<|sO)]
 rw[aI];refine sS (λh3=>?_) λh3=>?_
 ·exact bad zc<|by unfold af.mV;rw[ab zo,ae (.inr<|sO)]
 have e:P.mV n=0:=by unfold af.mV;rw[ab zo,ab<|sO]
 refine sC (hl e) ?_;rw[e];exact .refl _
noncomputable def af.zO(P:af)(n:Int):ah:=if P.mV n=0 then P.bE n else []
noncomputable def af.AE(P:af)(n:Int):ah:=if P.mV n=0 then P.cn n else []
theorem Ih(hP:P.Fits)(n:Int):ao aj 62 [b7 P,aa n] (.aJ [aF<|P.zO n,aa<|P.mV n]):=by
 refine bt ?_;refine sC (Uy P hP n 59 (P.zO n) (λh=>by
  unfold af.zO;rw[ae h];refine VV P hP ?_ n;unfold af.mV at h;split at h
  ·rename_i q;exact absurd h q
  rename_i q;have:=jo<|Classical.not_not.1 q;omega) (λh=>by unfold af.zO;rw[ab h])) ?_
 exact .refl _
theorem Vn(hP:P.Fits)(n:Int):ao aj 63 [b7 P,aa n] (.aJ [aF<|P.AE n,aa<|P.mV n]):=by
 refine bt ?_;refine sC (Uy P hP n 60 (P.AE n) (λh=>by
  unfold af.AE;rw[ae h];refine V0 P hP ?_ n;unfold af.mV at h;split at h
  ·rename_i q;exact absurd h q
  rename_i q;have:=jo<|Classical.not_not.1 q;omega) (λh=>by unfold af.AE;rw[ab h])) ?_
 exact .refl _
end
end Go.Proofs.YtmajadpcpohneaaGreatDoor
