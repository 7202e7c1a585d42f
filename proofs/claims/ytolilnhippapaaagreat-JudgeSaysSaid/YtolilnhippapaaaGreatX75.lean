/-
  Parts of a proof, joined. No statement is proved here.
-/
import Derived.Test.YtolilnhippapaaaGreatX71
import Derived.Test.YtolilnhippapaaaGreatX74
import Derived.Test.YtolilnhippapaaaGreatX73
import Derived.Test.YtolilnhippapaaaGreatX72
import Derived.Test.YtolilnhippapaaaGreatProg
import Derived.Test.YtolilnhippapaaaGreatX70
namespace Go.Proofs.YtolilnhippapaaaGreat
set_option linter.unusedSimpArgs false
set_option linter.unusedVariables false
set_option maxRecDepth 100000
set_option linter.unusedSectionVars false
open Go.RowKit
def ot(g:aj):ah->Prop
 |[]=>True
 |[_]=>True
 |x::y::r=>y∈g.getD x.toNat []/\ot g (y::r)
theorem Na{g:aj}{y:Int}:∀{l:ah} {x:Int},ot g (l++[x])->y∈g.getD x.toNat []->ot g (l++[x]++[y])
 |[],x,_,h=>⟨h,trivial⟩
 |[a],x,k,h=>⟨k.1,h,trivial⟩
 |a::b::r,x,k,h=>⟨k.1,Na (l:=b::r) k.2 h⟩
theorem IY{g:aj}:∀{l m:ah} {x:Int},ot g (l++[x])->ot g (x::m)->ot g (l++x::m)
 |[],m,x,_,h=>h
 |[a],m,x,k,h=>⟨k.1,h⟩
 |a::b::r,m,x,k,h=>⟨k.1,IY (l:=b::r) k.2 h⟩
theorem V1{g:aj}:∀{l:ah} {i:Nat},ot g l->i+1<l.length->l.getD (i+1) 0∈g.getD (l.getD i 0).toNat []
 |[],i,_,hi=>by simp at hi
 |[a],i,_,hi=>by simp at hi
 |a::b::r,0,h,_=>h.1
 |a::b::r,i+1,h,hi=>V1 (l:=b::r) (i:=i) h.2<|by simpa using hi
def xo(g:aj)(from_:ah)(p:Pr):Prop:=(p.2=-1/\p.1∈from_)\/(0<=p.2/\p.1∈g.getD p.2.toNat [])
theorem RG{g:aj}{from_:ah}:∀(r:ah) {M:List Pr},(∀p∈M,xo g from_ p)->(∀x∈r,x∈from_)->∀p∈wSt r M,xo g from_ p
 |[],M,h,_=>h
 |k::r,M,h,hr=>by
  rw[wSt];refine RG r (λp hp=>?_) λx hx=>hr x (by simp[hx]);split at hp
  ·rcases dt.1 hp with q|q
   ·exact h p q
   rw[cB] at q;subst q;exact .inl ⟨rfl,hr k zs⟩
  exact h p hp
theorem W3{g:aj}{from_:ah}{ok:ay}{n:Int}(hn:0<=n):∀(r:ah) {M:List Pr},(∀p∈M,xo g from_ p)->(∀x∈r,x∈g.getD n.toNat [])->∀p∈m7 ok n r M,xo g from_ p
 |[],M,h,_=>h
 |k::r,M,h,hr=>by
  rw[m7];refine W3 hn r (λp hp=>?_) λx hx=>hr x (by simp[hx]);split at hp
  ·rcases dt.1 hp with q|q
   ·exact h p q
   rw[cB] at q;subst q;exact .inr ⟨hn,hr k zs⟩
  exact h p hp
theorem Q9{g:aj}(bp:∀l∈g,bx l g.length){to ok:ay}{from_:ah}:∀(f h:Nat) (M:List Pr),j5 g ok from_ M->(∀p∈M,xo g from_ p)->∀{M' h'},o6 g to ok f h M=some (M',h')->∀p∈M',xo g from_ p
 |0,h,M,_,_,M',h',e=>by cases e
 |f+1,h,M,hI,hJ,M',h',e=>by
  rw[o6] at e;split at e
  ·rename_i q;split at e
   ·cases e;exact hJ
   have hr:=hI.rng _<|nT q;refine Q9 bp f (h+1) _ (Hn (i0:=h) _ hI q rfl λx hx=>cZ (gY bp _) hx).1 (W3 ?_ _ hJ λx hx=>hx) e;exact hr.1
  cases e
theorem O7{g:aj}{ok:ay}{from_:ah}{M:List Pr}(h:j5 g ok from_ M)(hJ:∀p∈M,xo g from_ p):∀(f t:Nat),t<=M.length->t<=f->0<t ->
  ∃R,(lV M f<|ft M t).reverse=R++[ft M t]/\ot g (R++[ft M t])/\∃x,(R++[ft M t]).head? = some x/\x∈from_
 |0,t,_,hf,h0=>zo
 |f+1,t,ht,hf,h0=>by
  obtain⟨t',k1,k2,k5,k3,k4⟩:=h.up h0 ht;rw[lV,ab zo,k2,List.reverse_cons];have hp:=hJ _<|nT (show t-1<M.length by omega);have e1:(M.getD (t-1) (0,0)).1=ft M t:=(by unfold ft;rw[ab zo];rfl);unfold xo at hp;rw[k5,e1] at hp;rcases xp t' with q|q
  ·subst q;have ez:ft M 0=-1:=rfl;have e0:lV M f (ft M 0)=[]:=by
    cases f with
    |zero=>rfl
    |succ f=>rw[lV,ae<|by rw[ez];decide]
   rw[e0];refine⟨[],rfl,trivial,_,rfl,?_⟩;rcases hp with⟨_,hp⟩|⟨hp,_⟩
   ·exact hp
   rw[ez] at hp;omega
  obtain⟨R,r1,r2,x,r3,r4⟩:=O7 h hJ f t' zo zo q;rw[r1];have l5:0<=ft M t':=by
   obtain⟨_,_,_,_,z,_⟩:=h.up q zo;exact z
  refine⟨R++[ft M t'],rfl,Na r2 ?_,x,?_,r4⟩
  ·rcases hp with⟨hp,_⟩|⟨_,hp⟩
   ·omega
   exact hp
  cases R with
  |nil=>simpa using r3
  |cons a R=>simpa using r3
variable{g:aj}
theorem OG(bp:∀l∈g,bx l g.length)(to ok:ay){from_:ah}(hf:bx from_ g.length)(bT:l8 g to ok from_≠[]) :
  ∃R y,l8 g to ok from_=R++[y]/\to y.toNat/\ot g (R++[y])/\∃x,(R++[y]).head? = some x/\x∈from_:=by
 obtain⟨a,b,_⟩:=G7 (ok:=ok) (from_:=from_) from_ (j5.none g ok from_) λx hx=>⟨hx,cZ hf hx⟩;have hR:=Mc bp (to:=to) (ok:=ok) (g.length+1) 0 (wSt from_ []) a (jr _) zo b λi hi=>zo;have hJ0:∀p∈wSt from_ [],xo g from_ p:=RG from_ zs λx hx=>hx;unfold l8 at bT⊢
 cases e:o6 g to ok (g.length+1) 0<|wSt from_ [] with
 |none=>rw[e] at bT;exact absurd rfl bT
 |some q =>
  obtain⟨M,h⟩:=q;rw[e] at hR;obtain⟨hI,hh,ht⟩:=hR;have hJ:=Q9 bp _ _ _ a hJ0 e;have en:dD M h=ft M (h+1):=(by unfold ft;rw[ab zo];rfl);obtain⟨R,r1,r2,r3⟩:=O7 hI hJ (M.length+1) (h+1) zo zo zo;dsimp only;rw[en];exact⟨R,_,r1,by rw[<-en];exact ht,r2,r3⟩
theorem zpn(R:ah)(y:Int):dT (R++[y])=y:=H3 R y
variable{l:ah}
theorem T0(h:l≠[]):∃R,l=R++[dT l]:=by
 refine⟨l.dropLast,?_⟩
 conv=>lhs;rw[<-List.dropLast_concat_getLast h]
 congr 2
 unfold dT;rw[List.getLast_eq_getElem,aE,aJ<|by have:=Fk.2 h;omega];rfl
theorem S4{g:aj}{F:List ay}{e:Nat}(H:RH g F e):∀k,k<=F.length->ot g (gK g F e k)/\(gK g F e k).head? = some (e:Int)/\∀j,j<k->∃x∈gK g F e k,(F.getD j noT) x.toNat=true
 |0,_=>⟨trivial,rfl,λj hj=>zo⟩
 |k+1,hk=>by
  obtain⟨h1,h2,h3⟩:=S4 H k zo;obtain⟨o1,_⟩:=EK H k zo;rw[gK];split
  ·rename_i q;refine⟨h1,h2,λj hj=>?_⟩;by_cases ej:j=k
   ·subst ej;obtain⟨x,hx,sZ⟩:=kJ.1 q;exact⟨x,hx,sZ⟩
   exact h3 j zo
  have hS:F.getD k noT∈F:=(by rw[aE,aJ<|show k<F.length by omega];simp);obtain⟨_,w2,_⟩:=o1.way H hS;have hl:=o1.lt;obtain⟨R,y,r1,r2,r3,x,r4,r5⟩:=OG H.bp (F.getD k noT) (fB g<|bG g e) (from_:=[dT<|gK g F e k]) (kG λx hx=>by rw[cB] at hx;subst hx;exact hl) w2;rw[cB] at r5;subst r5;obtain⟨B,hB⟩:=T0 o1.ne;rw[r1]
  cases R with
  |nil =>
   have ey:y=dT (gK g F e k):=(by simpa using r4);refine⟨by simpa using h1,by simpa using h2,λj hj=>?_⟩;by_cases ej:j=k
   ·subst ej;exact⟨y,by simp[ey,KX o1.ne],r2⟩
   obtain⟨x,hx,sZ⟩:=h3 j zo;exact⟨x,by simp[hx],sZ⟩
  |cons a R =>
   have ea:a=dT (gK g F e k):=(by simpa using r4);subst ea;rw[ov,Eg,fQ];refine⟨?_,?_,λj hj=>?_⟩
   ·rw[hB,gy,List.singleton_append];rw[hB] at h1;have:=IY h1 (by rw[<-zpn B (dT<|gK g F e k),<-hB];exact r3);exact this
   ·rw[List.head?_append,h2];rfl
   by_cases ej:j=k
   ·subst ej;exact⟨y,zs,r2⟩
   obtain⟨x,hx,sZ⟩:=h3 j zo;exact⟨x,by simp[hx],sZ⟩
variable{F:List ay}
theorem zpL{e:Nat}(H:RH g F e):ot g (lu g F e++[(e:Int)])/\(lu g F e).head? = some (e:Int)/\∀j,j<F.length->∃x∈lu g F e,(F.getD j noT) x.toNat:=by
 obtain⟨h1,h2,h3⟩:=S4 H F.length<|aT _;obtain⟨o1,_⟩:=EK H F.length<|aT _;obtain⟨t1,t2,_⟩:=o1.home H;obtain⟨R,y,r1,r2,r3,x,r4,r5⟩:=OG H.bp (toE e) (fB g<|bG g e) t1 t2;have B1:uR g (gK g F e F.length) e=R++[y]:=r1;have hx:=AP (rP.1 r5).1;have hy:y=(e:Int):=by
  have hr:=cZ (o1.home H).2.2.1 (x:=y) (by rw[B1];simp);unfold toE at r2;rw[gG] at r2;omega
 subst hy;obtain⟨B,hB⟩:=T0 o1.ne;have eR:lu g F e=gK g F e F.length++R:=by unfold lu;rw[B1];simp
 refine⟨?_,?_,λj hj=>?_⟩
 ·rw[eR,gy]
  cases Vh:R++[(e:Int)] with
  |nil=>simp at Vh
  |cons a m =>
   rw[Vh] at r3 r4;have ea:a=x:=(by simpa using r4);subst ea;have lj:a∈g.getD (dT (gK g F e F.length)).toNat []:=hx;clear hx r5 eR B1 t1 t2 h2 h3 o1 r1;generalize dT (gK g F e F.length)=z at *;generalize gK g F e F.length=o at *;rw[hB] at h1⊢;have:=IY (Na h1 lj) (m:=m) r3;simpa using this
 ·rw[eR,List.head?_append,h2];rfl
 obtain⟨x,hx,sZ⟩:=h3 j hj;exact⟨x,by rw[eR];simp[hx],sZ⟩
theorem zn5(bp:∀l∈g,bx l g.length){fr:ah}(iY:bx fr g.length)(hp:¬pE g F<0)(bT:fC g F fr≠[]) :
  ∃e:Nat,e<g.length/\(dT<|fC g F fr).toNat=e/\ot g ((fC g F fr).take ((fC g F fr).length-1)++lu g F e++[(e:Int)])/\(lu g F e).head? = some (e:Int) /\
   (∃x∈fr,((fC g F fr).take ((fC g F fr).length-1)++lu g F e).head? = some x)/\∀j,j<F.length->∃x∈lu g F e,(F.getD j noT) x.toNat:=by
 obtain⟨i,ei,hi⟩:=Sb hp;obtain⟨R,y,r1,r2,r3,x,r4,r5⟩:=OG bp (λk=>bG g k==pE g F) (fB g (-1)) iY bT;have B1:fC g F fr=R++[y]:=r1;have hy:=cZ (JI bp (λk=>bG g k==pE g F) (fB g (-1)) iY).1 (x:=y) (by rw[r1];simp);have tZ:bG g y.toNat=(i:Int):=by rw[<-ei];simpa using r2
 have H:=(Vz bp hi).2 y.toNat zo tZ;obtain⟨c1,c2,c3⟩:=zpL H;have ey:((y.toNat:Nat):Int)=y:=zo;have el:dT (fC g F fr)=y:=by rw[B1,H3]
 have et:(fC g F fr).take ((fC g F fr).length-1)=R:=by rw[B1];simp
 refine⟨y.toNat,zo,by rw[el],?_,c2,⟨x,r5,?_⟩,c3⟩
 ·rw[et]
  cases hr:lu g F y.toNat with
  |nil=>rw[hr] at c2;cases c2
  |cons a m =>
   rw[hr] at c1 c2;have ea:a=y:=(by have:=tK c2;omega);subst ea;rw[gy,ov] at *;exact IY r3 c1
 rw[et]
 cases hR:R with
 |nil =>
  rw[hR] at r4;have:y=x:=by simpa using r4
  rw[lW,c2,ey,this]
 |cons a m =>
  rw[hR] at r4;simpa using r4
namespace af
def CY(P:af)(M:aj)(m:Nat)(e:bq):Prop:=(P.jM (M.getD m []) e.1=0/\P.dB (M.getD m []) e.1=M.getD e.2.toNat [])/\e.2.toNat<M.length
def Ext(M M':aj):Prop:=M.length<=M'.length/\∀i,i<M.length->M'.getD i []=M.getD i []
theorem Ext.trans{A B C:aj}(h:Ext A B)(k:Ext B C):Ext A C:=⟨iv h.1 k.1,λi hi=>by rw[k.2 i<|vh hi h.1,h.2 i hi]⟩
theorem CY.ext{P:af}{M M':aj}{m:Nat}{e:bq}(h:CY P M m e)(hm:m<M.length)(hx:Ext M M'):CY P M' m e:=by
 obtain⟨⟨a,b⟩,c⟩:=h;refine⟨⟨?_,?_⟩,by have:=hx.1;omega⟩
 ·rw[hx.2 _ hm];exact a
 rw[hx.2 _ hm,hx.2 _ c];exact b
variable{m:ah}
theorem YG{marks:aj}{tok:Int}{st:Nat}:Ext marks<|iB marks m tok st:=⟨GY,λi hi=>LB hi⟩
theorem zxo{l:aj}(h:m∈l):l.getD (nz l m) []=m/\nz l m<l.length:=by
 have h1:=KN h;have h2:nz l m<l.length:=h1;refine⟨?_,h2⟩;rw[aE,aJ h2];exact beq_iff_eq.1<|List.findIdx_getElem (p:=λx=>x==m) (xs:=l) (w:=h1)
theorem Xz{P:af}{tok:Int}{st n:Nat}{M:ah}:∀(L:ah) (marks:aj) (aH:List bZ) (cur:List bq) (last:bZ),marks.getD n []=M->n<marks.length->(∀e∈cur,CY P marks n e)->(P.fG tok st n M L marks aH cur last).e=0 ->
  Ext marks (P.fG tok st n M L marks aH cur last).marks/\(∀e∈(P.fG tok st n M L marks aH cur last).cur,CY P (P.fG tok st n M L marks aH cur last).marks n e)/\(P.fG tok st n M L marks aH cur last).cur.map (λe=>e.1)=cur.map (λe=>e.1)++L
 |[],marks,aH,cur,last,_,_,hc,_=>⟨⟨aT _,λ_ _=>rfl⟩,hc,(kM _).symm⟩
 |k::r,marks,aH,cur,last,hM,hn,hc,he=>by
  rw[Ba] at he⊢;split at he
  ·rename_i h1;exact absurd he h1
  rename_i h1;rw[ab h1];split at he
  ·rename_i h2;exact absurd he h2
  rename_i h2;rw[ab h2];have h2:jl marks (P.dB M k) tok st=0:=zo;have h1:P.jM M k=0:=zo;have x:=YG (marks:=marks) (m:=P.dB M k) (tok:=tok) (st:=st);have hm:=TG h2;obtain⟨i1,i2⟩:=zxo hm;have ei:j9 marks (P.dB M k) tok st=(nz (iB marks (P.dB M k) tok st) (P.dB M k):Int):=(by unfold j9;rw[ae h2]);have x2:=x.2 n hn;have x1:=x.1
  obtain⟨q1,q2,q3⟩:=Xz (P:=P) (tok:=tok) (st:=st) (n:=n) (M:=M) r (iB marks (P.dB M k) tok st) (ld marks aH (P.dB M k) tok st ((n:Int),k)) (cur++[(k,j9 marks (P.dB M k) tok st)]) ((n:Int),k)
   (by rw[x2];exact hM) zo (λe he=>by
    rcases dt.1 he with he|he
    ·exact(hc e he).ext hn x
    rw[cB] at he;subst he;refine⟨⟨by rw[x2,hM];exact h1,?_⟩,?_⟩
    ·rw[x2,hM];show P.dB M k=(iB marks (P.dB M k) tok st).getD (j9 marks (P.dB M k) tok st).toNat [];rw[ei,bQ,i1]
    show(j9 marks (P.dB M k) tok st).toNat<_;rw[ei,bQ];exact i2) he
  refine⟨x.trans q1,q2,?_⟩;rw[q3];simp
def C7(P:af)(M:aj)(N:List<|List bq)(i:Nat):Prop:=(∀e∈N.getD i [],CY P M i e)/\(N.getD i []).map (λe=>e.1)=P.du (M.getD i [])
theorem V'{P:af}{tok:Int}{st:Nat}(cE:st<=200):∀(f n:Nat) (marks:aj) (aH:List bZ) (next:List<|List bq) (last:bZ),Sp P tok st marks aH->next.length=n->n<=marks.length->n+f=201->(∀i,i<n->C7 P marks next i) ->
  (P.j0 tok st f n marks aH next last).e=0->Ext marks (P.j0 tok st f n marks aH next last).marks/\∀i,i<(P.j0 tok st f n marks aH next last).next.length->C7 P (P.j0 tok st f n marks aH next last).marks (P.j0 tok st f n marks aH next last).next i
 |0,n,marks,aH,next,last,hS,_,hn,hf,_,_=>by have:=hS.room;omega
 |f+1,n,marks,aH,next,last,hS,hl,hn,hf,hR,he=>by
  simp only[j0] at he⊢;split
  ·rename_i ck;rw[ae ck] at he;have hM:=hS.fx _<|uo ck;split
   ·rename_i h0;rw[ae h0] at he;exact absurd he h0
   rename_i h0;rw[ab h0] at he;have h0:(P.fG tok st n (marks.getD n []) (P.du<|marks.getD n []) marks aH [] last).e=0:=zo;obtain⟨q1,q2,_⟩:=Dr (tok:=tok) (st:=st) (n:=n) hM (P.du<|marks.getD n []) marks aH [] last (λ_ h=>h) hS ck;obtain⟨r1,r2,r3⟩:=Xz (P:=P) (tok:=tok) (st:=st) (n:=n) (M:=marks.getD n []) (P.du<|marks.getD n []) marks aH [] last rfl ck zs h0;obtain⟨t1,t2⟩:=V' cE f (n+1) _ _ _ _ q1 (by simp[hl]) zo zo (λi hi=>by
    by_cases e:i=n
    ·have ea:(next++[(P.fG tok st n (marks.getD n []) (P.du<|marks.getD n []) marks aH [] last).cur]).getD i []=(P.fG tok st n (marks.getD n []) (P.du<|marks.getD n []) marks aH [] last).cur:=by
      rw[aE,gJ zo,show i-next.length=0 by omega];rfl
     unfold C7;rw[ea,e];refine⟨r2,?_⟩;rw[r3,r1.2 n ck];simp
    have hi:i<n:=zo;have ea:(next++[(P.fG tok st n (marks.getD n []) (P.du<|marks.getD n []) marks aH [] last).cur]).getD i []=next.getD i []:=by
     rw[aE,fv zo,<-aE]
    obtain⟨a,b⟩:=hR i hi;unfold C7;rw[ea];exact⟨λe he=>(a e he).ext zo r1,by rw[b,r1.2 i zo]⟩) he
   exact⟨r1.trans t1,t2⟩
  rename_i ck;exact⟨⟨aT _,λ_ _=>rfl⟩,λi hi=>hR i<|by rw[<-hl];exact hi⟩
end af
variable{P:af}{tok st:Int}
theorem Ym(he:P.dL tok st=0):(P.exM tok st).getD 0 []=P.jx/\∀i,i<(P.cj tok st).length->af.C7 P (P.exM tok st) (P.cj tok st) i:=by
 have eM:P.exM tok st=(P.fp tok st.toNat).marks:=by unfold af.exM;rw[ae he]
 have eN:P.cj tok st=(P.fp tok st.toNat).next:=by unfold af.cj;rw[ae he]
 unfold af.dL at he;split at he
 ·exfalso;omega
 rename_i h1;have h1:P.dI=0:=zo;split at he
 ·exfalso;omega
 rename_i h2;unfold af.qq at h2;obtain⟨t1,t2⟩:=af.V' (P:=P) (tok:=tok) (st:=st.toNat) zo 201 0 [P.jx] [(-1,-1)] [] (-1,-1) (af.Sp.start h1 zo) rfl zs rfl (λi hi=>absurd hi<|Nat.not_lt_zero _) he;rw[eM,eN];exact⟨by have:=t1.2 0 zs;exact this,t2⟩
variable{N:List<|List bq}{i:Nat}
theorem zw7(hi:i<bm N N.length):∃m:Nat,m<N.length/\((bW N N.length).getD i (0,0)).2=(m:Int) /\
  (((N.getD m []).length=0/\((bW N N.length).getD i (0,0)).1=-1/\(jt N).getD i []=iF N m)\/∃e∈N.getD m [],((bW N N.length).getD i (0,0)).1=e.1/\(jt N).getD i []=iF N e.2.toNat):=by
 obtain⟨m,k,hm,hk,rfl⟩:=zL hi;have h1:=vn hk N.length hm;have h2:=HK hk N.length hm;have h3:(jt N).getD (bm N m+k) []=iF N ((ly N m).getD k 0).toNat:=by
  unfold jt;rw[aE,cU];have h4:bm N m+k<(lf N N.length).length:=(by rw[xI];exact hi);rw[aJ h4];rw[aE,aJ h4] at h2;simp only[x5,nR] at h2⊢;rw[h2]
 refine⟨m,hm,by rw[h1];exact Dj hk,?_⟩;rw[h1,h3];rw[pB] at hk;by_cases z:(N.getD m []).length=0
 ·rw[ae z] at hk;left;rw[show k=0 by omega];unfold mw ly;rw[ae z,ae z];exact⟨z,rfl,rfl⟩
 rw[ab z] at hk;right;unfold mw ly;rw[ab z,ab z];refine⟨(N.getD m [])[k],ib hk,?_,?_⟩
 ·rw[aE,cU,aJ hk];rfl
 rw[aE,cU,aJ hk];rfl
variable{t:Nat}
theorem Kb(ht:t<N.length){x:Int}(hx:x∈iF N t):x.toNat<bm N N.length/\((bW N N.length).getD x.toNat (0,0)).2=(t:Int):=by
 obtain⟨i,hi,rfl⟩:=dq.1 hx;have hi:=fX.1 hi;have h1:=J4 ht hx;rw[bQ];refine⟨zo,?_⟩;rw[vn hi N.length ht];exact Dj hi
theorem Ww{P:af}{M:aj}{N:List<|List bq}(hF:Jo P M N)(h0:M.getD 0 []=P.jx)(hR:∀i,i<N.length->af.C7 P M N i){q:ah}(hc:ot (jt N) q)(hb:q.getD 0 0∈iF N 0){L:ah}(hL:∀i,i+1<q.length->L.getD i 0=((bW N N.length).getD (q.getD i 0).toNat (0,0)).1) :
  ∀j,j<q.length->(q.getD j 0).toNat<bm N N.length/\P.eV L j=M.getD ((bW N N.length).getD (q.getD j 0).toNat (0,0)).2.toNat []/\∀i,i<j->P.kU L i=0
 |0,h=>by
  obtain⟨a,b⟩:=Kb (by have:=hF.sp.len;have:=hF.sp.pos;omega) hb;exact⟨a,by rw[b];exact h0.symm,λi hi=>absurd hi<|Nat.not_lt_zero _⟩
 |j+1,h=>by
  obtain⟨i1,i2,i3⟩:=Ww hF h0 hR hc hb hL j zo;have c:=V1 hc h;have l:=hL j h;obtain⟨m,hm,e2,h'⟩:=zw7 i1;rw[e2,bQ] at i2;have Vd:=hR m hm;have done:P.kU L j=0->∀i,i<j+1->P.kU L i=0:=λh i hi=>by
   by_cases e:i=j
   ·rw[e];exact h
   exact i3 i zo
  rcases h' with⟨z,e1,en⟩|⟨e,he,e1,en⟩
  ·rw[en] at c;obtain⟨b1,b2⟩:=Kb hm c;have hz:P.du (M.getD m [])=[]:=(by rw[<-Vd.2,n8.1 z];rfl);refine⟨b1,?_,done ?_⟩
   ·show(if L.getD j 0=-1 then P.eV L j else P.dB (P.eV L j)<|L.getD j 0)=_;rw[ae<|l.trans e1,i2,b2,bQ]
   unfold af.kU;rw[ae<|l.trans e1,i2,ae hz]
  rw[en] at c;have hE:=Vd.1 e he;have hr:N.getD m []∈N:=(by rw[aE,aJ hm];simp);obtain⟨k1,k2,k3,k4⟩:=hF.sp.LH _ hr e he;obtain⟨b1,b2⟩:=Kb (by have:=hF.sp.len;omega) c;have bT:¬L.getD j 0=-1:=(by rw[l,e1];omega);refine⟨b1,?_,done ?_⟩
  ·show(if L.getD j 0=-1 then P.eV L j else P.dB (P.eV L j)<|L.getD j 0)=_;rw[ab bT,i2,b2,l,e1,hE.1.2,bQ]
  unfold af.kU;rw[ab bT,i2,l,e1];exact hE.1.1
theorem Vn{W:bc}{A:bS}(hb:mY W A):∀{p:ah},ot (b9 W A).2 p->ot W.next (oV (b9 W A).1 p)
 |[],_=>trivial
 |[_],_=>trivial
 |x::y::r,h=>by
  obtain⟨hN,_⟩:=vv hb;obtain⟨hv,q,q1,q2,q3,q4⟩:=hN.I7 h.1;have hr:=Vn hb h.2;refine⟨?_,hr⟩;show((b9 W A).1.getD y.toNat (0,0)).1∈W.next.getD ((b9 W A).1.getD x.toNat (0,0)).1.toNat [];rw[q3,bQ,A7 q2];unfold nxE fW pg at q1;obtain⟨a,ha,hq⟩:=List.mem_flatMap.1 q1;obtain⟨b,xc,rfl⟩:=dq.1 hq;exact ha
variable{s:ah}
theorem zsx{W:bc}{A:bS}(hb:mY W A)(ha:gz W A)(e:sh W A (b9 W A).1 (b9 W A).2 (iu W A).2=.aI [.agg [aO s,aO l],aD<|gz W A,aa 0]) :
  ∃z:Int,ot W.next (s++l++[z])/\l.head? = some z/\(s++l++[z]).getD 0 0∈W.start:=by
 obtain⟨hp,rfl,rfl⟩:=Sr hb ha e;obtain⟨h1,h2,h3,h4⟩:=Ow hb hp;obtain⟨hN,hg⟩:=vv hb;obtain⟨b1,_⟩:=O5 hb;obtain⟨v,v1,v2,v3,v4,⟨x,x1,x2⟩,_⟩:=zn5 hN.inG b1 hp h3;rw[v2];have hc:=Vn hb v3;generalize (fC (b9 W A).2 (js W A (b9 W A).1) (iu W A).2).take ((fC (b9 W A).2 (js W A (b9 W A).1) (iu W A).2).length-1)=S at *;generalize lu (b9 W A).2 (js W A (b9 W A).1) v=R at *;refine⟨((b9 W A).1.getD ((v:Int)).toNat (0,0)).1,?_,?_,?_⟩
 ·simpa [oV] using hc
 ·unfold oV;rw[List.head?_map,v4];rfl
 have hx:(S++R).getD 0 0=x:=by
  cases JO:S++R with
  |nil=>rw[JO] at x2;cases x2
  |cons a b=>rw[JO] at x2;exact tK x2
 have bT:0<(S++R).length:=by
  cases JO:S++R with
  |nil=>rw[JO] at x2;cases x2
  |cons a b=>simp
 have nf:(oV (b9 W A).1 S++oV (b9 W A).1 R++[((b9 W A).1.getD ((v:Int)).toNat (0,0)).1]).getD 0 0=((b9 W A).1.getD x.toNat (0,0)).1:=by
  have lj:(S++R)[0]=x:=(by rw[aE,aJ bT] at hx;exact hx);unfold oV;rw[<-nZ,aE,fv<|by simpa using bT,cU,aJ bT,lj];rfl
 rw[nf];rw[Ma] at x1;obtain⟨p,p1,rfl⟩:=dq.1 x1;rw[bQ,A7<|hN.st p p1];unfold fW pg at p1;obtain⟨a,ha,hq⟩:=List.mem_flatMap.1 p1;obtain⟨b,xc,rfl⟩:=dq.1 hq;exact ha
theorem Ig(P:af)(tok st:Int)(l:ah):(kz P tok st l).length=l.length:=by simp[kz]
variable{z:Int}
theorem zuP(he:P.dL tok st=0)(hc:ot (dw P tok st).next<|s++l++[z])(hb:(s++l++[z]).getD 0 0∈(dw P tok st).start)(j:Nat)(hj:j<s.length+l.length+1) :
  ((s++l++[z]).getD j 0).toNat<bm (P.cj tok st) (P.cj tok st).length/\P.eV (kz P tok st s++kz P tok st l) j=(P.exM tok st).getD ((bW (P.cj tok st) (P.cj tok st).length).getD ((s++l++[z]).getD j 0).toNat (0,0)).2.toNat []/\∀i,i<j->P.kU (kz P tok st s++kz P tok st l) i=0:=by
 obtain⟨r1,r2⟩:=Ym he;have hlen:(s++l++[z]).length=s.length+l.length+1:=by simp;omega
 exact Ww (mc he) r1 r2 hc hb (L:=kz P tok st s++kz P tok st l) (λi hi=>by
  rw[hlen] at hi;unfold kz;rw[<-nZ,aE,cU,aE (l:=s++l++[z]),fv (l₁:=s++l)<|by simp;omega,aJ (l:=s++l)<|by simp;omega];rfl) j zo
theorem zu6(he:P.dL tok st=0)(hc:ot (dw P tok st).next<|s++l++[z])(hz:l.head? = some z)(hb:(s++l++[z]).getD 0 0∈(dw P tok st).start)(qB:s.length+l.length<=60000) :
  (∀j,j<s.length+l.length->P.kU (kz P tok st s++kz P tok st l) j=0)/\P.vL (kz P tok st s) (kz P tok st l) (s.length+l.length)=0:=by
 have hF:=mc he;have ls:(kz P tok st s).length=s.length:=by simp[kz]
 have ll:(kz P tok st l).length=l.length:=by simp[kz]
 have hl:0<l.length:=by
  cases l with
  |nil=>cases hz
  |cons a b=>simp
 have key:=zuP he hc hb;obtain⟨_,a2,_⟩:=key s.length zo;obtain⟨_,b2,b3⟩:=key (s.length+l.length) zo;refine⟨b3,?_⟩;unfold af.vL;rw[ab<|by have:=hF.steps;omega,ab<|by rw[ll];omega,ab<|by rw[ls,ll];omega,ab<|by rw[ls,ll];omega,ae];rw[ls,ll,a2,b2];have e1:(s++l++[z]).getD s.length 0=z:=by
  rw[aE,gy,gJ<|aT _,rm]
  cases l with
  |nil=>cases hz
  |cons a b=>exact tK hz
 have e2:(s++l++[z]).getD (s.length+l.length) 0=z:=by
  rw[aE,gJ zs,cq,rm];rfl
 rw[e1,e2]
def RawJ(P:af)(tok st:Int)(T:Tree)(s l:ah):Prop:=(P.dL tok st=0/\bm (P.cj tok st) (P.cj tok st).length<=600/\ig T=0/\gz (dw P tok st) (fg T))/\∃s0 l0,s=kz P tok st s0/\l=kz P tok st l0 /\
 sh (dw P tok st) (fg T) (b9 (dw P tok st)<|fg T).1 (b9 (dw P tok st)<|fg T).2 (iu (dw P tok st)<|fg T).2=.aI [.agg [aO s0,aO l0],aD<|gz (dw P tok st)<|fg T,aa 0]
structure uz(P:af)(tok st sort rE:Int)(T:Tree)(E:Int)(B:Bool)(s l:ah):Prop where
 bad:E≠0->B=false/\s=[]/\l=[]
 fx:E=0->B\/sort=4->s=[]/\l=[]
 raw:E=0->B=false->sort≠4->rE=0/\RawJ P tok st T s l
 room:s.length<=1000000000/\l.length<=1000000000
variable{sort:Int}{T:Tree}
theorem uz.err{rE E:Int}(h:E≠0):uz P tok st sort rE T E false [] []:=⟨λ_=>⟨rfl,rfl,rfl⟩,λq=>absurd q h,λq=>absurd q h,zs⟩
theorem uz.way{rE E:Int}{B:Bool}(h:uz P tok st sort rE T E B s l)(q1:E=0)(q2:B=false)(q3:sort≠4)(qB:s.length+l.length<=60000):(∀j,j<s.length+l.length->P.kU (s++l) j=0)/\P.vL s l (s.length+l.length)=0:=by
 obtain⟨_,⟨h1,h2,h3,h4⟩,s0,l0,rfl,rfl,e⟩:=h.raw q1 q2 q3;have hW:=Dv h1 h2;obtain⟨z,z1,z2,z3⟩:=zsx (FV hW.fits hW.aS hW.start hW.rows h3) h4 e;rw[Ig,Ig] at *;exact zu6 h1 z1 z2 z3 qB
section
variable{P:af}(hP:P.Fits){name:aX}(gp:name.size<=9223372036854775807){f g:Tree}(hf:Small f)(hg:Small g)
include hP gp hf hg in
theorem zyK(tok st:Int)(sort:Int)(x:cC)(k a b c:Int):∃s l,ar ai 4 [cm P,cK name sort x k a b c f g,aa tok,aa st] (.aI [oy (jB P tok st name sort x k a b c f g) s l,aa<|jE P tok st name sort x k a b c f g]) /\
  uz P tok st sort (gP sort x k a b c f) (cy sort x k a b c f) (jE P tok st name sort x k a b c f g) (jB P tok st name sort x k a b c f g) s l:=by
 have bad:∀{e},jE P tok st name sort x k a b c f g=e->e≠0->jB P tok st name sort x k a b c f g=false:=λh q=>by unfold jB;rw[h,gM q,pt]
 by_cases h1:P.dL tok st=0
 ·by_cases h2:bm (P.cj tok st) (P.cj tok st).length<=600
  ·by_cases h3:fH (gj P) name sort x k a b c f g=0
   ·by_cases h4:sort=4
    ·have e:jE P tok st name sort x k a b c f g=0:=(by unfold jE;rw[ab<|by simpa using h1,ab<|by simpa using h2,ab<|by simpa using h3,ae h4]);have:=zyW hP gp hf hg h1 h2 h4 h3 (x:=x) (k:=k) (a:=a) (b:=b) (c:=c);refine⟨[],[],?_,?_⟩
     ·have hb:jB P tok st name sort x k a b c f g=((dw P tok st).start.all λn=>mW (dw P tok st) g n.toNat):=(by unfold jB;rw[e,ae h4];simp);rw[e,hb];exact this
     rw[e];exact⟨λq=>absurd rfl q,λ_ _=>⟨rfl,rfl⟩,λ_ _ q=>absurd h4 q,zs⟩
    by_cases h5:gP sort x k a b c f=0
    ·have e:jE P tok st name sort x k a b c f g=ig (cy sort x k a b c f):=(by unfold jE;rw[ab<|by simpa using h1,ab<|by simpa using h2,ab<|by simpa using h3,ab h4,ab<|by simpa using h5]);obtain⟨s,l,this,nH,mQ⟩:=zyp hP gp hf hg h1 h2 h4 h3 h5;have hb:jB P tok st name sort x k a b c f g=(decide (ig (cy sort x k a b c f)=0)&&!(gz (dw P tok st)<|fg<|cy sort x k a b c f)):=(by unfold jB;rw[e,ab h4]);have hW:=Dv h1 h2;refine⟨kz P tok st s,kz P tok st l,?_,?_⟩
     ·rw[e,hb];exact this
     rw[e,hb];by_cases q:ig (cy sort x k a b c f)=0/\gz (dw P tok st) (fg<|cy sort x k a b c f)=true
     ·obtain⟨q1,q2⟩:=q;have Ct:=FV hW.fits hW.aS hW.start hW.rows q1;have iY:=nH q1 q2;obtain⟨i1,i2,i3,i4⟩:=Uq Ct q2 iY;rw[q1,q2];refine⟨λq=>absurd rfl q,λ_ q=>?_,λ_ _ _=>⟨h5,⟨h1,h2,q1,q2⟩,s,l,rfl,rfl,iY⟩,by rw[Ig,Ig];exact⟨i3,i4⟩⟩;rcases q with q|q
      ·simp at q
      exact absurd q h4
     obtain⟨rfl,rfl⟩:=mQ q;by_cases q1:ig (cy sort x k a b c f)=0
     ·have q2:gz (dw P tok st) (fg<|cy sort x k a b c f)=false:=(by simpa using λh=>q ⟨q1,h⟩);rw[q1,q2];exact⟨λq=>absurd rfl q,λ_ _=>⟨rfl,rfl⟩,λ_ q=>by simp at q,by simp[kz]⟩
     rw[gM q1,pt];exact uz.err q1
    have e:jE P tok st name sort x k a b c f g=gP sort x k a b c f:=(by unfold jE;rw[ab<|by simpa using h1,ab<|by simpa using h2,ab<|by simpa using h3,ab h4,ae h5]);refine⟨[],[],?_,?_⟩
    ·rw[bad e h5,e];exact zxw hP gp hf hg h1 h2 h4 h3 h5
    rw[bad e h5,e];exact uz.err h5
   have e:jE P tok st name sort x k a b c f g=fH (gj P) name sort x k a b c f g:=(by unfold jE;rw[ab<|by simpa using h1,ab<|by simpa using h2,ae h3]);refine⟨[],[],?_,?_⟩
   ·rw[bad e h3,e];exact zwM hP gp hf hg h1 h2 h3
   rw[bad e h3,e];exact uz.err h3
  have e:jE P tok st name sort x k a b c f g=2:=(by unfold jE;rw[ab<|by simpa using h1,ae h2]);refine⟨[],[],?_,?_⟩
  ·rw[bad e zc,e];exact YU hP h1 h2
  rw[bad e zc,e];exact uz.err zc
 have e:jE P tok st name sort x k a b c f g=P.dL tok st:=by unfold jE;rw[ae h1]
 refine⟨[],[],?_,?_⟩
 ·rw[bad e h1,e];exact zv6 hP h1
 rw[bad e h1,e];exact uz.err h1
end
def yd(x:cC):ah:=x.p::((if 5<=x.kind then [x.s] else [])++((if 3<=x.scope then [x.q] else [])++(if x.scope=2\/4<=x.scope then [x.r] else [])))
def wC(sort:Int)(x:cC)(k a b:Int):ah:=if sort=1 then yd x else if sort=2 then (if 4<k then [a,b] else [a]) else []
def wG(names:List aX)(sort:Int)(x:cC)(k a b c:Int)(f g:Tree):Int :=
 if sort=1 then ew x else if sort=2 then jT k a b c else if sort=3 then (if aS bz f=0 then (if cO names f then 0 else 4) else aS bz f) else (if aS dp g=0 then (if cO names g then 0 else 4) else aS dp g)
def ny(names:List aX)(n:Int):Bool:=ff (nm names n) ⟨#[]⟩
variable{names:List aX}
theorem Cm{n:Int}{silent:Bool}(h0:0<=n)(h:n<=62\/silent/\n<=63):gU names silent n=ny names n:=by
 unfold gU ny rnm nm;by_cases e:n=63
 ·have hs:silent:=by
   rcases h with h|h
   ·omega
   exact h.1
  rw[ae ⟨e,hs⟩,ae e]
 rw[ab λq=>e q.1,ab e];by_cases q:(names.length:Int)<=n
 ·rw[ae (.inr (.inl q)),ae q]
 rw[ab zo,ab q]
variable{x:cC}
theorem Vm(h:ew x=0):(1<=x.kind/\x.kind<=6/\1<=x.scope/\x.scope<=5)/\(0<=x.p/\x.p<=63)/\(0<=x.s/\x.s<=63)/\(0<=x.q/\x.q<=63)/\0<=x.r/\x.r<=63:=by
 unfold ew at h;split at h
 ·cases h
 omega
variable{k:Int}
theorem Qx{a b c:Int}(h:jT k a b c=0):(0<=a/\a<=62)/\0<=b/\b<=62:=by
 unfold jT at h;split at h
 ·cases h
 omega
variable{g:Tree}
theorem zrc{a b c:Int}{f:Tree}(h:wG names sort x k a b c f g=0):∀n∈wC sort x k a b,0<=n:=by
 intro n hn;unfold wC at hn;unfold wG at h;by_cases h1:sort=1
 ·rw[ae h1] at h hn;have:=Vm h;unfold yd at hn;rw[dZ,dt,dt] at hn;rcases hn with rfl|hn|hn|hn
  ·omega
  all_goals
   split at hn
   ·rw[cB] at hn;omega
   cases hn
 rw[ab h1] at h hn;by_cases h2:sort=2
 ·rw[ae h2] at h hn;have:=Qx h;split at hn
  ·simp only[dZ,rH,or_false] at hn;omega
  simp only[dZ,rH,or_false] at hn;omega
 rw[ab h2] at hn;cases hn
theorem XX(sort:Int)(x:cC)(k a b:Int):(wC sort x k a b).length<=4:=by
 unfold wC yd;repeat' split
 all_goals simp
theorem zrs{names:List aX}(hs:1<=sort/\sort<=4)(x:cC)(k a b c:Int)(f g:Tree) :
  eJ names sort x k a b c f g=if wG names sort x k a b c f g=0/\(wC sort x k a b).any (ny names)=true then 4 else wG names sort x k a b c f g:=by
 unfold eJ wG wC;by_cases h1:sort=1
 ·simp only[ae h1];by_cases h:ew x=0
  ·obtain⟨⟨a1,a2,a3,a4⟩,⟨b1,b2⟩,⟨c1,c2⟩,⟨d1,d2⟩,e1,e2⟩:=Vm h;have np:=Cm (names:=names) (silent:=true) b1 (.inr ⟨rfl,b2⟩);have ns:=Cm (names:=names) (silent:=true) c1 (.inr ⟨rfl,c2⟩);have nq:=Cm (names:=names) (silent:=true) d1 (.inr ⟨rfl,d2⟩);have nr:=Cm (names:=names) (silent:=true) e1 (.inr ⟨rfl,e2⟩);have e:(kg x++kC x).any (gU names true)=(yd x).any (ny names):=by
    unfold kg kC yd;by_cases hk:x.kind=5\/x.kind=6
    ·rw[ae hk,ae<|show 5<=x.kind by omega];rcases (by omega:x.scope=1\/x.scope=2\/x.scope=3\/x.scope=4\/x.scope=5) with q|q|q|q|q<;>simp only[q,wW,C6,List.any_nil,np,ns,nq,nr,reduceIte,Int.reduceEq,Int.reduceLE,or_self,or_true,true_or,or_false,false_or]<;>cases ny names x.p<;>cases ny names x.s<;>cases ny names x.q<;>cases ny names x.r<;>rfl
    rw[ab hk,ab<|show ¬5<=x.kind by omega];rcases (by omega:x.scope=1\/x.scope=2\/x.scope=3\/x.scope=4\/x.scope=5) with q|q|q|q|q<;>simp only[q,wW,C6,List.any_nil,np,ns,nq,nr,reduceIte,Int.reduceEq,Int.reduceLE,or_self,or_true,true_or,or_false,false_or]<;>cases ny names x.p<;>cases ny names x.s<;>cases ny names x.q<;>cases ny names x.r<;>rfl
   rw[e]
  rw[ab λq=>h q.1,ab λq=>h q.1]
 simp only[ab h1];by_cases h2:sort=2
 ·simp only[ae h2];by_cases h:jT k a b c=0
  ·obtain⟨⟨a1,a2⟩,b1,b2⟩:=Qx h;have na:=Cm (names:=names) (silent:=false) a1 (.inl a2);have nb:=Cm (names:=names) (silent:=false) b1 (.inl b2);have e:(xf k a b).any (gU names false)=(if 4<k then [a,b] else [a]).any (ny names):=by
    unfold xf;by_cases q:k<=4
    ·rw[ae q,ab<|show ¬4<k by omega];simp only[C6,List.any_nil,na]
    rw[ab q,ae<|show 4<k by omega];simp only[C6,List.any_nil,na,nb]
   rw[e]
  rw[ab λq=>h q.1,ab λq=>h q.1]
 have q:∀e:Int,(if e=0/\false=true then (4:Int) else e)=e:=λe=>ab λq=>Bool.noConfusion q.2;simp only[ab h2,List.any_nil];rw[q];by_cases h3:sort=3
 ·rw[ae h3,ae h3]
 rw[ab h3,ab h3,ae zo]
noncomputable def E3(x:cC)(k a b c:Int)(f g:Tree):List Bool :=
 [x.kind==0&&(x.scope==0&&(x.p==0&&(x.s==0&&(x.q==0&&(x.r==0&&(x.count==0&&true)))))),k==0&&(a==0&&(b==0&&(c==0&&true))),dR f<|cv 0 0,dR g<|cv 0 0]
theorem Xh(t:Tree):dR t (cv 0 0)=!(t.kind != 0||t.num != 0||decide (t.width>0)):=by
 rcases t with⟨k,n,ks⟩;unfold dR cv;simp only[Tree.kind,Tree.num,Tree.width,Tree.kids,Tree.node.injEq]
 cases ks with
 |nil=>simp only[bU,and_true,gt_iff_lt,Nat.lt_irrefl,decide_false,vV];by_cases h1:k=0<;>by_cases h2:n=0<;>simp[h1,h2]
 |cons y r=>simp
theorem zq1(hs:1<=sort/\sort<=4)(x:cC)(k a b c:Int)(f g:Tree):wZ sort x k a b c f g↔∃j:Nat,j<4/\((j:Int)+1≠sort)/\(E3 x k a b c f g).getD j true=false:=by
 have key:∀{p:Nat->Prop},(∃j:Nat,j<4/\p j)↔(p 0\/p 1\/p 2\/p 3):=λ{p}=>⟨λ⟨j,h,q⟩=>by
   rcases (by omega:j=0\/j=1\/j=2\/j=3) with rfl|rfl|rfl|rfl<;>simp[q],λh=>by
   rcases h with h|h|h|h
   ·exact⟨0,zo,h⟩
   ·exact⟨1,zo,h⟩
   ·exact⟨2,zo,h⟩
   exact⟨3,zo,h⟩⟩
 rw[key];unfold wZ E3;rw[Xh f,Xh g];generalize (f.kind != 0||f.num != 0||decide (f.width>0))=F;generalize (g.kind != 0||g.num != 0||decide (g.width>0))=G;have e1:(x.kind==0&&x.scope==0&&x.p==0&&x.s==0&&x.q==0&&x.r==0&&x.count==0)=(x.kind==0&&(x.scope==0&&(x.p==0&&(x.s==0&&(x.q==0&&(x.r==0&&(x.count==0&&true))))))):=by simp[Bool.and_assoc]
 have e2:(k==0&&a==0&&b==0&&c==0)=(k==0&&(a==0&&(b==0&&(c==0&&true)))):=by simp[Bool.and_assoc]
 rw[e1,e2];generalize (x.kind==0&&(x.scope==0&&(x.p==0&&(x.s==0&&(x.q==0&&(x.r==0&&(x.count==0&&true)))))))=X;generalize (k==0&&(a==0&&(b==0&&(c==0&&true))))=K;rcases (by omega:sort=1\/sort=2\/sort=3\/sort=4) with rfl|rfl|rfl|rfl<;>cases X<;>cases K<;>cases F<;>cases G<;>simp
theorem zlW(x:cC):ar ai 51 [jc x]<|aO<|yd x:=by
 refine bK fZ ?_;unfold jc cc yd;refine sR ?_;by_cases hk:5<=x.kind
 ·rw[ae hk];rw[show decide (x.kind>=5)=true from ia zo];refine sWJ ?_;by_cases h2:x.scope=2
  ·rw[ab<|show ¬3<=x.scope by omega,ae (.inl h2)];rw[show decide (x.scope>=3)=false from gM zo];refine sW ?_;rw[show(x.scope==2)=true from gI zo];refine sWJ ?_;exact oJ rfl rfl
  by_cases h3:3<=x.scope
  ·rw[ae h3];rw[show decide (x.scope>=3)=true from ia zo];refine sWJ ?_;rw[show(x.scope==2)=false from dr zo];refine sW ?_;by_cases h4:4<=x.scope
   ·rw[ae (.inr h4)];rw[show decide (x.scope>=4)=true from ia zo];refine sWJ ?_;exact oJ rfl rfl
   rw[ab<|show ¬(x.scope=2\/4<=x.scope) by omega];rw[show decide (x.scope>=4)=false from gM zo];refine sW ?_;exact oJ rfl rfl
  rw[ab h3,ab<|show ¬(x.scope=2\/4<=x.scope) by omega];rw[show decide (x.scope>=3)=false from gM zo];refine sW ?_;rw[show(x.scope==2)=false from dr zo];refine sW ?_;rw[show decide (x.scope>=4)=false from gM zo];refine sW ?_;exact oJ rfl rfl
 rw[ab hk];rw[show decide (x.kind>=5)=false from gM zo];refine sW ?_;by_cases h2:x.scope=2
 ·rw[ab<|show ¬3<=x.scope by omega,ae (.inl h2)];rw[show decide (x.scope>=3)=false from gM zo];refine sW ?_;rw[show(x.scope==2)=true from gI zo];refine sWJ ?_;exact oJ rfl rfl
 by_cases h3:3<=x.scope
 ·rw[ae h3];rw[show decide (x.scope>=3)=true from ia zo];refine sWJ ?_;rw[show(x.scope==2)=false from dr zo];refine sW ?_;by_cases h4:4<=x.scope
  ·rw[ae (.inr h4)];rw[show decide (x.scope>=4)=true from ia zo];refine sWJ ?_;exact oJ rfl rfl
  rw[ab<|show ¬(x.scope=2\/4<=x.scope) by omega];rw[show decide (x.scope>=4)=false from gM zo];refine sW ?_;exact oJ rfl rfl
 rw[ab h3,ab<|show ¬(x.scope=2\/4<=x.scope) by omega];rw[show decide (x.scope>=3)=false from gM zo];refine sW ?_;rw[show(x.scope==2)=false from dr zo];refine sW ?_;rw[show decide (x.scope>=4)=false from gM zo];refine sW ?_;exact oJ rfl rfl
def zAM:PC:=.seq (SO [qm 89 11,qm 90 6,Ln 91 90,Bi 92 .lss 89 91,qm 93 92,GT 94 93 (.move 5),GT 95 93 (.bin .eql 94 K0),Pk 96 93 95 cF]<|CX 96 1) (.seq (.block 2<|SO [qm 99 6,qm 100 11,Ia 101 1 99 100,Lo 102 101,qm 103 1,Ca 104 57 [102,103],Bi 105 .eql 104<|cS #[]]<|If 105<|OP [Mv 5 K4])<|OP [qm 97 11,Bi 98 .add 97 K1,qm 11 98])
def zAu:PC:=.seq (SO [qm 126 13,Bi 127 .lss 126 K4]<|CX 127 3) (.seq (.block 4<|SO [qm 130 13,Bi 131 .add 130 K1,Fa 132 1 2,Lo 133 132,Bi 134 .neq 131 133,qm 135 134,GT 136 135 (.move 12),GT 137 135 (.move 13),GT 138 135 (.gZ 1 136 137),GT 139 135 (.cg 138),GT 140 135 (.un .not 139),Pk 141 135 140 cF]<|If 141<|SO [Mv 4 K1] .ret)<|OP [qm 128 13,Bi 129 .add 128 K1,qm 13 129])
def c16:PC:=SO [Bx 2 0,Mv 4 K0] (.seq (SO [Fa 14 0 2,Lo 15 14,Ca 16 49 [15],Nt 17 16,qm 18 17,GF 19 18 (.dO 1 2),GF 20 18 (.cg 19),GF 21 18 (.bin .lss 20 K1),Pk 22 18 cT 21,qm 23 22,GF 24 23 (.dO 1 2),GF 25 23 (.cg 24),GF 26 23 (.bin .gtr 25 K4),Pk 27 23 cT 26]<|If 27<|SO [Mv 4 K1] .ret)<|SO [Mv 5 K0]<|SO [Mv 6 cN] (.seq (SO [Fa 28 1 2,Lo 29 28] (.stop (.block 0<|SO [Bi 31 .eql 29 K1,qm 30 31] (.cond 30 (SO [Fa 32 2 2,LA 33 7 32,Ca 34 50 [33],qm 5 34]<|OP [Fa 35 2 2,LA 36 7 35,Ca 37 51 [36],qm 6 37])<|SO [Bi 39 .eql 29 K2,qm 38 39] (.cond 38 (SO [Fa 40 9 2,LA 41 4 40,Ca 42 52 [41],qm 5 42]<|SO [Fa 43 9 2,Fa 44 1 43,Lo 45 44,Bs 46 1 1 [45],qm 6 46]<|SO [Fa 47 9 2,Fa 48 0 47,Lo 49 48,Bi 50 .gtr 49 K4]<|If 50<|OP [qm 51 6,Fa 52 9 2,Fa 53 2 52,Lo 54 53,Bs 55 1 1 [54],Ap 56 1 8 51 55,qm 6 56])<|SO [Bi 58 .eql 29 K3,qm 57 58] (.cond 57 (SO [Fa 59 13 2,LA 60 3 59,Ca 61 53 [60],qm 5 61]<|SO [qm 62 5,Bi 63 .eql 62 K0]<|If 63<|SO [Fa 65 13 2,LA 66 3 65,qm 67 1,Ca 68 54 [66,67],qm 64 68,Xt 69 0 64,Xt 70 1 64,qm 7 69,qm 8 70]<|SO [qm 71 8,Nt 72 71]<|If 72<|OP [Mv 5 K4])<|SO [Bi 74 .eql 29 K4,qm 73 74]<|If 73<|SO [Fa 75 16 2,LA 76 3 75,Ca 77 55 [76],qm 5 77]<|SO [qm 78 5,Bi 79 .eql 78 K0]<|If 79<|SO [Fa 81 16 2,LA 82 3 81,qm 83 1,Ca 84 56 [82,83],qm 80 84,Xt 85 0 80,Xt 86 1 80,qm 9 85,qm 10 86]<|SO [qm 87 10,Nt 88 87]<|If 88<|OP [Mv 5 K4])))))) (.seq (SO [Mv 11 K0] (.stop<|BL 1 zAM)) (.seq (SO [qm 106 5,Bi 107 .neq 106 K0]<|If 107<|SO [qm 108 5,qm 4 108] .ret) (.seq (.ops [Fa 109 2 2,qd 110 (.mF 7 109) 1,q 111 (.build [v0,v0,v0,v0,v0,v0,v0] []),qd 112 (.eqa false [0,0,0,0,0,0,0] 110 111) 7,Fa 113 9 2,qd 114 (.mF 4 113) 16,q 115 (.build [v0,v0,v0,v0] []),qd 116 (.eqa false [0,0,0,0] 114 115) 112,Fa 117 13 2,qd 118 (.mF 3 117) 256,q 119 (.build [v0,v0,vN] []),Cd 120 58 [118,119] 1792,Fa 121 16 2,qd 122 (.mF 3 121) 4096,q 123 (.build [v0,v0,vN] []),Cd 124 59 [122,123] 32512,qd 125 (.oP 1 4 [112,116,120,124]) 65535,qw 12 125 131071] true) (.seq (SO [Mv 13 K0]<|BL 3 zAu)<|SO [Mv 4 K0] .ret))))))
section
variable(names:List aX)(hn:oK names)(name:aX)(gp:name.size<=9223372036854775807)(sort:Int)(x:cC)(k a b c:Int)(f g:Tree)(hf:Small f)(hg:Small g)
theorem ztl{z:List Bool}{j:Nat}(h:z.length=4)(hj:j=i)(hi:i<4):(z.map λy=>[aD y])[j]? = some [aD<|z.getD i true]:=by
 subst hj;rw[cU,aJ zo,aE,aJ zo];rfl
def rY(names:List aX)(E0:Int)(Ls:ah)(i:Nat):Int:=if E0=0/\(Ls.take i).any (ny names)=true then 4 else E0
include hn gp hf hg
theorem IX:ar ai 16 [cK name sort x k a b c f g,dz names]<|aa<|fH names name sort x k a b c f g:=by
 have hN:=KR name gp;refine bK (fJ 142 [.tmp 4] c16 Tryz.func16) ?_;have fin:∀{H:aF} {z:Int},z=fH names name sort x k a b c f g->Deep H (aa z) (aa<|fH names name sort x k a b c f g):=λh=>h▸.refl _;by_cases hs:1<=sort/\sort<=4
 ·have l5:=zrc (names:=names) (sort:=sort) (x:=x) (k:=k) (a:=a) (b:=b) (c:=c) (f:=f) (g:=g);have tZ:=zrs (names:=names) hs x k a b c f g;have Jd:=zq1 hs x k a b c f g;have C9:=XX sort x k a b;have Rr:=We x;have wi:=zlW x;have Qg:=SA k a b c;have UB:=xe f hf;have u0:=XQ g hg;have HH:=zlD f hf;have H9:=zlC g hg;unfold cK jC cc iN aN at *;unfold jc cc uk aY aN at *;refine sR ?_;refine sC hN ?_;cases e1:iQ name
  ·refine sW ?_;exact fin<|by unfold fH;rw[ae (.inl e1)]
  have hE:fH names name sort x k a b c f g=if eJ names sort x k a b c f g≠0 then eJ names sort x k a b c f g else if wZ sort x k a b c f g=true then 1 else 0:=by unfold fH;rw[ab<|by rw[e1];simp;omega]
  refine sW ?_;rw[show decide (sort<1)=false from gM zo];refine sW ?_;rw[show decide (sort>4)=false from gM zo];refine sW ?_;generalize FX:wG names sort x k a b c f g=E0 at *;generalize hL:wC sort x k a b=Ls at *;refine px (λ_:Unit=>[(1,dz names),(2,.loc 0 0),(5,aa E0),(6,aO Ls)]) (λ_=>[.row true (.sc (.string name)::aa sort::(cc x++(iN k a b c++(aN f++aN g))))]) (λ_=>True) ?_ ?_
  ·clear l5 tZ Jd hE fin HH H9;refine sR ?_;by_cases h1:sort=1
   ·have e:E0=ew x:=(by rw[<-FX];unfold wG;rw[ae h1]);have e2:Ls=yd x:=(by rw[<-hL];unfold wC;rw[ae h1]);subst e e2;rw[gI h1];refine sW ?_;refine sC Rr ?_;refine sC wi ?_;exact⟨(),trivial,aL (by exact sK) rfl⟩
   rw[dr h1];refine sW ?_;by_cases h2:sort=2
   ·have e:E0=jT k a b c:=(by rw[<-FX];unfold wG;rw[ab h1,ae h2]);have e2:Ls=if 4<k then [a,b] else [a]:=by rw[<-hL];unfold wC;rw[ab h1,ae h2]
    subst e;rw[gI h2];refine sW ?_;refine sC Qg ?_;by_cases h4:4<k
    ·rw[ae h4] at e2;subst e2;rw[show decide (k>4)=true from ia zo];refine sWJ ?_;refine⟨(),trivial,?_⟩
     (refine aR 1 zs rfl ?_ ?_<;>(repeat' (first|exact trivial|exact rfl|exact .refl _|refine And.intro ?_ ?_|(simp[aq,au,bg,-List.map_take,-List.map_drop];done))))
     ·exact bw _<|jK _
     exact .own _ _ _ _ _ _ _ _ rfl rfl (aZ rfl)
    rw[ab h4] at e2;subst e2;rw[show decide (k>4)=false from gM zo];refine sW ?_;refine⟨(),trivial,?_⟩
    (refine aR 1 zs rfl ?_ ?_<;>(repeat' (first|exact trivial|exact rfl|exact .refl _|refine And.intro ?_ ?_|(simp[aq,au,bg,-List.map_take,-List.map_drop];done))))
    ·exact bw _<|jK _
    exact .own _ _ _ _ _ _ _ _ rfl rfl (aZ rfl)
   rw[dr h2];refine sW ?_;have e2:Ls=[]:=(by rw[<-hL];unfold wC;rw[ab h1,ab h2]);subst e2;by_cases h3:sort=3
   ·have e:E0=if aS bz f=0 then (if cO names f then 0 else 4) else aS bz f:=by rw[<-FX];unfold wG;rw[ab h1,ab h2,ae h3]
    rw[gI h3];refine sW ?_;have hK:=UB;refine sC hK ?_;refine sS (λq=>?_) λq=>?_
    ·have q:aS bz f=0:=sO;obtain⟨q1,q2,q3⟩:=(qM _ _).1 q;rw[ae q] at e;have hT:=XJ names hn f q3 q1;unfold x8 aY aN at hT;refine sC hT ?_;cases o:cO names f
     ·rw[o,ab zc] at e;subst e;refine sW ?_;refine⟨(),trivial,?_⟩
      (refine aR 1 zs rfl ?_ ?_<;>(repeat' (first|exact trivial|exact rfl|exact .refl _|refine And.intro ?_ ?_|(simp[aq,au,bg,-List.map_take,-List.map_drop];done))))
      ·exact bw _<|jK _
      exact .none _
     rw[o,ae rfl] at e;subst e;refine sW ?_;rw[q];refine⟨(),trivial,?_⟩
     (refine aR 1 zs rfl ?_ ?_<;>(repeat' (first|exact trivial|exact rfl|exact .refl _|refine And.intro ?_ ?_|(simp[aq,au,bg,-List.map_take,-List.map_drop];done))))
     ·exact bw _<|jK _
     exact .none _
    have q:¬aS bz f=0:=sO;rw[ab q] at e;subst e;refine⟨(),trivial,?_⟩
    (refine aR 1 zs rfl ?_ ?_<;>(repeat' (first|exact trivial|exact rfl|exact .refl _|refine And.intro ?_ ?_|(simp[aq,au,bg,-List.map_take,-List.map_drop];done))))
    ·exact bw _<|jK _
    exact .none _
   have e:E0=if aS dp g=0 then (if cO names g then 0 else 4) else aS dp g:=by rw[<-FX];unfold wG;rw[ab h1,ab h2,ab h3]
   have h4:sort=4:=zo;rw[dr h3];refine sW ?_;rw[gI h4];refine sW ?_;have hK:=u0;refine sC hK ?_;refine sS (λq=>?_) λq=>?_
   ·have q:aS dp g=0:=sO;obtain⟨q1,q2,q3⟩:=(qM _ _).1 q;rw[ae q] at e;have hT:=zl7 names hn g q3 q1;unfold xl aY aN at hT;refine sC hT ?_;cases o:cO names g
    ·rw[o,ab zc] at e;subst e;refine sW ?_;refine⟨(),trivial,?_⟩
     (refine aR 1 zs rfl ?_ ?_<;>(repeat' (first|exact trivial|exact rfl|exact .refl _|refine And.intro ?_ ?_|(simp[aq,au,bg,-List.map_take,-List.map_drop];done))))
     ·exact bw _<|jK _
     exact .none _
    rw[o,ae rfl] at e;subst e;refine sW ?_;rw[q];refine⟨(),trivial,?_⟩
    (refine aR 1 zs rfl ?_ ?_<;>(repeat' (first|exact trivial|exact rfl|exact .refl _|refine And.intro ?_ ?_|(simp[aq,au,bg,-List.map_take,-List.map_drop];done))))
    ·exact bw _<|jK _
    exact .none _
   have q:¬aS dp g=0:=sO;rw[ab q] at e;subst e;refine⟨(),trivial,?_⟩
   (refine aR 1 zs rfl ?_ ?_<;>(repeat' (first|exact trivial|exact rfl|exact .refl _|refine And.intro ?_ ?_|(simp[aq,au,bg,-List.map_take,-List.map_drop];done))))
   ·exact bw _<|jK _
   exact .none _
  intro _ _;clear Rr wi Qg UB u0 FX hL;refine sW ?_;refine px (λ_:Unit=>[(2,.loc 0 0),(5,aa<|eJ names sort x k a b c f g)]) (λ_=>[.row true (.sc (.string name)::aa sort::(cc x++(iN k a b c++(aN f++aN g))))]) (λ_=>True) ?_ ?_
  ·rw[tZ];clear tZ Jd hE fin HH H9
   (apply uK;focus (repeat' constructor))
   refine bt [1,2,6] (λi:Nat=>[(5,aa<|rY names E0 Ls i),(11,aa i)]) (λ_=>[]) (λi=>i<=Ls.length) (λi=>Ls.length-i) 0 ?_;refine sW ?_;refine⟨zo,?_,rfl,?_⟩
   ·rw[show rY names E0 Ls 0=E0 by unfold rY;rw[ab λw=>by simp at w]];exact sK
   rintro i hi;refine c6 ?_;rw[aK];have done:∀{H:aF},True:=trivial;cases q1:decide ((i:Int)<Ls.length)
   ·have q1:i=Ls.length:=(by have:=of_decide_eq_false q1;omega);subst q1;refine sW ?_;unfold rY;rw[eZ];exact⟨(),trivial,aL (by exact sK) rfl⟩
   have q1:i<Ls.length:=(by have:=qL q1;omega);refine sWS (λq2=>?_) λq2=>?_
   ·have q2:rY names E0 Ls i=0:=sO;have h0:E0=0:=by
     unfold rY at q2;split at q2
     ·cases q2
     exact q2
    refine sL (cA (k:=i) zo q1) ?_;refine sC (Oi names hn (Ls.getD i 0)<|l5 h0 _<|dP q1) ?_;have xk:rY names E0 Ls (i+1)=if ny names (Ls.getD i 0)=true then 4 else 0:=by
     unfold rY at q2⊢;have e:Ls.getD i 0=Ls[i]:=(by rw[aE,aJ q1];rfl);rw[lI,aJ q1,wW,e];cases u:(Ls.take i).any (ny names)
     ·simp[h0]
     rw[u,ae ⟨h0,rfl⟩] at q2;cases q2
    have hq:∀m,((nm names m).toList==(⟨#[]⟩:aX).toList)=ny names m:=λ_=>rfl;rw[hq];cases q3:ny names<|Ls.getD i 0
    ·rw[q3,ab zc] at xk;refine bb ?_;refine⟨i+1,zo,zd,aL ?_ rfl⟩;dsimp only;rw[xk,q2];exact sK
    rw[q3,ae rfl] at xk;refine bb ?_;refine⟨i+1,zo,zd,aL ?_ rfl⟩;dsimp only;rw[xk];exact sK
   have q2:rY names E0 Ls i≠0:=sO;have G0:rY names E0 Ls i=rY names E0 Ls Ls.length:=by
    unfold rY at q2⊢;by_cases h0:E0=0
    ·cases u:(Ls.take i).any (ny names)
     ·rw[ab<|by rw[u];simp] at q2;exact absurd h0 q2
     have u2:(Ls.take Ls.length).any<|ny names:=by
      rw[kJ] at u⊢;obtain⟨y,y1,y2⟩:=u;exact⟨y,by rw[eZ];exact AP y1,y2⟩
     rw[ae ⟨h0,rfl⟩,ae ⟨h0,u2⟩]
    rw[ab λw=>h0 w.1,ab λw=>h0 w.1]
   rw[G0];unfold rY;rw[eZ];exact⟨(),trivial,aL (by exact sK) rfl⟩
  intro _ _;refine sWS (λq1=>?_) λq1=>?_
  ·have q1:eJ names sort x k a b c f g≠0:=(by simpa using q1);exact fin<|by rw[hE,ae q1]
  have q1:eJ names sort x k a b c f g=0:=(by simpa using q1);rw[ab<|by simpa using q1] at hE;refine sC HH ?_;refine sC H9 ?_;have hz:[[aD<|tQ false<|x.kind==0&&(x.scope==0&&(x.p==0&&(x.s==0&&(x.q==0&&(x.r==0&&(x.count==0&&true))))))],[aD<|tQ false<|k==0&&(a==0&&(b==0&&(c==0&&true)))],[aD<|dR f<|cv 0 0],[aD<|dR g<|cv 0 0]]=(E3 x k a b c f g).map λy=>[aD y]:=rfl;have Nj:(E3 x k a b c f g).length=4:=rfl;rw[hz];generalize E3 x k a b c f g=Z at *;clear HH H9 hz;refine bt [2,12] (λi:Nat=>[(13,aa i)]) (λ_=>[]) (λi=>i<=4/\∀j,j<i->(j:Int)+1≠sort->Z.getD j true=true) (λi=>4-i) 0 ?_;refine sW ?_;refine⟨⟨zo,λj hj=>zo⟩,by exact sK,rfl,?_⟩;rintro i ⟨hi,bR⟩;refine br (λq=>?_) λq=>?_
  ·have q:i<4:=sO;refine sI ?_;cases u:((i:Int)+1 != sort)
   ·have u:(i:Int)+1=sort:=(by simpa using u);refine bb ?_;refine⟨i+1,⟨zo,λj hj bT=>?_⟩,zd,aL (by exact sK) rfl⟩;by_cases e:j=i
    ·subst e;exact absurd u bT
    exact bR j zo bT
   have u:(i:Int)+1≠sort:=(by simpa using u);refine bE ?_;refine⟨_,ztl Nj (i:=i) zo q,?_⟩;refine sW ?_;cases r:Z.getD i true
   ·refine sW ?_;have:wZ sort x k a b c f g=true:=Jd.2 ⟨i,q,u,r⟩;exact fin<|by rw[hE,this,ae rfl]
   refine bb ?_;refine⟨i+1,⟨zo,λj hj bT=>?_⟩,zd,aL (by exact sK) rfl⟩;by_cases e:j=i
   ·subst e;exact r
   exact bR j zo bT
  have q:i=4:=by have:¬i<4:=sO
                 omega
  subst q;have:wZ sort x k a b c f g=false:=by
   cases u:wZ sort x k a b c f g
   ·rfl
   obtain⟨j,j1,j2,j3⟩:=Jd.1 u;rw[bR j j1 j2] at j3;cases j3
  exact fin<|by rw[hE,this,ab zc]
 have hE:fH names name sort x k a b c f g=1:=by unfold fH;rw[ae zo]
 unfold cK jC cc iN aN at *;refine sR ?_;refine sC hN ?_;cases e1:iQ name
 ·refine sW ?_;exact fin hE.symm
 refine sW ?_;cases e2:decide (sort<1)
 ·refine sW ?_;rw[show decide (sort>4)=true from ia<|by have:=of_decide_eq_false e2;omega];refine sW ?_;exact fin hE.symm
 refine sW ?_;exact fin hE.symm
end
variable(n:Int)
theorem zsE(k n:Int):ar ai 151 [aa k,aa n] (.agg [aa k,aa n,ax]):=by
 refine bL ?_;exact sP
variable{H:aF}{m:Nat}
theorem ZG{id:Nat}{n:Int}{ks:List Tree}{f:Tree->Tree}{t:Tree}(ht:t=.node k n (ks.map f))(ho:H[id]? = some (.vec true m 3<|(ks.take m).map λu=>aN<|f u))(hm:m=ks.length) :
  Deep H (.agg [aa k,aa n,.own id m 0 m]) (aY t):=by
 subst ht hm;refine .agg _ _ (.cons _ _ _ _ (.refl _) (.cons _ _ _ _ (.refl _) (.cons _ _ _ _ (.own id _ _ _ _ _ _ _ ho ?_) .nil)));rw[fQ,jd zs,eZ,Tree.kids,wJ];exact(qY (λu _=>(vR<|f u).symm:∀u∈ks,aN (f u)=(gO∘f) u))▸iX _
theorem L4:∀t:Tree,t.wf bz->ar ai 79 [aY t] (aY<|de t):=by
 intro t
 induction t using Tree.ind with
 |h t ih =>
  intro cu;have hs:=uw t cu;have fT:=hs.width;have tE:=tR ((jG _ _).1 cu).1;have hE:=Hd t λh=>pZ cu zo;refine bL ?_
  refine wA (λk:Nat=>[(1,.loc 0 0),(2,.loc 1 0),(3,.own 2 k 0 k),(4,aa k)])
   (λk=>[.row true<|aN t,.row true [aa 0,aa 0,ax],.vec true k 3<|(t.kids.take k).map λu=>aN<|de u])
   (λk=>k<=t.width) (λk=>t.width-k) 0 zo (kS (fL 3 3 zs rfl)<|o5 ⟨rfl,rfl,rfl,rfl,trivial⟩) ?_
  rintro k hk;refine sRS (λh1=>?_) λh1=>?_
  ·have al:k<t.width:=(by simpa [Tree.width] using h1);refine sL (dk al) ?_;refine sC (ih k al<|gD cu al) ?_;refine⟨by unfold je;simp only[fQ,u4,r7,bH,bU];omega,?_⟩;refine sW ?_;refine .inl ⟨by unfold dQ;rw[gf];unfold Tree.width at *;omega,?_⟩;refine sW ?_
   refine⟨k+1,zo,zd,aR 3 zs rfl ⟨.refl _,by simp[aq],.refl _,by simp[aq],.refl _,by simp[aq],.refl _,by simp[aq],trivial⟩
    ⟨⟨rfl,.refl _,bu _<|cM t⟩,⟨rfl,.refl _,by simp[au,aq]⟩,⟨rfl,rfl,rfl,aZ<|Mf _<|kid_get? al,aV _<|db _ (λu=>cM _) _⟩,trivial⟩⟩
  have al:k=t.width:=by have:¬k<t.width:=by simpa [Tree.width] using h1
                        omega
  subst al;refine sS (λfh=>?_) λfh=>?_
  ·have fh:t.kind=10:=(by simpa using fh);have h0:=pZ cu (show t.kind=4\/t.kind=7\/t.kind=10\/t.kind=11 by omega);rw[ae fh] at hE;refine sC (Mo 1 0) ?_;refine⟨zo,zo,?_⟩;refine sW ?_;refine⟨_,RS _ h0,?_⟩;refine sW ?_;refine sC (vB 8 (cv 1 0)<|de<|t.az 0) ?_;exact mM hE (.refl _)
  have fh:¬t.kind=10:=(by simpa using fh);rw[ab fh] at hE;refine sS (λjY=>?_) λjY=>?_
  ·have jY:t.kind=11:=(by simpa using jY);have h0:=pZ cu (show t.kind=4\/t.kind=7\/t.kind=10\/t.kind=11 by omega);rw[ae jY] at hE;refine sC (Mo 2 0) ?_;refine⟨zo,zo,?_⟩;refine sW ?_;refine⟨_,RS _ h0,?_⟩;refine sW ?_;refine sC (vB 9 (cv 2 0)<|de<|t.az 0) ?_;exact mM hE (.refl _)
  have jY:¬t.kind=11:=(by simpa using jY);rw[ab jY] at hE;exact ZG (id:=2) hE rfl rfl
def l9(n:Int):Tree:=cv 3 n
def dM(A:ah):List Tree:=A.map l9
variable(A:ah)
@[simp] theorem Xv:(dM A).length=A.length:=aK ..
noncomputable def elE(f:Tree):List Tree:=dM (m6<|cP f)++bX [] (partsOf f)
theorem P7{t:Tree}(hw:t.wf bz)(h3:t.kind=3):t=l9 t.num:=by
 have tE:=tR ((jG _ _).1 hw).1;have h0:t.width=0:=zo
 cases t with
 |node k n ks =>
  have:ks=[]:=n8.1 h0;subst this;have h3:k=3:=h3;subst h3;rfl
def dd(Q:List Tree)(P:List Tree):aF:=[.row true [.own 3 Q.length 0 Q.length],.row true [.own 4 P.length 0 P.length],.row true [.fn (.func 236) [] [.loc 0 0,.loc 1 0,.loc 2 0]],.vec true Q.length 3<|b6 Q,.vec true P.length 3<|b6 P]
variable{P Q:List Tree}
theorem xh(hm:5<=m):∀o∈dd Q P,o.under m:=by
 intro o ho;simp only[dd,dZ,rH,or_false] at ho;rcases ho with rfl|rfl|rfl|rfl|rfl<;>simp[ao.under,au,aq]<;>omega
theorem xd(hm:5<=m):fo m<|dd Q P:=by
 have:=xh (Q:=Q) (P:=P) hm;unfold dd at *;exact⟨this _ zs,this _ zs,this _ zs,this _ zs,this _ zs,trivial⟩
theorem Rg{S:ay}(l:List Tree)(n:Int):jJ S H (List.drop 0 (List.take l.length<|b6 l)++List.drop 0 (List.take 1 [[aa 3,aa n,ax]]))<|b6<|l++[l9 n]:=by
 rw[cx zs,show b6 (l++[l9 n])=b6 l++[[aa 3,aa n,D.aM 3 []]] by simp[b6,l9,cv,aN];exact⟨rfl,rfl,rfl⟩];exact MO (.cons _ _ _ _ (.refl _) (.cons _ _ _ _ (.refl _) (.cons _ _ _ _ (.none _) (.refl _)))) _
variable(f:Tree)
theorem NU(hf:Small f)(g:Tree):ar ai 238 [aY g,.aB<|aN f]<|aD<|dR f g:=by
 refine bL ?_;refine sC (Nh f g hf) ?_;exact .refl _
theorem zyM(g:Tree)(n:Int):ar ai 239 [aY g,.aB [aa n]]<|aD<|g.num==n:=by
 refine bL ?_;exact .refl _
def zBg(t:Tree):Prop:=∀(Q P:List Tree),Q.length+(cP t).length<=1000->P.length+(partsOf t).length<=1000 ->
  cp ai 236 [aY t,.loc 0 0,.loc 1 0,.loc 2 0] (dd Q P) (.aI []) (dd (Q++dM (cP t))<|bX P<|partsOf t)
theorem xE(A B:ah):dM A++dM B=dM (A++B):=by simp[dM]
theorem zxE:∀t:Tree,t.wf bz->zBg t:=by
 intro t
 induction t using Tree.ind with
 |h t ih =>
  intro cu Q P hA hP;have hs:=uw t cu;have fT:=hs.width;have tE:=tR ((jG _ _).1 cu).1;refine sy fZ zs (by simp[dd]) ?_ trivial;have eA:=GK t;have eP:=HJ t;unfold dd;refine sRS (λk3=>?_) λk3=>?_
  ·have k3:t.kind=3:=(by simpa using k3);rw[ae k3] at eA;rw[ab zo] at eP;rw[eA,cq,jA] at hA;refine sJ ?_;refine sB ?_;refine⟨_,Bw Q _,?_⟩;refine sW ?_;refine b8 (aR 7 (env':=[(3,.loc 2 0),(4,.loc 5 0),(5,aa 0)]) (H':=[.row true [.own 3 (Q.length+1) 0<|Q.length+1],.row true [.own 4 P.length 0 P.length],.row true [.fn (.func 236) [] [.loc 0 0,.loc 1 0,.loc 2 0]],.vec true (Q.length+1) 3<|b6<|Q++[t],.vec true P.length 3<|b6 P,.row true<|aN t,.vec true 0 3 [[aa 0,aa 0,ax]]]) zs rfl ?_ ?_) ?_
   ·exact sQ
   ·(repeat' (first|exact trivial|exact rfl|exact .refl _|refine And.intro ?_ ?_|(simp[aq,au,bg,-List.map_take,-List.map_drop];done)))
    all_goals first|exact bu _ (cM _)|exact aZ (zX Q t _)|skip
   rw[show Q.length+1=(Q++[t]).length by simp,show Q++[t]=Q++dM [t.num] by rw[show dM [t.num]=[l9 t.num] from rfl,<-P7 cu k3]];have lA:Q.length+1+(bM t.kids).length<=1000:=zo;have lP:P.length+(bA t.kids).length<=1000:=(by rw[eP,lW] at hP;exact hP);rw[eA,eP,<-xE,lW,<-gy];have lQ1:(Q++dM [t.num]).length<=Q.length+1:=zs;generalize Q++dM [t.num]=Q1 at *;refine cJ [3,4] (λk:Nat=>[(5,aa k)]) (λk=>dd (Q1++dM (bM<|t.kids.take k)) (bX P<|bA<|t.kids.take k)++[.row true<|aN t,.vec true 0 3 [[aa 0,aa 0,ax]]]) (λk=>k<=t.width) (λk=>t.width-k) 0 ?_;refine sW ?_;refine⟨zo,by exact sK,by simp[dd,dM,bM,bA,bX],?_⟩;rintro k hk;have lpk:=m9 (bA<|t.kids.take k) P;unfold dd;refine br (λq0=>?_) λq0=>?_
   ·have q0:k<t.width:=(by simpa [Tree.width] using q0);refine sL (dk q0) ?_;have eA2:=oi q0;have eP2:=oq q0;have tA:(bM<|t.kids.take k).length+(cP<|t.az k).length<=(bM t.kids).length:=oH q0;have tP:(bA<|t.kids.take k).length+(partsOf<|t.az k).length<=(bA t.kids).length:=oU q0;have hG:=mS (ih k q0 (gD cu q0) (Q1++dM (bM<|t.kids.take k)) (bX P<|bA<|t.kids.take k) (by simp;omega) zo) [.row true<|aN t,.vec true 0 3 [[aa 0,aa 0,ax]]] (by simp[dd]) (by simp[dd,au,aq,bw _<|c7 _])<|xd (by simp[dd]);rw[gy,xE,<-jF,<-eA2,<-eP2] at hG;unfold dd at hG
    (refine .inr (.inr (.inr (.inl ⟨_,_,by simp[au,bg,fo,ao.under,aq],by simp[au,bg,fo,ao.under,aq],hG,?_⟩)));((conv=>whnf);repeat(refine⟨rfl,?_⟩;conv=>whnf)))
    refine sI ?_;refine⟨k+1,zo,zd,?_⟩;dsimp only
    (refine aR 7 zs rfl ?_ ?_<;>(repeat' (first|exact trivial|exact rfl|exact .refl _|refine And.intro ?_ ?_|(simp[aq,au,bg,-List.map_take,-List.map_drop];done))))
    all_goals first|exact bu _ (cM _)|exact aV _ (lr t)|exact aV _ (dX _)|skip
   have q0:k=t.width:=by have:¬k<t.width:=by simpa [Tree.width] using q0
                         omega
   subst q0;rw[show t.kids.take t.width=t.kids from eZ];exact⟨.refl _,ln _ _<|xh<|aT _⟩
  have k3:¬t.kind=3:=(by simpa using k3);rw[ab k3,lW] at eA;rw[eA] at hA;have lA:Q.length+(bM t.kids).length<=1000:=hA;have lQ1:Q.length<=Q.length:=aT _;refine sS (λk7=>?_) λk7=>?_
  ·have k7:t.kind=7\/t.kind=8\/t.kind=9:=.inl (by simpa using k7);rw[ae k7] at eP;rw[eP,cq,jA] at hP;refine sN (JF P zo (dR t) 238 [.aB<|aN t] (by simp[an,Pure,cM]) λa _=>NU t hs a) ?_;cases r:P.any (dR t)
   ·have iP:bX P [t]=P++[t]:=(by rw[rp,ab<|by rw[r];decide]);refine sWJ ?_;refine sB ?_;refine⟨_,Bw P _,?_⟩;refine sW ?_;refine b8 (aR 7 (env':=[(3,.loc 2 0),(4,.loc 5 0),(5,aa 0)]) (H':=[.row true [.own 3 Q.length 0 Q.length],.row true [.own 4 (P.length+1) 0<|P.length+1],.row true [.fn (.func 236) [] [.loc 0 0,.loc 1 0,.loc 2 0]],.vec true Q.length 3<|b6 Q,.vec true (P.length+1) 3<|b6<|P++[t],.row true<|aN t,.vec true 0 3 [[aa 0,aa 0,ax]]]) zs rfl ?_ ?_) ?_
    ·exact sQ
    ·(repeat' (first|exact trivial|exact rfl|exact .refl _|refine And.intro ?_ ?_|(simp[aq,au,bg,-List.map_take,-List.map_drop];done)))
     all_goals first|exact bu _ (cM _)|exact aZ (zX P t _)|skip
    rw[show P.length+1=(P++[t]).length by simp,<-iP];have lP:P.length+1+(bA t.kids).length<=1000:=zo;have lP1:(bX P [t]).length<=P.length+1:=(by rw[iP];simp);rw[eA,eP,jF];generalize bX P [t]=P1 at *;refine cJ [3,4] (λk:Nat=>[(5,aa k)]) (λk=>dd (Q++dM (bM<|t.kids.take k)) (bX P1<|bA<|t.kids.take k)++[.row true<|aN t,.vec true 0 3 [[aa 0,aa 0,ax]]]) (λk=>k<=t.width) (λk=>t.width-k) 0 ?_;refine sW ?_;refine⟨zo,by exact sK,by simp[dd,dM,bM,bA,bX],?_⟩;rintro k hk;have lpk:=m9 (bA<|t.kids.take k) P1;unfold dd;refine br (λq0=>?_) λq0=>?_
    ·have q0:k<t.width:=(by simpa [Tree.width] using q0);refine sL (dk q0) ?_;have eA2:=oi q0;have eP2:=oq q0;have tA:(bM<|t.kids.take k).length+(cP<|t.az k).length<=(bM t.kids).length:=oH q0;have tP:(bA<|t.kids.take k).length+(partsOf<|t.az k).length<=(bA t.kids).length:=oU q0;have hG:=mS (ih k q0 (gD cu q0) (Q++dM (bM<|t.kids.take k)) (bX P1<|bA<|t.kids.take k) (by simp;omega) zo) [.row true<|aN t,.vec true 0 3 [[aa 0,aa 0,ax]]] (by simp[dd]) (by simp[dd,au,aq,bw _<|c7 _])<|xd (by simp[dd]);rw[gy,xE,<-jF,<-eA2,<-eP2] at hG;unfold dd at hG
     (refine .inr (.inr (.inr (.inl ⟨_,_,by simp[au,bg,fo,ao.under,aq],by simp[au,bg,fo,ao.under,aq],hG,?_⟩)));((conv=>whnf);repeat(refine⟨rfl,?_⟩;conv=>whnf)))
     refine sI ?_;refine⟨k+1,zo,zd,?_⟩;dsimp only
     (refine aR 7 zs rfl ?_ ?_<;>(repeat' (first|exact trivial|exact rfl|exact .refl _|refine And.intro ?_ ?_|(simp[aq,au,bg,-List.map_take,-List.map_drop];done))))
     all_goals first|exact bu _ (cM _)|exact aV _ (lr t)|exact aV _ (dX _)|skip
    have q0:k=t.width:=by have:¬k<t.width:=by simpa [Tree.width] using q0
                          omega
    subst q0;rw[show t.kids.take t.width=t.kids from eZ];exact⟨.refl _,ln _ _<|xh<|aT _⟩
   have iP:bX P [t]=P:=(by rw[rp,ae r]);refine sW ?_;have lP:P.length+(bA t.kids).length<=1000:=zo;rw[eA,eP,jF,iP];refine cJ [3,4] (λk:Nat=>[(5,aa k)]) (λk=>dd (Q++dM (bM<|t.kids.take k)) (bX P<|bA<|t.kids.take k)++[.row true<|aN t]) (λk=>k<=t.width) (λk=>t.width-k) 0 ?_;refine sW ?_;refine⟨zo,by exact sK,by simp[dd,dM,bM,bA,bX],?_⟩;rintro k hk;have lpk:=m9 (bA<|t.kids.take k) P;unfold dd;refine br (λq0=>?_) λq0=>?_
   ·have q0:k<t.width:=(by simpa [Tree.width] using q0);refine sL (dk q0) ?_;have eA2:=oi q0;have eP2:=oq q0;have tA:(bM<|t.kids.take k).length+(cP<|t.az k).length<=(bM t.kids).length:=oH q0;have tP:(bA<|t.kids.take k).length+(partsOf<|t.az k).length<=(bA t.kids).length:=oU q0;have hG:=mS (ih k q0 (gD cu q0) (Q++dM (bM<|t.kids.take k)) (bX P<|bA<|t.kids.take k) (by simp;omega) zo) [.row true<|aN t] (by simp[dd]) (by simp[dd,au,aq,bw _<|c7 _])<|xd (by simp[dd]);rw[gy,xE,<-jF,<-eA2,<-eP2] at hG;unfold dd at hG
    (refine .inr (.inr (.inr (.inl ⟨_,_,by simp[au,bg,fo,ao.under,aq],by simp[au,bg,fo,ao.under,aq],hG,?_⟩)));((conv=>whnf);repeat(refine⟨rfl,?_⟩;conv=>whnf)))
    refine sI ?_;refine⟨k+1,zo,zd,?_⟩;dsimp only
    (refine aR 6 zs rfl ?_ ?_<;>(repeat' (first|exact trivial|exact rfl|exact .refl _|refine And.intro ?_ ?_|(simp[aq,au,bg,-List.map_take,-List.map_drop];done))))
    all_goals first|exact bu _ (cM _)|exact aV _ (lr t)|exact aV _ (dX _)|skip
   have q0:k=t.width:=by have:¬k<t.width:=by simpa [Tree.width] using q0
                         omega
   subst q0;rw[show t.kids.take t.width=t.kids from eZ];exact⟨.refl _,ln _ _<|xh<|aT _⟩
  refine sS (λk8=>?_) λk8=>?_
  ·have k7:t.kind=7\/t.kind=8\/t.kind=9:=.inr (.inl<|by simpa using k8);rw[ae k7] at eP;rw[eP,cq,jA] at hP;refine sN (JF P zo (dR t) 238 [.aB<|aN t] (by simp[an,Pure,cM]) λa _=>NU t hs a) ?_;cases r:P.any (dR t)
   ·have iP:bX P [t]=P++[t]:=(by rw[rp,ab<|by rw[r];decide]);refine sWJ ?_;refine sB ?_;refine⟨_,Bw P _,?_⟩;refine sW ?_;refine b8 (aR 7 (env':=[(3,.loc 2 0),(4,.loc 5 0),(5,aa 0)]) (H':=[.row true [.own 3 Q.length 0 Q.length],.row true [.own 4 (P.length+1) 0<|P.length+1],.row true [.fn (.func 236) [] [.loc 0 0,.loc 1 0,.loc 2 0]],.vec true Q.length 3<|b6 Q,.vec true (P.length+1) 3<|b6<|P++[t],.row true<|aN t,.vec true 0 3 [[aa 0,aa 0,ax]]]) zs rfl ?_ ?_) ?_
    ·exact sQ
    ·(repeat' (first|exact trivial|exact rfl|exact .refl _|refine And.intro ?_ ?_|(simp[aq,au,bg,-List.map_take,-List.map_drop];done)))
     all_goals first|exact bu _ (cM _)|exact aZ (zX P t _)|skip
    rw[show P.length+1=(P++[t]).length by simp,<-iP];have lP:P.length+1+(bA t.kids).length<=1000:=zo;have lP1:(bX P [t]).length<=P.length+1:=(by rw[iP];simp);rw[eA,eP,jF];generalize bX P [t]=P1 at *;refine cJ [3,4] (λk:Nat=>[(5,aa k)]) (λk=>dd (Q++dM (bM<|t.kids.take k)) (bX P1<|bA<|t.kids.take k)++[.row true<|aN t,.vec true 0 3 [[aa 0,aa 0,ax]]]) (λk=>k<=t.width) (λk=>t.width-k) 0 ?_;refine sW ?_;refine⟨zo,by exact sK,by simp[dd,dM,bM,bA,bX],?_⟩;rintro k hk;have lpk:=m9 (bA<|t.kids.take k) P1;unfold dd;refine br (λq0=>?_) λq0=>?_
    ·have q0:k<t.width:=(by simpa [Tree.width] using q0);refine sL (dk q0) ?_;have eA2:=oi q0;have eP2:=oq q0;have tA:(bM<|t.kids.take k).length+(cP<|t.az k).length<=(bM t.kids).length:=oH q0;have tP:(bA<|t.kids.take k).length+(partsOf<|t.az k).length<=(bA t.kids).length:=oU q0;have hG:=mS (ih k q0 (gD cu q0) (Q++dM (bM<|t.kids.take k)) (bX P1<|bA<|t.kids.take k) (by simp;omega) zo) [.row true<|aN t,.vec true 0 3 [[aa 0,aa 0,ax]]] (by simp[dd]) (by simp[dd,au,aq,bw _<|c7 _])<|xd (by simp[dd]);rw[gy,xE,<-jF,<-eA2,<-eP2] at hG;unfold dd at hG
     (refine .inr (.inr (.inr (.inl ⟨_,_,by simp[au,bg,fo,ao.under,aq],by simp[au,bg,fo,ao.under,aq],hG,?_⟩)));((conv=>whnf);repeat(refine⟨rfl,?_⟩;conv=>whnf)))
     refine sI ?_;refine⟨k+1,zo,zd,?_⟩;dsimp only
     (refine aR 7 zs rfl ?_ ?_<;>(repeat' (first|exact trivial|exact rfl|exact .refl _|refine And.intro ?_ ?_|(simp[aq,au,bg,-List.map_take,-List.map_drop];done))))
     all_goals first|exact bu _ (cM _)|exact aV _ (lr t)|exact aV _ (dX _)|skip
    have q0:k=t.width:=by have:¬k<t.width:=by simpa [Tree.width] using q0
                          omega
    subst q0;rw[show t.kids.take t.width=t.kids from eZ];exact⟨.refl _,ln _ _<|xh<|aT _⟩
   have iP:bX P [t]=P:=(by rw[rp,ae r]);refine sW ?_;have lP:P.length+(bA t.kids).length<=1000:=zo;rw[eA,eP,jF,iP];refine cJ [3,4] (λk:Nat=>[(5,aa k)]) (λk=>dd (Q++dM (bM<|t.kids.take k)) (bX P<|bA<|t.kids.take k)++[.row true<|aN t]) (λk=>k<=t.width) (λk=>t.width-k) 0 ?_;refine sW ?_;refine⟨zo,by exact sK,by simp[dd,dM,bM,bA,bX],?_⟩;rintro k hk;have lpk:=m9 (bA<|t.kids.take k) P;unfold dd;refine br (λq0=>?_) λq0=>?_
   ·have q0:k<t.width:=(by simpa [Tree.width] using q0);refine sL (dk q0) ?_;have eA2:=oi q0;have eP2:=oq q0;have tA:(bM<|t.kids.take k).length+(cP<|t.az k).length<=(bM t.kids).length:=oH q0;have tP:(bA<|t.kids.take k).length+(partsOf<|t.az k).length<=(bA t.kids).length:=oU q0;have hG:=mS (ih k q0 (gD cu q0) (Q++dM (bM<|t.kids.take k)) (bX P<|bA<|t.kids.take k) (by simp;omega) zo) [.row true<|aN t] (by simp[dd]) (by simp[dd,au,aq,bw _<|c7 _])<|xd (by simp[dd]);rw[gy,xE,<-jF,<-eA2,<-eP2] at hG;unfold dd at hG
    (refine .inr (.inr (.inr (.inl ⟨_,_,by simp[au,bg,fo,ao.under,aq],by simp[au,bg,fo,ao.under,aq],hG,?_⟩)));((conv=>whnf);repeat(refine⟨rfl,?_⟩;conv=>whnf)))
    refine sI ?_;refine⟨k+1,zo,zd,?_⟩;dsimp only
    (refine aR 6 zs rfl ?_ ?_<;>(repeat' (first|exact trivial|exact rfl|exact .refl _|refine And.intro ?_ ?_|(simp[aq,au,bg,-List.map_take,-List.map_drop];done))))
    all_goals first|exact bu _ (cM _)|exact aV _ (lr t)|exact aV _ (dX _)|skip
   have q0:k=t.width:=by have:¬k<t.width:=by simpa [Tree.width] using q0
                         omega
   subst q0;rw[show t.kids.take t.width=t.kids from eZ];exact⟨.refl _,ln _ _<|xh<|aT _⟩
  refine sS (λk9=>?_) λk9=>?_
  ·have k7:t.kind=7\/t.kind=8\/t.kind=9:=.inr (.inr<|by simpa using k9);rw[ae k7] at eP;rw[eP,cq,jA] at hP;refine sN (JF P zo (dR t) 238 [.aB<|aN t] (by simp[an,Pure,cM]) λa _=>NU t hs a) ?_;cases r:P.any (dR t)
   ·have iP:bX P [t]=P++[t]:=(by rw[rp,ab<|by rw[r];decide]);refine sWJ ?_;refine sB ?_;refine⟨_,Bw P _,?_⟩;refine sW ?_;refine b8 (aR 7 (env':=[(3,.loc 2 0),(4,.loc 5 0),(5,aa 0)]) (H':=[.row true [.own 3 Q.length 0 Q.length],.row true [.own 4 (P.length+1) 0<|P.length+1],.row true [.fn (.func 236) [] [.loc 0 0,.loc 1 0,.loc 2 0]],.vec true Q.length 3<|b6 Q,.vec true (P.length+1) 3<|b6<|P++[t],.row true<|aN t,.vec true 0 3 [[aa 0,aa 0,ax]]]) zs rfl ?_ ?_) ?_
    ·exact sQ
    ·(repeat' (first|exact trivial|exact rfl|exact .refl _|refine And.intro ?_ ?_|(simp[aq,au,bg,-List.map_take,-List.map_drop];done)))
     all_goals first|exact bu _ (cM _)|exact aZ (zX P t _)|skip
    rw[show P.length+1=(P++[t]).length by simp,<-iP];have lP:P.length+1+(bA t.kids).length<=1000:=zo;have lP1:(bX P [t]).length<=P.length+1:=(by rw[iP];simp);rw[eA,eP,jF];generalize bX P [t]=P1 at *;refine cJ [3,4] (λk:Nat=>[(5,aa k)]) (λk=>dd (Q++dM (bM<|t.kids.take k)) (bX P1<|bA<|t.kids.take k)++[.row true<|aN t,.vec true 0 3 [[aa 0,aa 0,ax]]]) (λk=>k<=t.width) (λk=>t.width-k) 0 ?_;refine sW ?_;refine⟨zo,by exact sK,by simp[dd,dM,bM,bA,bX],?_⟩;rintro k hk;have lpk:=m9 (bA<|t.kids.take k) P1;unfold dd;refine br (λq0=>?_) λq0=>?_
    ·have q0:k<t.width:=(by simpa [Tree.width] using q0);refine sL (dk q0) ?_;have eA2:=oi q0;have eP2:=oq q0;have tA:(bM<|t.kids.take k).length+(cP<|t.az k).length<=(bM t.kids).length:=oH q0;have tP:(bA<|t.kids.take k).length+(partsOf<|t.az k).length<=(bA t.kids).length:=oU q0;have hG:=mS (ih k q0 (gD cu q0) (Q++dM (bM<|t.kids.take k)) (bX P1<|bA<|t.kids.take k) (by simp;omega) zo) [.row true<|aN t,.vec true 0 3 [[aa 0,aa 0,ax]]] (by simp[dd]) (by simp[dd,au,aq,bw _<|c7 _])<|xd (by simp[dd]);rw[gy,xE,<-jF,<-eA2,<-eP2] at hG;unfold dd at hG
     (refine .inr (.inr (.inr (.inl ⟨_,_,by simp[au,bg,fo,ao.under,aq],by simp[au,bg,fo,ao.under,aq],hG,?_⟩)));((conv=>whnf);repeat(refine⟨rfl,?_⟩;conv=>whnf)))
     refine sI ?_;refine⟨k+1,zo,zd,?_⟩;dsimp only
     (refine aR 7 zs rfl ?_ ?_<;>(repeat' (first|exact trivial|exact rfl|exact .refl _|refine And.intro ?_ ?_|(simp[aq,au,bg,-List.map_take,-List.map_drop];done))))
     all_goals first|exact bu _ (cM _)|exact aV _ (lr t)|exact aV _ (dX _)|skip
    have q0:k=t.width:=by have:¬k<t.width:=by simpa [Tree.width] using q0
                          omega
    subst q0;rw[show t.kids.take t.width=t.kids from eZ];exact⟨.refl _,ln _ _<|xh<|aT _⟩
   have iP:bX P [t]=P:=(by rw[rp,ae r]);refine sW ?_;have lP:P.length+(bA t.kids).length<=1000:=zo;rw[eA,eP,jF,iP];refine cJ [3,4] (λk:Nat=>[(5,aa k)]) (λk=>dd (Q++dM (bM<|t.kids.take k)) (bX P<|bA<|t.kids.take k)++[.row true<|aN t]) (λk=>k<=t.width) (λk=>t.width-k) 0 ?_;refine sW ?_;refine⟨zo,by exact sK,by simp[dd,dM,bM,bA,bX],?_⟩;rintro k hk;have lpk:=m9 (bA<|t.kids.take k) P;unfold dd;refine br (λq0=>?_) λq0=>?_
   ·have q0:k<t.width:=(by simpa [Tree.width] using q0);refine sL (dk q0) ?_;have eA2:=oi q0;have eP2:=oq q0;have tA:(bM<|t.kids.take k).length+(cP<|t.az k).length<=(bM t.kids).length:=oH q0;have tP:(bA<|t.kids.take k).length+(partsOf<|t.az k).length<=(bA t.kids).length:=oU q0;have hG:=mS (ih k q0 (gD cu q0) (Q++dM (bM<|t.kids.take k)) (bX P<|bA<|t.kids.take k) (by simp;omega) zo) [.row true<|aN t] (by simp[dd]) (by simp[dd,au,aq,bw _<|c7 _])<|xd (by simp[dd]);rw[gy,xE,<-jF,<-eA2,<-eP2] at hG;unfold dd at hG
    (refine .inr (.inr (.inr (.inl ⟨_,_,by simp[au,bg,fo,ao.under,aq],by simp[au,bg,fo,ao.under,aq],hG,?_⟩)));((conv=>whnf);repeat(refine⟨rfl,?_⟩;conv=>whnf)))
    refine sI ?_;refine⟨k+1,zo,zd,?_⟩;dsimp only
    (refine aR 6 zs rfl ?_ ?_<;>(repeat' (first|exact trivial|exact rfl|exact .refl _|refine And.intro ?_ ?_|(simp[aq,au,bg,-List.map_take,-List.map_drop];done))))
    all_goals first|exact bu _ (cM _)|exact aV _ (lr t)|exact aV _ (dX _)|skip
   have q0:k=t.width:=by have:¬k<t.width:=by simpa [Tree.width] using q0
                         omega
   subst q0;rw[show t.kids.take t.width=t.kids from eZ];exact⟨.refl _,ln _ _<|xh<|aT _⟩
  have k7:¬(t.kind=7\/t.kind=8\/t.kind=9):=by
   simp only[beq_eq_false_iff_ne] at k7 k8 k9;omega
  rw[ab k7,lW] at eP;rw[eP] at hP;rw[eA,eP];have lP:P.length+(bA t.kids).length<=1000:=hP;refine cJ [3,4] (λk:Nat=>[(5,aa k)]) (λk=>dd (Q++dM (bM<|t.kids.take k)) (bX P<|bA<|t.kids.take k)++[.row true<|aN t]) (λk=>k<=t.width) (λk=>t.width-k) 0 ?_;refine sW ?_;refine⟨zo,by exact sK,by simp[dd,dM,bM,bA,bX],?_⟩;rintro k hk;have lpk:=m9 (bA<|t.kids.take k) P;unfold dd;refine br (λq0=>?_) λq0=>?_
  ·have q0:k<t.width:=(by simpa [Tree.width] using q0);refine sL (dk q0) ?_;have eA2:=oi q0;have eP2:=oq q0;have tA:(bM<|t.kids.take k).length+(cP<|t.az k).length<=(bM t.kids).length:=oH q0;have tP:(bA<|t.kids.take k).length+(partsOf<|t.az k).length<=(bA t.kids).length:=oU q0;have hG:=mS (ih k q0 (gD cu q0) (Q++dM (bM<|t.kids.take k)) (bX P<|bA<|t.kids.take k) (by simp;omega) zo) [.row true<|aN t] (by simp[dd]) (by simp[dd,au,aq,bw _<|c7 _])<|xd (by simp[dd]);rw[gy,xE,<-jF,<-eA2,<-eP2] at hG;unfold dd at hG
   (refine .inr (.inr (.inr (.inl ⟨_,_,by simp[au,bg,fo,ao.under,aq],by simp[au,bg,fo,ao.under,aq],hG,?_⟩)));((conv=>whnf);repeat(refine⟨rfl,?_⟩;conv=>whnf)))
   refine sI ?_;refine⟨k+1,zo,zd,?_⟩;dsimp only
   (refine aR 6 zs rfl ?_ ?_<;>(repeat' (first|exact trivial|exact rfl|exact .refl _|refine And.intro ?_ ?_|(simp[aq,au,bg,-List.map_take,-List.map_drop];done))))
   all_goals first|exact bu _ (cM _)|exact aV _ (lr t)|exact aV _ (dX _)|skip
  have q0:k=t.width:=by have:¬k<t.width:=by simpa [Tree.width] using q0
                        omega
  subst q0;rw[show t.kids.take t.width=t.kids from eZ];exact⟨.refl _,ln _ _<|xh<|aT _⟩
def XV:PC:=.seq (SO [Lo 12 7,Bi 13 .lss 12<|cI 64]<|CX 13 0) (.seq (.block 1<|SO [Lo 16 3,q 17 (.jD (.func 239) [] [7]),Ca 18 237 [16,17]]<|If 18<|OP [qm 19 6,Lo 20 7,Ca 21 151 [K3,20],Bs 22 3 1 [21],Ap 23 3 40 19 22,qm 6 23]) (.seq (SO [Lo 24 7]<|OP [q 7 (.alloc [v0]),So 1 7 24])<|OP [Lo 14 7,Bi 15 .add 14 K1,So 1 7 15]))
def c152:PC:=SO [Bx 1 0,Mv 2 cN]<|SO [q 3 (.alloc [vN]),q 4 (.alloc [vN])]<|SO [q 5 (.alloc [(.nilFunc)])]<|SO [q 8 (.jD (.func 236) [] [3,4,5]),So 1 5 8] (.seq (.stop<|OP [Lo 9 5,LA 10 3 1,q 11 (.dN 9 [10])])<|SO [Mv 6 cN] (.seq (SO [q 7 (.alloc [v0]),So 1 7 K0] (.stop<|BL 0 XV))<|SO [qm 25 6,Lo 26 4,Ap 27 3 40 25 26,qm 2 27] .ret))
def elK(f:Tree)(k:Nat):List Tree:=dM<|fu (λn=>(cP f).contains (n:Int)) k
theorem Yp(k:Nat):elK f (k+1)=if (cP f).contains (k:Int)=true then elK f k++[l9 k] else elK f k:=by
 unfold elK;rw[zC];split<;>simp[dM]
theorem zxF(k:Nat):(elK f k).length<=k:=by rw[elK,Xv];exact rS _ _
theorem zws(n:Int):(dM A).any (λg=>g.num==n)=A.contains n:=by
 induction A with
 |nil=>rfl
 |cons a r ih =>
  rw[show dM (a::r)=l9 a::dM r from rfl,C6,ih,List.contains_cons]
  congr 1
  rw[show(l9 a).num=a from rfl,kb,gG,gG];exact eq_comm
theorem zkW(hw:f.wf bz)(fT:f.size<=60):ar ai 152 [aY f] (.aM 3<|b6<|elE f):=by
 have V0:=KZ f;have rq:=IV f;have BZ:=m9 (partsOf f) [];have hL:=zxE f hw [] [] (by simp;omega) (by simp;omega);rw[lW] at hL;refine dC (fJ 28 [.tmp 2] c152 Tryz.func152) zs (by simp[an,c7]) ?_ (by simp only[Pure];exact dX _);refine sR ?_;refine b8 (kS (iq 1 0 3 zs rfl rfl)<|iq 2 0 3 zs rfl rfl) ?_;refine sR ?_;have hE:elE f=elK f 64++bX [] (partsOf f):=rfl;have hK:=Yp f;have EE:=zxF f;have vG:=zws<|cP f;have hlT:(dM<|cP f).length<=60:=by simp;omega
 have Yi:=λn:Nat=>JF (dM<|cP f) zo (λg=>g.num==(n:Int)) 239 [.aB [aa n]] (by simp[an,Pure]) λa _=>zyM a n;rw[hE];generalize dM (cP f)=Q at *;generalize bX [] (partsOf f)=P at *
 have LI:cp ai 236 [aY f,.loc 1 0,.loc 2 0,.loc 3 0] [.row true<|aN f,.row true [.own 4 0 0 0],.row true [.own 5 0 0 0],.row true [.fn (.func 236) [] [.loc 1 0,.loc 2 0,.loc 3 0]],.vec true 0 3 [],.vec true 0 3 []] (.aI [])
   [.row true<|aN f,.row true [.own 4 Q.length 0 Q.length],.row true [.own 5 P.length 0 P.length],.row true [.fn (.func 236) [] [.loc 1 0,.loc 2 0,.loc 3 0]],.vec true Q.length 3<|b6 Q,.vec true P.length 3<|b6 P]:=by
  refine r9 hL [.row true<|aN f] [] rfl (by simp[dd,au,aq,bw _<|c7 _]) (xd<|by simp[dd]) (by simp[bP,D.aQ]) (by simp[D.aQ,bP]) ?_ ?_
  ·simp[dd,ao.aQ,bP,D.aQ,lz,b6]
  simp only[dd,fi,gm,ao.aQ,bP,D.aQ,bH,bU,Ri];rfl
 refine sA LI ?_;refine b8 (rZ (λi=>i==1||i==2||i==4||i==5||i==6) (env':=[(3,.aB [.aM 3<|b6 Q]),(4,.aB [.aM 3<|b6 P]),(6,ax),(7,.aB [aa 0])]) (H':=[.row true<|aN f,.row false [.aM 3<|b6 Q],.row false [.aM 3<|b6 P],.row true [.fn (.func 236) [] [.loc 1 0,.loc 2 0,.loc 3 0]],.vec false Q.length 3<|b6 Q,.vec false P.length 3<|b6 P,.row false [aa 0]]) ?_ ?_) ?_
 ·refine⟨gS.loc _ _ _ _ _ rfl rfl (.cons _ _ _ _ (.own _ _ _ _ _ _ _ _ rfl rfl ?_) (.refl _)),gS.loc _ _ _ _ _ rfl rfl (.cons _ _ _ _ (.own _ _ _ _ _ _ _ _ rfl rfl ?_) (.refl _)),.refl _,gS.loc _ _ _ _ _ rfl rfl (.refl _),trivial⟩
  ·exact aZ<|cx zs
  exact aZ<|cx zs
 ·refine⟨⟨.inl rfl,(λh=>by cases h),.refl _⟩,⟨.inr ⟨rfl,rfl⟩,λ_=>rfl,.cons _ _ _ _ (.own _ _ _ _ _ _ _ _ rfl rfl ?_) (.refl _)⟩,⟨.inr ⟨rfl,rfl⟩,λ_=>rfl,.cons _ _ _ _ (.own _ _ _ _ _ _ _ _ rfl rfl ?_) (.refl _)⟩,⟨.inl rfl,(λh=>by cases h),.refl _⟩,⟨.inr ⟨rfl,rfl⟩,λ_=>rfl,rfl,rfl,.refl _⟩,⟨.inr ⟨rfl,rfl⟩,λ_=>rfl,rfl,rfl,.refl _⟩,⟨.inr ⟨rfl,rfl⟩,λ_=>rfl,.refl _⟩,trivial⟩
  ·exact aZ<|cx zs
  exact aZ<|cx zs
 refine sR ?_;refine b8 (fL 6 3 zs rfl) ?_;refine cJ [3,4] (λk:Nat=>[(6,.own 7 (elK f k).length 0 (elK f k).length),(7,.aB [aa k])]) (λk=>[.row true<|aN f,.row false [.aM 3<|b6 Q],.row false [.aM 3<|b6 P],.row true [.fn (.func 236) [] [.loc 1 0,.loc 2 0,.loc 3 0]],.vec false Q.length 3<|b6 Q,.vec false P.length 3<|b6 P,.row false [aa 0],.vec true (elK f k).length 3<|b6<|elK f k]) (λk=>k<=64) (λk=>64-k) 0 ?_;refine eC ?_;rintro k hk;have Mm:=EE k;have WJ:=Yi k;have hka:=vG k;have sl:=hK k;refine br (λq0=>?_) λq0=>?_
 ·have q0:k<64:=sO;rw[hka] at WJ;refine sC WJ ?_;cases r:(cP f).contains (k:Int)
  ·rw[r,ab zc] at sl;refine bb ?_;refine⟨k+1,zo,zd,?_⟩;dsimp only;rw[sl];refine aR 8 zs rfl ⟨.refl _,by simp[aq],gS.loc _ _ _ _ _ rfl rfl (.refl _),by simp[aq,au],.refl _,by simp[aq,au,aV _<|dX _],.refl _,by simp[aq,au,aV _<|dX _],trivial⟩ ?_
   (repeat' (first|exact trivial|exact rfl|exact .refl _|refine And.intro ?_ ?_|(simp[aq,au,bg,-List.map_take,-List.map_drop];done)))
   all_goals first|exact bu _ (cM _)|exact aV _ (dX _)|exact Rg _ _|skip
  rw[r,ae rfl] at sl;refine sW ?_;refine sC (zsE 3 k) ?_;refine fA ?_;refine⟨k+1,zo,zd,?_⟩;dsimp only;rw[sl];rw[show(elK f k++[l9 k]).length=(elK f k).length+1 by simp];refine aR 8 zs rfl ⟨.refl _,by simp[aq],gS.loc _ _ _ _ _ rfl rfl (.refl _),by simp[aq,au],.refl _,by simp[aq,au,aV _<|dX _],.refl _,by simp[aq,au,aV _<|dX _],trivial⟩ ?_
  (repeat' (first|exact trivial|exact rfl|exact .refl _|refine And.intro ?_ ?_|(simp[aq,au,bg,-List.map_take,-List.map_drop];done)))
  all_goals first|exact bu _ (cM _)|exact aV _ (dX _)|exact Rg _ _|skip
 have q0:k=64:=by have:¬k<64:=sO
                  omega
 subst q0;simp only[bU] at BZ;refine⟨by unfold je;rw[qW];omega,?_⟩;refine sW ?_;refine .own _ _ _ _ _ _ _ _ rfl ?_;rw[show b6 (elK f 64++P)=b6 (elK f 64)++b6 P by simp[b6],cx (l:=b6<|elK f 64) zs];exact u5 zs
variable{k:Nat}{α:Type}
theorem zir{p:α->Bool}{a b:List α}(h:ee p a=(k:Int)):ee p (a++b)=(k:Int):=by
 obtain⟨j,e,hj,h1,h2⟩:=Gb (p:=p) (l:=a) zo;have:j=k:=zo;subst this;refine wK (k:=j) (by simp;omega) (by rw[List.getElem_append_left hj];exact h1) λi hi=>?_;rw[List.getElem_append_left zo];exact h2 i hi
theorem Yx{p:α->Bool}{a b:List α}(ha:∀x∈a,p x=false)(h:ee p b=(k:Int)):ee p (a++b)=((a.length+k:Nat):Int):=by
 obtain⟨j,e,hj,h1,h2⟩:=Gb (p:=p) (l:=b) zo;have:j=k:=zo;subst this;refine wK (k:=a.length+j) (by simp;omega) (by rw[List.getElem_append_right zo];simpa using h1) λi hi=>?_;by_cases q:i<a.length
 ·rw[List.getElem_append_left q];exact ha _<|ib q
 rw[List.getElem_append_right zo];exact h2 _ zo
theorem zvE(a b:Int):dR (l9 a) (l9 b)=(a==b):=by
 rw[kb,AA,gG];constructor
 ·intro h;have:(l9 a).num=(l9 b).num:=by rw[h]
  exact this
 rintro rfl;rfl
theorem zrv(A:ah):ee (dR<|l9 n) (dM A)=ee (λa=>n==a) A:=by
 unfold ee dM;rw[List.findIdx?_map,show dR (l9 n)∘l9=λa=>n==a from funext λa=>zvE n a]
theorem zy8{A:ah}(hT:Told A P g)(hw:g.wf bz)(hk:g.kind=3\/g.kind=7\/g.kind=8\/g.kind=9):ee (dR g) (dM A++P)=(uu A P g:Int)/\uu A P g<A.length+P.length:=by
 by_cases k3:g.kind=3
 ·obtain⟨k,h1,h2⟩:=O9<|hT.atom k3;have e:uu A P g=k:=(by unfold uu;rw[ae k3,h2];rfl);rw[e];refine⟨zir ?_,zo⟩;rw[P7 hw k3,zrv];exact h2
 obtain⟨k,h1,h2⟩:=Uc<|hT.part zo;have e:uu A P g=A.length+k:=by unfold uu;rw[ab k3,h2];rfl
 rw[e];refine⟨?_,zo⟩;rw[<-Xv A];refine Yx (λx hx=>?_) h2;obtain⟨a,_,rfl⟩:=dq.1 hx;rw[FJ];intro h;rw[AA] at h;exact k3<|h▸rfl
def fb(E:List Tree):D:=.aB [.aM 3<|b6 E]
def chD(E:List Tree):D:=.aB [.fn (.func 153) [] [fb E]]
@[simp] theorem mz(E:List Tree):Pure<|chD E:=by simp[chD,fb,Pure,an,dX]
theorem ztw(hf:Small f)(g:Tree):ar ai 155 [aY g,.aB<|aN f]<|aD<|dR f g:=by
 refine bL ?_;refine sC (Nh f g hf) ?_;exact .refl _
theorem zos(P:List Tree)(hf:A.length+P.length<=10)(g:Tree)(hs:Small g)(hT:Told A P g)(hw:g.wf bz)(hk:g.kind=3\/g.kind=7\/g.kind=8\/g.kind=9)(s:Nat) :
  ar ai 153 [aY g,aa s,fb<|dM A++P] (aD<|dJ A P s g):=by
 obtain⟨h1,h2⟩:=zy8 hT hw hk;refine dC fZ zs (by simp[an,Pure,fb,c7,dX]) ?_ (by simp[Pure]);have hi:=NC (dM A++P) (by simp;omega) (dR g) 155 [.aB<|aN g] (by simp[an,Pure,cM]) λa _=>ztw g hs a;rw[h1] at hi;have e:dJ A P s g=s.testBit (uu A P g):=rfl;rw[e,<-Ex s (uu A P g) zo];unfold fb;refine sR ?_;refine sN hi ?_;refine⟨zo,?_⟩;refine sW ?_;refine⟨zo,?_⟩;refine sW ?_;exact .refl _
def isF(E:List Tree)(m:Nat):D:=.fn (.func 156) [] [.loc m 0,chD E]
theorem zyu(P:List Tree)(hI:xD A P)(s:Nat):∀g:Tree,g.wf lY->Told A P g ->
  cp ai 156 [aY g,aa s,.loc 0 0,chD<|dM A++P] [.row true [isF (dM A++P) 0]] (aD<|eu (dJ A P s) g) [.row true [isF (dM A++P) 0]]:=by
 intro f
 induction f using Tree.ind with
 |h f ih =>
  intro cu hT;have hs:=uw f<|vq cu;have fT:=hs.width;have hK:=FR cu;have hE:=Vq (dJ A P s) f;have Bl:=λhk=>zos A P hI.few f hs hT (vq cu) hk s;have kT:=mz<|dM A++P;refine sy fZ zs zs ?_ trivial;have ha:∀j,j<f.width->(f.kids.map<|eu<|dJ A P s).getD j false=eu (dJ A P s) (f.az j):=λj hj=>TH _ hj
  have hR:∀j,(hj:j<f.width)->Br ai 156 [aY<|f.az j,aa s,.loc 0 0,chD<|dM A++P] [.row true [isF (dM A++P) 0],.row true<|aN f] (aD<|eu (dJ A P s)<|f.az j) [0]:=λj hj =>
   OM (ih j hj (gD cu hj)<|hT.az hj) [0] rfl zs (by simp[au,aq,bw _<|c7 _,bw _ kT]) (by simp[fo,ao.under,isF,au,aq,bw _ kT]) (by simp[bP,D.aQ,iT _ kT]) (by simp[D.aQ]) (λi o ho=>by
    match i,ho with
    |0,ho=>cases ho;simp[ao.aQ,isF,bP,D.aQ,iT _ kT]
    |i+1,ho=>simp at ho) 0 zs rfl zs zs
  have hbu:∀o∈[ao.row true [isF (dM A++P) 0]],o.under 1:=λo ho=>by rw[cB] at ho;subst ho;simp[ao.under,isF,au,aq,bw _ kT]
  have fin:∀{b:Bool},b=ti f.kind (dJ A P s f) (f.kids.map<|eu<|dJ A P s)->endD (aD<|eu (dJ A P s) f) [.row true [isF (dM A++P) 0]] (aD b) [.row true [isF (dM A++P) 0],.row true<|aN f]:=λh=>by
   rw[hE,h];exact⟨.refl _,ln [_] [_] hbu⟩
  unfold isF at *;refine sRS (λh1=>?_) λh1=>?_
  ·have h1:f.kind=1:=(by simpa using h1);refine fin ?_;rw[h1];rfl
  refine sS (λh2=>?_) λh2=>?_
  ·have h2:f.kind=2:=(by simpa using h2);rw[h2];refine fin ?_;rw[h2];rfl
  refine sS (λh4=>?_) λh4=>?_
  ·have h4:f.kind=4:=(by simpa using h4);have w0:0<f.width:=zo;have e0:=ha 0 w0;refine⟨zo,_,dk w0,?_⟩;refine sW ?_;refine sX (hR 0 w0) ?_;refine fin ?_;rw[h4,<-e0];rfl
  refine sS (λh5=>?_) λh5=>?_
  ·have h5:f.kind=5:=(by simpa using h5);have w0:0<f.width:=zo;have w1:1<f.width:=zo;have e0:=ha 0 w0;have e1:=ha 1 w1;have r0:=hR 0 w0;have r1:=hR 1 w1;rw[h5] at fin;unfold ti at fin;rw[<-e0] at r0;rw[<-e1] at r1;generalize (f.kids.map<|eu<|dJ A P s).getD 0 false=b0 at *;generalize (f.kids.map<|eu<|dJ A P s).getD 1 false=b1 at *;refine⟨zo,_,dk w0,?_⟩;refine sW ?_;refine sX r0 ?_;cases b0
   ·refine sW ?_;refine fin ?_;simp
   refine sW ?_;refine⟨zo,_,dk w1,?_⟩;refine sW ?_;refine sX r1 ?_;refine fin ?_;simp
  refine sS (λh6=>?_) λh6=>?_
  ·have h6:f.kind=6:=(by simpa using h6);have w0:0<f.width:=zo;have w1:1<f.width:=zo;have e0:=ha 0 w0;have e1:=ha 1 w1;have r0:=hR 0 w0;have r1:=hR 1 w1;rw[h6] at fin;unfold ti at fin;rw[<-e0] at r0;rw[<-e1] at r1;generalize (f.kids.map<|eu<|dJ A P s).getD 0 false=b0 at *;generalize (f.kids.map<|eu<|dJ A P s).getD 1 false=b1 at *;refine⟨zo,_,dk w0,?_⟩;refine sW ?_;refine sX r0 ?_;cases b0
   ·refine sW ?_;refine⟨zo,_,dk w1,?_⟩;refine sW ?_;refine sX r1 ?_;refine fin ?_;simp
   refine sW ?_;refine fin ?_;simp
  refine sS (λh8=>?_) λh8=>?_
  ·have h8:f.kind=8:=(by simpa using h8);have w0:0<f.width:=zo;have w1:1<f.width:=zo;have e0:=ha 0 w0;have e1:=ha 1 w1;have r0:=hR 0 w0;have r1:=hR 1 w1;rw[h8] at fin;unfold ti at fin;rw[<-e0] at r0;rw[<-e1] at r1;generalize (f.kids.map<|eu<|dJ A P s).getD 0 false=b0 at *;generalize (f.kids.map<|eu<|dJ A P s).getD 1 false=b1 at *;refine⟨zo,_,dk w1,?_⟩;refine sW ?_;refine sX r1 ?_;cases b1
   ·refine sW ?_;refine⟨zo,_,dk w0,?_⟩;refine sW ?_;refine sX r0 ?_;cases b0
    ·refine sW ?_;refine fin ?_;simp
    refine sW ?_;refine sC (Bl zo) ?_;refine fin ?_;simp
   refine sW ?_;refine fin ?_;simp
  refine sS (λh9=>?_) λh9=>?_
  ·have h9:f.kind=9:=(by simpa using h9);have w0:0<f.width:=zo;have w1:1<f.width:=zo;have e0:=ha 0 w0;have e1:=ha 1 w1;have r0:=hR 0 w0;have r1:=hR 1 w1;rw[h9] at fin;unfold ti at fin;rw[<-e0] at r0;rw[<-e1] at r1;generalize (f.kids.map<|eu<|dJ A P s).getD 0 false=b0 at *;generalize (f.kids.map<|eu<|dJ A P s).getD 1 false=b1 at *;refine⟨zo,_,dk w1,?_⟩;refine sW ?_;refine sX r1 ?_;cases b1
   ·refine sW ?_;refine fin ?_;simp
   refine sW ?_;refine⟨zo,_,dk w0,?_⟩;refine sW ?_;refine sX r0 ?_;cases b0
   ·refine sW ?_;refine sC (Bl zo) ?_;refine fin ?_;simp
   refine sW ?_;refine fin ?_;simp
  have h3:f.kind=3\/f.kind=7:=by
   simp only[beq_eq_false_iff_ne] at h1 h2 h4 h5 h6 h8 h9;omega
  refine sC (Bl zo) ?_;refine fin ?_;rcases h3 with h3|h3<;>rw[h3]<;>rfl
def nA{α:Type}(N:Nat)(T:Nat->List α)(k:Nat)(c:List α):List<|List α:=(List.range N).map λi=>if i<k then T i else if i=k then c else []
@[simp] theorem zus(N:Nat)(T:Nat->List α)(k:Nat)(c:List α):(nA N T k c).length=N:=by simp[nA]
theorem zwa{N:Nat}{T:Nat->List α}{c:List α}(h:k<N):(nA N T k c).getD k []=c:=by
 rw[aE,aJ<|by simpa using h];simp[nA]
theorem zvi{N:Nat}{T:Nat->List α}{c c':List α}(h:k<N):(nA N T k c).set k c'=nA N T k c':=by
 refine qC λi=>?_;rw[vo];by_cases e:k=i
 ·subst e;rw[ae rfl,ae<|by simpa using h,aJ<|by simpa using h];simp[nA]
 rw[ab e];by_cases hi:i<N
 ·rw[aJ<|by simpa using hi,aJ<|by simpa using hi];simp only[nA,D0,List.getElem_range]
  congr 1
  by_cases q:i<k
  ·rw[ae q,ae q]
  rw[ab q,ab q,ab λz=>e z.symm,ab λz=>e z.symm]
 rw[cY<|by simp;omega,cY<|by simp;omega]
theorem zq9{N:Nat}{T:Nat->List α}{c:List α}(hc:c=T k):nA N T k c=nA N T (k+1) []:=by
 subst hc;unfold nA;refine qY λi _=>?_;by_cases q:i<k
 ·rw[ae q,ae zo]
 rw[ab q];by_cases e:i=k
 ·subst e;rw[ae rfl,ae zo]
 rw[ab e,ab zo];split<;>rfl
theorem zrp(N:Nat)(T:Nat->List α):nA N T 0 []=List.replicate N []:=by
 refine qC λi=>?_;by_cases h:i<N
 ·rw[aJ<|by simpa using h,aJ<|by simpa using h];simp[nA]
 rw[cY<|by simp;omega,cY<|by simp;omega]
theorem zrI(N:Nat)(T:Nat->List α)(c:List α):nA N T N c=(List.range N).map T:=by
 unfold nA;exact qY λi hi=>ae<|fX.1 hi
def bN(A:ah)(P:List Tree):List Tree:=dM A++P
@[simp] theorem qS(P:List Tree):(bN A P).length=A.length+P.length:=by simp[bN]
variable{A:ah}
theorem JU(h:i<A.length):(bN A P).getD i default=l9 (A.getD i 0):=by
 unfold bN dM;rw[aE,fv<|by simpa using h,cU,aJ h,aE,aJ h];rfl
theorem OV(h:A.length<=i):(bN A P).getD i default=P.getD (i-A.length) default:=by
 unfold bN;rw[aE,gJ<|by simpa using h,aE];simp
theorem xD.el(hI:xD A P)(h:i<A.length+P.length):((bN A P).getD i default).wf lY/\Told A P ((bN A P).getD i default)/\(((bN A P).getD i default).kind=3↔i<A.length)/\(((bN A P).getD i default).kind=3\/((bN A P).getD i default).kind=7\/((bN A P).getD i default).kind=8\/((bN A P).getD i default).kind=9):=by
 by_cases q:i<A.length
 ·rw[JU q];have hr:=hI.atoms _<|dP q;have j8:=dP q;generalize A.getD i 0=n at *;refine⟨Hz ?_ zs,⟨?_,?_⟩,⟨λ_=>q,λ_=>rfl⟩,.inl rfl⟩
  ·unfold fq;have e1:(Tree.node 3 n []).kind=3:=rfl;have e2:(Tree.node 3 n []).num=n:=rfl;have e3:(Tree.node 3 n []).width=0:=rfl;rw[e1,e2,e3];simp[lY,bz];omega
  ·intro x hx;rw[show cP (l9 n)=[n] from by simp[l9,cv,cP,bM]] at hx;rw[cB] at hx;subst hx;exact j8
  intro x hx;rw[show partsOf (l9 n)=[] from by simp[l9,cv,partsOf,bA]] at hx;cases hx
 rw[OV zo];have hg:=Mb (P:=P) (k:=i-A.length) zo;obtain⟨h1,h2⟩:=hI.wf _ hg;exact⟨h1,hI.told _ hg,⟨λh3=>zo,λh3=>absurd h3 q⟩,.inr h2⟩
noncomputable def rk(A:ah)(P:List Tree)(s i:Nat):Bool:=eu (dJ A P s)<|s8<|(bN A P).getD i default
noncomputable def ij(A:ah)(P:List Tree)(s k:Nat):List Bool:=(List.range k).map<|rk A P s
variable(A:ah)
theorem zo4(P:List Tree)(s k:Nat):ij A P s (k+1)=ij A P s k++[rk A P s k]:=by simp[ij,qy]
@[simp] theorem XO(P:List Tree)(s k:Nat):(ij A P s k).length=k:=by simp[ij]
noncomputable def rOk(A:ah)(P:List Tree)(s t k:Nat):Bool:=(List.range k).all λi=>decide (i<A.length)||(rk A P t i==s.testBit i)
theorem KV(P:List Tree)(s t k:Nat):rOk A P s t (k+1)=(rOk A P s t k&&(decide (k<A.length)||(rk A P t k==s.testBit k))):=by
 unfold rOk;rw[qy,List.all_append];simp
variable{s:Nat}
theorem zxm(P:List Tree)(hs:s<2^(A.length+P.length)):rOk A P s t (A.length+P.length)=(qV A P t==s/2^A.length):=by
 rw[zuv A P s t hs];unfold rOk;rw[kb,ki,ki];have hk:∀i,rk A P t (A.length+i)=hK A P t i:=λi=>by unfold rk hK;rw[OV zo,Cz]
 constructor
 ·intro h i hi;have hi:=fX.1 hi;have:=h (A.length+i)<|fX.2 zo;rw[hk,gM<|show ¬A.length+i<A.length by omega,uW] at this;exact this
 intro h i hi;have hi:=fX.1 hi;by_cases q:i<A.length
 ·simp[q]
 have:=h (i-A.length)<|fX.2 zo;rw[<-hk,show A.length+(i-A.length)=i by omega] at this;rw[this];simp
variable{A:ah}
theorem Uu(h:rOk A P s t k=false)(hm:k<=m):rOk A P s t m=false:=by
 induction m with
 |zero=>rw[show k=0 by omega] at h;exact h
 |succ m ih =>
  by_cases e:k=m+1
  ·subst e;exact h
  rw[KV,ih zo,pt]
def oF(A:ah)(s:Nat)(is:Bool)(k:Nat):Int:=kN A s is<|min k A.length
variable{is:Bool}
theorem Hq(h:k<A.length):oF A s is (k+1)=if (s.testBit k==is)=true then jv .or .u64 (oF A s is k)<|2^(A.getD k 0).toNat else oF A s is k:=by
 unfold oF;rw[sq zo,sq zo];rfl
theorem I4(h:A.length<=k):oF A s is (k+1)=oF A s is k:=by
 unfold oF;rw[Nat.min_eq_right zo,Nat.min_eq_right zo]
theorem Ic:oF A s is (A.length+P.length)=kN A s is A.length:=by
 unfold oF;rw[Nat.min_eq_right zo]
noncomputable def iJ(A:ah)(P:List Tree)(k:Nat):aj:=nF A P (A.length+P.length)<|k-A.length
theorem zps(h:k<A.length):iJ A P (k+1)=iJ A P k:=by
 unfold iJ;rw[show k+1-A.length=0 by omega,show k-A.length=0 by omega]
theorem zoM(h:A.length<=k)(hk:k<A.length+P.length):iJ A P (k+1)=if ((bN A P).getD k default).kind=7 then iJ A P k else iJ A P k++[yi A P (A.length+P.length)<|(bN A P).getD k default]:=by
 unfold iJ;rw[show k+1-A.length=k-A.length+1 by omega,Va A P _<|show k-A.length<P.length by omega,OV h]
variable(A:ah)
theorem Zm(P:List Tree)(k:Nat):(iJ A P k).length<=k:=iv (HM ..)<|Nat.sub_le ..
def kX(b:Bool):bh:=[aD b]
@[simp] theorem Vj(b:Bool):au m<|kX b:=by simp[kX,au,aq]
@[simp] theorem qO(L:List<|List Bool):fc<|L.map λl=>[D.aM 1<|l.map kX]:=db _ (λl=>by simp only[an,Pure,and_true];exact db _ (λb=>by simp[kX,an,Pure]) l) L
noncomputable def nxR(A:ah)(P:List Tree)(s k:Nat):ah:=fu (λt=>rOk A P s t<|A.length+P.length) k
theorem TV(P:List Tree)(s k:Nat):nxR A P s (k+1)=if rOk A P s k (A.length+P.length)=true then nxR A P s k++[(k:Int)] else nxR A P s k:=zC _ _
theorem SY(P:List Tree)(s k:Nat):(nxR A P s k).length<=k:=rS _ _
variable{A:ah}
theorem zwX(hs:s<2^(A.length+P.length)):nxR A P s (2^(A.length+P.length))=vJ A P (A.length+P.length) s:=by
 unfold nxR vJ
 congr 1
 funext t;exact zxm A P hs
theorem Sq{N n z:Nat}(hz:z=t)(ht:t<N):(((List.range N).map λs=>ij A P s n).map λl=>[D.aM 1<|l.map kX])[z]? = some [D.aM 1<|(ij A P t n).map kX]:=by
 subst hz;rw[cU,cU,qI ht];rfl
theorem T3{n z:Nat}(hz:z=i)(hi:i<n):((ij A P t n).map kX)[z]? = some [aD<|rk A P t i]:=by
 subst hz;unfold ij;rw[cU,cU,qI hi];rfl
def zAz:PC:=.seq (SO [qm 35 9,Lo 36 4,Ln 37 36,Bi 38 .lss 35 37]<|CX 38 0) (.seq (.block 1<|OP [qm 41 8,Bi 42 .mul 41 K2,qm 8 42])<|OP [qm 39 9,Bi 40 .add 39 K1,qm 9 40])
def zAh:PC:=.seq (SO [qm 50 12,Lo 51 4,Ln 52 51,Bi 53 .lss 50 52]<|CX 53 4) (.seq (.block 5<|SO [Lo 56 4,qm 57 12,Ia 58 3 56 57,LA 59 3 58,q 13 (.alloc [v0,v0,vN]),So 3 13 59] (.seq (SO [Fa 60 0 13,Lo 61 60,Bi 62 .eql 61 K7]<|If 62<|OP [Fa 63 2 13,Lo 64 63,Ia 65 3 64 K0,LA 66 3 65,So 3 13 66]) (.ops [qm 67 10,qm 68 11,qm 69 10,qm 70 11,Ja 71 1 69 70 12,Ld 72 71 28,Lo 73 6,LA 74 3 13,qm 75 11,qd 76 (.dN 73 [74,75]) 448,qd 77 (.oP 1 1 [76]) 960,qd 78 (.append 1 1 72 77) 2044,Ja 79 1 67 68 4095,qk (.store 1 79 78) 8191] true)))<|OP [qm 54 12,Bi 55 .add 54 K1,qm 12 55])
def zBf:PC:=.seq (SO [qm 45 11,qm 46 8,Bi 47 .lss 45 46]<|CX 47 2) (.seq (.block 3<|SO [Mv 12 K0]<|BL 4 zAh)<|OP [qm 48 11,Bi 49 .add 48 K1,qm 11 49])
def zAO:PC:=.seq (SO [qm 100 18,Lo 101 4,Ln 102 101,Bi 103 .lss 100 102,qm 104 103,GT 105 104 (.move 17),Pk 106 104 105 cF]<|CX 106 10) (.seq (.block 11 (.ops [Lo 109 4,qm 110 18,Ja 111 3 109 110 3,Fd 112 0 111 7,Ld 113 112 15,Bd 114 .eql 113 K3 31,qw 115 114 63,⟨some 116,.move 10,some (115,false),127⟩,⟨some 117,.move 16,some (115,false),127⟩,⟨some 118,.gZ 1 116 117,some (115,false),511⟩,⟨some 119,.cg 118,some (115,false),1023⟩,⟨some 120,.move 18,some (115,false),127⟩,⟨some 121,.gZ 1 119 120,some (115,false),4095⟩,⟨some 122,.cg 121,some (115,false),8191⟩,⟨some 123,.move 14,some (115,false),127⟩,⟨some 124,.move 18,some (115,false),127⟩,⟨some 125,.bin .shr 123 124,some (115,false),49279⟩,⟨some 126,.bin .rem 125 K2,some (115,false),114815⟩,⟨some 127,.bin .eql 126 K1,some (115,false),245887⟩,⟨some 128,.eqb false 122 127,some (115,false),524287⟩,qd 129 (.pick 115 cT 128) 1048575,qw 17 129 2097151] true))<|OP [qm 107 18,Bi 108 .add 107 K1,qm 18 108])
def zAf:PC:=.seq (SO [qm 95 16,qm 96 8,Bi 97 .lss 95 96]<|CX 97 8) (.seq (.block 9<|SO [Mv 17 cT] (.seq (SO [Mv 18 K0]<|BL 10 zAO)<|SO [qm 130 17]<|If 130<|OP [qm 131 15,qm 132 16,Bs 133 1 1 [132],Ap 134 1 8 131 133,qm 15 134]))<|OP [qm 98 16,Bi 99 .add 98 K1,qm 16 99])
def zAx:PC:=.seq (SO [qm 141 21,Lo 142 4,Ln 143 142,Bi 144 .lss 141 143]<|CX 144 12) (.seq (.block 13<|SO [Lo 147 4,qm 148 21,Ia 149 3 147 148,Fa 150 0 149,Lo 151 150,Bi 152 .eql 151 K3,qm 153 152,GT 154 153 (.move 14),GT 155 153 (.move 21),GT 156 153 (.bin .shr 154 155),GT 157 153 (.bin .rem 156 K2),GT 158 153 (.bin .eql 157 K1),Pk 159 153 158 cF] (.cond 159 (OP [qm 160 19,Lo 161 4,qm 162 21,Ia 163 3 161 162,Fa 164 1 163,Lo 165 164,q 166 (.bin .shl (.const (.int .u64 1)) 165),Bi 167 .or 160 166,qm 19 167])<|SO [Lo 168 4,qm 169 21,Ia 170 3 168 169,Fa 171 0 170,Lo 172 171,Bi 173 .eql 172 K3]<|If 173<|OP [qm 174 20,Lo 175 4,qm 176 21,Ia 177 3 175 176,Fa 178 1 177,Lo 179 178,q 180 (.bin .shl (.const (.int .u64 1)) 179),Bi 181 .or 174 180,qm 20 181]))<|OP [qm 145 21,Bi 146 .add 145 K1,qm 21 146])
def zA7:PC:=.seq (SO [qm 80 14,qm 81 8,Bi 82 .lss 80 81]<|CX 82 6) (.seq (.block 7 (.seq (SO [Lo 85 6,LA 86 3 1,qm 87 14,q 88 (.dN 85 [86,87])]<|If 88<|OP [Fa 89 0 7,Lo 90 89,qm 91 14,Bs 92 1 1 [91],Ap 93 1 8 90 92,Fa 94 0 7,So 1 94 93])<|SO [Mv 15 cN] (.seq (SO [Mv 16 K0]<|BL 8 zAf)<|SO [Fa 135 1 7,Lo 136 135,qm 137 15,Bs 138 1 1 [137],Ap 139 1 24 136 138,Fa 140 1 7,So 1 140 139]<|SO [q 19 (.move (.const (.int .u64 0))),q 20 (.move (.const (.int .u64 0)))] (.seq (SO [Mv 21 K0]<|BL 12 zAx)<|SO [Fa 182 2 7,Lo 183 182,qm 184 19,Bs 185 1 1 [184],Ap 186 1 8 183 185,Fa 187 2 7,So 1 187 186]<|OP [Fa 188 3 7,Lo 189 188,qm 190 20,Bs 191 1 1 [190],Ap 192 1 8 189 191,Fa 193 3 7,So 1 193 192]))))<|OP [qm 83 14,Bi 84 .add 83 K1,qm 14 84])
def Y1:PC:=.seq (SO [qm 200 24,qm 201 8,Bi 202 .lss 200 201]<|CX 202 16) (.seq (.block 17 (.seq (.ops [Lo 205 4,qm 206 22,Ja 207 3 205 206 3,Fd 208 0 207 7,Ld 209 208 15,Bd 210 .eql 209 K8 31,qw 211 210 63,⟨some 212,.cg 6,some (211,true),127⟩,⟨some 213,.cg 4,some (211,true),127⟩,⟨some 214,.move 22,some (211,true),127⟩,⟨some 215,.gZ 3 213 214,some (211,true),895⟩,⟨some 216,.mF 3 215,some (211,true),1919⟩,⟨some 217,.move 24,some (211,true),127⟩,⟨some 218,.dN 212 [216,217],some (211,true),8191⟩,⟨some 219,.un .not 218,some (211,true),16383⟩,⟨some 220,.move 219,some (211,true),32767⟩,⟨some 221,.cg 6,some (220,false),65535⟩,⟨some 222,.cg 4,some (220,false),65535⟩,⟨some 223,.move 22,some (220,false),65535⟩,⟨some 224,.gZ 3 222 223,some (220,false),458751⟩,⟨some 225,.dO 2 224,some (220,false),983039⟩,⟨some 226,.cg 225,some (220,false),2031615⟩,⟨some 227,.gZ 3 226 K1,some (220,false),4128767⟩,⟨some 228,.mF 3 227,some (220,false),8323071⟩,⟨some 229,.move 24,some (220,false),65535⟩,⟨some 230,.dN 221 [228,229],some (220,false),33554431⟩,⟨some 231,.pick 220 cT 230,some (211,true),67108863⟩,qd 232 (.pick 211 231 cF) 134217727,qw 233 232 268435455,⟨some 234,.cg 4,some (233,false),536870911⟩,⟨some 235,.move 22,some (233,false),536870911⟩,⟨some 236,.gZ 3 234 235,some (233,false),2147483647⟩,⟨some 237,.dO 0 236,some (233,false),4294967295⟩,⟨some 238,.cg 237,some (233,false),8589934591⟩,⟨some 239,.bin .eql 238 K9,some (233,false),17179869183⟩,⟨some 240,.move 239,some (233,false),34359738367⟩,⟨some 241,.cg 6,some (240,true),68719476735⟩,⟨some 242,.cg 4,some (240,true),68719476735⟩,⟨some 243,.move 22,some (240,true),68719476735⟩,⟨some 244,.gZ 3 242 243,some (240,true),481036337151⟩,⟨some 245,.mF 3 244,some (240,true),1030792151039⟩,⟨some 246,.move 24,some (240,true),68719476735⟩,⟨some 247,.dN 241 [245,246],some (240,true),4398046511103⟩,⟨some 248,.move 247,some (240,true),8796093022207⟩,⟨some 249,.cg 6,some (248,false),17592186044415⟩,⟨some 250,.cg 4,some (248,false),17592186044415⟩,⟨some 251,.move 22,some (248,false),17592186044415⟩,⟨some 252,.gZ 3 250 251,some (248,false),123145302310911⟩,⟨some 253,.dO 2 252,some (248,false),263882790666239⟩,⟨some 254,.cg 253,some (248,false),545357767376895⟩,⟨some 255,.gZ 3 254 K1,some (248,false),1108307720798207⟩,⟨some 256,.mF 3 255,some (248,false),2234207627640831⟩,⟨some 257,.move 24,some (248,false),17592186044415⟩,⟨some 258,.dN 249 [256,257],some (248,false),9007199254740991⟩,⟨some 259,.un .not 258,some (248,false),18014398509481983⟩,⟨some 260,.pick 248 cT 259,some (240,true),36028797018963967⟩,⟨some 261,.pick 240 260 cF,some (233,false),72057594037927935⟩,qd 262 (.pick 233 cT 261) 144115188075855871] true)<|If 262<|OP [qm 263 23,qm 264 24,Bs 265 1 1 [264],Ap 266 1 8 263 265,qm 23 266]))<|OP [qm 203 24,Bi 204 .add 203 K1,qm 24 204])
def Z3:PC:=.seq (SO [qm 194 22,Lo 195 4,Ln 196 195,Bi 197 .lss 194 196]<|CX 197 14) (.seq (.block 15<|SO [Mv 23 cN] (.seq (SO [Mv 24 K0]<|BL 16 Y1)<|SO [Lo 267 4,qm 268 22,Ia 269 3 267 268,Fa 270 0 269,Lo 271 270,Bi 272 .eql 271 K8,qm 273 272,GF 274 273 (.cg 4),GF 275 273 (.move 22),GF 276 273 (.gZ 3 274 275),GF 277 273 (.dO 0 276),GF 278 273 (.cg 277),GF 279 273 (.bin .eql 278 K9),Pk 280 273 cT 279]<|If 280<|OP [Fa 281 4 7,Lo 282 281,qm 283 23,Bs 284 1 1 [283],Ap 285 1 24 282 284,Fa 286 4 7,So 1 286 285]))<|OP [qm 198 22,Bi 199 .add 198 K1,qm 22 199])
def c80:PC:=SO [Bx 1 0,q 2 (.alloc [vN,vN,vN,vN,vN]),Mv 3 K0]<|SO [LA 25 3 1,Ca 26 79 [25],So 3 1 26]<|SO [LA 27 3 1,Ca 28 152 [27],q 4 (.alloc [vN]),So 1 4 28] (.seq (SO [Lo 29 4,Ln 30 29,Bi 31 .gtr 30<|cI 10]<|If 31<|SO [q 32 (.build [vN,vN,vN,vN,vN] []),So 5 2 32,Mv 3 K2] .ret)<|SO [q 33 (.jD (.func 153) [] [4]),q 5 (.alloc [(.nilFunc)]),So 1 5 33]<|SO [q 6 (.alloc [(.nilFunc)])]<|SO [q 34 (.jD (.func 156) [] [6,5]),So 1 6 34]<|SO [q 7 (.alloc [vN,vN,vN,vN,vN])]<|SO [Mv 8 K1] (.seq (SO [Mv 9 K0] (.stop<|BL 0 zAz))<|SO [qm 43 8,q 44 (.sM 1 24 [vN] 43 43),qm 10 44] (.seq (SO [Mv 11 K0] (.stop<|BL 2 zBf)) (.seq (SO [Mv 14 K0] (.stop<|BL 6 zA7)) (.seq (SO [Mv 22 K0] (.stop<|BL 14 Z3))<|SO [LA 287 5 7,So 5 2 287,Mv 3 K0] .ret)))))
variable(t:Tree)
set_option maxHeartbeats 1000000 in
theorem zl8(SE:t.wf bz)(w8:aS bz (de t)=0):ar ai 80 [aY t]<|yE<|de t:=by
 have CB:=L4 t SE;have Fj:Pure<|yE<|de t:=by
  unfold yE;dsimp only;split<;>simp[Pure,an,Db]
 have D7:=RW t SE;refine dC (fJ 288 [.agg 2 5,.tmp 3] c80 Tryz.func80) zs (by simp[an,c7]) ?_ Fj;refine sR ?_;refine sC CB ?_;have xB:=((qM _ _).1 w8).2.2;have fT:=((qM _ _).1 w8).1;clear Fj CB w8;generalize de t=f at *;have VJ:=zkW f xB fT;have hT:=QX D7;have Ov:=KF xB;have V0:=IV f;have FZ:=rS (λn=>(cP f).contains (n:Int)) 64;have BZ:=m9 (partsOf f) [];change (m6<|cP f).length<=64 at FZ;unfold yE;dsimp only;have FI:elE f=bN (m6<|cP f) (bX []<|partsOf f):=rfl;rw[FI] at VJ;generalize CI:m6 (cP f)=A at *;generalize iP:bX [] (partsOf f)=P at *;simp only[bU] at BZ;refine sC VJ ?_;rw[qW,qS];refine sS (λfh=>?_) λfh=>?_
 ·have fh:10<A.length+P.length:=sO;rw[ae fh];exact sP
 have fh:¬10<A.length+P.length:=sO;rw[ab fh];have hI:=hT zo;have zG:=AJ (n:=A.length+P.length) zo;refine b8 (rZ (λi=>i==2||i==3) (env':=[(1,.loc 0 0),(2,.loc 1 0),(4,fb<|bN A P),(6,.loc 4 0),(7,.loc 5 0),(8,aa 1),(9,aa 0)]) (H':=[.row true<|aN f,.row true [ax,ax,ax,ax,ax],.row false [.aM 3<|b6<|bN A P],.row false [.fn (.func 153) [] [fb<|bN A P]],.row true [isF (bN A P) 4],.row true [ax,ax,ax,ax,ax]]) ?_ ?_) ?_
 ·exact⟨.refl _,.refl _,gS.loc _ _ _ _ _ rfl rfl (.refl _),.refl _,.refl _,.refl _,.refl _,trivial⟩
 ·exact⟨⟨.inl rfl,(λh=>by cases h),.refl _⟩,⟨.inl rfl,(λh=>by cases h),.refl _⟩,⟨.inr ⟨rfl,rfl⟩,λ_=>rfl,.refl _⟩,⟨.inr ⟨rfl,rfl⟩,λ_=>rfl,.cons _ _ _ _ (.fn _ _ _ _ _ (.refl _) (.cons _ _ _ _ (gS.loc _ _ _ _ _ rfl rfl (.refl _)) (.refl _))) (.refl _)⟩,
   ⟨.inl rfl,(λh=>by cases h),.cons _ _ _ _ (.fn _ _ _ _ _ (.refl _) (.cons _ _ _ _ (.refl _) (.cons _ _ _ _ (gS.loc _ _ _ _ _ rfl rfl (.cons _ _ _ _ (.fn _ _ _ _ _ (.refl _) (.cons _ _ _ _ (gS.loc _ _ _ _ _ rfl rfl (.refl _)) (.refl _))) (.refl _))) (.refl _)))) (.refl _)⟩,⟨.inl rfl,(λh=>by cases h),.refl _⟩,trivial⟩
 have kT:=mz<|bN A P;have uG:(A.length+P.length:Nat)<=10:=zo;have lO:=zyu A P hI;generalize nD:A.length+P.length=n at *;refine px (λ_:Unit=>[(1,.loc 0 0),(2,.loc 1 0),(4,fb<|bN A P),(6,.loc 4 0),(7,.loc 5 0),(8,aa ((2^n:Nat):Int))]) (λ_=>[.row true<|aN f,.row true [ax,ax,ax,ax,ax],.row false [.aM 3<|b6<|bN A P],.row false [.fn (.func 153) [] [fb<|bN A P]],.row true [isF (bN A P) 4],.row true [ax,ax,ax,ax,ax]]) (λ_=>True) ?_ ?_
 ·refine sR ?_;refine cJ [1,2,4,6,7] (λk:Nat=>[(8,aa ((2^k:Nat):Int)),(9,aa k)]) (λk=>[.row true<|aN f,.row true [ax,ax,ax,ax,ax],.row false [.aM 3<|b6<|bN A P],.row false [.fn (.func 153) [] [fb<|bN A P]],.row true [isF (bN A P) 4],.row true [ax,ax,ax,ax,ax]]) (λk=>k<=n) (λk=>n-k) 0 ?_;refine eC ?_;rintro k hk;refine c6 ?_;unfold fb;refine sW ?_;rw[qW,qS,nD];refine sS (λq0=>?_) λq0=>?_
  ·have q0:k<n:=sO;have e:((2^k:Nat):Int)*2=((2^(k+1):Nat):Int):=(by rw[Nat.pow_succ,Eo];rfl);have hb:=AJ (n:=k+1) zo;rw[e];generalize hz:2^(k+1)=z at *;refine sI ?_;refine sI ?_;refine⟨k+1,zo,zd,aL ?_ rfl⟩;dsimp only;rw[hz];exact sK
  have q0:k=n:=by have:¬k<n:=sO
                  omega
  subst q0;exact⟨(),trivial,aL (by exact sK) rfl⟩
 intro _ _;refine sW ?_;generalize uY:2^n=N at *;refine⟨zo,zo,zo,?_⟩;rw[bQ];refine sW ?_
 have Av:∀(g:Tree) (hw:g.wf lY) (hT:Told A P g) (s:Nat) (H:aF),H[4]? = some (.row true [isF (bN A P) 4])->Br ai 156 [aY g,aa s,.loc 4 0,chD<|bN A P] H (aD<|eu (dJ A P s) g) [4]:=λg hw hT s H hH =>
  OM (lO s g hw hT) [4] rfl zs (by simp[au,aq,bw _<|c7 _,bw _<|mz _]) (by simp[fo,ao.under,isF,au,aq,bw _<|mz _]) (by simp[bP,D.aQ,iT _<|mz _];rfl) (by simp[D.aQ]) (λi o ho=>by
   match i,ho with
   |0,ho=>cases ho;rw[show([4]:List Nat).getD 0 0=4 from rfl,hH];simp[ao.aQ,isF,bP,D.aQ,iT _<|mz _];rfl
   |i+1,ho=>simp at ho) 4 zs hH zs zs
 have C5:=λi (hi:i<A.length+P.length)=>hI.el hi;refine px (λ_:Unit=>[(1,.loc 0 0),(2,.loc 1 0),(4,fb<|bN A P),(6,.loc 4 0),(7,.loc 5 0),(8,aa N),(10,.own 6 0 0 N)]) (λ_=>[.row true<|aN f,.row true [ax,ax,ax,ax,ax],.row false [.aM 3<|b6<|bN A P],.row false [.fn (.func 153) [] [fb<|bN A P]],.row true [isF (bN A P) 4],.row true [ax,ax,ax,ax,ax],.vec true 0 1<|((List.range N).map λs=>ij A P s n).map λl=>[.aM 1<|l.map kX]]) (λ_=>True) ?_ ?_
 ·refine sR ?_;refine b8 (Bp 6 1 N 0 zs rfl) ?_;refine cJ [1,2,4,6,7,8,10] (λs:Nat=>[(11,aa s)]) (λs=>.row true (aN f)::.row true [ax,ax,ax,ax,ax]::.row false [.aM 3<|b6<|bN A P]::.row false [.fn (.func 153) [] [fb<|bN A P]]::.row true [isF (bN A P) 4]::.row true [ax,ax,ax,ax,ax]::.vec true 0 1 (jZ 7<|nA N (λs=>ij A P s n) s [])::fO 1 kX (nA N (λs=>ij A P s n) s [])) (λs=>s<=N) (λs=>N-s) 0 ?_;refine sW ?_;refine⟨zo,by exact sK,?_,?_⟩
  ·rw[zrp];show _::_::_::_::_::_::_::_=_::_::_::_::_::_::_::_;rw[A9 1 _ kX];exact bJ (λx=>_::_::_::_::_::_::ao.vec true 0 1 x::_)<|Bn (α:=Bool) 7 _
  rintro s hs;refine br (λq0=>?_) λq0=>?_
  ·have q0:s<N:=sO;refine cJ [1,2,4,6,7,8,10,11] (λi:Nat=>[(12,aa i)]) (λi=>.row true (aN f)::.row true [ax,ax,ax,ax,ax]::.row false [.aM 3<|b6<|bN A P]::.row false [.fn (.func 153) [] [fb<|bN A P]]::.row true [isF (bN A P) 4]::.row true [ax,ax,ax,ax,ax]::.vec true 0 1 (jZ 7<|nA N (λs=>ij A P s n) s<|ij A P s i)::fO 1 kX (nA N (λs=>ij A P s n) s<|ij A P s i)) (λi=>i<=n) (λi=>n-i) 0 ?_;refine eC ?_;rintro i hi;unfold fb;refine c6 ?_;rw[qW,qS,nD];refine sS (λq1=>?_) λq1=>?_
   ·have q1:i<n:=sO;refine sL (yF (k:=i) zo<|by rw[qS];omega) ?_;refine yq ?_;refine sW ?_
    (repeat (first|(refine gL 0 rfl ?_;((conv=>whnf);repeat(refine⟨rfl,?_⟩;conv=>whnf)))|(refine gN 0 rfl ?_;((conv=>whnf);repeat(refine⟨rfl,?_⟩;conv=>whnf)))|(refine gL 1 rfl ?_;((conv=>whnf);repeat(refine⟨rfl,?_⟩;conv=>whnf)))|(refine gN 1 rfl ?_;((conv=>whnf);repeat(refine⟨rfl,?_⟩;conv=>whnf)))))
    obtain⟨wx,Bk,-,X7⟩:=C5 i zo;have GX:rk A P s i=eu (dJ A P s) (s8<|(bN A P).getD i default):=rfl;have lJ:=zvi (N:=N) (T:=λs=>ij A P s n) (c:=ij A P s i) (c':=ij A P s<|i+1) q0;have gb:=zwa (N:=N) (T:=λs=>ij A P s n) (c:=ij A P s i) q0;have hlen:=zus N (λs=>ij A P s n) s<|ij A P s i;have En:=zo4 A P s i;have uT:=XO A P s i;rw[En] at lJ;generalize rk A P s i=b at *;generalize ij A P s i=C at *;generalize (bN A P).getD i default=g at *;generalize nA N (λs=>ij A P s n) s C=R at *;refine sS (λg7=>?_) λg7=>?_
    ·have g7:g.kind=7:=(by simpa using g7);have w0:0<g.width:=pZ (vq wx) zo;have MK:=gD wx w0;have OO:=Bk.az w0;rw[show s8 g=g.az 0 from ae g7] at GX
     (repeat (first|(refine gL 0 rfl ?_;((conv=>whnf);repeat(refine⟨rfl,?_⟩;conv=>whnf)))|(refine gN 0 rfl ?_;((conv=>whnf);repeat(refine⟨rfl,?_⟩;conv=>whnf)))|(refine gL 1 rfl ?_;((conv=>whnf);repeat(refine⟨rfl,?_⟩;conv=>whnf)))|(refine gN 1 rfl ?_;((conv=>whnf);repeat(refine⟨rfl,?_⟩;conv=>whnf)))))
     refine sL (dk w0) ?_
     (repeat (first|(refine gL 0 rfl ?_;((conv=>whnf);repeat(refine⟨rfl,?_⟩;conv=>whnf)))|(refine gN 0 rfl ?_;((conv=>whnf);repeat(refine⟨rfl,?_⟩;conv=>whnf)))|(refine gL 1 rfl ?_;((conv=>whnf);repeat(refine⟨rfl,?_⟩;conv=>whnf)))|(refine gN 1 rfl ?_;((conv=>whnf);repeat(refine⟨rfl,?_⟩;conv=>whnf)))))
     refine sB ?_;refine⟨_,mh (i:=s) zo<|by rw[hlen];omega,?_⟩;refine sW ?_
     (repeat (first|(refine gL 0 rfl ?_;((conv=>whnf);repeat(refine⟨rfl,?_⟩;conv=>whnf)))|(refine gN 0 rfl ?_;((conv=>whnf);repeat(refine⟨rfl,?_⟩;conv=>whnf)))|(refine gL 1 rfl ?_;((conv=>whnf);repeat(refine⟨rfl,?_⟩;conv=>whnf)))|(refine gN 1 rfl ?_;((conv=>whnf);repeat(refine⟨rfl,?_⟩;conv=>whnf)))))
     refine sX (Av _ MK OO s _ rfl) ?_;rw[<-GX];refine M8 ?_;refine sW ?_
     (repeat (first|(refine gL 0 rfl ?_;((conv=>whnf);repeat(refine⟨rfl,?_⟩;conv=>whnf)))|(refine gN 0 rfl ?_;((conv=>whnf);repeat(refine⟨rfl,?_⟩;conv=>whnf)))|(refine gL 1 rfl ?_;((conv=>whnf);repeat(refine⟨rfl,?_⟩;conv=>whnf)))|(refine gN 1 rfl ?_;((conv=>whnf);repeat(refine⟨rfl,?_⟩;conv=>whnf)))))
     refine wN zo ?_;refine sW ?_;rw[gb];refine⟨by unfold je;simp only[lL,gA,bH,bU];omega,?_⟩;refine sW ?_;refine yp (C++[b]) zo ?_ ?_
     ·exact x9
     refine bE ?_;refine⟨_,mh (i:=s) zo zo,?_⟩;refine bb ?_;refine⟨i+1,zo,zd,?_⟩;dsimp only;rw[En,<-lJ];have yP:(R.set s<|C++[b]).length=N:=(by rw[tD,hlen]);refine aR (N+7) zs (by simp[yP]) (by exact sQ) ⟨⟨rfl,.refl _,bu _<|cM _⟩,⟨rfl,.refl _,by simp[au,aq]⟩,⟨rfl,.refl _,by simp[au,aq]⟩,⟨rfl,.refl _,by simp[au,aq,fb]⟩,⟨rfl,.refl _,by simp[au,aq,isF,bw _<|mz _]⟩,⟨rfl,.refl _,by simp[au,aq]⟩,⟨rfl,rfl,rfl,aZ ?_,xz<|by rw[tD];omega⟩,wL Vj⟩;exact(xr zo zo (C++[b]) zs)
    have g7:¬g.kind=7:=(by simpa using g7);have MK:=wx;have OO:=Bk;rw[show s8 g=g from ab g7] at GX;refine sB ?_;refine⟨_,mh (i:=s) zo<|by rw[hlen];omega,?_⟩;refine sW ?_
    (repeat (first|(refine gL 0 rfl ?_;((conv=>whnf);repeat(refine⟨rfl,?_⟩;conv=>whnf)))|(refine gN 0 rfl ?_;((conv=>whnf);repeat(refine⟨rfl,?_⟩;conv=>whnf)))|(refine gL 1 rfl ?_;((conv=>whnf);repeat(refine⟨rfl,?_⟩;conv=>whnf)))|(refine gN 1 rfl ?_;((conv=>whnf);repeat(refine⟨rfl,?_⟩;conv=>whnf)))))
    refine sX (Av _ MK OO s _ rfl) ?_;rw[<-GX];refine M8 ?_;refine sW ?_
    (repeat (first|(refine gL 0 rfl ?_;((conv=>whnf);repeat(refine⟨rfl,?_⟩;conv=>whnf)))|(refine gN 0 rfl ?_;((conv=>whnf);repeat(refine⟨rfl,?_⟩;conv=>whnf)))|(refine gL 1 rfl ?_;((conv=>whnf);repeat(refine⟨rfl,?_⟩;conv=>whnf)))|(refine gN 1 rfl ?_;((conv=>whnf);repeat(refine⟨rfl,?_⟩;conv=>whnf)))))
    refine wN zo ?_;refine sW ?_;rw[gb];refine⟨by unfold je;simp only[lL,gA,bH,bU];omega,?_⟩;refine sW ?_;refine yp (C++[b]) zo ?_ ?_
    ·exact x9
    refine bE ?_;refine⟨_,mh (i:=s) zo zo,?_⟩;refine bb ?_;refine⟨i+1,zo,zd,?_⟩;dsimp only;rw[En,<-lJ];have yP:(R.set s<|C++[b]).length=N:=(by rw[tD,hlen]);refine aR (N+7) zs (by simp[yP]) (by exact sQ) ⟨⟨rfl,.refl _,bu _<|cM _⟩,⟨rfl,.refl _,by simp[au,aq]⟩,⟨rfl,.refl _,by simp[au,aq]⟩,⟨rfl,.refl _,by simp[au,aq,fb]⟩,⟨rfl,.refl _,by simp[au,aq,isF,bw _<|mz _]⟩,⟨rfl,.refl _,by simp[au,aq]⟩,⟨rfl,rfl,rfl,aZ ?_,xz<|by rw[tD];omega⟩,wL Vj⟩;exact(xr zo zo (C++[b]) zs)
   have q1:i=n:=by have:¬i<n:=sO
                   omega
   subst q1;rw[zq9 rfl];refine sI ?_;exact⟨s+1,zo,zd,aL (by exact sK) rfl⟩
  have q0:s=N:=by have:¬s<N:=sO
                  omega
  subst q0;rw[zrI];refine⟨(),trivial,aR 7 zs rfl (by exact sQ) ⟨⟨rfl,.refl _,bu _<|cM _⟩,⟨rfl,.refl _,by simp[au,aq]⟩,⟨rfl,.refl _,by simp[au,aq]⟩,⟨rfl,.refl _,by simp[au,aq,fb]⟩,⟨rfl,.refl _,by simp[au,aq,isF,bw _<|mz _]⟩,⟨rfl,.refl _,by simp[au,aq]⟩,⟨rfl,rfl,rfl,CP (c:=kX) (λi hi=>by simp[nK]) λi hi=>?_,aV _<|qO _⟩,BW _⟩⟩;exact xv hi
 intro _ _;refine sW ?_;have zKk:∀s,s<N->s<2^(A.length+P.length):=λs hs=>by rw[nD,uY];exact hs
 refine px (λ_:Unit=>[(1,.loc 0 0),(2,.loc 1 0),(4,fb<|bN A P),(6,.loc 4 0),(7,.loc 5 0),(8,aa N)])
  (λ_=>[.row true<|aN f,.row true [ax,ax,ax,ax,ax],.row false [.aM 3<|b6<|bN A P],.row false [.fn (.func 153) [] [fb<|bN A P]],.row true [isF (bN A P) 4],.row true [.own 7 (cL A P f N).length 0 (cL A P f N).length,.own 8 N 0 N,.own 9 N 0 N,.own 10 N 0 N,ax],.vec true 0 1<|((List.range N).map λs=>ij A P s n).map λl=>[.aM 1<|l.map kX],.vec true (cL A P f N).length 1<|aA<|cL A P f N,.vec true N 1<|gr<|mn A P N,.vec true N 1<|ir<|gR A true N,.vec true N 1<|ir<|gR A false N]) (λ_=>True) ?_ ?_
 ·refine sR ?_;refine b8 (kS (iq 5 0 1 zs rfl rfl)<|kS (iq 5 1 1 zs rfl rfl)<|kS (iq 5 2 1 zs rfl rfl)<|iq 5 3 1 zs rfl rfl) ?_;refine cJ [1,2,4,6,7,8,10] (λs:Nat=>[(14,aa s)]) (λs=>[.row true<|aN f,.row true [ax,ax,ax,ax,ax],.row false [.aM 3<|b6<|bN A P],.row false [.fn (.func 153) [] [fb<|bN A P]],.row true [isF (bN A P) 4],.row true [.own 7 (cL A P f s).length 0 (cL A P f s).length,.own 8 s 0 s,.own 9 s 0 s,.own 10 s 0 s,ax],.vec true 0 1<|((List.range N).map λs=>ij A P s n).map λl=>[.aM 1<|l.map kX],.vec true (cL A P f s).length 1<|aA<|cL A P f s,.vec true s 1<|gr<|mn A P s,.vec true s 1<|ir<|gR A true s,.vec true s 1<|ir<|gR A false s]) (λs=>s<=N) (λs=>N-s) 0 ?_;refine eC ?_;rintro s hs;have pV:=WC A P f s;refine br (λq0=>?_) λq0=>?_
  ·have q0:s<N:=sO;have eS:=R7 A P f s;have eN:=RK A P s;have eT:=JN A true s;have eF:=JN A false s;have iD:=zwX<|zKk s q0;rw[nD,uY] at iD;rw[nD,<-iD] at eN;refine sX (Av f D7 Ov s _ rfl) ?_;cases r:eu (dJ A P s) f
   ·rw[r,ab zc] at eS;refine sW ?_;refine b8 (fL 15 1 zs rfl) ?_;refine cJ [1,2,4,6,7,8,10,14] (λt:Nat=>[(15,.own 11 (nxR A P s t).length 0 (nxR A P s t).length),(16,aa t)]) (λt=>[.row true<|aN f,.row true [ax,ax,ax,ax,ax],.row false [.aM 3<|b6<|bN A P],.row false [.fn (.func 153) [] [fb<|bN A P]],.row true [isF (bN A P) 4],.row true [.own 7 (cL A P f s).length 0 (cL A P f s).length,.own 8 s 0 s,.own 9 s 0 s,.own 10 s 0 s,ax],.vec true 0 1<|((List.range N).map λs=>ij A P s n).map λl=>[.aM 1<|l.map kX],.vec true (cL A P f s).length 1<|aA<|cL A P f s,.vec true s 1<|gr<|mn A P s,.vec true s 1<|ir<|gR A true s,.vec true s 1<|ir<|gR A false s,.vec true (nxR A P s t).length 1<|aA<|nxR A P s t]) (λt=>t<=N) (λt=>N-t) 0 ?_;refine eC ?_;rintro t ht;have Dh:=SY A P s t;refine br (λq1=>?_) λq1=>?_
    ·have q1:t<N:=sO;have eX:=TV A P s t;rw[nD] at eX;refine cJ [1,2,4,6,7,8,10,14,15,16] (λi:Nat=>[(17,aD<|rOk A P s t i),(18,aa i)]) (λi=>[.row true<|aN f,.row true [ax,ax,ax,ax,ax],.row false [.aM 3<|b6<|bN A P],.row false [.fn (.func 153) [] [fb<|bN A P]],.row true [isF (bN A P) 4],.row true [.own 7 (cL A P f s).length 0 (cL A P f s).length,.own 8 s 0 s,.own 9 s 0 s,.own 10 s 0 s,ax],.vec true 0 1<|((List.range N).map λs=>ij A P s n).map λl=>[.aM 1<|l.map kX],.vec true (cL A P f s).length 1<|aA<|cL A P f s,.vec true s 1<|gr<|mn A P s,.vec true s 1<|ir<|gR A true s,.vec true s 1<|ir<|gR A false s,.vec true (nxR A P s t).length 1<|aA<|nxR A P s t]) (λi=>i<=n) (λi=>n-i) 0 ?_;refine eC ?_;rintro i hi;have eO:=KV A P s t i;unfold fb;refine c6 ?_;rw[qW,qS,nD];refine sS (λq2=>?_) λq2=>?_
     ·have q2:i<n:=sO;cases ro:rOk A P s t i
      ·have ro2:=Uu ro<|Nat.le_of_lt q2;rw[ro2,ab zc] at eX;refine bb ?_;refine⟨t+1,zo,zd,?_⟩;dsimp only;rw[eX];exact aL (by exact sK) rfl
      rw[ro,kP] at eO;refine sW ?_;obtain⟨-,-,qT,-⟩:=C5 i zo;refine sL (yF (k:=i) zo<|by rw[qS];omega) ?_;by_cases q3:i<A.length
      ·have e3:(((bN A P).getD i default).kind==3):=(by simpa using qT.2 q3);rw[ia q3,zj] at eO;rw[e3];refine bb ?_;refine⟨i+1,zo,zd,?_⟩;dsimp only;rw[eO];exact aL (by exact sK) rfl
      have e3:(((bN A P).getD i default).kind==3)=false:=by
       rw[beq_eq_false_iff_ne];exact λh=>q3<|qT.1 h
      rw[gM q3,uW] at eO;have eb:(((s:Int).fdiv<|2^min ((i:Int)).toNat IntKind.i64.bits).tmod 2==1)=s.testBit i:=Ex s i zo;rw[e3];refine bE ?_;refine⟨_,Sq (t:=t) zo q1,?_⟩;refine sW ?_;refine sL (T3 (i:=i) zo q2) ?_;refine⟨zo,?_⟩;refine sW ?_;refine⟨zo,?_⟩;refine bb ?_;refine⟨i+1,zo,zd,?_⟩;dsimp only;rw[eO,<-eb];exact aL (by exact sK) rfl
     have q2:i=n:=by have:¬i<n:=sO
                     omega
     subst q2;cases ro:rOk A P s t i
     ·rw[ro,ab zc] at eX;refine bb ?_;refine⟨t+1,zo,zd,?_⟩;dsimp only;rw[eX];exact aL (by exact sK) rfl
     rw[ro,ae rfl] at eX;refine lh ?_;refine⟨t+1,zo,zd,?_⟩;dsimp only;rw[eX];rw[show(nxR A P s t++[(t:Int)]).length=(nxR A P s t).length+1 by simp]
     (refine aR (11+1) zs rfl ?_ ?_<;>(repeat' (first|exact trivial|exact rfl|exact .refl _|refine And.intro ?_ ?_|(simp[aq,au,bg,-List.map_take,-List.map_drop];done))))
     all_goals
      first|exact bu _ (cM _)|exact bw _ (cG _)|exact bu _ (by simp[an,Pure,fb,dX];done)|exact aV _ (qO _)|exact aV _ (nX _)|exact aV _ (mX _)|exact aV _ (dX _)|exact aV _ (db _ (λl=>by simp[an,Pure]) _)|exact bw _ (mz _)|exact aZ (oB zs)|exact n6 zs rfl rfl rfl|exact aZ (kv _ _)|skip
    have q1:t=N:=by have:¬t<N:=sO
                    omega
    obtain rfl:N=t:=q1.symm;refine sJ ?_;refine cJ [1,2,4,6,7,8,10,14] (λi:Nat=>[(19,.sc (.int .u64<|oF A s true i)),(20,.sc (.int .u64<|oF A s false i)),(21,aa i)]) (λi=>[.row true<|aN f,.row true [ax,ax,ax,ax,ax],.row false [.aM 3<|b6<|bN A P],.row false [.fn (.func 153) [] [fb<|bN A P]],.row true [isF (bN A P) 4],.row true [.own 7 (cL A P f s).length 0 (cL A P f s).length,.own 8 (s+1) 0<|s+1,.own 9 s 0 s,.own 10 s 0 s,ax],.vec true 0 1<|((List.range N).map λs=>ij A P s n).map λl=>[.aM 1<|l.map kX],.vec true (cL A P f s).length 1<|aA<|cL A P f s,.vec true (s+1) 1<|List.drop 0 (List.take s<|gr<|mn A P s)++List.drop 0 (List.take 1 [[D.own 11 (nxR A P s N).length 0 (nxR A P s N).length]]),.vec true s 1<|ir<|gR A true s,.vec true s 1<|ir<|gR A false s,.vec true (nxR A P s N).length 1<|aA<|nxR A P s N,.vec true 0 1 [[.own 11 (nxR A P s N).length 0 (nxR A P s N).length]]]) (λi=>i<=n) (λi=>n-i) 0 ?_;refine eC ?_;rintro i hi;unfold fb;refine c6 ?_;rw[qW,qS,nD];refine sS (λq2=>?_) λq2=>?_
    ·have q2:i<n:=sO;obtain⟨-,-,qT,-⟩:=C5 i zo;have kx:=λ(z:Nat) (hz:z=i)=>yF (P:=bN A P) hz (by rw[qS];omega);refine sL (kx _ zo) ?_;by_cases q3:i<A.length
     ·have e3:(((bN A P).getD i default).kind==3):=(by simpa using qT.2 q3);have e4:((bN A P).getD i default).num=A.getD i 0:=(by rw[JU q3];rfl);have hx:=hI.atoms _<|dP q3;have lT:=Hq (s:=s) (is:=true) q3;have lF:=Hq (s:=s) (is:=false) q3;rw[e3];generalize (bN A P).getD i default=g at *;generalize A.getD i 0=x at *;have eb:(((s:Int).fdiv<|2^min ((i:Int)).toNat IntKind.i64.bits).tmod 2==1)=s.testBit i:=Ex s i zo;have e1:(1:Int)*2^min x.toNat IntKind.u64.bits=2^x.toNat:=by
       rw[show IntKind.u64.bits=64 from rfl,sq zo,Int.one_mul]
      have FC:(0:Int)<=2^x.toNat/\(2:Int)^x.toNat<18446744073709551616:=by
       have h1:2^x.toNat<=2^63:=Ae zo zo;have h2:(2:Nat)^63=9223372036854775808:=zc;rw[Gx];generalize 2^x.toNat=z at *;omega
      refine sW ?_;refine⟨zo,?_⟩;refine sW ?_;refine⟨zo,?_⟩;refine sW ?_;rw[eb];cases rb:s.testBit i
      ·rw[rb,ab zc] at lT;rw[rb,ae zc] at lF;refine sW ?_;refine sL (kx _ zo) ?_;rw[e3];refine sW ?_;refine sL (kx _ zo) ?_;rw[e4];refine⟨zo,?_⟩;rw[e1];refine .inl ⟨by unfold dQ;rw[IntKind.wrap_u64];omega,?_⟩;refine bb ?_;refine⟨i+1,zo,zd,?_⟩;dsimp only;rw[lT,lF];exact aL (by exact sK) rfl
      rw[rb,ae zc] at lT;rw[rb,ab zc] at lF;refine sW ?_;refine sL (kx _ zo) ?_;rw[e4];refine⟨zo,?_⟩;rw[e1];refine .inl ⟨by unfold dQ;rw[IntKind.wrap_u64];omega,?_⟩;refine bb ?_;refine⟨i+1,zo,zd,?_⟩;dsimp only;rw[lT,lF];exact aL (by exact sK) rfl
     have e3:(((bN A P).getD i default).kind==3)=false:=by
      rw[beq_eq_false_iff_ne];exact λh=>q3<|qT.1 h
     have lT:=I4 (s:=s) (is:=true)<|Fp q3;have lF:=I4 (s:=s) (is:=false)<|Fp q3;rw[e3];refine sW ?_;refine sL (kx _ zo) ?_;rw[e3];refine bb ?_;refine⟨i+1,zo,zd,?_⟩;dsimp only;rw[lT,lF];exact aL (by exact sK) rfl
    have q2:i=n:=by have:¬i<n:=sO
                    omega
    obtain rfl:n=i:=q2.symm;have lT:oF A s true n=kN A s true A.length:=(by rw[<-nD];exact Ic);have lF:oF A s false n=kN A s false A.length:=(by rw[<-nD];exact Ic);rw[<-lT] at eT;rw[<-lF] at eF;refine sJ ?_;refine fA ?_;refine⟨s+1,zo,zd,?_⟩;dsimp only;rw[eS,eN,eT,eF]
    (refine aR 11 zs rfl ?_ ?_<;>(repeat' (first|exact trivial|exact rfl|exact .refl _|refine And.intro ?_ ?_|(simp[aq,au,bg,-List.map_take,-List.map_drop];done))))
    all_goals
     first|exact bu _ (cM _)|exact bw _ (cG _)|exact bu _ (by simp[an,Pure,fb,dX];done)|exact aV _ (qO _)|exact aV _ (nX _)|exact aV _ (mX _)|exact aV _ (dX _)|exact aV _ (db _ (λl=>by simp[an,Pure]) _)|exact bw _ (mz _)|exact aZ (oB zs)|exact n6 zs rfl rfl rfl|exact aZ (kv _ _)|skip
   rw[r,ae rfl] at eS;refine sWJ ?_
   refine b8 (aR 12 (env':=[(1,.loc 0 0),(2,.loc 1 0),(4,fb<|bN A P),(6,.loc 4 0),(7,.loc 5 0),(8,aa N),(10,.own 6 0 0 N),(14,aa s),(15,ax),(16,aa 0)])
    (H':=[.row true<|aN f,.row true [ax,ax,ax,ax,ax],.row false [.aM 3<|b6<|bN A P],.row false [.fn (.func 153) [] [fb<|bN A P]],.row true [isF (bN A P) 4],.row true [.own 7 ((cL A P f s).length+1) 0<|(cL A P f s).length+1,.own 8 s 0 s,.own 9 s 0 s,.own 10 s 0 s,ax],.vec true 0 1<|((List.range N).map λs=>ij A P s n).map λl=>[.aM 1<|l.map kX],.vec true ((cL A P f s).length+1) 1<|aA<|(cL A P f s)++[(s:Int)],.vec true s 1<|gr<|mn A P s,.vec true s 1<|ir<|gR A true s,.vec true s 1<|ir<|gR A false s,.vec true 0 1 [[aa s]]]) zs rfl ?_ ?_) ?_
   ·(repeat' (first|exact trivial|exact rfl|exact .refl _|refine And.intro ?_ ?_|(simp[aq,au,bg,-List.map_take,-List.map_drop];done)))
    all_goals
     first|exact bu _ (cM _)|exact bw _ (cG _)|exact bu _ (by simp[an,Pure,fb,dX];done)|exact aV _ (qO _)|exact aV _ (nX _)|exact aV _ (mX _)|exact aV _ (dX _)|exact aV _ (db _ (λl=>by simp[an,Pure]) _)|exact bw _ (mz _)|exact aZ (oB zs)|exact n6 zs rfl rfl rfl|exact aZ (kv _ _)|skip
   ·(repeat' (first|exact trivial|exact rfl|exact .refl _|refine And.intro ?_ ?_|(simp[aq,au,bg,-List.map_take,-List.map_drop];done)))
    all_goals
     first|exact bu _ (cM _)|exact bw _ (cG _)|exact bu _ (by simp[an,Pure,fb,dX];done)|exact aV _ (qO _)|exact aV _ (nX _)|exact aV _ (mX _)|exact aV _ (dX _)|exact aV _ (db _ (λl=>by simp[an,Pure]) _)|exact bw _ (mz _)|exact aZ (oB zs)|exact n6 zs rfl rfl rfl|exact aZ (kv _ _)|skip
   rw[show(cL A P f s).length+1=(cL A P f s++[(s:Int)]).length by simp];have zG1:(cL A P f s++[(s:Int)]).length<=s+1:=(by simp;omega);refine b8 (fL 15 1 zs rfl) ?_;refine cJ [1,2,4,6,7,8,10,14] (λt:Nat=>[(15,.own 12 (nxR A P s t).length 0 (nxR A P s t).length),(16,aa t)]) (λt=>[.row true<|aN f,.row true [ax,ax,ax,ax,ax],.row false [.aM 3<|b6<|bN A P],.row false [.fn (.func 153) [] [fb<|bN A P]],.row true [isF (bN A P) 4],.row true [.own 7 (cL A P f s++[(s:Int)]).length 0 (cL A P f s++[(s:Int)]).length,.own 8 s 0 s,.own 9 s 0 s,.own 10 s 0 s,ax],.vec true 0 1<|((List.range N).map λs=>ij A P s n).map λl=>[.aM 1<|l.map kX],.vec true (cL A P f s++[(s:Int)]).length 1<|aA<|cL A P f s++[(s:Int)],.vec true s 1<|gr<|mn A P s,.vec true s 1<|ir<|gR A true s,.vec true s 1<|ir<|gR A false s,.vec true 0 1 [[aa s]],.vec true (nxR A P s t).length 1<|aA<|nxR A P s t]) (λt=>t<=N) (λt=>N-t) 0 ?_;refine eC ?_;rintro t ht;have Dh:=SY A P s t;refine br (λq1=>?_) λq1=>?_
   ·have q1:t<N:=sO;have eX:=TV A P s t;rw[nD] at eX;refine cJ [1,2,4,6,7,8,10,14,15,16] (λi:Nat=>[(17,aD<|rOk A P s t i),(18,aa i)]) (λi=>[.row true<|aN f,.row true [ax,ax,ax,ax,ax],.row false [.aM 3<|b6<|bN A P],.row false [.fn (.func 153) [] [fb<|bN A P]],.row true [isF (bN A P) 4],.row true [.own 7 (cL A P f s++[(s:Int)]).length 0 (cL A P f s++[(s:Int)]).length,.own 8 s 0 s,.own 9 s 0 s,.own 10 s 0 s,ax],.vec true 0 1<|((List.range N).map λs=>ij A P s n).map λl=>[.aM 1<|l.map kX],.vec true (cL A P f s++[(s:Int)]).length 1<|aA<|cL A P f s++[(s:Int)],.vec true s 1<|gr<|mn A P s,.vec true s 1<|ir<|gR A true s,.vec true s 1<|ir<|gR A false s,.vec true 0 1 [[aa s]],.vec true (nxR A P s t).length 1<|aA<|nxR A P s t]) (λi=>i<=n) (λi=>n-i) 0 ?_;refine eC ?_;rintro i hi;have eO:=KV A P s t i;unfold fb;refine c6 ?_;rw[qW,qS,nD];refine sS (λq2=>?_) λq2=>?_
    ·have q2:i<n:=sO;cases ro:rOk A P s t i
     ·have ro2:=Uu ro<|Nat.le_of_lt q2;rw[ro2,ab zc] at eX;refine bb ?_;refine⟨t+1,zo,zd,?_⟩;dsimp only;rw[eX];exact aL (by exact sK) rfl
     rw[ro,kP] at eO;refine sW ?_;obtain⟨-,-,qT,-⟩:=C5 i zo;refine sL (yF (k:=i) zo<|by rw[qS];omega) ?_;by_cases q3:i<A.length
     ·have e3:(((bN A P).getD i default).kind==3):=(by simpa using qT.2 q3);rw[ia q3,zj] at eO;rw[e3];refine bb ?_;refine⟨i+1,zo,zd,?_⟩;dsimp only;rw[eO];exact aL (by exact sK) rfl
     have e3:(((bN A P).getD i default).kind==3)=false:=by
      rw[beq_eq_false_iff_ne];exact λh=>q3<|qT.1 h
     rw[gM q3,uW] at eO;have eb:(((s:Int).fdiv<|2^min ((i:Int)).toNat IntKind.i64.bits).tmod 2==1)=s.testBit i:=Ex s i zo;rw[e3];refine bE ?_;refine⟨_,Sq (t:=t) zo q1,?_⟩;refine sW ?_;refine sL (T3 (i:=i) zo q2) ?_;refine⟨zo,?_⟩;refine sW ?_;refine⟨zo,?_⟩;refine bb ?_;refine⟨i+1,zo,zd,?_⟩;dsimp only;rw[eO,<-eb];exact aL (by exact sK) rfl
    have q2:i=n:=by have:¬i<n:=sO
                    omega
    subst q2;cases ro:rOk A P s t i
    ·rw[ro,ab zc] at eX;refine bb ?_;refine⟨t+1,zo,zd,?_⟩;dsimp only;rw[eX];exact aL (by exact sK) rfl
    rw[ro,ae rfl] at eX;refine lh ?_;refine⟨t+1,zo,zd,?_⟩;dsimp only;rw[eX];rw[show(nxR A P s t++[(t:Int)]).length=(nxR A P s t).length+1 by simp]
    (refine aR (12+1) zs rfl ?_ ?_<;>(repeat' (first|exact trivial|exact rfl|exact .refl _|refine And.intro ?_ ?_|(simp[aq,au,bg,-List.map_take,-List.map_drop];done))))
    all_goals
     first|exact bu _ (cM _)|exact bw _ (cG _)|exact bu _ (by simp[an,Pure,fb,dX];done)|exact aV _ (qO _)|exact aV _ (nX _)|exact aV _ (mX _)|exact aV _ (dX _)|exact aV _ (db _ (λl=>by simp[an,Pure]) _)|exact bw _ (mz _)|exact aZ (oB zs)|exact n6 zs rfl rfl rfl|exact aZ (kv _ _)|skip
   have q1:t=N:=by have:¬t<N:=sO
                   omega
   obtain rfl:N=t:=q1.symm;refine sJ ?_;refine cJ [1,2,4,6,7,8,10,14] (λi:Nat=>[(19,.sc (.int .u64<|oF A s true i)),(20,.sc (.int .u64<|oF A s false i)),(21,aa i)]) (λi=>[.row true<|aN f,.row true [ax,ax,ax,ax,ax],.row false [.aM 3<|b6<|bN A P],.row false [.fn (.func 153) [] [fb<|bN A P]],.row true [isF (bN A P) 4],.row true [.own 7 (cL A P f s++[(s:Int)]).length 0 (cL A P f s++[(s:Int)]).length,.own 8 (s+1) 0<|s+1,.own 9 s 0 s,.own 10 s 0 s,ax],.vec true 0 1<|((List.range N).map λs=>ij A P s n).map λl=>[.aM 1<|l.map kX],.vec true (cL A P f s++[(s:Int)]).length 1<|aA<|cL A P f s++[(s:Int)],.vec true (s+1) 1<|List.drop 0 (List.take s<|gr<|mn A P s)++List.drop 0 (List.take 1 [[D.own 12 (nxR A P s N).length 0 (nxR A P s N).length]]),.vec true s 1<|ir<|gR A true s,.vec true s 1<|ir<|gR A false s,.vec true 0 1 [[aa s]],.vec true (nxR A P s N).length 1<|aA<|nxR A P s N,.vec true 0 1 [[.own 12 (nxR A P s N).length 0 (nxR A P s N).length]]]) (λi=>i<=n) (λi=>n-i) 0 ?_;refine eC ?_;rintro i hi;unfold fb;refine c6 ?_;rw[qW,qS,nD];refine sS (λq2=>?_) λq2=>?_
   ·have q2:i<n:=sO;obtain⟨-,-,qT,-⟩:=C5 i zo;have kx:=λ(z:Nat) (hz:z=i)=>yF (P:=bN A P) hz (by rw[qS];omega);refine sL (kx _ zo) ?_;by_cases q3:i<A.length
    ·have e3:(((bN A P).getD i default).kind==3):=(by simpa using qT.2 q3);have e4:((bN A P).getD i default).num=A.getD i 0:=(by rw[JU q3];rfl);have hx:=hI.atoms _<|dP q3;have lT:=Hq (s:=s) (is:=true) q3;have lF:=Hq (s:=s) (is:=false) q3;rw[e3];generalize (bN A P).getD i default=g at *;generalize A.getD i 0=x at *;have eb:(((s:Int).fdiv<|2^min ((i:Int)).toNat IntKind.i64.bits).tmod 2==1)=s.testBit i:=Ex s i zo;have e1:(1:Int)*2^min x.toNat IntKind.u64.bits=2^x.toNat:=by
      rw[show IntKind.u64.bits=64 from rfl,sq zo,Int.one_mul]
     have FC:(0:Int)<=2^x.toNat/\(2:Int)^x.toNat<18446744073709551616:=by
      have h1:2^x.toNat<=2^63:=Ae zo zo;have h2:(2:Nat)^63=9223372036854775808:=zc;rw[Gx];generalize 2^x.toNat=z at *;omega
     refine sW ?_;refine⟨zo,?_⟩;refine sW ?_;refine⟨zo,?_⟩;refine sW ?_;rw[eb];cases rb:s.testBit i
     ·rw[rb,ab zc] at lT;rw[rb,ae zc] at lF;refine sW ?_;refine sL (kx _ zo) ?_;rw[e3];refine sW ?_;refine sL (kx _ zo) ?_;rw[e4];refine⟨zo,?_⟩;rw[e1];refine .inl ⟨by unfold dQ;rw[IntKind.wrap_u64];omega,?_⟩;refine bb ?_;refine⟨i+1,zo,zd,?_⟩;dsimp only;rw[lT,lF];exact aL (by exact sK) rfl
     rw[rb,ae zc] at lT;rw[rb,ab zc] at lF;refine sW ?_;refine sL (kx _ zo) ?_;rw[e4];refine⟨zo,?_⟩;rw[e1];refine .inl ⟨by unfold dQ;rw[IntKind.wrap_u64];omega,?_⟩;refine bb ?_;refine⟨i+1,zo,zd,?_⟩;dsimp only;rw[lT,lF];exact aL (by exact sK) rfl
    have e3:(((bN A P).getD i default).kind==3)=false:=by
     rw[beq_eq_false_iff_ne];exact λh=>q3<|qT.1 h
    have lT:=I4 (s:=s) (is:=true)<|Fp q3;have lF:=I4 (s:=s) (is:=false)<|Fp q3;rw[e3];refine sW ?_;refine sL (kx _ zo) ?_;rw[e3];refine bb ?_;refine⟨i+1,zo,zd,?_⟩;dsimp only;rw[lT,lF];exact aL (by exact sK) rfl
   have q2:i=n:=by have:¬i<n:=sO
                   omega
   obtain rfl:n=i:=q2.symm;have lT:oF A s true n=kN A s true A.length:=(by rw[<-nD];exact Ic);have lF:oF A s false n=kN A s false A.length:=(by rw[<-nD];exact Ic);rw[<-lT] at eT;rw[<-lF] at eF;refine sJ ?_;refine fA ?_;refine⟨s+1,zo,zd,?_⟩;dsimp only;rw[eS,eN,eT,eF]
   (refine aR 11 zs rfl ?_ ?_<;>(repeat' (first|exact trivial|exact rfl|exact .refl _|refine And.intro ?_ ?_|(simp[aq,au,bg,-List.map_take,-List.map_drop];done))))
   all_goals
    first|exact bu _ (cM _)|exact bw _ (cG _)|exact bu _ (by simp[an,Pure,fb,dX];done)|exact aV _ (qO _)|exact aV _ (nX _)|exact aV _ (mX _)|exact aV _ (dX _)|exact aV _ (db _ (λl=>by simp[an,Pure]) _)|exact bw _ (mz _)|exact aZ (oB zs)|exact n6 zs rfl rfl rfl|exact aZ (kv _ _)|skip
  have q0:s=N:=by have:¬s<N:=sO
                  omega
  obtain rfl:N=s:=q0.symm;exact⟨(),trivial,aL (by exact sK) rfl⟩
 intro _ _;refine c6 ?_;refine b8 (iq 5 4 1 zs rfl rfl) ?_;refine cJ [2,4,6,7,8] (λk:Nat=>[(22,aa k)]) (λk=>[.row true<|aN f,.row true [ax,ax,ax,ax,ax],.row false [.aM 3<|b6<|bN A P],.row false [.fn (.func 153) [] [fb<|bN A P]],.row true [isF (bN A P) 4],.row true [.own 7 (cL A P f N).length 0 (cL A P f N).length,.own 8 N 0 N,.own 9 N 0 N,.own 10 N 0 N,.own 11 (iJ A P k).length 0 (iJ A P k).length],.vec true 0 1<|((List.range N).map λs=>ij A P s n).map λl=>[.aM 1<|l.map kX],.vec true (cL A P f N).length 1<|aA<|cL A P f N,.vec true N 1<|gr<|mn A P N,.vec true N 1<|ir<|gR A true N,.vec true N 1<|ir<|gR A false N,.vec true (iJ A P k).length 1<|gr<|iJ A P k]) (λk=>k<=n) (λk=>n-k) 0 ?_;refine sW ?_;refine⟨zo,by exact sK,by rw[show iJ A P 0=[] by unfold iJ;rw[Nat.zero_sub];rfl];rfl,?_⟩;rintro k hk;have yB:=Zm A P k;unfold fb;refine c6 ?_;rw[qW,qS,nD];refine sS (λq0=>?_) λq0=>?_
 ·have q0:k<n:=sO;obtain⟨wx,Bk,qT,X7⟩:=C5 k zo;have kx:=λ(z:Nat) (hz:z=k)=>yF (P:=bN A P) hz (by rw[qS];omega);have BX:iJ A P (k+1)=if ((bN A P).getD k default).kind=3\/((bN A P).getD k default).kind=7 then iJ A P k else iJ A P k++[fu (gX A P<|(bN A P).getD k default) N]:=by
   by_cases qa:k<A.length
   ·rw[zps qa,ae (.inl<|qT.2 qa)]
   have n3:¬((bN A P).getD k default).kind=3:=λh=>qa<|qT.1 h;rw[zoM (Fp qa) zo];have eset:yi A P (A.length+P.length) ((bN A P).getD k default)=fu (gX A P<|(bN A P).getD k default) N:=(by unfold yi;rw[nD,uY]);rw[eset];by_cases q7:((bN A P).getD k default).kind=7
   ·rw[ae q7,ae (.inr q7)]
   rw[ab q7,ab zo]
  have Un:∀s,gX A P ((bN A P).getD k default) s=if ((bN A P).getD k default).kind=8 then !(eu (dJ A P s)<|(bN A P).getD k default)||eu (dJ A P s) (((bN A P).getD k default).az 1) else eu (dJ A P s) ((bN A P).getD k default)||!(eu (dJ A P s) (((bN A P).getD k default).az 1)):=λs=>rfl
  generalize (bN A P).getD k default=g at *;by_cases k8:g.kind=8
  ·rw[ab zo] at BX;have e8:(g.kind==8)=true:=(by simpa using k8);have w1:1<g.width:=(by have:=FR wx;omega);refine b8 (fL 23 1 zs rfl) ?_;refine cJ [2,4,6,7,8,22] (λs:Nat=>[(23,.own 12 (fu (gX A P g) s).length 0 (fu (gX A P g) s).length),(24,aa s)]) (λs=>[.row true<|aN f,.row true [ax,ax,ax,ax,ax],.row false [.aM 3<|b6<|bN A P],.row false [.fn (.func 153) [] [fb<|bN A P]],.row true [isF (bN A P) 4],.row true [.own 7 (cL A P f N).length 0 (cL A P f N).length,.own 8 N 0 N,.own 9 N 0 N,.own 10 N 0 N,.own 11 (iJ A P k).length 0 (iJ A P k).length],.vec true 0 1<|((List.range N).map λs=>ij A P s n).map λl=>[.aM 1<|l.map kX],.vec true (cL A P f N).length 1<|aA<|cL A P f N,.vec true N 1<|gr<|mn A P N,.vec true N 1<|ir<|gR A true N,.vec true N 1<|ir<|gR A false N,.vec true (iJ A P k).length 1<|gr<|iJ A P k,.vec true (fu (gX A P g) s).length 1<|aA<|fu (gX A P g) s]) (λs=>s<=N) (λs=>N-s) 0 ?_;refine eC ?_;rintro s hs;have Dh:=rS (gX A P g) s;refine br (λq1=>?_) λq1=>?_
   ·have q1:s<N:=sO;have eX:=zC (gX A P g) s;refine sL (kx _ zo) ?_;have e9:(g.kind==9)=false:=(by rw[beq_eq_false_iff_ne];omega);have r0:=λH hH=>Av g wx Bk s H hH;have r1:=λH hH=>Av (g.az 1) (gD wx w1) (Bk.az w1) s H hH;have hf:=Un s;rw[ae k8] at hf;rw[hf] at eX;generalize eu (dJ A P s) g=b0 at *;generalize eu (dJ A P s) (g.az 1)=b1 at *;rw[e8];refine sW ?_;refine sL (kx _ zo) ?_;refine sX (r0 _ rfl) ?_;cases b0
    ·rw[ae zs] at eX;refine lh ?_;refine⟨s+1,zo,zd,?_⟩;dsimp only;rw[eX];rw[show(fu (gX A P g) s++[(s:Int)]).length=(fu (gX A P g) s).length+1 by simp]
     (refine aR 13 zs rfl ?_ ?_<;>(repeat' (first|exact trivial|exact rfl|exact .refl _|refine And.intro ?_ ?_|(simp[aq,au,bg,-List.map_take,-List.map_drop];done))))
     all_goals
      first|exact bu _ (cM _)|exact bw _ (cG _)|exact bu _ (by simp[an,Pure,fb,dX];done)|exact aV _ (qO _)|exact aV _ (nX _)|exact aV _ (mX _)|exact aV _ (dX _)|exact aV _ (db _ (λl=>by simp[an,Pure]) _)|exact bw _ (mz _)|exact aZ (oB zs)|exact n6 zs rfl rfl rfl|exact aZ (kv _ _)|skip
    refine sW ?_;refine sL (kx _ zo) ?_;refine sL (dk w1) ?_;refine sX (r1 _ rfl) ?_;cases b1
    ·rw[ab zs] at eX;refine sW ?_;refine sL (kx _ zo) ?_;rw[e9];refine bb ?_;refine⟨s+1,zo,zd,?_⟩;dsimp only;rw[eX];exact aL (by exact sK) rfl
    rw[ae zs] at eX;refine lh ?_;refine⟨s+1,zo,zd,?_⟩;dsimp only;rw[eX];rw[show(fu (gX A P g) s++[(s:Int)]).length=(fu (gX A P g) s).length+1 by simp]
    (refine aR 13 zs rfl ?_ ?_<;>(repeat' (first|exact trivial|exact rfl|exact .refl _|refine And.intro ?_ ?_|(simp[aq,au,bg,-List.map_take,-List.map_drop];done))))
    all_goals
     first|exact bu _ (cM _)|exact bw _ (cG _)|exact bu _ (by simp[an,Pure,fb,dX];done)|exact aV _ (qO _)|exact aV _ (nX _)|exact aV _ (mX _)|exact aV _ (dX _)|exact aV _ (db _ (λl=>by simp[an,Pure]) _)|exact bw _ (mz _)|exact aZ (oB zs)|exact n6 zs rfl rfl rfl|exact aZ (kv _ _)|skip
   have q1:s=N:=by have:¬s<N:=sO
                   omega
   obtain rfl:N=s:=q1.symm;refine sL (kx _ zo) ?_;rw[e8];refine lh ?_;refine⟨k+1,zo,zd,?_⟩;dsimp only;rw[BX];rw[show(iJ A P k++[fu (gX A P g) N]).length=(iJ A P k).length+1 by simp]
   (refine aR 12 zs rfl ?_ ?_<;>(repeat' (first|exact trivial|exact rfl|exact .refl _|refine And.intro ?_ ?_|(simp[aq,au,bg,-List.map_take,-List.map_drop];done))))
   all_goals
    first|exact bu _ (cM _)|exact bw _ (cG _)|exact bu _ (by simp[an,Pure,fb,dX];done)|exact aV _ (qO _)|exact aV _ (nX _)|exact aV _ (mX _)|exact aV _ (dX _)|exact aV _ (db _ (λl=>by simp[an,Pure]) _)|exact bw _ (mz _)|exact aZ (oB zs)|exact n6 zs rfl rfl rfl|exact aZ (kv _ _)|skip
  by_cases k9:g.kind=9
  ·rw[ab zo] at BX;have e8:(g.kind==8)=false:=(by simpa using k8);have e9:(g.kind==9)=true:=(by simpa using k9);have w1:1<g.width:=(by have:=FR wx;omega);refine b8 (fL 23 1 zs rfl) ?_;refine cJ [2,4,6,7,8,22] (λs:Nat=>[(23,.own 12 (fu (gX A P g) s).length 0 (fu (gX A P g) s).length),(24,aa s)]) (λs=>[.row true<|aN f,.row true [ax,ax,ax,ax,ax],.row false [.aM 3<|b6<|bN A P],.row false [.fn (.func 153) [] [fb<|bN A P]],.row true [isF (bN A P) 4],.row true [.own 7 (cL A P f N).length 0 (cL A P f N).length,.own 8 N 0 N,.own 9 N 0 N,.own 10 N 0 N,.own 11 (iJ A P k).length 0 (iJ A P k).length],.vec true 0 1<|((List.range N).map λs=>ij A P s n).map λl=>[.aM 1<|l.map kX],.vec true (cL A P f N).length 1<|aA<|cL A P f N,.vec true N 1<|gr<|mn A P N,.vec true N 1<|ir<|gR A true N,.vec true N 1<|ir<|gR A false N,.vec true (iJ A P k).length 1<|gr<|iJ A P k,.vec true (fu (gX A P g) s).length 1<|aA<|fu (gX A P g) s]) (λs=>s<=N) (λs=>N-s) 0 ?_;refine eC ?_;rintro s hs;have Dh:=rS (gX A P g) s;refine br (λq1=>?_) λq1=>?_
   ·have q1:s<N:=sO;have eX:=zC (gX A P g) s;refine sL (kx _ zo) ?_;have r0:=λH hH=>Av g wx Bk s H hH;have r1:=λH hH=>Av (g.az 1) (gD wx w1) (Bk.az w1) s H hH;have hf:=Un s;rw[ab k8] at hf;rw[hf] at eX;generalize eu (dJ A P s) g=b0 at *;generalize eu (dJ A P s) (g.az 1)=b1 at *;rw[e8];refine sW ?_;refine sL (kx _ zo) ?_;rw[e9];refine sW ?_;refine sL (kx _ zo) ?_;refine sX (r0 _ rfl) ?_;cases b0
    ·refine sW ?_;refine sL (kx _ zo) ?_;refine sL (dk w1) ?_;refine sX (r1 _ rfl) ?_;cases b1
     ·rw[ae zs] at eX;refine lh ?_;refine⟨s+1,zo,zd,?_⟩;dsimp only;rw[eX];rw[show(fu (gX A P g) s++[(s:Int)]).length=(fu (gX A P g) s).length+1 by simp]
      (refine aR 13 zs rfl ?_ ?_<;>(repeat' (first|exact trivial|exact rfl|exact .refl _|refine And.intro ?_ ?_|(simp[aq,au,bg,-List.map_take,-List.map_drop];done))))
      all_goals
       first|exact bu _ (cM _)|exact bw _ (cG _)|exact bu _ (by simp[an,Pure,fb,dX];done)|exact aV _ (qO _)|exact aV _ (nX _)|exact aV _ (mX _)|exact aV _ (dX _)|exact aV _ (db _ (λl=>by simp[an,Pure]) _)|exact bw _ (mz _)|exact aZ (oB zs)|exact n6 zs rfl rfl rfl|exact aZ (kv _ _)|skip
     rw[ab zs] at eX;refine bb ?_;refine⟨s+1,zo,zd,?_⟩;dsimp only;rw[eX];exact aL (by exact sK) rfl
    rw[ae zs] at eX;refine lh ?_;refine⟨s+1,zo,zd,?_⟩;dsimp only;rw[eX];rw[show(fu (gX A P g) s++[(s:Int)]).length=(fu (gX A P g) s).length+1 by simp]
    (refine aR 13 zs rfl ?_ ?_<;>(repeat' (first|exact trivial|exact rfl|exact .refl _|refine And.intro ?_ ?_|(simp[aq,au,bg,-List.map_take,-List.map_drop];done))))
    all_goals
     first|exact bu _ (cM _)|exact bw _ (cG _)|exact bu _ (by simp[an,Pure,fb,dX];done)|exact aV _ (qO _)|exact aV _ (nX _)|exact aV _ (mX _)|exact aV _ (dX _)|exact aV _ (db _ (λl=>by simp[an,Pure]) _)|exact bw _ (mz _)|exact aZ (oB zs)|exact n6 zs rfl rfl rfl|exact aZ (kv _ _)|skip
   have q1:s=N:=by have:¬s<N:=sO
                   omega
   obtain rfl:N=s:=q1.symm;refine sL (kx _ zo) ?_;rw[e8];refine sW ?_;refine sL (kx _ zo) ?_;rw[e9];refine lh ?_;refine⟨k+1,zo,zd,?_⟩;dsimp only;rw[BX];rw[show(iJ A P k++[fu (gX A P g) N]).length=(iJ A P k).length+1 by simp]
   (refine aR 12 zs rfl ?_ ?_<;>(repeat' (first|exact trivial|exact rfl|exact .refl _|refine And.intro ?_ ?_|(simp[aq,au,bg,-List.map_take,-List.map_drop];done))))
   all_goals
    first|exact bu _ (cM _)|exact bw _ (cG _)|exact bu _ (by simp[an,Pure,fb,dX];done)|exact aV _ (qO _)|exact aV _ (nX _)|exact aV _ (mX _)|exact aV _ (dX _)|exact aV _ (db _ (λl=>by simp[an,Pure]) _)|exact bw _ (mz _)|exact aZ (oB zs)|exact n6 zs rfl rfl rfl|exact aZ (kv _ _)|skip
  rw[ae zo] at BX;have e8:(g.kind==8)=false:=(by simpa using k8);have e9:(g.kind==9)=false:=(by simpa using k9);refine b8 (fL 23 1 zs rfl) ?_;refine cJ [2,4,6,7,8,22] (λs:Nat=>[(23,.own 12 (fu (λ_=>false) s).length 0 (fu (λ_=>false) s).length),(24,aa s)]) (λs=>[.row true<|aN f,.row true [ax,ax,ax,ax,ax],.row false [.aM 3<|b6<|bN A P],.row false [.fn (.func 153) [] [fb<|bN A P]],.row true [isF (bN A P) 4],.row true [.own 7 (cL A P f N).length 0 (cL A P f N).length,.own 8 N 0 N,.own 9 N 0 N,.own 10 N 0 N,.own 11 (iJ A P k).length 0 (iJ A P k).length],.vec true 0 1<|((List.range N).map λs=>ij A P s n).map λl=>[.aM 1<|l.map kX],.vec true (cL A P f N).length 1<|aA<|cL A P f N,.vec true N 1<|gr<|mn A P N,.vec true N 1<|ir<|gR A true N,.vec true N 1<|ir<|gR A false N,.vec true (iJ A P k).length 1<|gr<|iJ A P k,.vec true (fu (λ_=>false) s).length 1<|aA<|fu (λ_=>false) s]) (λs=>s<=N) (λs=>N-s) 0 ?_;refine eC ?_;rintro s hs;have Dh:=rS (λ_=>false) s;refine br (λq1=>?_) λq1=>?_
  ·have q1:s<N:=sO;have eX:=zC (λ_=>false) s;refine sL (kx _ zo) ?_;rw[ab zs] at eX;rw[e8];refine sW ?_;refine sL (kx _ zo) ?_;rw[e9];refine bb ?_;refine⟨s+1,zo,zd,?_⟩;dsimp only;rw[eX];exact aL (by exact sK) rfl
  have q1:s=N:=by have:¬s<N:=sO
                  omega
  obtain rfl:N=s:=q1.symm;refine sL (kx _ zo) ?_;rw[e8];refine sW ?_;refine sL (kx _ zo) ?_;rw[e9];refine bb ?_;refine⟨k+1,zo,zd,?_⟩;dsimp only;rw[BX]
  (refine aR 12 zs rfl ?_ ?_<;>(repeat' (first|exact trivial|exact rfl|exact .refl _|refine And.intro ?_ ?_|(simp[aq,au,bg,-List.map_take,-List.map_drop];done))))
  all_goals
   first|exact bu _ (cM _)|exact bw _ (cG _)|exact bu _ (by simp[an,Pure,fb,dX];done)|exact aV _ (qO _)|exact aV _ (nX _)|exact aV _ (mX _)|exact aV _ (dX _)|exact aV _ (db _ (λl=>by simp[an,Pure]) _)|exact bw _ (mz _)|exact aZ (oB zs)|exact n6 zs rfl rfl rfl|exact aZ (kv _ _)|skip
 have q0:k=n:=by have:¬k<n:=sO
                 omega
 obtain rfl:n=k:=q0.symm;have hE:=V9 A P f;rw[nD,uY] at hE;have iY:iJ A P n=nF A P n P.length:=by unfold iJ;rw[nD,show n-A.length=P.length by omega]
 rw[hE,<-iY];refine .aI _ _ (.cons _ _ _ _ (.agg _ _ (.cons _ _ _ _ (.own _ _ _ _ _ _ _ _ rfl ?_) (.cons _ _ _ _ (.own _ _ _ _ _ _ _ _ rfl ?_) (.cons _ _ _ _ (.own _ _ _ _ _ _ _ _ rfl ?_) (.cons _ _ _ _ (.own _ _ _ _ _ _ _ _ rfl ?_) (.cons _ _ _ _ (.own _ _ _ _ _ _ _ _ rfl ?_) .nil)))))) (.cons _ _ _ _ (.refl _) .nil))
 ·exact u5<|by simp[aA]
 ·exact u5 zs
 ·exact u5 zs
 ·exact u5 zs
 exact u5 zs
section
def gq(m:Nat)(p:Pr):Nat:=p.1.toNat * m+p.2.toNat
def prE(m c:Nat):Pr:=(((c/m:Nat):Int),((c%m:Nat):Int))
def pF(W:bc)(A:bS)(c:Nat):ah:=(nxE W A<|prE A.next.length c).map λq=>(gq A.next.length q:Int)
section
variable{W:bc}{A:bS}
theorem zH{p:Pr}(h:iG W A p):gq A.next.length p<W.next.length*A.next.length:=by
 obtain⟨⟨a,b⟩,c,d⟩:=h;have:(p.1.toNat+1)*A.next.length<=W.next.length*A.next.length:=tl _ zo;rw[jw,Nat.one_mul] at this;unfold gq;omega
theorem Tv{p:Pr}(h:iG W A p):gq A.next.length p/A.next.length=p.1.toNat/\gq A.next.length p%A.next.length=p.2.toNat:=by
 obtain⟨⟨a,b⟩,c,d⟩:=h;unfold gq;constructor
 ·rw[Bc,Nat.mul_add_div zo,Nat.div_eq_of_lt zo];rfl
 rw[Bc,Nat.mul_add_mod,Nat.mod_eq_of_lt zo]
theorem Kc{p:Pr}(h:iG W A p):prE A.next.length (gq A.next.length p)=p:=by
 obtain⟨h1,h2⟩:=Tv h;obtain⟨⟨a,b⟩,c,d⟩:=h;unfold prE;rw[h1,h2];exact Prod.ext zd zd
variable{c:Nat}
theorem zwK(h:c<W.next.length*A.next.length):iG W A (prE A.next.length c)/\gq A.next.length (prE A.next.length c)=c:=by
 have hm:0<A.next.length:=by
  rcases xp A.next.length with e|e
  ·rw[e,Nat.mul_zero] at h;omega
  exact e
 have h1:c/A.next.length<W.next.length:=Nat.div_lt_of_lt_mul (by rw[Bc];exact h);have h2:=Nat.mod_lt c hm;unfold prE gq iG;dsimp only;refine⟨⟨⟨Int.natCast_nonneg _,Int.ofNat_lt.2 h1⟩,Int.natCast_nonneg _,Int.ofNat_lt.2 h2⟩,?_⟩;rw[bQ,bQ,Bc];exact Nat.div_add_mod c A.next.length
structure ThI(W:bc)(A:bS)(S:ay)(R:aj)(Tq:ah)(p:Nat)(o:ah):Prop where
 len:R.length=W.next.length*A.next.length
 rng:∀c,S c->c<W.next.length*A.next.length
 tq:∀x∈Tq,0<=x/\S x.toNat=true
 nd:Tq.Nodup
 cur:p<W.next.length*A.next.length->R.getD p []=o/\S p/\¬(p:Int)∈Tq
 dn:∀c,S c->¬(c:Int)∈Tq->c≠p->R.getD c []=pF W A c/\∀y∈pF W A c,S y.toNat=true
 un:∀c,c≠p->(S c=false\/(c:Int)∈Tq)->R.getD c []=[]
variable{S:ay}{R:aj}{Tq:ah}{p:Nat}{o:ah}
theorem ThI.begin:ThI W A (λ_=>false) (List.replicate (W.next.length*A.next.length) []) [] (W.next.length*A.next.length) [] where
 len:=zs
 rng c h:=by cases h
 tq x h:=by cases h
 nd:=.nil
 cur h:=zo
 dn c h:=by cases h
 un c _ _:=by
  rw[aE,td];split<;>rfl
theorem tS{s:ay}{v:Nat}:mark s c v↔s v\/v=c:=by
 unfold mark;by_cases e:v=c
 ·simp[e]
 simp[e]
theorem ThI.add(h:ThI W A S R Tq p o)(hc:S c=false)(hl:c<W.next.length*A.next.length):ThI W A (mark S c) R (Tq++[(c:Int)]) p o where
 len:=h.len
 rng v hv:=(tS.1 hv).elim (h.rng v) λe=>e▸hl
 tq x hx:=by
  rcases dt.1 hx with q|q
  ·exact⟨(h.tq x q).1,tS.2 (.inl (h.tq x q).2)⟩
  rw[cB] at q;subst q;exact⟨zo,tS.2 (.inr zo)⟩
 nd:=by
  rw[yJ];refine⟨h.nd,zs,λa ha b hb=>?_⟩;rw[cB] at hb;subst hb;intro e;subst e;have:=(h.tq _ ha).2;rw[bQ,hc] at this;cases this
 cur hp:=by
  obtain⟨a,b,d⟩:=h.cur hp;refine⟨a,tS.2 (.inl b),λq=>?_⟩;rcases dt.1 q with q|q
  ·exact d q
  rw[cB] at q;have:p=c:=zo;subst this;rw[hc] at b;cases b
 dn v hv hn hp:=by
  rcases tS.1 hv with q|q
  ·obtain⟨a,b⟩:=h.dn v q (λz=>hn<|dt.2 (.inl z)) hp;exact⟨a,λy hy=>tS.2 (.inl<|b y hy)⟩
  subst q;exact absurd (dt.2 (.inr zs)) hn
 un v hp hv:=by
  by_cases e:v=c
  ·subst e;exact h.un v hp (.inl hc)
  refine h.un v hp ?_;rcases hv with q|q
  ·left;cases z:S v
   ·rfl
   rw[tS.2 (.inl z)] at q;cases q
  rcases dt.1 q with q|q
  ·exact .inr q
  rw[cB] at q;omega
theorem ThI.pop{x:Int}(h:ThI W A S R (x::Tq) (W.next.length*A.next.length) []):ThI W A S R Tq x.toNat []/\0<=x/\x.toNat<W.next.length*A.next.length:=by
 have hx:=h.tq x zs;have hl:=h.rng _ hx.2;have fm:=List.nodup_cons.1 h.nd;refine⟨⟨h.len,h.rng,λy hy=>h.tq y<|by simp[hy],fm.2,λ_=>⟨h.un _ zo (.inr<|by rw[show((x.toNat:Nat):Int)=x by omega];simp),hx.2,by rw[show((x.toNat:Nat):Int)=x by omega];exact fm.1⟩,λc hc hn hp=>?_,λc hp hc=>?_⟩,hx.1,hl⟩
 ·refine h.dn c hc (λq=>?_) (by have:=h.rng c hc;omega);rcases dZ.1 q with q|q
  ·omega
  exact hn q
 by_cases e:c=W.next.length*A.next.length
 ·rw[aE,cY<|by rw[h.len];omega];rfl
 exact h.un c e<|hc.imp_right λq=>by simp[q]
theorem ThI.put(h:ThI W A S R Tq p o)(hp:p<W.next.length*A.next.length)(o':ah):ThI W A S (R.set p o') Tq p o':=by
 have hg:∀c,c≠p->(R.set p o').getD c []=R.getD c []:=λc e=>by rw[N2<|by rw[h.len];exact hp,ab e]
 refine⟨by rw[tD];exact h.len,h.rng,h.tq,h.nd,λ_=>⟨by rw[N2<|by rw[h.len];exact hp,ae rfl],(h.cur hp).2⟩,λc hc hn e=>?_,λc e hc=>?_⟩
 ·rw[hg c e];exact h.dn c hc hn e
 rw[hg c e];exact h.un c e hc
theorem ThI.fin(h:ThI W A S R Tq p<|pF W A p)(hp:p<W.next.length*A.next.length)(hs:∀y∈pF W A p,S y.toNat):ThI W A S R Tq (W.next.length*A.next.length) [] where
 len:=h.len
 rng:=h.rng
 tq:=h.tq
 nd:=h.nd
 cur q:=zo
 dn c hc hn _:=by
  by_cases e:c=p
  ·subst e;exact⟨(h.cur hp).1,hs⟩
  exact h.dn c hc hn e
 un c e hc:=by
  by_cases e2:c=p
  ·subst e2;obtain⟨_,a,b⟩:=h.cur hp;rcases hc with q|q
   ·rw[a] at q;cases q
   exact absurd q b
  exact h.un c e2 hc
theorem ThI.rows{start:List Pr}{L:List Pr}{G:aj}(hN:pK start (nxE W A) L G)(hg:∀q∈L,iG W A q)(cE:∀q∈start,S<|gq A.next.length q)(h:ThI W A S R [] (W.next.length*A.next.length) []) :
  ∀q∈L,R.getD (gq A.next.length q) []=(nxE W A q).map λz=>(gq A.next.length z:Int):=by
 have key:∀j,j<L.length->S (gq A.next.length<|L.getD j (0,0)):=by
  intro j
  induction j using Nat.strongRecOn with
  |ind j ih =>
   intro hj;rcases hN.fr j hj with k|⟨i,k1,k2⟩
   ·exact cE _ k
   have h1:=ih i k1 zo;have DW:=hg _<|nT (show i<L.length by omega);have h2:=(h.dn _ h1 zs<|by have:=zH DW;omega).2 (gq A.next.length (L.getD j (0,0)):Int) (by
    unfold pF;rw[Kc DW];exact dq.2 ⟨_,k2,rfl⟩)
   simpa using h2
 intro q hq;obtain⟨i,hi,rfl⟩:=jN.1 hq;have:=key i hi;rw[aE,aJ hi] at this;have DW:=hg _ hq;have h2:=(h.dn _ this zs<|by have:=zH DW;simp only[nR];omega).1;simp only[nR] at h2;rw[h2];unfold pF;rw[Kc DW]
theorem Vp(hb:mY W A)(c:Nat):∀y∈pF W A c,0<=y/\y<((W.next.length*A.next.length:Nat):Int):=λy hy=>by
 obtain⟨q,hq,rfl⟩:=dq.1 hy;have:=zH<|(hb.next _).1 q hq;omega
theorem ThI.inR(hb:mY W A)(h:ThI W A S R [] (W.next.length*A.next.length) []):(∀l∈R,bx l R.length)/\jH R\/17592186043904<R.length:=by
 rcases dY 17592186043904 R.length with q|q
 ·exact .inr q
 left;have dF:∀c,R.getD c []=pF W A c\/R.getD c []=[]:=λc=>by
  by_cases e:c=W.next.length*A.next.length
  ·right;rw[aE,cY<|by rw[h.len];omega];rfl
  cases z:S c
  ·exact .inr<|h.un c e (.inl z)
  exact .inl (h.dn c z zs e).1
 have j8:∀l∈R,∃c,R.getD c []=l:=λl hl=>by
  obtain⟨i,hi,rfl⟩:=jN.1 hl;exact⟨i,by rw[aE,aJ hi];rfl⟩
 refine⟨λl hl=>?_,q,λl hl=>?_⟩
 ·obtain⟨c,rfl⟩:=j8 l hl;rcases dF c with e|e
  ·rw[e];exact kG λy hy=>by rw[h.len];exact Vp hb c y hy
  rw[e];rfl
 obtain⟨c,rfl⟩:=j8 l hl;rcases dF c with e|e
 ·rw[e];unfold pF;rw[aK];have:=(hb.next<|prE A.next.length c).2;omega
 rw[e];simp
end
end
section
abbrev TQ:=ay×ah×Nat×Nat×Nat
def tM(fit:Bool)(c:Nat)(q:TQ):TQ:=if (fit&&!(q.1 c))=true then (mark q.1 c,(q.2.1.take q.2.2.2.1).drop q.2.2.1++[(c:Int)],0,q.2.2.2.1-q.2.2.1+1,q.2.2.2.2+1) else q
def uq(W:bc)(A:bS)(q:TQ):aF :=
 [.row true A.cells,.row true W.cells,.row true [.own 4 0 0<|W.next.length*A.next.length],.row true [aa A.next.length],.vec true 0 1<|bV (W.next.length*A.next.length) q.1,.row true [.own 6 q.2.2.2.2 q.2.2.1 q.2.2.2.1],.vec true q.2.2.2.2 1<|aA q.2.1]
theorem TC{W:bc}{A:bS}{q:TQ}:∀o∈uq W A q,o.under 7:=by
 intro o ho;simp only[uq,dZ,rH,or_false] at ho;rcases ho with rfl|rfl|rfl|rfl|rfl|rfl|rfl
 ·exact bu _<|F3 A
 ·exact bu _<|vj W
 ·simp[ao.under,au,aq]
 ·simp[ao.under,au,aq]
 ·exact aV _<|tW _ _
 ·simp[ao.under,au,aq]
 exact aV _<|db _ (λ_=>by simp[an,Pure]) _
theorem zwu{W:bc}{A:bS}(kc:xH W A)(vc:W.next.length*A.next.length<=4000)(hM:sT A.jq)(x y:Int)(hg:iG W A (x,y))(q:TQ)(h1:q.2.2.1<=q.2.2.2.1)(h2:q.2.2.2.1<=q.2.1.length)(h3:q.2.1.length<=1000000000) :
  cp ai 81 [aa x,aa y,.loc 0 0,.loc 1 0,.loc 2 0,.loc 3 0,.loc 5 0] (uq W A q) (.aI []) (uq W A<|tM (kp W A (x,y)) (gq A.next.length (x,y)) q):=by
 generalize hQ:tM (kp W A (x,y)) (gq A.next.length (x,y)) q=Q;obtain⟨S,Z,lo,hi,aw⟩:=q;dsimp only at h1 h2 h3;have gw:=zH hg;obtain⟨⟨g1,g2⟩,g3,g4⟩:=hg;dsimp only at g1 g2 g3 g4;obtain⟨Gr,_⟩:=tc W kc.cw;obtain⟨hm,hn,_⟩:=wo A kc.ca;have hL:=T2 A hm hn hM y.toNat zo<|W.label.getD x.toNat 0;rw[show((y.toNat:Nat):Int)=y by omega] at hL;refine iV fZ zs (by simp[uq]) ?_ (by simp[aq,au]) TC;have ef:kp W A (x,y)=yx A y.toNat (W.label.getD x.toNat 0):=rfl;rw[<-ef] at hL;have ec:gq A.next.length (x,y)=x.toNat * A.next.length+y.toNat:=rfl;have emul:x*(A.next.length:Int)=((x.toNat * A.next.length:Nat):Int):=by rw[Eo,ui g1]
 generalize gq A.next.length (x,y)=c at *;generalize kp W A (x,y)=fit at *;generalize hk:x.toNat * A.next.length=k at *;unfold uq bc.cells bS.cells;unfold lX bS.cells at hL;generalize W.next.length*A.next.length=NM at *;unfold tM at hQ;dsimp only at hQ⊢;refine sR ?_;refine sL (zy (l:=W.label) (k:=x.toNat) zo zo) ?_;refine sC hL ?_;cases fit
 ·rw[ab zs] at hQ;subst hQ;refine sW ?_;simp
 refine sW ?_;rw[emul];refine sI ?_;refine sIB ?_;refine⟨_,bj c zo zo,?_⟩;refine sW ?_;cases r:S c
 ·rw[ae<|by rw[r];rfl] at hQ;subst hQ;refine sW ?_;rw[emul];refine sI ?_;refine sIB ?_;refine⟨_,bj c zo zo,?_⟩;refine bb ?_;refine sI ?_;refine sJ ?_;refine⟨?_,zs⟩;rw[show x*(A.next.length:Int)+y=(c:Int) by rw[emul];omega,show 0+((k:Int)+y).toNat=c by omega,qE (v:=c) rfl,<-Ah (Z:=Z) (lo:=lo) (hi:=hi) (k:=(c:Int))];rfl
 rw[ab<|by rw[r];decide] at hQ;subst hQ;refine sW ?_;simp
variable(m:Nat)
theorem zyX(hm:0<m)(c:Nat)(hc:c<=1000000):ar ai 85 [aa c,.aB [aa m]]<|aa ((c/m:Nat):Int):=by
 refine bL ?_;refine⟨zo,?_⟩;rw[<-Int.ofNat_tdiv];have:=Nat.div_le_self c m;generalize c/m=k at *;refine sI ?_;exact .refl _
theorem zyr(hm:0<m)(c:Nat)(hc:c<=1000000):ar ai 86 [aa c,.aB [aa m]]<|aa ((c%m:Nat):Int):=by
 refine bL ?_;refine⟨zo,?_⟩;rw[<-Int.ofNat_tmod];refine sW ?_;exact .refl _
theorem zwU(NM n m:Nat)(vc:NM<=4000)(gp:n*m=NM)(g:FuncId)(sel:Nat->Nat)(size:Nat)(fT:size<=2048)(Gj:∀c,c<NM->ar ai g [aa c,.aB [aa m]] (aa<|sel c))(bp:∀c,c<NM->sel c<size)
  (l:ah) (hl:l.length<=17592186043904) (DS:bx l size) (F:List ay) (hF:F.length<=1000) :
  cp ai 83 [aO l,aa size,.fn (.func g) [] [.loc 1 0],.loc 0 0,.loc 1 0,.loc 2 0] [.row true [aa n],.row true [aa m],.row true [.own 3 F.length 0 F.length],.vec true F.length 1<|mr NM F]
   (.aI []) [.row true [aa n],.row true [aa m],.row true [.own 3 (F.length+1) 0<|F.length+1],.vec true (F.length+1) 1<|mr NM<|F++[λc=>fR l<|sel c]]:=by
 have KH:=SI l size zo hl DS;have emul:(n:Int)*(m:Int)=(NM:Int):=by rw[<-gp];rfl
 refine sy fZ zs zs ?_ (by simp[aq,au]);refine sR ?_;refine sC KH ?_;rw[emul];refine sI ?_;refine⟨zo,zo,zo,?_⟩;rw[bQ,show List.map D.sc [Value.bool false]=[aD false] from rfl,lS];refine sW ?_;refine bt [2,3,4,5,9,10] (λk:Nat=>[(11,aa k)]) (λk=>[(4,.vec true 0 1<|bV NM λv=>decide (v<k)&&fR l (sel v))]) (λk=>k<=NM) (λk=>NM-k) 0 ?_;refine sW ?_;refine⟨zo,by exact sK,by rw[show(λv=>decide (v<0)&&fR l (sel v))=λ_=>false from funext λv=>zs];rfl,?_⟩;rintro k hk;refine c6 ?_;rw[emul];refine sI ?_;refine sS (λq0=>?_) λq0=>?_
 ·have q0:k<NM:=sO;have Mn:=Gj k q0;have hii:=bp k q0;refine sN Mn ?_;generalize hx:sel k=x at *;refine sL (bj x zo zo) ?_;refine sB ?_;refine⟨_,bj k zo q0,?_⟩;refine bb ?_;refine⟨k+1,zo,zd,?_⟩;rw[nV (i:=k) (f':=λv=>decide (v<k+1)&&fR l (sel v)) zo λv _=>by
   by_cases e:v=k
   ·subst e;rw[ae rfl,hx];simp
   rw[ab e];by_cases e2:v<k
   ·rw[ia e2,ia<|show v<k+1 by omega]
   rw[gM e2,gM<|show ¬v<k+1 by omega]]
  exact aR 5 zs rfl sQ sQ
 have q0:k=NM:=by have:¬k<NM:=sO
                  omega
 subst q0;refine sJ ?_;refine⟨.refl _,⟨rfl,.refl _,by simp[au,aq]⟩,⟨rfl,.refl _,by simp[au,aq]⟩,⟨rfl,.refl _,by simp[au,aq]⟩,⟨rfl,rfl,rfl,?_,aV _<|DQ _ _⟩,trivial⟩;rw[show mr k (F++[λc=>fR l<|sel c])=mr k F++[[bD k λc=>fR l<|sel c]] by simp[mr]];exact .append _ _ _ _ (aZ<|cx zs) (.cons _ _ _ _ (.cons _ _ _ _ (.own _ _ _ _ _ _ _ _ rfl rfl (aZ<|by rw[cx zs];exact jS λv hv=>by rw[ia hv];simp)) (.refl _)) (.refl _))
end
section
section
variable{W:bc}{A:bS}
def TQ.aM(q:TQ):ah:=(q.2.1.take q.2.2.2.1).drop q.2.2.1
structure QI(W:bc)(A:bS)(q:TQ)(R:aj)(p:Nat)(o:ah):Prop where
 th:ThI W A q.1 R q.aM p o
 lo:q.2.2.1<=q.2.2.2.1
 hi:q.2.2.2.1<=q.2.1.length
 len:q.2.1.length<=W.next.length*A.next.length
 fit:∀v,q.1 v->kp W A (prE A.next.length v)=true
def TQ.mu(W:bc)(A:bS)(q:TQ):Nat:=dH q.1 (W.next.length*A.next.length)+(q.2.2.2.1-q.2.2.1)
theorem zsf{n:Nat}(hn:l.Nodup)(h:∀x∈l,0<=x/\x.toNat<n):l.length<=n:=by
 refine FN n l.length (λi=>(l.getD i 0).toNat) (λi hi=>?_) λi j hi hj he=>?_
 ·exact(h _<|by rw[aE,aJ hi];simp).2
 have aW:=h (l.getD i 0) (by rw[aE,aJ hi];simp);have jf:=h (l.getD j 0) (by rw[aE,aJ hj];simp);have hx:l.getD i 0=l.getD j 0:=zo;rw[aE,aE,aJ hi,aJ hj] at hx;simp only[nR] at hx;rcases yR i j with q|q|q
 ·exact absurd hx<|tG.1 hn i j hi hj q
 ·exact q
 exact absurd hx.symm<|tG.1 hn j i hj hi q
variable{R:aj}
theorem WT{q:TQ}{p:Nat}{o:ah}(h:QI W A q R p o){x y:Int}(hg:iG W A (x,y)) :
  QI W A (tM (kp W A (x,y)) (gq A.next.length (x,y)) q) R p o/\(∀v,q.1 v->(tM (kp W A (x,y)) (gq A.next.length (x,y)) q).1 v) /\
   (tM (kp W A (x,y)) (gq A.next.length (x,y)) q).1 (gq A.next.length (x,y))=kp W A (x,y)/\(tM (kp W A (x,y)) (gq A.next.length (x,y)) q).mu W A<=q.mu W A:=by
 have gw:=zH hg;have Hw:=Kc hg;generalize gq A.next.length (x,y)=c at *;unfold tM;by_cases hc:(kp W A (x,y)&&!(q.1 c))=true
 ·rw[ae hc];rw[fY,B9] at hc;have hT:=h.th.add hc.2 gw;have hL:(q.aM++[(c:Int)]).length<=W.next.length*A.next.length:=zsf hT.nd λz hz=>⟨(hT.tq z hz).1,hT.rng _ (hT.tq z hz).2⟩;have hl:q.aM.length=q.2.2.2.1-q.2.2.1:=by
   unfold TQ.aM;rw[lL,gA];have:=h.hi;omega
  have h1:=h.lo;have h2:=h.hi;have e:TQ.aM (mark q.1 c,q.aM++[(c:Int)],0,q.2.2.2.1-q.2.2.1+1,q.2.2.2.2+1)=q.aM++[(c:Int)]:=by
   show List.drop 0 (List.take _ _)=_;rw[fQ,jd<|by rw[cq,hl];exact aT _]
  refine⟨⟨by rw[show((mark q.1 c,List.drop q.2.2.1 (List.take q.2.2.2.1 q.2.1)++[(c:Int)],0,q.2.2.2.1-q.2.2.1+1,q.2.2.2.2+1):TQ)=(mark q.1 c,q.aM++[(c:Int)],0,q.2.2.2.1-q.2.2.1+1,q.2.2.2.2+1) from rfl,e];exact hT,jr _,by show _<=(q.aM++[(c:Int)]).length;rw[cq,hl];exact aT _,hL,λv hv=>?_⟩,λv hv=>tS.2 (.inl hv),(tS.2 (.inr rfl)).trans hc.1.symm,?_⟩
  ·rcases tS.1 hv with k|k
   ·exact h.fit v k
   subst k;rw[Hw];exact hc.1
  have:=oS (s:=q.1) (s':=mark q.1 c) gw (λj _ hj=>tS.2 (.inl hj)) hc.2<|tS.2 (.inr rfl);unfold TQ.mu;dsimp only;omega
 rw[ab hc];refine⟨h,λv hv=>hv,?_,aT _⟩;cases hf:kp W A (x,y)
 ·cases hs:q.1 c
  ·rfl
  have:=h.fit c hs;rw[Hw,hf] at this;cases this
 rw[hf,kP] at hc;simpa using hc
theorem QI.begin:QI W A ((λ_=>false),[],0,0,0) (List.replicate (W.next.length*A.next.length) []) (W.next.length*A.next.length) [] :=
 ⟨ThI.begin,aT _,aT _,jr _,λv hv=>by cases hv⟩
theorem QI.pop{S:ay}{Z:ah}{lo hi aw:Nat}{R:aj}(h:QI W A (S,Z,lo,hi,aw) R (W.next.length*A.next.length) [])(hl:lo<hi) :
  QI W A (S,Z,lo+1,hi,aw) R (Z.getD lo 0).toNat []/\0<=Z.getD lo 0/\(Z.getD lo 0).toNat<W.next.length*A.next.length/\TQ.mu W A (S,Z,lo+1,hi,aw)<TQ.mu W A (S,Z,lo,hi,aw):=by
 have hT:=h.th;have hh:hi<=Z.length:=h.hi;have e:TQ.aM (S,Z,lo,hi,aw)=Z.getD lo 0::TQ.aM (S,Z,lo+1,hi,aw):=Fs hl hh;rw[e] at hT;obtain⟨h1,h2,h3⟩:=hT.pop;refine⟨⟨h1,hl,hh,h.len,h.fit⟩,h2,h3,?_⟩;unfold TQ.mu;dsimp only;omega
def tg(W:bc)(A:bS):List ay:=(W.fair.map λl c=>fR l<|c/A.next.length)++A.fair.map λl c=>fR l<|c%A.next.length
theorem zwC(hb:mY W A)(hm:0<A.next.length){q:TQ}(h:QI W A q R (W.next.length*A.next.length) [])(hq:q.aM=[])(cE:∀p∈fW W A W.start A.start,q.1<|gq A.next.length p) :
  gz W A=true↔∃x∈(fW W A W.start A.start).map (λp=>(gq A.next.length p:Int)),Fw R (tg W A) x.toNat:=by
 obtain⟨hN,hg⟩:=vv hb;have hT:=h.th;rw[hq] at hT;have hR:=hT.rows hN hg cE;have hF:=hN.fair (code:=gq A.next.length) hR<|tg W A;have ZJ:(tg W A).map (λS v=>S<|gq A.next.length<|(b9 W A).1.getD v (0,0))=js W A (b9 W A).1:=by
  have Jw:∀v,gq A.next.length ((b9 W A).1.getD v (0,0))/A.next.length=((b9 W A).1.getD v (0,0)).1.toNat/\gq A.next.length ((b9 W A).1.getD v (0,0))%A.next.length=((b9 W A).1.getD v (0,0)).2.toNat:=λv=>by
   rcases dY v (b9 W A).1.length with k|k
   ·exact Tv<|hg _<|nT k
   rw[aE,cY k];simp[gq]
  unfold tg js mg vO;rw[nZ,wJ,wJ,eZ,eZ]
  congr 1
  ·refine qY λl _=>funext λv=>?_;show fR l _=fR l _;rw[(Jw v).1]
  refine qY λl _=>funext λv=>?_;show fR l _=fR l _;rw[(Jw v).2]
 rw[ZJ] at hF;have hA:gz W A=true↔∃v,v<(b9 W A).2.length/\Fw (b9 W A).2 (js W A (b9 W A).1) v:=by unfold gz;simp only[ja]
 rw[hA,hF];constructor
 ·rintro⟨p,hp,k⟩;exact⟨_,dq.2 ⟨p,hp,rfl⟩,by rw[bQ];exact k⟩
 rintro⟨x,hx,k⟩;obtain⟨p,hp,rfl⟩:=dq.1 hx;rw[bQ] at k;exact⟨p,hp,k⟩
end
end
section
def mB(m:Nat)(l:List Pr):ah:=l.map λp=>(gq m p:Int)
theorem HY(m:Nat)(a b:List Pr):mB m (a++b)=mB m a++mB m b:=by simp[mB]
def n5(W:bc)(A:bS)(q:TQ)(g:fE)(f:ah):aF :=
 [.row true W.cells,.row true A.cells,.row true [aa W.next.length],.row true [aa A.next.length],.vec true 0 1 g,.vec true 0 1<|bV (W.next.length*A.next.length) q.1,.row true [.own 5 0 0<|W.next.length*A.next.length],.row true [.own 8 q.2.2.2.2 q.2.2.1 q.2.2.2.1],.vec true q.2.2.2.2 1<|aA q.2.1,.vec true f.length 1<|aA f]
def hdX(W:bc)(A:bS)(S:ay)(Z:ah)(lo hi aw:Nat)(g:fE)(f:ah):aF :=
 [.row true W.cells,.row true A.cells,.row true [aa W.next.length],.row true [aa A.next.length],.vec true 0 1 g,.vec true 0 1<|bV (W.next.length*A.next.length) S,.row true [.own 5 0 0<|W.next.length*A.next.length],.row true [.own 8 aw lo hi],.vec true aw 1<|aA Z,.vec true f.length 1<|aA f]
variable{W:bc}{A:bS}
theorem VF(kc:xH W A)(vc:W.next.length*A.next.length<=4000)(hM:sT A.jq)(x y:Int)(hg:iG W A (x,y))(q:TQ)(h1:q.2.2.1<=q.2.2.2.1)(h2:q.2.2.2.1<=q.2.1.length)(h3:q.2.1.length<=1000000000)(g:fE)(f:ah)(T:aF) :
  pJ ai 81 [aa x,aa y,.loc 1 0,.loc 0 0,.loc 6 0,.loc 3 0,.loc 7 0] (n5 W A q g f++T) (.aI []) (n5 W A (tM (kp W A (x,y)) (gq A.next.length (x,y)) q) g f++T) [1,0,6,3,5,7,8]:=by
 have hA:=zwu kc vc hM x y hg q h1 h2 h3;generalize tM (kp W A (x,y)) (gq A.next.length (x,y)) q=Q at *;have Jm:∀q:TQ,(uq W A q).map (ao.aQ λi=>[1,0,6,3,5,7,8].getD i 0)=[.row true A.cells,.row true W.cells,.row true [.own 5 0 0<|W.next.length*A.next.length],.row true [aa A.next.length],.vec true 0 1<|bV (W.next.length*A.next.length) q.1,.row true [.own 8 q.2.2.2.2 q.2.2.1 q.2.2.2.1],.vec true q.2.2.2.2 1<|aA q.2.1]:=λq=>by
  simp only[uq,fi,gm,ao.aQ,mo _<|vj W,mo _<|F3 A,kQ _<|tW _ _,zn,bP,D.aQ];rfl
 have wi:=FL (H:=n5 W A q g f++T) hA rfl [1,0,6,3,5,7,8] rfl zc (by simp[au,aq,uq]) (by
  have:=@TC W A q;unfold uq at *;exact⟨this _ zs,this _ zs,this _ zs,this _ zs,this _ zs,this _ zs,this _ zs,trivial⟩) (args:=[aa x,aa y,.loc 1 0,.loc 0 0,.loc 6 0,.loc 3 0,.loc 7 0]) (d:=.aI []) rfl (by simp only[D.aQ,bP]) (λi o ho=>by
   have h:=bJ (λz=>z[i]?)<|Jm q;simp only[cU,ho,x5] at h;rcases i with _|_|_|_|_|_|_|i
   ·exact h.symm
   ·exact h.symm
   ·exact h.symm
   ·exact h.symm
   ·exact h.symm
   ·exact h.symm
   ·exact h.symm
   simp[uq] at ho)
 rw[Jm Q] at wi;exact wi
theorem Sk(vc:W.next.length*A.next.length<=4000)(g:FuncId)(sel:Nat->Nat)(size:Nat)(fT:size<=2048)(Gj:∀c,c<W.next.length*A.next.length->ar ai g [aa c,.aB [aa A.next.length]] (aa<|sel c))(bp:∀c,c<W.next.length*A.next.length->sel c<size)
  (l:ah) (hl:l.length<=17592186043904) (DS:bx l size) (F:List ay) (hF:F.length<=1000) (q:TQ) (G:fE) (f:ah) :
  pJ ai 83 [aO l,aa size,.fn (.func g) [] [.loc 3 0],.loc 2 0,.loc 3 0,.loc 10 0] (n5 W A q G f++[.row true [.own 11 F.length 0 F.length],.vec true F.length 1<|mr (W.next.length*A.next.length) F])
   (.aI []) (n5 W A q G f++[.row true [.own 11 (F.length+1) 0<|F.length+1],.vec true (F.length+1) 1<|mr (W.next.length*A.next.length)<|F++[λc=>fR l<|sel c]]) [2,3,10,11]:=by
 have hA:=zwU (W.next.length*A.next.length) W.next.length A.next.length vc rfl g sel size fT Gj bp l hl DS F hF
 have wi:=FL (H:=n5 W A q G f++[.row true [.own 11 F.length 0 F.length],.vec true F.length 1<|mr (W.next.length*A.next.length) F]) hA rfl [2,3,10,11] rfl zc (by simp[au,aq]) ⟨by simp[ao.under,au,aq],by simp[ao.under,au,aq],by simp[ao.under,au,aq],aV _<|DQ _ _,trivial⟩
  (args:=[aO l,aa size,.fn (.func g) [] [.loc 3 0],.loc 2 0,.loc 3 0,.loc 10 0]) (d:=.aI []) (by simp only[bP,D.aQ,tp];rfl) (by simp only[D.aQ,bP]) (λi o ho=>by
   rcases i with _|_|_|_|i
   ·simp at ho;subst ho;rfl
   ·simp at ho;subst ho;rfl
   ·simp at ho;subst ho;rfl
   ·simp at ho;subst ho;simp only[ao.aQ,kQ _<|DQ _ _];rfl
   simp at ho)
 simp only[fi,gm,ao.aQ,kQ _<|DQ _ _,bP,D.aQ] at wi;exact wi
def xn(h:ah->Nat->Bool)(G:aj)(k:Nat):List ay:=(G.take k).map h
variable{h:ah->Nat->Bool}{G:aj}
theorem Ps(hk:k<G.length):xn h G (k+1)=xn h G k++[h<|G.getD k []]:=by
 unfold xn;rw[lI,aJ hk,nZ,aE,aJ hk];rfl
theorem Wf(hk:k<=G.length):(xn h G k).length=k:=by simp[xn];omega
theorem Wi:∀k,fc (List.replicate k<|List.map D.sc [Value.slice none 0 0])
 |0=>trivial
 |k+1=>⟨⟨trivial,trivial⟩,Wi k⟩
variable{k:ah}
theorem Qv{x:Int}{j:Nat}(h:j<k.length):pg W A x (k.drop j)=(if kp W A (x,k.getD j 0)=true then [(x,k.getD j 0)] else [])++pg W A x (k.drop<|j+1):=by
 rw[yY h,QC];split<;>simp
theorem VP(h:i<l.length):fW W A (l.drop i) k=pg W A (l.getD i 0) k++fW W A (l.drop<|i+1) k:=by
 rw[yY h,fW,List.flatMap_cons];rfl
def zAT:PC:=.seq (SO [qm 49 13,Fa 50 0 3,Lo 51 50,Ln 52 51,Bi 53 .lss 49 52]<|CX 53 2) (.seq (.block 3 (.seq (.ops [qm 56 10,Fa 57 0 2,Ld 58 57 2,qm 59 12,Ja 60 1 58 59 14,Ld 61 60 30,Fa 62 0 3,Ld 63 62 64,qm 64 13,Ja 65 1 63 64 448,Ld 66 65 960,qd 67 (.dN 56 [61,66]) 2047] true) (.seq (.ops [LA 68 5 3,Fa 69 0 3,Ld 70 69 2,qm 71 13,Ja 72 1 70 71 14,Ld 73 72 30,Fa 74 2 2,Ld 75 74 64,Fa 76 0 2,Ld 77 76 256,qm 78 12,Ja 79 1 77 78 1792,Ld 80 79 3840,Ja 81 1 75 80 8128,Ld 82 81 16320,Cd 83 82 [68,73,82] 32767] true)<|If 83 (.ops [qm 84 11,Fa 85 0 2,Ld 86 85 2,qm 87 12,Ja 88 1 86 87 14,Ld 89 88 30,Lo 90 6,Bd 91 .mul 89 90 126,Fa 92 0 3,Ld 93 92 256,qm 94 13,Ja 95 1 93 94 1792,Ld 96 95 3840,Bd 97 .add 91 96 8190,qd 98 (.oP 1 1 [97]) 16382,qd 99 (.append 1 8 84 98) 32767,qw 11 99 65535] true))))<|OP [qm 54 13,Bi 55 .add 54 K1,qm 13 55])
def ZO:PC:=.seq (SO [qm 42 12,Fa 43 0 2,Lo 44 43,Ln 45 44,Bi 46 .lss 42 45]<|CX 46 0) (.seq (.block 1<|SO [Mv 13 K0]<|BL 2 zAT)<|OP [qm 47 12,Bi 48 .add 47 K1,qm 12 48])
def zAt:PC:=.seq (.seq (.ops [qm 120 16,Fa 121 1 3,Ld 122 121 2,qm 123 14,Lo 124 6,Bd 125 .rem 123 124 24,Ja 126 1 122 125 62,Ld 127 126 126,qd 128 (.len 127) 254,Bd 129 .lss 120 128 511] true)<|CX 129 8) (.seq (.block 9 (.seq (.ops [Fa 132 1 2,Ld 133 132 1,qm 134 14,Lo 135 6,Bd 136 .quo 134 135 12,Ja 137 1 133 136 31,Ld 138 137 63,qm 139 15,Ja 140 1 138 139 255,Ld 141 140 511,Fa 142 1 3,Ld 143 142 1024,qm 144 14,Lo 145 6,Bd 146 .rem 144 145 12288,Ja 147 1 143 146 31744,Ld 148 147 64512,qm 149 16,Ja 150 1 148 149 261120,Ld 151 150 523264,qw 17 141 1023,qw 18 151 2097151] true)<|SO [qm 152 10,qm 153 17,qm 154 18,q 155 (.dN 152 [153,154])]<|SO [Lo 156 8,qm 157 17,Lo 158 6,Bi 159 .mul 157 158,qm 160 18,Bi 161 .add 159 160,Ia 162 1 156 161,Lo 163 162]<|If 163 (.ops [qm 164 7,qm 165 14,qm 166 7,qm 167 14,Ja 168 1 166 167 12,Ld 169 168 28,qm 170 17,Lo 171 6,Bd 172 .mul 170 171 192,qm 173 18,Bd 174 .add 172 173 960,qd 175 (.oP 1 1 [174]) 1984,qd 176 (.append 1 8 169 175) 4092,Ja 177 1 164 165 8191,qk (.store 1 177 176) 16383] true)))<|OP [qm 130 16,Bi 131 .add 130 K1,qm 16 131])
def zAC:PC:=.seq (.seq (.ops [qm 108 15,Fa 109 1 2,Ld 110 109 2,qm 111 14,Lo 112 6,Bd 113 .quo 111 112 24,Ja 114 1 110 113 62,Ld 115 114 126,qd 116 (.len 115) 254,Bd 117 .lss 108 116 511] true)<|CX 117 6) (.seq (.block 7<|SO [Mv 16 K0]<|BL 8 zAt)<|OP [qm 118 15,Bi 119 .add 118 K1,qm 15 119])
def zA8:PC:=.seq (SO [Lo 100 9,Ln 101 100,Bi 102 .gtr 101 K0]<|CX 102 4) (.block 5<|SO [Lo 103 9,Ia 104 1 103 K0,Lo 105 104,qm 14 105]<|SO [Lo 106 9,q 107 (.slc 1 106 (some K1) none none),So 1 9 107]<|SO [Mv 15 K0]<|BL 6 zAC)
def YC:PC:=.seq (SO [qm 179 21,Fa 180 3 2,Lo 181 180,Ln 182 181,Bi 183 .lss 179 182]<|CX 183 10) (.seq (.block 11 (.ops [qm 186 20,Fa 187 3 2,Ld 188 187 2,qm 189 21,Ja 190 1 188 189 14,Ld 191 190 30,Lo 192 5,q 193 (.jD (.func 85) [] [6]),qd 194 (.dN 186 [191,192,193]) 255] true))<|OP [qm 184 21,Bi 185 .add 184 K1,qm 21 185])
def Yn:PC:=.seq (SO [qm 195 22,Fa 196 4 3,Lo 197 196,Ln 198 197,Bi 199 .lss 195 198]<|CX 199 12) (.seq (.block 13 (.ops [qm 202 20,Fa 203 4 3,Ld 204 203 2,qm 205 22,Ja 206 1 204 205 14,Ld 207 206 30,Lo 208 6,q 209 (.jD (.func 86) [] [6]),qd 210 (.dN 202 [207,208,209]) 255] true))<|OP [qm 200 22,Bi 201 .add 200 K1,qm 22 201])
def zAA:PC:=.seq (SO [qm 214 24,qm 215 11,Ln 216 215,Bi 217 .lss 214 216]<|CX 217 14) (.seq (.block 15<|SO [qm 220 23,qm 221 11,qm 222 24,Ia 223 1 221 222,Lo 224 223,Ia 225 1 220 224,Lo 226 225]<|If 226<|SO [Mv 4 cT] .ret)<|OP [qm 218 24,Bi 219 .add 218 K1,qm 24 219])
def c21:PC:=SO [Bx 2 0,Bx 3 1,Mv 4 cF] (.seq (.ops [Fa 25 1 2,Ld 26 25 1,qd 27 (.len 26) 3,Fa 28 1 3,Ld 29 28 8,qd 30 (.len 29) 24,q 5 (.alloc [v0]),q 6 (.alloc [v0]),qk (.store 1 5 27) 199,qk (.store 1 6 30) 511] true) (.seq (SO [Lo 31 6,Bi 32 .eql 31 K0]<|If 32<|SO [Mv 4 cF] .ret)<|SO [Lo 33 5,Lo 34 6,Bi 35 .mul 33 34,q 36 (.sM 1 24 [vN] 35 35),qm 7 36]<|SO [Lo 37 5,Lo 38 6,Bi 39 .mul 37 38,q 40 (.sM 1 1 [vF] 39 39),q 8 (.alloc [vN]),So 1 8 40]<|SO [q 9 (.alloc [vN])]<|SO [q 41 (.jD (.func 81) [] [3,2,8,6,9]),qm 10 41]<|SO [Mv 11 cN] (.seq (SO [Mv 12 K0]<|BL 0 ZO) (.seq (.stop<|BL 4 zA8)<|SO [q 19 (.alloc [vN])]<|SO [q 178 (.jD (.func 83) [] [5,6,19]),qm 20 178] (.seq (SO [Mv 21 K0]<|BL 10 YC) (.seq (SO [Mv 22 K0]<|BL 12 Yn)<|SO [qm 211 7,Lo 212 19,Ca 213 87 [211,212],qm 23 213] (.seq (SO [Mv 24 K0]<|BL 14 zAA)<|SO [Mv 4 cF] .ret)))))))
theorem ztt(hb:mY W A)(vc:W.next.length*A.next.length<=4000)(hM:sT A.jq)(hm:0<A.next.length):ar ai 21 [gu W,lX A]<|aD<|gz W A:=by
 have kc:=hb.two;obtain⟨w1,w2,w3,w4,w5,w6⟩:=tc W kc.cw;obtain⟨a1,a2,a3,a4,a5,a6,a7⟩:=wo A kc.ca;have Jk:=λs hs x=>T2 A a1 a2 hM s hs x;have EV:=vj W;have Fv:=F3 A;have emul:(W.next.length:Int)*(A.next.length:Int)=((W.next.length*A.next.length:Nat):Int):=by rw[Eo]
 have MS:=hb.begin.2;have hsa:=hb.sa;have hsw:=hb.sw;have hAdd:=λx y hg q h1 h2 h3 g f T=>VF kc vc hM x y hg q h1 h2 h3 g f T;have I3:=λq R (h:QI W A q R (W.next.length*A.next.length) []) hq cE=>zwC hb hm h hq cE;have zHy:(mB A.next.length<|fW W A W.start A.start).length<=1099511627776:=by unfold mB;rw[aK];exact MS
 have QB:∀y∈mB A.next.length (fW W A W.start A.start),0<=y/\y.toNat<W.next.length*A.next.length:=λy hy=>by
  obtain⟨p,hp,rfl⟩:=dq.1 hy;have:=zH<|hb.begin.1 p hp;omega
 rw[show(fW W A W.start A.start).map (λp=>(gq A.next.length p:Int))=mB A.next.length (fW W A W.start A.start) from rfl] at I3;have pH:∀q:TQ,(∀y∈mB A.next.length (fW W A W.start A.start),q.1 y.toNat)->∀p∈fW W A W.start A.start,q.1 (gq A.next.length p)=true:=λq h p hp=>by
  have:=h _<|dq.2 ⟨p,hp,rfl⟩;simpa using this
 refine bK (fJ 227 [.tmp 4] c21 Tryz.func21) ?_;generalize zLz:gz W A=ans at *;obtain⟨F0,Jl⟩:∃F0,F0=mB A.next.length (fW W A W.start A.start):=⟨_,rfl⟩;rw[<-Jl] at zHy QB I3 pH;unfold gu lX at *;unfold n5 at hAdd;unfold bc.cells bS.cells at *;refine sR ?_;rw[aK,aK];refine sS (λq0=>?_) λq0=>?_
 ·rw[gG] at q0;omega
 rw[emul];refine sI ?_;refine⟨zo,zo,zo,?_⟩;rw[bQ];refine sW ?_;rw[emul];refine sI ?_;refine⟨zo,zo,zo,?_⟩;rw[bQ,show List.map D.sc [Value.bool false]=[aD false] from rfl,lS];refine sW ?_;have hb0:=QI.begin (W:=W) (A:=A);generalize Ib:List.replicate (W.next.length*A.next.length) ([]:ah)=R0 at *;refine b8 (kS (iq 7 0 1 zs rfl rfl)<|fL 11 1 zs rfl) ?_
 refine cJ [2,3,5,6,7,8,9,10] (λ((i,q,f):Nat×TQ×ah)=>[(11,.own 9 f.length 0 f.length),(12,aa i)]) (λ(i,q,f)=>n5 W A q (List.replicate (W.next.length*A.next.length)<|List.map D.sc [Value.slice none 0 0]) f)
  (λ(i,q,f)=>i<=W.start.length/\QI W A q R0 (W.next.length*A.next.length) []/\(∀y∈f,q.1 y.toNat)/\f++mB A.next.length (fW W A (W.start.drop i) A.start)=F0) (λ(i,q,f)=>W.start.length-i) (0,((λ_=>false),[],0,0,0),[]) ?_
 refine sW ?_;refine⟨⟨zo,hb0,zs,by rw[fQ,lW];exact Jl.symm⟩,by exact sK,rfl,?_⟩;rintro⟨i,q,f⟩ ⟨hi,hQ,lp,hF⟩;unfold n5;refine c6 ?_;rw[aK];refine sS (λq0=>?_) λq0=>?_
 ·have q0:i<W.start.length:=sO;have hx:=cZ w4<|dP q0;rw[VP q0,HY] at hF;generalize mq:W.start.getD i 0=x at *
  refine cJ [2,3,5,6,7,8,9,10,12] (λ((k,q,f):Nat×TQ×ah)=>[(11,.own 9 f.length 0 f.length),(13,aa k)]) (λ(k,q,f)=>n5 W A q (List.replicate (W.next.length*A.next.length)<|List.map D.sc [Value.slice none 0 0]) f)
   (λ(k,q,f)=>k<=A.start.length/\QI W A q R0 (W.next.length*A.next.length) []/\(∀y∈f,q.1 y.toNat)/\f++(mB A.next.length (pg W A x<|A.start.drop k)++mB A.next.length (fW W A (W.start.drop<|i+1) A.start))=F0) (λ(k,q,f)=>A.start.length-k) (0,q,f) ?_
  refine sW ?_;refine⟨⟨zo,hQ,lp,by rw[fQ];exact hF⟩,by exact sK,rfl,?_⟩;rintro⟨k,q,f⟩ ⟨hk,hQ,lp,hF⟩;unfold n5;refine c6 ?_;rw[aK];refine sS (λq1=>?_) λq1=>?_
  ·have q1:k<A.start.length:=sO;have hy:=cZ a5<|dP q1;have yB:f.length<=F0.length:=(by rw[<-hF,cq];omega);rw[Qv q1,HY] at hF;generalize FK:A.start.getD k 0=y at *;have tB:iG W A (x,y):=⟨hx,hy⟩;obtain⟨t1,t2,t3,t4⟩:=WT hQ tB;have hA:=hAdd x y tB q hQ.lo hQ.hi (by have:=hQ.len;omega) (List.replicate (W.next.length*A.next.length)<|List.map D.sc [Value.slice none 0 0]) f [];refine sL (by rw[cA (l:=W.start) (k:=i) zo q0,mq]) ?_;refine sL (by rw[cA (l:=A.start) (k:=k) zo q1,FK]) ?_;refine sE hA ?_;have ec:gq A.next.length (x,y)=x.toNat * A.next.length+y.toNat:=rfl;have emx:x*(A.next.length:Int)=((x.toNat * A.next.length:Nat):Int):=(by rw[Eo,ui hx.1]);have gw:=zH tB;generalize hq2:tM (kp W A (x,y)) (gq A.next.length (x,y)) q=q2 at *;generalize IS:x.toNat * A.next.length=xm at *;generalize A5:gq A.next.length (x,y)=c at *;refine sL (by rw[cA (l:=A.start) (k:=k) zo q1,FK]) ?_;refine sL (by rw[cA (l:=W.start) (k:=i) zo q0,mq]) ?_;refine sL (zy (l:=W.label) (k:=x.toNat) zo zo) ?_;have VW:=Jk y.toNat zo<|W.label.getD x.toNat 0;rw[show((y.toNat:Nat):Int)=y by omega,show yx A y.toNat (W.label.getD x.toNat 0)=kp W A (x,y) from rfl] at VW;refine sC VW ?_;cases r:kp W A (x,y)
   ·rw[r,ab zc] at hF;refine bb ?_;refine⟨(k+1,q2,f),⟨zo,t1,λz hz=>t2 _<|lp z hz,hF⟩,zd,?_⟩;exact aL (by exact sK) rfl
   rw[r,ae rfl] at hF;rw[r] at t3;refine sW ?_;refine sL (by rw[cA (l:=W.start) (k:=i) zo q0,mq]) ?_;rw[emx];refine sI ?_;refine sL (by rw[cA (l:=A.start) (k:=k) zo q1,FK]) ?_;refine sI ?_;refine fA ?_;refine⟨(k+1,q2,f++[(c:Int)]),⟨zo,t1,λz hz=>?_,?_⟩,zd,?_⟩
   ·rcases dt.1 hz with q|q
    ·exact t2 _<|lp z q
    rw[cB] at q;subst q;rw[bQ];exact t3
   ·rw[show(c:Int)=(gq A.next.length (x,y):Int) by rw[A5]];rw[gy];exact hF
   dsimp only;rw[show(f++[(c:Int)]).length=f.length+1 by simp,show((xm:Nat):Int)+y=(c:Int) by omega]
   (refine aR 10 zs rfl ?_ ?_<;>(repeat' (first|exact trivial|exact rfl|exact .refl _|refine And.intro ?_ ?_|(simp[aq,au,bg,-List.map_take,-List.map_drop];done))))
   all_goals first|exact bu _ EV|exact bu _ Fv|exact aZ (kv f _)|exact aV _ (Wi _)|skip
  have q1:k=A.start.length:=by have:¬k<A.start.length:=sO
                               omega
  subst q1;rw[tf] at hF;refine sI ?_;refine⟨(i+1,q,f),⟨zo,hQ,lp,hF⟩,zd,?_⟩;exact aL (by exact sK) rfl
 have q0:i=W.start.length:=by have:¬i<W.start.length:=sO
                              omega
 subst q0;rw[tf,show mB A.next.length (fW W A [] A.start)=[] from rfl,kM] at hF;subst hF;refine px (λ((q,R):TQ×aj)=>[(2,.loc 0 0),(3,.loc 1 0),(5,.loc 2 0),(6,.loc 3 0),(7,.own 4 0 0<|W.next.length*A.next.length),(11,.own 9 f.length 0 f.length)]) (λ(q,R)=>n5 W A q (gr R) f) (λ(q,R)=>QI W A q R (W.next.length*A.next.length) []/\q.aM=[]/\∀y∈f,q.1 y.toNat=true) ?_ ?_
 ·refine sR ?_;refine b8 (Bp 4 1 (W.next.length*A.next.length) 0 zs rfl) ?_;refine cJ [2,3,5,6,7,8,9,10,11] (λ(((S,Z,lo,hi,aw),R):TQ×aj)=>[]) (λ((S,Z,lo,hi,aw),R)=>hdX W A S Z lo hi aw (jZ 10 R) f++fO 1 l6 R) (λ(q,R)=>QI W A q R (W.next.length*A.next.length) []/\∀y∈f,q.1 y.toNat=true) (λ(q,R)=>TQ.mu W A q) (q,R0) ?_;refine sW ?_;refine⟨⟨hQ,lp⟩,by exact sK,?_,?_⟩
  ·rw[A9 1 _ l6];dsimp only;rw[<-Ib,<-Bn (α:=Int) 10 (W.next.length*A.next.length)];rfl
  clear hQ lp;rintro⟨⟨S,Z,lo,hi,aw⟩,R⟩ ⟨hQ,lp⟩;unfold hdX;refine c6 ?_;have h1:lo<=hi:=hQ.lo;have h2:hi<=Z.length:=hQ.hi;have h3:=hQ.len;have On:=hQ.th.len;dsimp only at h3 lp;refine sS (λq0=>?_) λq0=>?_
  ·have q0:lo<hi:=sO;obtain⟨p1,p2,p3,p4⟩:=hQ.pop q0;refine sB ?_;refine⟨_,cA (l:=Z) (k:=lo) zo zo,?_⟩;refine sW ?_;generalize Z.getD lo 0=p at *;refine⟨zo,zo,zo,?_⟩;refine sW ?_;rw[show lo+(hi-lo)=hi by omega];obtain⟨g1,g2⟩:=zwK p3;obtain⟨⟨g3,g4⟩,g5,g6⟩:=g1;have hrC:pF W A p.toNat=mB A.next.length (fW W A (W.next.getD (p.toNat/A.next.length) [])<|A.next.getD (p.toNat%A.next.length) []):=by
    unfold pF nxE prE mB;dsimp only;rw[bQ,bQ]
   have zLY:=Vp hb p.toNat;have zLW:(pF W A p.toNat).length<=1099511627776:=(by unfold pF;rw[aK];exact(hb.next _).2);have Fz:p.tdiv (A.next.length:Int)=((p.toNat/A.next.length:Nat):Int):=(by rw[Int.ofNat_tdiv,ui p2]);have uT:p.tmod (A.next.length:Int)=((p.toNat%A.next.length:Nat):Int):=(by rw[Int.ofNat_tmod,ui p2]);unfold prE at g3 g4 g5 g6;dsimp only at g3 g4 g5 g6;have hu:p.toNat/A.next.length<W.next.length:=Int.ofNat_lt.1 g4;have hv:p.toNat%A.next.length<A.next.length:=Int.ofNat_lt.1 g6;clear g2 g3 g4 g5 g6;generalize p.toNat/A.next.length=u at *;generalize p.toNat%A.next.length=v at *;have xB:=vK hb.rw_ u;have Sn:=vK hb.ra v;have XD:=gY w5 u;have hai:=gY a6 v;have hpc:((p.toNat:Nat):Int)=p:=ui p2;generalize KM:TQ.mu W A (S,Z,lo+1,hi,aw)=M1 at *
   refine cJ [2,3,5,6,7,8,9,10,11,14] (λ((i,(S,Z,lo,hi,aw),R,o):Nat×TQ×aj×ah)=>[(15,aa i)]) (λ(i,(S,Z,lo,hi,aw),R,o)=>hdX W A S Z lo hi aw (jZ 10 R) f++fO 1 l6 R)
    (λ(i,q,R,o)=>i<=(W.next.getD u []).length/\QI W A q R p.toNat o/\(∀y∈f,q.1 y.toNat)/\(∀y∈o,q.1 y.toNat)/\o++mB A.next.length (fW W A ((W.next.getD u []).drop i)<|A.next.getD v [])=pF W A p.toNat/\TQ.mu W A q<=M1) (λ(i,q,R,o)=>(W.next.getD u []).length-i) (0,(S,Z,lo+1,hi,aw),R,[]) ?_
   refine sW ?_;refine⟨⟨zo,p1,lp,zs,by rw[hrC];rfl,by rw[KM];exact aT _⟩,by exact sK,rfl,?_⟩;rintro⟨i,⟨S,Z,lo,hi,aw⟩,R,o⟩ ⟨hi4,hQ,lp,u7,D8,B8⟩;unfold hdX;refine c6 ?_;refine⟨zo,?_⟩;rw[Fz];refine sI ?_;refine sL (iL (g:=W.next) (k:=u) zo hu) ?_;rw[aK];refine sS (λq4=>?_) λq4=>?_
   ·have q4:i<(W.next.getD u []).length:=sO;have hx:=cZ XD<|dP q4;rw[VP q4,HY] at D8;generalize mq:(W.next.getD u []).getD i 0=x at *
    refine cJ [2,3,5,6,7,8,9,10,11,14,15] (λ((k,(S,Z,lo,hi,aw),R,o):Nat×TQ×aj×ah)=>[(16,aa k)]) (λ(k,(S,Z,lo,hi,aw),R,o)=>hdX W A S Z lo hi aw (jZ 10 R) f++fO 1 l6 R)
     (λ(k,q,R,o)=>k<=(A.next.getD v []).length/\QI W A q R p.toNat o/\(∀y∈f,q.1 y.toNat)/\(∀y∈o,q.1 y.toNat)/\o++(mB A.next.length (pg W A x<|(A.next.getD v []).drop k)++mB A.next.length (fW W A ((W.next.getD u []).drop<|i+1)<|A.next.getD v []))=pF W A p.toNat/\TQ.mu W A q<=M1) (λ(k,q,R,o)=>(A.next.getD v []).length-k) (0,(S,Z,lo,hi,aw),R,o) ?_
    refine sW ?_;refine⟨⟨zo,hQ,lp,u7,by rw[fQ];exact D8,B8⟩,by exact sK,rfl,?_⟩;have zLV:=hQ.th.len;clear hQ lp u7 D8 B8;rintro⟨k,⟨S,Z,lo,hi,aw⟩,R,o⟩ ⟨hk,hQ,lp,u7,yf,B8⟩;have h1:lo<=hi:=hQ.lo;have h2:hi<=Z.length:=hQ.hi;have h3:Z.length<=W.next.length*A.next.length:=hQ.len;have On:=hQ.th.len;unfold hdX;refine c6 ?_;refine⟨zo,?_⟩;rw[uT];refine sW ?_;refine sL (iL (g:=A.next) (k:=v) zo hv) ?_;rw[aK];refine sS (λq5=>?_) λq5=>?_
    ·have q5:k<(A.next.getD v []).length:=sO;have hy:=cZ hai<|dP q5;rw[Qv q5,HY] at yf;generalize FK:(A.next.getD v []).getD k 0=y at *;have tB:iG W A (x,y):=⟨hx,hy⟩;obtain⟨t1,t2,t3,t4⟩:=WT hQ tB;have hA:=VF kc vc hM x y tB (S,Z,lo,hi,aw) h1 h2 zd (jZ 10 R) f<|fO 1 l6 R;have ec:gq A.next.length (x,y)=x.toNat * A.next.length+y.toNat:=rfl;have emx:x*(A.next.length:Int)=((x.toNat * A.next.length:Nat):Int):=(by rw[Eo,ui hx.1]);have gw:=zH tB;refine⟨zo,?_⟩;rw[Fz];refine sI ?_;refine sL (iL (g:=W.next) (k:=u) zo hu) ?_;refine sL (by rw[cA (l:=W.next.getD u []) (k:=i) zo q4,mq]) ?_;refine⟨zo,?_⟩;rw[uT];refine sW ?_;refine sL (iL (g:=A.next) (k:=v) zo hv) ?_;refine sL (by rw[cA (l:=A.next.getD v []) (k:=k) zo q5,FK]) ?_;generalize hq2:tM (kp W A (x,y)) (gq A.next.length (x,y)) (S,Z,lo,hi,aw)=q2 at *;obtain⟨S2,Z2,lo2,iO,ver2⟩:=q2;dsimp only at t2 t3;unfold n5 at hA;dsimp only at hA;generalize x.toNat * A.next.length=xm at *;generalize A5:gq A.next.length (x,y)=c2 at *;refine sE hA ?_;rw[emx];refine sI ?_;refine sIB ?_;refine⟨_,bj c2 zo zo,?_⟩;refine sW ?_;rw[t3];have oT:o.length<=(pF W A p.toNat).length:=(by rw[<-yf,cq];omega);cases r:kp W A (x,y)
     ·rw[r,ab zc] at yf;refine bb ?_;refine⟨(k+1,(S2,Z2,lo2,iO,ver2),R,o),⟨zo,t1,λz hz=>t2 _<|lp z hz,λz hz=>t2 _<|u7 z hz,yf,iv t4 B8⟩,zd,?_⟩;exact aL (by exact sK) rfl
     rw[r,ae rfl,show mB A.next.length [(x,y)]=[(c2:Int)] by unfold mB;rw[List.map_singleton,A5]] at yf;rw[r] at t3;have vQ:=(t1.th.cur p3).1;have RX:=t1.th.len;have bT:p.toNat≠R.length:=zo;refine bE ?_;refine⟨_,mh (i:=p.toNat) zo zo,?_⟩;refine sW ?_;rw[emx];refine sI ?_;refine sI ?_;rw[vQ];refine yq ?_;refine sW ?_
     (repeat (first|(refine gL 0 rfl ?_;((conv=>whnf);repeat(refine⟨rfl,?_⟩;conv=>whnf)))|(refine gN 0 rfl ?_;((conv=>whnf);repeat(refine⟨rfl,?_⟩;conv=>whnf)))|(refine gL 1 rfl ?_;((conv=>whnf);repeat(refine⟨rfl,?_⟩;conv=>whnf)))|(refine gN 1 rfl ?_;((conv=>whnf);repeat(refine⟨rfl,?_⟩;conv=>whnf)))))
     refine wN zo ?_;refine sW ?_;rw[vQ];refine sW ?_;refine⟨by unfold je;simp only[lL,gA,bH,bU];omega,?_⟩;refine sW ?_;refine yp (o++[((xm:Nat):Int)+y]) zo ?_ ?_
     ·exact x9
     refine bE ?_;refine⟨_,mh (i:=p.toNat) zo zo,?_⟩;refine bb ?_;have hQ2:QI W A (S2,Z2,lo2,iO,ver2) (R.set p.toNat<|o++[(c2:Int)]) p.toNat<|o++[(c2:Int)]:=⟨t1.th.put p3 _,t1.lo,t1.hi,t1.len,t1.fit⟩;refine⟨(k+1,(S2,Z2,lo2,iO,ver2),R.set p.toNat<|o++[(c2:Int)],o++[(c2:Int)]),⟨zo,hQ2,λz hz=>t2 _<|lp z hz,λz hz=>?_,by rw[gy];exact yf,iv t4 B8⟩,zd,?_⟩
     ·rcases dt.1 hz with q|q
      ·exact t2 _<|u7 z q
      rw[cB] at q;subst q;rw[bQ];exact t3
     dsimp only;rw[show((xm:Nat):Int)+y=(c2:Int) by omega];refine aR (R.length+10) (by simp;omega) zs (by exact sQ) ⟨⟨rfl,.refl _,bu _ EV⟩,⟨rfl,.refl _,bu _ Fv⟩,⟨rfl,.refl _,by simp[au,aq]⟩,⟨rfl,.refl _,by simp[au,aq]⟩,⟨rfl,rfl,rfl,aZ ?_,xz<|by simp;omega⟩,⟨rfl,rfl,rfl,.refl _,aV _<|tW _ _⟩,⟨rfl,.refl _,by simp[au,aq]⟩,⟨rfl,.refl _,by simp[au,aq]⟩,⟨rfl,rfl,rfl,.refl _,aV _<|B6 _⟩,⟨rfl,rfl,rfl,.refl _,aV _<|B6 _⟩,wL GN⟩;exact xr zo zo (o++[(c2:Int)]) zs
    have q5:k=(A.next.getD v []).length:=by have:¬k<(A.next.getD v []).length:=sO
                                            omega
    subst q5;rw[tf] at yf;refine sI ?_;refine⟨(i+1,(S,Z,lo,hi,aw),R,o),⟨zo,hQ,lp,u7,yf,B8⟩,zd,?_⟩;exact aL (by exact sK) rfl
   have q4:i=(W.next.getD u []).length:=by have:¬i<(W.next.getD u []).length:=sO
                                           omega
   subst q4;rw[tf,show mB A.next.length (fW W A []<|A.next.getD v [])=[] from rfl,kM] at D8;have hQ3:QI W A (S,Z,lo,hi,aw) R (W.next.length*A.next.length) []:=by
    subst D8;exact⟨hQ.th.fin p3 u7,hQ.lo,hQ.hi,hQ.len,hQ.fit⟩
   refine⟨((S,Z,lo,hi,aw),R),⟨hQ3,lp⟩,zd,?_⟩;exact aL (by exact sK) rfl
  have q0:lo=hi:=by have:¬lo<hi:=sO
                    omega
  subst q0;have hl:TQ.aM (S,Z,lo,lo,aw)=[]:=by
   unfold TQ.aM;dsimp only;rw[Ci<|by rw[gA];omega]
  refine⟨((S,Z,lo,lo,aw),R),⟨hQ,hl,lp⟩,aR 10 zs rfl (by exact sQ) ⟨⟨rfl,.refl _,bu _ EV⟩,⟨rfl,.refl _,bu _ Fv⟩,⟨rfl,.refl _,by simp[au,aq]⟩,⟨rfl,.refl _,by simp[au,aq]⟩,⟨rfl,rfl,rfl,CP (c:=l6) (λi hi=>by simp[nK]) λi hi=>?_,aV _<|mX _⟩,⟨rfl,rfl,rfl,.refl _,aV _<|tW _ _⟩,⟨rfl,.refl _,by simp[au,aq]⟩,⟨rfl,.refl _,by simp[au,aq]⟩,⟨rfl,rfl,rfl,.refl _,aV _<|B6 _⟩,⟨rfl,rfl,rfl,.refl _,aV _<|B6 _⟩,BW _⟩⟩;show(fO 1 l6 R)[i]? = _;exact xv hi
 rintro⟨q,R⟩ ⟨hQ,Fz,lp⟩;have hA:=I3 q R hQ Fz (pH q lp);have On:=hQ.th.len;have hT:=hQ.th;rw[Fz] at hT;obtain⟨bp,hFR⟩:=(hT.inR hb).resolve_right zo;have LD:=λk (hk:k<W.fair.length) F hF=>Sk (W:=W) (A:=A) vc 85 (λc=>c/A.next.length) W.next.length zo (λc hc=>zyX A.next.length hm c zo) (λc hc=>Nat.div_lt_of_lt_mul (by rw[Bc];exact hc)) (W.fair.getD k []) (vK kc.fw.xR k) (gY w6 k) F hF q (gr R) f;have MW:=λk (hk:k<A.fair.length) F hF=>Sk (W:=W) (A:=A) vc 86 (λc=>c%A.next.length) A.next.length zo (λc hc=>zyr A.next.length hm c zo) (λc hc=>Nat.mod_lt _ hm) (A.fair.getD k []) (vK kc.fa.xR k) (gY a7 k) F hF q (gr R) f;unfold n5 at LD MW⊢;unfold bc.cells bS.cells at LD MW⊢;refine sW ?_;refine b8 (iq 10 0 1 zs rfl rfl) ?_;generalize HT:xn (λl c=>fR l (c/A.next.length)) W.fair=F1;refine cJ [2,3,5,6,7,11,19,20] (λk:Nat=>[(21,aa k)]) (λk=>n5 W A q (gr R) f++[.row true [.own 11 (F1 k).length 0 (F1 k).length],.vec true (F1 k).length 1 (mr (W.next.length*A.next.length) (F1 k))]) (λk=>k<=W.fair.length) (λk=>W.fair.length-k) 0 ?_;refine sW ?_;refine⟨zo,by exact sK,by rw[<-HT];rfl,?_⟩;rintro k hk;have eL:(F1 k).length=k:=by rw[<-HT];exact Wf hk
 unfold n5;refine c6 ?_;rw[aK];refine sS (λq0=>?_) λq0=>?_
 ·have q0:k<W.fair.length:=sO;have hB:=LD k q0 (F1 k) zo;have eS:F1 (k+1)=F1 k++[λc=>fR (W.fair.getD k [])<|c/A.next.length]:=(by rw[<-HT];exact Ps q0);have eL2:(F1<|k+1).length=(F1 k).length+1:=(by rw[eS,cq];rfl);rw[<-eS] at hB;refine sL (iL (g:=W.fair) (k:=k) zo q0) ?_;refine sE hB ?_;refine sI ?_;refine⟨k+1,zo,zd,?_⟩;dsimp only;rw[eL2];exact aL (by exact sK) rfl
 have q0:k=W.fair.length:=by have:¬k<W.fair.length:=sO
                             omega
 subst q0;generalize H4:F1 W.fair.length=G1 at *;generalize mI:(λk=>G1++xn (λl c=>fR l<|c%A.next.length) A.fair k)=F2;refine cJ [3,6,7,11,19,20] (λk:Nat=>[(22,aa k)]) (λk=>n5 W A q (gr R) f++[.row true [.own 11 (F2 k).length 0 (F2 k).length],.vec true (F2 k).length 1<|mr (W.next.length*A.next.length)<|F2 k]) (λk=>k<=A.fair.length) (λk=>A.fair.length-k) 0 ?_;refine sW ?_;refine⟨zo,by exact sK,by rw[<-mI];simp[xn,H4];rfl,?_⟩;rintro k hk;have J9:(F2 k).length=W.fair.length+k:=by rw[<-mI];dsimp only;rw[cq,eL,Wf hk]
 unfold n5;refine c6 ?_;rw[aK];refine sS (λq0=>?_) λq0=>?_
 ·have q0:k<A.fair.length:=sO;have hB:=MW k q0 (F2 k) zo;have eS:F2 (k+1)=F2 k++[λc=>fR (A.fair.getD k [])<|c%A.next.length]:=(by rw[<-mI];dsimp only;rw[Ps q0,gy]);have eL2:(F2<|k+1).length=(F2 k).length+1:=(by rw[eS,cq];rfl);rw[<-eS] at hB;refine sL (iL (g:=A.fair) (k:=k) zo q0) ?_;refine sE hB ?_;refine sI ?_;refine⟨k+1,zo,zd,?_⟩;dsimp only;rw[eL2];exact aL (by exact sK) rfl
 have q0:k=A.fair.length:=by have:¬k<A.fair.length:=sO
                             omega
 subst q0;have lJ:F2 A.fair.length=tg W A:=by
  rw[<-mI];dsimp only;rw[<-H4,<-HT];unfold xn tg;rw[eZ,eZ]
 rw[lJ] at J9⊢;have CJ:=R8 R zo bp hFR (tg W A) zo;rw[On] at CJ;have hdl:rj (W.next.length*A.next.length) (tg W A)=D.aM 1 (List.drop 0 (List.take (tg W A).length (mr (W.next.length*A.next.length) (tg W A)))):=by rw[cx zs];rfl
 have Cb:bY R=D.aM 1 (List.drop 0<|List.take (W.next.length*A.next.length)<|gr R):=by rw[cx<|by simp;omega];rfl
 rw[hdl,Cb] at CJ;refine sV CJ ?_;refine bt [11,23] (λk:Nat=>[(24,aa k)]) (λk=>[]) (λk=>k<=f.length/\∀i,i<k->fwB R (tg W A) (f.getD i 0).toNat=false) (λk=>f.length-k) 0 ?_;refine sW ?_;refine⟨⟨zo,λi hi=>zo⟩,by exact sK,rfl,?_⟩;rintro k ⟨hk,da⟩;refine br (λq0=>?_) λq0=>?_
 ·have q0:k<f.length:=sO;have m3:=dP q0;have hx:=QB _ m3;have zG:=λi hi=>da i hi;refine sB ?_;refine⟨_,cA (l:=f) (k:=k) zo q0,?_⟩;refine sW ?_;generalize mq:f.getD k 0=x at *;refine sL (bj x.toNat zo zo) ?_;cases r:fwB R (tg W A) x.toNat
  ·refine bb ?_;refine⟨k+1,⟨zo,λi hi=>?_⟩,zd,aL (by exact sK) rfl⟩;by_cases e:i=k
   ·subst e;rw[mq];exact r
   exact da i zo
  refine sW ?_;exact cd<|by rw[hA.2 ⟨x,m3,yQ.1 r⟩]
 have q0:k=f.length:=by have:¬k<f.length:=sO
                        omega
 subst q0;refine cd ?_;cases ha:ans
 ·rfl
 exfalso;obtain⟨x,hx,pA⟩:=hA.1 ha;obtain⟨i,hi,rfl⟩:=jN.1 hx;have:=da i hi;rw[aE,aJ hi,nR,yQ.2 pA] at this;cases this
end
theorem SG:Deep H (.agg [ax,ax,ax,ax,ax]) (lX Lg) :=
 .agg _ _ (.cons _ _ _ _ (.none _) (.cons _ _ _ _ (.none _) (.cons _ _ _ _ (.none _) (.cons _ _ _ _ (.none _) (.cons _ _ _ _ (.none _) .nil)))))
theorem ztn:ar ai 78 [aY t]<|aY<|bO 4 t:=by
 refine bL ?_;refine sC (oc 4 t) ?_;exact .refl _
theorem zwg(hs:Small t):ar ai 20 [aY t] (.aI [lX<|fg t,aa<|ig t]):=by
 refine bK fZ ?_;have nH:=tX (k:=4) hs;have hA:=W8 t;unfold Ar nS at hA;refine sR ?_;refine sC (ztn t) ?_;by_cases h0:aS bz (bO 4 t)=0
 ·have cu:=((qM _ _).1 h0).2.2;rw[ae h0] at hA;have xO:=uw _<|Xn _ cu;by_cases h1:aS bz (de<|bO 4 t)=0
  ·rw[ae h1,ae rfl] at hA;have hR:=zl8 (bO 4 t) cu h1;rw[hA] at hR;refine sC (xe _ nH) ?_;rw[h0];refine sW ?_;refine sC (L4 _ cu) ?_;refine sC (xe _ xO) ?_;rw[h1];refine sW ?_;refine sC hR ?_;exact sP
  rw[ab h1,ab h1] at hA;rw[<-hA];refine sC (xe _ nH) ?_;rw[h0];refine sW ?_;refine sC (L4 _ cu) ?_;refine sC (xe _ xO) ?_;refine sS (λh2=>?_) λh2=>?_
  ·exact .aI _ _ (.cons _ _ _ _ SG (.cons _ _ _ _ (.refl _) .nil))
  exact absurd (by simpa using h2) h1
 rw[ab h0,ab h0] at hA;rw[<-hA];refine sC (xe _ nH) ?_;refine sS (λh2=>?_) λh2=>?_
 ·exact .aI _ _ (.cons _ _ _ _ SG (.cons _ _ _ _ (.refl _) .nil))
 exact absurd (by simpa using h2) h0
section
def od(n:Nat):D:=.fn (.func 60) [] [.aB [aa n]]
variable(n:Nat)
@[simp] theorem zz3:Pure<|od n:=by simp[od,Pure,an]
variable(W:bc)
@[simp] theorem QN:an W.cells:=by have:=MV W;simpa only[gu,Pure] using this
theorem z8(hn:n<=1000000)(p:ay)(cl:FuncId)(caps:bh)(LC:an caps)(hc:∀i:Nat,i<n->ar ai cl (aa i::caps) (aD<|p i)) :
  ar ai 60 [.fn (.func cl) [] caps,.aB [aa n]] (bD n p):=by
 refine dC fZ zs (by simp[an,Pure,LC]) ?_<|jk _ _;refine sR ?_;refine⟨zo,zo,zo,?_⟩;rw[bQ,show List.map D.sc [Value.bool false]=[aD false] from rfl,lS];refine sW ?_;refine bt [0,1,4] (λk:Nat=>[(5,aa k)]) (λk=>[(0,.vec true 0 1<|bV n λi=>if i<k then p i else false)]) (λk=>k<=n) (λk=>n-k) 0 ?_;refine sW ?_;refine⟨zo,by exact sK,by simp;rfl,?_⟩;rintro k hk;refine br (λq0=>?_) λq0=>?_
 rotate_left
 ·have q0:k=n:=by have:¬k<n:=sO
                  omega
  subst q0;rw[jS (g':=p) λi hi=>ae hi];exact s5 rfl
 have q0:k<n:=sO;refine sC (hc k q0) ?_;refine sB ?_;refine⟨_,bj k zo q0,?_⟩;refine bb ?_;refine⟨k+1,zo,zd,aL (by exact sK) ?_⟩;rw[nV (i:=k) (f':=λi=>if i<k+1 then p i else false) zo λv _=>by
  by_cases e:v=k
  ·subst e;rw[ae zo,ae rfl]
  rw[ab e];by_cases e2:v<k
  ·rw[ae e2,ae zo]
  rw[ab e2,ab zo]]
 rfl
theorem zxs(hn:n<=1000000)(p:ay)(cl:FuncId)(x y:D)(hx:Pure x)(hy:Pure y)(hc:∀i:Nat,i<n->ar ai cl [aa i,.aB [x],.aB [y]] (aD<|p i)) :
  cp ai 60 [.fn (.func cl) [] [.loc 0 0,.aB [y]],.aB [aa n]] [.row true [x]] (.own 1 0 0 n) [.row true [x],.vec true 0 1<|bV n p]:=by
 refine iV fZ zs zs ?_ (by simp[aq]) (by
  intro o ho;simp only[dZ,rH,or_false] at ho;rcases ho with rfl|rfl
  ·exact⟨bw _ hx,trivial⟩
  exact aV _<|tW _ _)
 refine sR ?_;refine⟨zo,zo,zo,?_⟩;rw[bQ,show List.map D.sc [Value.bool false]=[aD false] from rfl,lS];refine sW ?_;refine bt [0,1,4] (λk:Nat=>[(5,aa k)]) (λk=>[(1,.vec true 0 1<|bV n λi=>if i<k then p i else false)]) (λk=>k<=n) (λk=>n-k) 0 ?_;refine sW ?_;refine⟨zo,by exact sK,by simp;rfl,?_⟩;rintro k hk;refine br (λq0=>?_) λq0=>?_
 rotate_left
 ·have q0:k=n:=by have:¬k<n:=sO
                  omega
  subst q0;rw[jS (g':=p) λi hi=>ae hi];exact⟨rfl,aT _⟩
 have q0:k<n:=sO;refine sN (hc k q0) ?_;refine sB ?_;refine⟨_,bj k zo q0,?_⟩;refine bb ?_;refine⟨k+1,zo,zd,aL (by exact sK) ?_⟩;rw[nV (i:=k) (f':=λi=>if i<k+1 then p i else false) zo λv _=>by
  by_cases e:v=k
  ·subst e;rw[ae zo,ae rfl]
  rw[ab e];by_cases e2:v<k
  ·rw[ae e2,ae zo]
  rw[ab e2,ab zo]]
 rfl
theorem zzf(a:ay)(i:Nat)(hi:i<n):ar ai 62 [aa i,.aB [bD n a]]<|aD<|cr a i:=by
 refine bL ?_;refine sL (bj i zo hi) ?_;exact .refl _
theorem zAp(hn:n<=1000000)(a:ay):ar ai 61 [bD n a,.aB [od n]]<|bD n<|cr a:=by
 have hE:=z8 n hn (cr a) 62 [.aB [bD n a]] (by simp[an,Pure,jk]) λi hi=>zzf n a i hi;refine bK fZ ?_;unfold od;refine sR ?_;refine sV hE ?_;exact .refl _
theorem zsb(a b:ay)(i:Nat)(hi:i<n):ar ai 66 [aa i,.aB [bD n a],.aB [bD n b]]<|aD<|iy a b i:=by
 refine bK fZ ?_;have e:iy a b i=(a i&&b i):=rfl;refine sR ?_;refine sL (bj i zo hi) ?_;cases r:a i
 ·rw[r] at e;refine sW ?_;rw[e];exact .refl _
 rw[r] at e;refine sW ?_;refine sL (bj i zo hi) ?_;rw[e];exact .refl _
theorem zra(a b:ay)(i:Nat)(hi:i<n):ar ai 70 [aa i,.aB [bD n a],.aB [bD n b]]<|aD<|iy a b i:=by
 refine bK fZ ?_;have e:iy a b i=(a i&&b i):=rfl;refine sR ?_;refine sL (bj i zo hi) ?_;cases r:a i
 ·rw[r] at e;refine sW ?_;rw[e];exact .refl _
 rw[r] at e;refine sW ?_;refine sL (bj i zo hi) ?_;rw[e];exact .refl _
theorem zt0(hW:W.Fits)(hc:W.aS=0)(a:ay)(i:Nat)(hi:i<W.next.length):ar ai 68 [aa i,.aB W.cells,.aB [bD W.next.length a],.aB [bD W.next.length<|jQ W]]<|aD<|fp W a i:=by
 obtain⟨_,qs,vy,_,iD,iY⟩:=qj W hc;have dF:=λk=>gY (g:=W.next) (λl hl=>(iD l hl).2) k;have uc:jH W.next:=⟨hW.next,hW.xU⟩;have AD:=uc.at i;have gw:∀x∈W.next.getD i [],ar ai 70 [aa x,.aB [bD W.next.length a],.aB [bD W.next.length<|jQ W]]<|aD<|iy a (jQ W) x.toNat:=λx hx=>by
  have h:=cZ (dF i) hx;have:=zra W.next.length a (jQ W) x.toNat zo;rwa [show((x.toNat:Nat):Int)=x by omega] at this
 have hC:=mC (λx=>aa x) (λx=>by simp[Pure]) (W.next.getD i []) zo (λx=>iy a (jQ W) x.toNat) 70 [.aB [bD W.next.length a],.aB [bD W.next.length<|jQ W]] (by simp[an,Pure,jk]) gw;refine bK fZ ?_;have e:fp W a i=(W.next.getD i []).any λx=>iy a (jQ W) x.toNat:=rfl;rw[e];unfold bc.cells at *;refine sR ?_;refine sL (iL (g:=W.next) (k:=i) zo hi) ?_;refine sC hC ?_;exact .refl _
theorem zwP(hW:W.Fits)(hc:W.aS=0)(a:ay):ar ai 67 [bD W.next.length a,.aB [od W.next.length],.aB W.cells,.aB [bD W.next.length<|jQ W]]<|bD W.next.length<|fp W a:=by
 obtain⟨_,qs,_⟩:=qj W hc;have hE:=z8 W.next.length zo (fp W a) 68 [.aB W.cells,.aB [bD W.next.length a],.aB [bD W.next.length<|jQ W]] (by simp[an,Pure,jk,QN]) λi hi=>zt0 W hW hc a i hi;refine bK fZ ?_;unfold od;refine sR ?_;refine sV hE ?_;exact .refl _
end
section
theorem X5(W:bc)(hW:W.Fits)(hc:W.aS=0)(a b:ay):ar ai 65 [bD W.next.length a,bD W.next.length b,.aB [od W.next.length],.aB [bD W.next.length<|jQ W],.aB [aa W.next.length],.aB W.cells]<|bD W.next.length<|euF W a b:=by
 obtain⟨_,qs,vy,_,iD,iY⟩:=qj W hc;have dF:=λk=>gY (g:=W.next) (λl hl=>(iD l hl).2) k;have uc:jH W.next:=⟨hW.next,hW.xU⟩;have hM:=zxs W.next.length zo (iy b<|jQ W) 66 (bD W.next.length b) (bD W.next.length<|jQ W) (jk _ _) (jk _ _) λi hi=>zsb W.next.length b (jQ W) i hi;have e0:euF W a b=euB W.next a (iy b<|jQ W):=rfl;refine bK fZ ?_;rw[e0];clear e0;generalize iy b (jQ W)=c at *;unfold od bc.cells at *;refine sR ?_;refine sA hM ?_
 refine bt [0,4,5,9] (λ((m,s):Bool×ay)=>[(10,aD m)]) (λ(m,s)=>[(1,.vec true 0 1<|bV W.next.length s)])
  (λ(m,s)=>(∀v,s v->Eu W.next a c v)/\(∀v,c v->s v)/\(m=false->∀v x,x∈W.next.getD v []->a v->s x.toNat->s v)) (λ(m,s)=>if m=true then 1+dH s W.next.length else 0) (true,c) ?_
 refine sW ?_;refine⟨⟨(λv h=>.base h),(λv h=>h),(λh=>by cases h)⟩,by exact sK,rfl,?_⟩;rintro⟨m,s0⟩ ⟨hS,hC,gw⟩;refine c6 ?_;cases m
 ·refine sW ?_;rw[jS (g':=euB W.next a c) λi _=>Zj hS hC (gw rfl) i];exact s5 rfl
 refine sW ?_
 refine bt [0,4,5,9] (λ((m,i,s):Bool×Nat×ay)=>[(10,aD m),(11,aa i)]) (λ(m,i,s)=>[(1,.vec true 0 1<|bV W.next.length s)])
  (λ(m,i,s)=>i<=W.next.length/\(∀v,s v->Eu W.next a c v)/\(∀v,s0 v->s v)/\(m=true->dH s W.next.length<dH s0 W.next.length)/\(m=false->∀v x,v<i->x∈W.next.getD v []->a v->s x.toNat->s v)) (λ(m,i,s)=>W.next.length-i) (false,0,s0) ?_
 refine sW ?_;refine⟨⟨zo,hS,(λv h=>h),(λh=>by cases h),(λ_ v x h=>zo)⟩,by exact sK,rfl,?_⟩;clear hS gw;rintro⟨m,i,s⟩ ⟨hi,hS,iK,pe,m8⟩;refine br (λq1=>?_) λq1=>?_
 rotate_left
 ·have q1:i=W.next.length:=by have:¬i<W.next.length:=sO
                              omega
  subst q1;have hle:=DF (n:=W.next.length) λj _ h=>iK j h;refine⟨(m,s),⟨hS,λv h=>iK v<|hC v h,λh v x hx=>?_⟩,?_,aL (by exact sK) rfl⟩
  ·rcases dY v W.next.length with q|q
   ·exact m8 h v x q hx
   rw[aE,cY q] at hx;cases hx
  dsimp only;cases m
  ·simp;omega
  have:=pe rfl;simp;omega
 have aW:i<W.next.length:=sO;have AD:=uc.at i
 refine bt [0,4,5,9,11] (λ((m,j,s):Bool×Nat×ay)=>[(10,aD m),(12,aa j)]) (λ(m,j,s)=>[(1,.vec true 0 1<|bV W.next.length s)])
  (λ(m,j,s)=>j<=(W.next.getD i []).length/\(∀v,s v->Eu W.next a c v)/\(∀v,s0 v->s v)/\(m=true->dH s W.next.length<dH s0 W.next.length)/\(m=false->(∀v x,v<i->x∈W.next.getD v []->a v->s x.toNat->s v)/\∀y,y<j->a i->s ((W.next.getD i []).getD y 0).toNat->s i)) (λ(m,j,s)=>(W.next.getD i []).length-j) (m,0,s) ?_
 refine sW ?_;refine⟨⟨zo,hS,iK,pe,λh=>⟨m8 h,λy h=>zo⟩⟩,by exact sK,rfl,?_⟩;clear hS iK pe m8 q1;rintro⟨m,j,s⟩ ⟨hj,hS,iK,pe,m8⟩;refine c6 ?_;refine sL (iL (g:=W.next) (k:=i) zo aW) ?_;rw[aK];refine sS (λq1=>?_) λq1=>?_
 rotate_left
 ·have q1:j=(W.next.getD i []).length:=by have:¬j<(W.next.getD i []).length:=sO
                                          omega
  subst q1;refine sI ?_;refine⟨(m,i+1,s),⟨zo,hS,iK,pe,λh v x hv hx ha W9=>?_⟩,zd,aL (by exact sK) rfl⟩;by_cases e:v=i
  ·subst e;obtain⟨y,hy,rfl⟩:=s7 hx;exact(m8 h).2 y hy ha W9
  exact(m8 h).1 v x zo hx ha W9
 have jf:j<(W.next.getD i []).length:=sO;have hx:=cZ (dF i)<|dP jf;have hmx:=dP jf;have Jz:∀z',z'=j->((W.next.getD i []).map λn=>[aa n])[z']? = some [aa<|(W.next.getD i []).getD j 0]:=λz' hz=>cA (l:=W.next.getD i []) hz jf;refine sL (bj i zo aW) ?_;cases ra:a i
 ·have E6:a i->s ((W.next.getD i []).getD j 0).toNat->s i:=λh=>by rw[ra] at h;cases h
  refine bb ?_;refine⟨(m,j+1,s),⟨zo,hS,iK,pe,λh=>⟨(m8 h).1,λy hy ha ug=>?_⟩⟩,zd,aL (by exact sK) rfl⟩;have hq:s i=true:=by
   by_cases e:y=j
   ·subst e;exact E6 (ra.trans ha)<|by first|exact ug|exact rx.trans ug
   exact(m8 h).2 y zo (ra.trans ha) ug
  first|exact hq|exact rs.symm.trans hq
 refine bE ?_;refine⟨_,bj i zo aW,?_⟩;refine sW ?_;cases rs:s i
 rotate_left
 ·have E6:a i->s ((W.next.getD i []).getD j 0).toNat->s i:=λ_ _=>rs;refine bb ?_;refine⟨(m,j+1,s),⟨zo,hS,iK,pe,λh=>⟨(m8 h).1,λy hy ha ug=>?_⟩⟩,zd,aL (by exact sK) rfl⟩;have hq:s i=true:=by
   by_cases e:y=j
   ·subst e;exact E6 (ra.trans ha)<|by first|exact ug|exact rx.trans ug
   exact(m8 h).2 y zo (ra.trans ha) ug
  first|exact hq|exact rs.symm.trans hq
 refine sW ?_;refine sL (iL (g:=W.next) (k:=i) zo aW) ?_;refine⟨zo,_,Jz _ zo,?_⟩;generalize mq:(W.next.getD i []).getD j 0=x at *;refine bE ?_;refine⟨_,bj x.toNat zo zo,?_⟩;refine sW ?_;cases rx:s x.toNat
 ·have E6:a i->s ((W.next.getD i []).getD j 0).toNat->s i:=λ_ h=>by rw[mq,rx] at h;cases h
  refine bb ?_;refine⟨(m,j+1,s),⟨zo,hS,iK,pe,λh=>⟨(m8 h).1,λy hy ha ug=>?_⟩⟩,zd,aL (by exact sK) rfl⟩;have hq:s i=true:=by
   by_cases e:y=j
   ·subst e;exact E6 (ra.trans ha)<|by first|exact ug|exact rx.trans ug
   exact(m8 h).2 y zo (ra.trans ha) ug
  first|exact hq|exact rs.symm.trans hq
 refine bE ?_;refine⟨_,bj i zo aW,?_⟩;refine bb ?_;have ck:=oS (s:=s) (s':=mark s i) aW (λj _ q=>gg q) rs<|lq _ _;have hle:=DF (n:=W.next.length) λj _ h=>iK j h;refine⟨(true,j+1,mark s i),⟨zo,λv hv=>?_,λv h=>gg<|iK v h,λ_=>zo,λh=>by cases h⟩,zd,aL (by exact sK)<|by rw[qE (v:=i) zo];rfl⟩;rcases oE.1 hv with e|e
 ·subst e;exact .step ra hmx<|hS _ rx
 exact hS v e
end
section
variable(W:bc)
theorem zxD(hl:W.label.length=W.next.length)(hL:sT W.label)(t:Tree)(hn:0<=t.num/\t.num<=63)(i:Nat)(hi:i<W.next.length):ar ai 71 [aa i,.aB W.cells,.aB<|aN t]<|aD<|xS W t.num i:=by
 refine bK fZ ?_;have e:xS W t.num i=oh (W.label.getD i 0) t.num:=rfl;rw[e];unfold bc.cells ix;refine sR ?_;refine sL (Wg (k:=i) zo zo) ?_;refine⟨hn.1,?_⟩;refine sW ?_;refine⟨zc,?_⟩;refine sW ?_;exact .refl _
theorem ZY(t:Tree)(h2:t.width=2)(i:Nat)(hi:i<W.next.length):ar ai 72 [aa i,.aB [.aM 1<|iW W t t.width]]<|aD<|iy (bn W t.kids 0) (bn W t.kids 1) i:=by
 refine bK fZ ?_;have e:iy (bn W t.kids 0) (bn W t.kids 1) i=(bn W t.kids 0 i&&bn W t.kids 1 i):=rfl;rw[e];refine sR ?_;refine sL (jm (j:=0) zo zo) ?_;refine sL (bj i zo hi) ?_;cases r:bn W t.kids 0 i
 ·refine sW ?_;exact .refl _
 refine sW ?_;refine sL (jm (j:=1) zo zo) ?_;refine sL (bj i zo hi) ?_;exact .refl _
theorem zAo(t:Tree)(h2:t.width=2)(i:Nat)(hi:i<W.next.length):ar ai 73 [aa i,.aB [.aM 1<|iW W t t.width]]<|aD<|orF (bn W t.kids 0) (bn W t.kids 1) i:=by
 refine bK fZ ?_;have e:orF (bn W t.kids 0) (bn W t.kids 1) i=(bn W t.kids 0 i||bn W t.kids 1 i):=rfl;rw[e];refine sR ?_;refine sL (jm (j:=0) zo zo) ?_;refine sL (bj i zo hi) ?_;cases r:bn W t.kids 0 i
 ·refine sW ?_;refine sL (jm (j:=1) zo zo) ?_;refine sL (bj i zo hi) ?_;exact .refl _
 refine sW ?_;exact .refl _
theorem ZH(t:Tree)(h2:t.width=2)(i:Nat)(hi:i<W.next.length):ar ai 74 [aa i,.aB [.aM 1<|iW W t t.width]]<|aD<|iy (cr<|bn W t.kids 0) (cr<|bn W t.kids 1) i:=by
 refine bK fZ ?_;have e:iy (cr<|bn W t.kids 0) (cr<|bn W t.kids 1) i=(!bn W t.kids 0 i&&!bn W t.kids 1 i):=rfl;rw[e];refine sR ?_;refine sL (jm (j:=0) zo zo) ?_;refine sL (bj i zo hi) ?_;cases r:bn W t.kids 0 i
 ·refine sW ?_;refine sL (jm (j:=1) zo zo) ?_;refine sL (bj i zo hi) ?_;exact .refl _
 refine sW ?_;exact .refl _
theorem Yz(n:Nat)(a b:ay)(i:Nat)(hi:i<n):ar ai 75 [aa i,.aB [bD n a],.aB [bD n b]]<|aD<|cr (orF b a) i:=by
 refine bK fZ ?_;have e:cr (orF b a) i=(!a i&&!b i):=by unfold cr orF;rw[Bool.not_or,Bool.and_comm]
 rw[e];refine sR ?_;refine sL (bj i zo hi) ?_;cases r:a i
 ·refine sW ?_;refine sL (bj i zo hi) ?_;exact .refl _
 refine sW ?_;exact .refl _
def ZN:PC:=.seq (SO [qm 19 7,Fa 20 2 3,Lo 21 20,Ln 22 21,Bi 23 .lss 19 22]<|CX 23 0) (.seq (.block 1 (.ops [Lo 26 6,LA 27 4 2,Fa 28 2 3,Ld 29 28 4,qm 30 7,Ja 31 3 29 30 28,qd 32 (.mF 3 31) 60,Cd 33 18 [27,32] 126,qd 34 (.oP 1 1 [33]) 254,qd 35 (.append 1 24 26 34) 511,qk (.store 1 6 35) 1023] true))<|OP [qm 24 7,Bi 25 .add 24 K1,qm 7 25])
def c18:PC:=SO [Bx 2 0,Bx 3 1,Mv 4 cN]<|SO [Fa 16 1 2,Lo 17 16,Ln 18 17,q 5 (.alloc [v0]),So 1 5 18]<|SO [q 6 (.alloc [vN])] (.seq (SO [Mv 7 K0]<|BL 0 ZN) (.seq (.stop<|OP [q 36 (.jD (.func 60) [] [5]),q 8 (.alloc [(.nilFunc)]),So 1 8 36])<|SO [q 37 (.jD (.func 61) [] [8]),qm 9 37]<|SO [q 10 (.alloc [vN])] (.seq (SO [Fa 38 0 3,Lo 39 38,Bi 40 .geq 39 K7]<|If 40 (.ops [LA 41 4 2,Lo 42 5,Cd 43 64 [42] 2,Cd 44 63 [41,43] 7,qk (.store 1 10 44) 15] true))<|SO [q 45 (.jD (.func 65) [] [8,10,5,2]),qm 11 45]<|SO [q 46 (.jD (.func 67) [] [8,2,10]),qm 12 46] (.seq (.stop<|OP [Lo 47 5,Ca 48 64 [47],qm 13 48]) (.seq (SO [Fa 49 0 3,Lo 50 49] (.block 2<|SO [Bi 52 .eql 50 K1,qm 51 52] (.cond 51 (SO [qm 53 13,qm 4 53] .ret)<|SO [Bi 55 .eql 50 K2,qm 54 55] (.cond 54 (SO [qm 56 9,qm 57 13,q 58 (.dN 56 [57]),qm 4 58] .ret)<|SO [Bi 60 .eql 50 K3,qm 59 60] (.cond 59 (SO [Lo 61 8,q 62 (.jD (.func 71) [] [2,3]),q 63 (.dN 61 [62]),qm 4 63] .ret)<|SO [Bi 65 .eql 50 K4,qm 64 65] (.cond 64 (SO [qm 66 9,Lo 67 6,Ia 68 1 67 K0,Lo 69 68,q 70 (.dN 66 [69]),qm 4 70] .ret)<|SO [Bi 72 .eql 50 K5,qm 71 72] (.cond 71 (SO [Lo 73 8,q 74 (.jD (.func 72) [] [6]),q 75 (.dN 73 [74]),qm 4 75] .ret)<|SO [Bi 77 .eql 50 K6,qm 76 77] (.cond 76 (SO [Lo 78 8,q 79 (.jD (.func 73) [] [6]),q 80 (.dN 78 [79]),qm 4 80] .ret)<|SO [Bi 82 .eql 50 K7,qm 81 82] (.cond 81 (SO [qm 83 12,Lo 84 6,Ia 85 1 84 K0,Lo 86 85,q 87 (.dN 83 [86]),qm 4 87] .ret)<|SO [Bi 89 .eql 50 K8,qm 88 89] (.cond 88 (SO [qm 90 11,qm 91 13,Lo 92 6,Ia 93 1 92 K0,Lo 94 93,q 95 (.dN 90 [91,94]),qm 4 95] .ret)<|SO [Bi 97 .eql 50 K9,qm 96 97] (.cond 96 (.seq (.ops [LA 98 4 2,Lo 99 6,Ja 100 1 99 K0 2,Ld 101 100 6,Cd 102 63 [98,101] 15,qw 4 102 31] true) .ret)<|SO [Bi 104 .eql 50<|cI 10,qm 103 104] (.cond 103 (.seq (.ops [qm 105 11,Lo 106 6,Ja 107 1 106 K0 2,Ld 108 107 6,Lo 109 6,Ja 110 1 109 K1 16,Ld 111 110 48,qd 112 (.dN 105 [108,111]) 127,qw 4 112 255] true) .ret)<|SO [Bi 114 .eql 50<|cI 11,qm 113 114] (.cond 113 (SO [qm 115 9,qm 116 12,qm 117 9,Lo 118 6,Ia 119 1 118 K0,Lo 120 119,q 121 (.dN 117 [120]),q 122 (.dN 116 [121]),q 123 (.dN 115 [122]),qm 4 123] .ret)<|SO [Bi 125 .eql 50<|cI 12,qm 124 125] (.cond 124 (.seq (.ops [qm 126 9,LA 127 4 2,qm 128 9,Lo 129 6,Ja 130 1 129 K0 8,Ld 131 130 24,qd 132 (.dN 128 [131]) 60,Cd 133 63 [127,132] 126,qd 134 (.dN 126 [133]) 255,qw 4 134 511] true) .ret)<|SO [Bi 136 .eql 50<|cI 13,qm 135 136]<|If 135<|SO [qm 137 9,qm 138 11,qm 139 13,qm 140 9,Lo 141 6,Ia 142 1 141 K0,Lo 143 142,q 144 (.dN 140 [143]),q 145 (.dN 138 [139,144]),q 146 (.dN 137 [145]),qm 4 146] .ret)))))))))))))) (.seq (.ops [LA 147 4 2,qm 148 9,Lo 149 6,Ja 150 1 149 K1 4,Ld 151 150 12,qd 152 (.dN 148 [151]) 30,Cd 153 63 [147,152] 63,q 14 (.alloc [vN]),qk (.store 1 14 153) 255] true) (.seq (.ops [qm 154 11,qm 155 9,Lo 156 6,Ja 157 1 156 K1 4,Ld 158 157 12,qd 159 (.dN 155 [158]) 30,Lo 160 8,q 161 (.jD (.func 74) [] [6]),qd 162 (.dN 160 [161]) 254,qd 163 (.dN 154 [159,162]) 511,q 15 (.alloc [vN]),qk (.store 1 15 163) 2047] true)<|SO [Lo 164 8,q 165 (.jD (.func 75) [] [14,15]),q 166 (.dN 164 [165]),qm 4 166] .ret)))))))
theorem YB(hW:W.Fits)(hc:W.aS=0)(hL:sT W.label):∀t:Tree,t.wf dp->ar ai 18 [gu W,aY t] (bD W.next.length<|mW W t):=by
 obtain⟨hl,qs,_⟩:=qj W hc;have h6:W.next.length<=1000000:=zo;have Lv:=zq8 W.next.length h6;intro t
 induction t using Tree.ind with
 |h t ih =>
  intro cu;obtain⟨tE,uO⟩:=Wm ((jG _ _).1 cu).1;have Nw:t.width<=2:=zo;have wB:=λa=>zAp W.next.length h6 a;have Jf:=λa=>zwP W hW hc a;have Jy:=λa b=>X5 W hW hc a b;have DM:=λz=>zug W hW hc z;have hA:=z8 W.next.length h6 (xS W t.num) 71 [.aB W.cells,.aB<|aN t] (by simp[an,Pure,QN,cM]) λi hi=>zxD W hl hL t uO i hi;have uG:=λ(h:t.width=2)=>z8 W.next.length h6 (iy (bn W t.kids 0)<|bn W t.kids 1) 72 [.aB [.aM 1<|iW W t t.width]] (by simp[an,Pure,Gy]) λi hi=>ZY W t h i hi;have hOr:=λ(h:t.width=2)=>z8 W.next.length h6 (orF (bn W t.kids 0)<|bn W t.kids 1) 73 [.aB [.aM 1<|iW W t t.width]] (by simp[an,Pure,Gy]) λi hi=>zAo W t h i hi;have hNr:=λ(h:t.width=2)=>z8 W.next.length h6 (iy (cr<|bn W t.kids 0)<|cr<|bn W t.kids 1) 74 [.aB [.aM 1<|iW W t t.width]] (by simp[an,Pure,Gy]) λi hi=>ZH W t h i hi;have Wu:=λa b=>z8 W.next.length h6 (cr<|orF b a) 75 [.aB [bD W.next.length a],.aB [bD W.next.length b]] (by simp[an,Pure,jk]) λi hi=>Yz W.next.length a b i hi;refine bK (fJ 167 [.tmp 4] c18 Tryz.func18) ?_;rw[Te];unfold gu at *;have Nv:W.cells=W.cells:=rfl;refine sR ?_;rw[aK];refine b8 (iq 3 0 1 zs rfl rfl) ?_;refine cJ [2,3,5,6] (λk:Nat=>[(7,aa k)]) (λk=>[.row true W.cells,.row true<|aN t,.row true [aa W.next.length],.row true [.own 4 k 0 k],.vec true k 1<|iW W t k]) (λk=>k<=t.width) (λk=>t.width-k) 0 ?_;refine eC ?_;rintro k hk;refine br (λh1=>?_) λh1=>?_
  ·have al:k<t.width:=(by simpa [Tree.width] using h1);refine sL (by rw[bQ];exact dk al) ?_;have Fi:=ih k al<|gD cu al;rw[<-Qc W al] at Fi;refine sC Fi ?_;refine⟨by unfold je;simp;omega,?_⟩;refine bb ?_;refine⟨k+1,zo,zd,?_⟩;dsimp only;refine aR 5 zs rfl sQ (sU ?_);exact aZ<|Ro W t k
  have A4:k=t.width:=by have:¬k<t.width:=by simpa [Tree.width] using h1
                        omega
  subst A4;clear ih h1 hk;have V6:∀{H:aF},H[4]? = some (.vec true t.width 1<|iW W t t.width)->gS (λ_=>true) H (.own 4 t.width 0 t.width) (.aM 1<|iW W t t.width):=λh=>.own _ _ _ _ _ _ _ _ rfl h (aZ<|by rw[fQ,jd zs])
  refine b8 (rZ (λ_=>true) (env':=[(2,.aB W.cells),(3,.aB<|aN t),(5,.aB [aa W.next.length]),(6,.aB [.aM 1<|iW W t t.width])])
   (H':=[.row false W.cells,.row false<|aN t,.row false [aa W.next.length],.row false [.aM 1<|iW W t t.width],.vec false t.width 1<|iW W t t.width]) ?_ ?_) ?_
  ·refine⟨.loc _ _ _ _ _ rfl rfl (.refl _),.loc _ _ _ _ _ rfl rfl (.refl _),.loc _ _ _ _ _ rfl rfl (.refl _),.loc _ _ _ _ _ rfl rfl (.cons _ _ _ _ (V6 rfl) (.refl _)),trivial⟩
  ·exact⟨⟨.inr ⟨rfl,rfl⟩,λ_=>rfl,.refl _⟩,⟨.inr ⟨rfl,rfl⟩,λ_=>rfl,.refl _⟩,⟨.inr ⟨rfl,rfl⟩,λ_=>rfl,.refl _⟩,⟨.inr ⟨rfl,rfl⟩,λ_=>rfl,.cons _ _ _ _ (V6 rfl) (.refl _)⟩,⟨.inr ⟨rfl,rfl⟩,λ_=>rfl,rfl,rfl,.refl _⟩,trivial⟩
  refine sRS (λg7=>?_) λg7=>?_
  ·have g7:7<=t.kind:=sO;refine sC Lv ?_;refine sC (DM iM) ?_;have ct:∀{H:aF},H[4]? = some (.vec false t.width 1<|iW W t t.width)->True:=λ_=>trivial
   refine b8 (rZ (λ_=>true) (env':=[(2,.aB W.cells),(3,.aB<|aN t),(5,.aB [aa W.next.length]),(6,.aB [.aM 1<|iW W t t.width]),(8,.aB [od W.next.length]),(9,.fn (.func 61) [] [.aB [od W.next.length]]),(11,.fn (.func 65) [] [.aB [od W.next.length],.aB [bD W.next.length<|jQ W],.aB [aa W.next.length],.aB W.cells]),(12,.fn (.func 67) [] [.aB [od W.next.length],.aB W.cells,.aB [bD W.next.length<|jQ W]])])
    (H':=[.row false W.cells,.row false<|aN t,.row false [aa W.next.length],.row false [.aM 1<|iW W t t.width],.vec false t.width 1<|iW W t t.width,.row false [od W.next.length],.row false [bD W.next.length<|jQ W]]) ?_ ?_) ?_
   ·exact sD
   ·exact sD
   refine sR ?_;refine sC Lv ?_;refine sS (λg=>?_) λg=>?_
   ·exfalso;exact sO
   have g1:¬t.kind=1:=sO;clear g;refine sS (λg=>?_) λg=>?_
   ·exfalso;exact sO
   have g2:¬t.kind=2:=sO;clear g;refine sS (λg=>?_) λg=>?_
   ·exfalso;exact sO
   have g3:¬t.kind=3:=sO;clear g;refine sS (λg=>?_) λg=>?_
   ·exfalso;exact sO
   have g4:¬t.kind=4:=sO;clear g;refine sS (λg=>?_) λg=>?_
   ·exfalso;exact sO
   have g5:¬t.kind=5:=sO;clear g;refine sS (λg=>?_) λg=>?_
   ·exfalso;exact sO
   have g6:¬t.kind=6:=sO;clear g;refine sS (λg=>?_) λg=>?_
   ·have g:t.kind=7:=sO;rw[show dU W t.kind t.num (bn W t.kids)=fp W (bn W t.kids 0) from by unfold dU;simp[g]];refine sL (jm (j:=0) zo zo) ?_;refine sC (Jf<|bn W t.kids 0) ?_;exact .refl _
   have g7:¬t.kind=7:=sO;clear g;refine sS (λg=>?_) λg=>?_
   ·have g:t.kind=8:=sO;rw[show dU W t.kind t.num (bn W t.kids)=euF W iM (bn W t.kids 0) from by unfold dU;simp[g]];refine sL (jm (j:=0) zo zo) ?_;refine sC (Jy iM<|bn W t.kids 0) ?_;exact .refl _
   have g8:¬t.kind=8:=sO;clear g;refine sS (λg=>?_) λg=>?_
   ·have g:t.kind=9:=sO;rw[show dU W t.kind t.num (bn W t.kids)=egF W (bn W t.kids 0) from by unfold dU;simp[g]];refine sL (jm (j:=0) zo zo) ?_;refine sC (DM<|bn W t.kids 0) ?_;exact .refl _
   have g9:¬t.kind=9:=sO;clear g;refine sS (λg=>?_) λg=>?_
   ·have g:t.kind=10:=sO;rw[show dU W t.kind t.num (bn W t.kids)=euF W (bn W t.kids 0) (bn W t.kids 1) from by unfold dU;simp[g]];refine sL (jm (j:=0) zo zo) ?_;refine sL (jm (j:=1) zo zo) ?_;refine sC (Jy (bn W t.kids 0)<|bn W t.kids 1) ?_;exact .refl _
   have g10:¬t.kind=10:=sO;clear g;refine sS (λg=>?_) λg=>?_
   ·have g:t.kind=11:=sO;rw[show dU W t.kind t.num (bn W t.kids)=cr (fp W<|cr<|bn W t.kids 0) from by unfold dU;simp[g]];refine sL (jm (j:=0) zo zo) ?_;refine sC (wB<|bn W t.kids 0) ?_;refine sC (Jf<|cr<|bn W t.kids 0) ?_;refine sC (wB<|fp W<|cr<|bn W t.kids 0) ?_;exact .refl _
   have g11:¬t.kind=11:=sO;clear g;refine sS (λg=>?_) λg=>?_
   ·have g:t.kind=12:=sO;rw[show dU W t.kind t.num (bn W t.kids)=cr (egF W<|cr<|bn W t.kids 0) from by unfold dU;simp[g]];refine sL (jm (j:=0) zo zo) ?_;refine sC (wB<|bn W t.kids 0) ?_;refine sC (DM<|cr<|bn W t.kids 0) ?_;refine sC (wB<|egF W<|cr<|bn W t.kids 0) ?_;exact .refl _
   have g12:¬t.kind=12:=sO;clear g;refine sS (λg=>?_) λg=>?_
   ·have g:t.kind=13:=sO;rw[show dU W t.kind t.num (bn W t.kids)=cr (euF W iM<|cr<|bn W t.kids 0) from by unfold dU;simp[g]];refine sL (jm (j:=0) zo zo) ?_;refine sC (wB<|bn W t.kids 0) ?_;refine sC (Jy iM<|cr<|bn W t.kids 0) ?_;refine sC (wB<|euF W iM<|cr<|bn W t.kids 0) ?_;exact .refl _
   have g13:¬t.kind=13:=sO;clear g;have g:t.kind=14:=zo;rw[show dU W t.kind t.num (bn W t.kids)=auF W (bn W t.kids 0) (bn W t.kids 1) from by unfold dU;simp[g]];refine sL (jm (j:=1) zo zo) ?_;refine sC (wB<|bn W t.kids 1) ?_;refine sC (DM<|cr<|bn W t.kids 1) ?_;refine sL (jm (j:=1) zo zo) ?_;refine sC (wB<|bn W t.kids 1) ?_;refine sC (hNr zo) ?_;refine sC (Jy (cr<|bn W t.kids 1)<|iy (cr<|bn W t.kids 0)<|cr<|bn W t.kids 1) ?_;refine sV (Wu (egF W<|cr<|bn W t.kids 1)<|euF W (cr<|bn W t.kids 1)<|iy (cr<|bn W t.kids 0)<|cr<|bn W t.kids 1) ?_;exact .refl _
  have g7:¬7<=t.kind:=sO;have ct:∀{H:aF},H[4]? = some (.vec false t.width 1<|iW W t t.width)->True:=λ_=>trivial
  refine b8 (rZ (λ_=>true) (env':=[(2,.aB W.cells),(3,.aB<|aN t),(5,.aB [aa W.next.length]),(6,.aB [.aM 1<|iW W t t.width]),(8,.aB [od W.next.length]),(9,.fn (.func 61) [] [.aB [od W.next.length]]),(11,.fn (.func 65) [] [.aB [od W.next.length],.aB [ax],.aB [aa W.next.length],.aB W.cells]),(12,.fn (.func 67) [] [.aB [od W.next.length],.aB W.cells,.aB [ax]])])
   (H':=[.row false W.cells,.row false<|aN t,.row false [aa W.next.length],.row false [.aM 1<|iW W t t.width],.vec false t.width 1<|iW W t t.width,.row false [od W.next.length],.row false [ax]]) ?_ ?_) ?_
  ·exact sD
  ·exact sD
  refine sR ?_;refine sC Lv ?_;refine sS (λg=>?_) λg=>?_
  ·have g:t.kind=1:=sO;rw[show dU W t.kind t.num (bn W t.kids)=iM from by unfold dU;simp[g]];exact .refl _
  have g1:¬t.kind=1:=sO;clear g;refine sS (λg=>?_) λg=>?_
  ·have g:t.kind=2:=sO;rw[show dU W t.kind t.num (bn W t.kids)=cr iM from by unfold dU;simp[g]];refine sC (wB iM) ?_;exact .refl _
  have g2:¬t.kind=2:=sO;clear g;refine sS (λg=>?_) λg=>?_
  ·have g:t.kind=3:=sO;rw[show dU W t.kind t.num (bn W t.kids)=xS W t.num from by unfold dU;simp[g]];refine sC hA ?_;exact .refl _
  have g3:¬t.kind=3:=sO;clear g;refine sS (λg=>?_) λg=>?_
  ·have g:t.kind=4:=sO;rw[show dU W t.kind t.num (bn W t.kids)=cr (bn W t.kids 0) from by unfold dU;simp[g]];refine sL (jm (j:=0) zo zo) ?_;refine sC (wB<|bn W t.kids 0) ?_;exact .refl _
  have g4:¬t.kind=4:=sO;clear g;refine sS (λg=>?_) λg=>?_
  ·have g:t.kind=5:=sO;rw[show dU W t.kind t.num (bn W t.kids)=iy (bn W t.kids 0) (bn W t.kids 1) from by unfold dU;simp[g]];refine sC (uG zo) ?_;exact .refl _
  have g5:¬t.kind=5:=sO;clear g;refine sS (λg=>?_) λg=>?_
  ·have g:t.kind=6:=sO;rw[show dU W t.kind t.num (bn W t.kids)=orF (bn W t.kids 0) (bn W t.kids 1) from by unfold dU;simp[g]];refine sC (hOr zo) ?_;exact .refl _
  have g6:¬t.kind=6:=sO;clear g;omega
end
variable(l:List bq)
theorem Zf(hl:l.length<=9223372036854775807)(p:bq->Bool)(cl:FuncId)(cap:bh)(hp:an cap)(hc:∀a∈l,ar ai cl (.agg (rJ a.1 a.2)::cap)<|aD<|p a) :
  ar ai 140 [l7 l,.fn (.func cl) [] cap] (aa<|ee p l):=by
 refine dC fZ zs (by simp[an,Pure,hp,xJ]) ?_ (by simp[Pure]);refine sR ?_;rw[tu];have fin:∀{z:Int},z=ee p l->Deep [] (aa z) (aa<|ee p l):=λh=>h▸.refl _;refine bt [0,1,7] (λk:Nat=>[(8,aa k)]) (λ_=>[]) (λk=>k<=l.length/\∀j (hj:j<k) (hl:j<l.length),p l[j]=false) (λk=>l.length-k) 0 ?_;refine sW ?_;refine⟨⟨zo,λj hj=>zo⟩,by exact sK,rfl,?_⟩;rintro k ⟨hk,da⟩;refine br (λh=>?_) λh=>?_
 ·have al:k<l.length:=sO;have e:l.getD k (0,0)=l[k]:=(by rw[aE,aJ al];rfl);refine⟨zo,_,ni (k:=k) zo al,?_⟩;rw[e];refine sW ?_;refine sC (hc _<|ib al) ?_;refine sS (λh2=>?_) λh2=>?_
  ·exact fin (wK al h2 λj hj=>da j hj zo).symm
  refine sI ?_;refine⟨k+1,⟨zo,λj hj hl=>?_⟩,zd,aL (by exact sK) rfl⟩;by_cases e:j=k
  ·subst e;exact h2
  exact da j zo hl
 have al:¬k<l.length:=sO;exact fin (AT λj hj=>da j zo hj).symm
theorem zgR(hl:l.length<=9223372036854775807)(p:bq->Bool)(cl:FuncId)(cap:bh)(hp:an cap)(hc:∀a∈l,ar ai cl (.agg (rJ a.1 a.2)::cap)<|aD<|p a) :
  ar ai 47 [l7 l,.fn (.func cl) [] cap] (aD<|l.any p):=by
 refine dC fZ zs (by simp[an,Pure,hp,xJ]) ?_ (by simp[Pure]);refine sR ?_;refine sC (Zf l hl p cl cap hp hc) ?_;rw[rW];exact .refl _
theorem zsZ(e:bq)(k:Int):ar ai 48 [.agg<|rJ e.1 e.2,.aB [aa k]]<|aD<|e.1==k:=by
 refine dC fZ zs (by simp[an,Pure,rJ]) ?_ (by simp[Pure]);refine sR ?_;exact .refl _
def wF(N:List<|List bq)(m k:Nat):ah:=((N.getD m []).take k).map λx=>x.2
theorem zsM(N:List<|List bq)(m:Nat):wF N m 0=[]:=by simp[wF]
theorem zs5(h:k<(N.getD m []).length):wF N m (k+1)=wF N m k++[((N.getD m []).getD k (0,0)).2]:=by
 unfold wF;rw[lI,HS h,nZ];rfl
theorem Zy(h:k<=(N.getD m []).length):(wF N m k).length=k:=by
 simp only[wF,aK,gA];omega
theorem zrV(N:List<|List bq)(m:Nat):lf N (m+1)=if (N.getD m []).length=0 then lf N m++[(m:Int)] else lf N m++wF N m (N.getD m []).length:=by
 simp only[lf,ly,wF,eZ];split<;>rfl
variable(P:af)
theorem Ey(hP:P.Fits)(M:aj)(N:List<|List bq)(hF:Jo P M N):ar ai 15 [cm P,o4 M N]
  (if bm N N.length<=600 then .aI [ur (iF N 0) (jt N) (nG P.bd N)<|oR P.bd N,l7<|bW N N.length,aa 0] else .aI [ur [] [] [] [],l7 [],aa 2]):=by
 have hS:=hF.sp;have hf:=hS.few;have hl:=hS.len;have l5:=hS.pos;obtain⟨h0,_,qB⟩:=af.kY hF.steps;have AX:∀j,j<P.bd.length->0<=(P.bd.getD j (0,0,0)).1/\(P.bd.getD j (0,0,0)).1<=63:=λj hj=>by
  have h1:=(af.zb hF.steps hj).node;have:=(jV h0).1;omega
 refine dC fZ zs (by simp[an,sr,zmU]) ?_ (by split<;>simp[Pure,an,XB,xJ]);refine sR ?_;refine sC (Ly P hP) ?_;refine b8 (kS (fL 9 2 zs rfl)<|fL 10 1 zs rfl) ?_;refine bt [3,4,7] (λ((m,a):Nat×Nat)=>[(9,.own 3 a 0 a),(10,.own 4 a 0 a),(11,aa m)]) (λ(m,a)=>[(3,.vec true a 2<|iR<|bW N m),(4,.vec true a 1<|aA<|lf N m)]) (λ(m,a)=>m<=N.length/\a=bm N m) (λ(m,a)=>N.length-m) (0,0) ?_;refine sW ?_;refine⟨⟨zo,rfl⟩,by exact sK,rfl,?_⟩;rintro⟨m,a⟩ ⟨hm,ha⟩;have haS:=B4 hS hm;refine c6 ?_;rw[aK];refine sS (λh1=>?_) λh1=>?_
 ·have uE:m<N.length:=sO;have lx:=hS.rowAt m;have e1:=PQ N m;have H6:=zrV N m;have e2:=oO N m;have e3:=pB N m;have bp:=λk (hk:k<(N.getD m []).length)=>Rt hk;have hgs:=λk (hk:k<(N.getD m []).length)=>zs5 hk;have Kr:=λk (hk:k<=(N.getD m []).length)=>QY hk;have XR:=λk (hk:k<=(N.getD m []).length)=>Zy hk;have l3:(bW N m).length=a:=(by rw[ha];rfl);have l4:(lf N m).length=a:=(by rw[ha,xI]);have iI:=UD N m;have Rv:=zsM N m;have cW:=EW (L:=N) (z:=(m:Int).toNat) (k:=m) zo uE;generalize N.getD m []=l at *
  refine bt [3,4,7,11] (λ((k,c):Nat×Nat)=>[(9,.own 3 c 0 c),(10,.own 4 c 0 c),(12,aa k)])
   (λ(k,c)=>[(3,.vec true c 2<|iR<|bW N m++uA N m k),(4,.vec true c 1<|aA<|lf N m++wF N m k)]) (λ(k,c)=>k<=l.length/\c=a+k) (λ(k,c)=>l.length-k) (0,a) ?_
  refine sW ?_;refine⟨⟨zo,rfl⟩,by exact sK,by dsimp only;rw[iI,Rv,kM,kM];rfl,?_⟩;rintro⟨k,c⟩ ⟨hk,hc⟩;have tz:=Kr k hk;have Cb:=XR k hk;refine c6 ?_;refine sL (cW) ?_;rw[tu];refine sS (λh2=>?_) λh2=>?_
  ·have al:k<l.length:=sO;have gT:=bp k al;have hg1:=hgs k al;refine sL (cW) ?_;refine sL (ni (k:=k) zo al) ?_;refine sJ ?_;refine sL (cW) ?_;refine sL (ni (k:=k) zo al) ?_;refine fA ?_;refine⟨(k+1,c+1),⟨zo,zo⟩,zd,?_⟩;dsimp only;rw[gT,hg1]
   (refine aR 5 zs rfl ?_ ?_<;>(repeat' (first|exact trivial|exact rfl|exact .refl _|refine And.intro ?_ ?_|(simp[aq,au,bg,-List.map_take,-List.map_drop];done))))
   ·rw[<-gy];exact aZ<|zu<|by rw[cq,l3,tz,hc]
   rw[<-gy];exact aZ<|nk<|by rw[cq,l4,Cb,hc]
  have al:k=l.length:=by have:¬k<l.length:=sO
                         omega
  subst al;refine sL (cW) ?_;rw[tu];refine sS (λh3=>?_) λh3=>?_
  ·have h3:l.length=0:=sO;rw[ae h3] at e1 H6 e3;refine sJ ?_;refine fA ?_;refine⟨(m+1,c+1),⟨zo,zo⟩,zd,?_⟩;dsimp only;rw[e1,H6]
   (refine aR 5 zs rfl ?_ ?_<;>(repeat' (first|exact trivial|exact rfl|exact .refl _|refine And.intro ?_ ?_|(simp[aq,au,bg,-List.map_take,-List.map_drop];done))))
   ·refine aZ ?_;rw[h3,iI,kM];exact zu zo
   refine aZ ?_;rw[h3,Rv,kM];exact nk zo
  have h3:¬l.length=0:=sO;rw[ab h3] at e1 H6 e3;refine sI ?_;refine⟨(m+1,c),⟨zo,zo⟩,zd,?_⟩;dsimp only;rw[e1,H6];exact aR 5 zs rfl sQ sQ
 have uE:m=N.length:=by have:¬m<M.length:=sO
                        omega
 subst uE;subst ha;rw[xG];by_cases hA:bm N N.length<=600
 ·have hb:decide ((bm N N.length:Int)>600)=false:=gM zo;rw[hb,ae hA];refine sW ?_;have KO:=GL N;have C9:=OB P.bd N;have rG:=MH P.bd N;have oT:=xY N N.length;have Cb:=xI N N.length;have JM:List.drop 0 (List.take (bm N N.length)<|iR<|bW N N.length)=iR (bW N N.length):=cx (by simp[xY]);have hfg:List.drop 0 (List.take (bm N N.length)<|aA<|lf N N.length)=aA (lf N N.length):=cx (by simp[aA,xI])
  refine b8 (kS (rZ (λi=>i==3||i==4) (env':=[(14,aa 0),(13,.loc 5 0),(3,.loc 1 0),(4,.loc 2 0),(7,m4 P.bd),(9,l7<|bW N N.length),(10,aO<|lf N N.length)])
   (H':=[.row true P.cells,.row true<|Bb M N,.row true [ax,ax,ax,ax],.vec false (bm N N.length) 2<|iR<|bW N N.length,.vec false (bm N N.length) 1<|aA<|lf N N.length,.row true [ax,ax,ax,ax]])
   ⟨.refl _,.refl _,.refl _,.refl _,.refl _,.own _ _ _ _ _ _ _ _ rfl rfl (aZ JM),.own _ _ _ _ _ _ _ _ rfl rfl (aZ hfg),trivial⟩
   ⟨⟨.inl rfl,(λh=>by cases h),.refl _⟩,⟨.inl rfl,(λh=>by cases h),.refl _⟩,⟨.inl rfl,(λh=>by cases h),.refl _⟩,⟨.inr ⟨rfl,rfl⟩,λ_=>rfl,rfl,rfl,.refl _⟩,⟨.inr ⟨rfl,rfl⟩,λ_=>rfl,rfl,rfl,.refl _⟩,⟨.inl rfl,(λh=>by cases h),.refl _⟩,trivial⟩)
   (kS (iq 5 0 1 zs rfl rfl)<|kS (iq 5 1 1 zs rfl rfl)<|kS (iq 5 2 1 zs rfl rfl)<|iq 5 3 1 zs rfl rfl)) ?_
  generalize uG:bm N N.length=A at *
  refine cJ [3,4,7,9,10,13] (λ((i,c,s):Nat×Nat×ah)=>[(14,aa i)])
   (λ(i,c,s)=>[.row true P.cells,.row true<|Bb M N,.row true [ax,ax,ax,ax],.vec false A 2<|iR<|bW N N.length,.vec false A 1<|aA<|lf N N.length,.row true [.own 6 c 0 c,.own 7 i 0 i,.own 8 i 0 i,.own 9 0 0 0],
    .vec true c 1 (aA s),.vec true i 1<|eQ<|(jt N).take i,.vec true i 1<|n9<|(nG P.bd N).take i,.vec true 0 1<|eQ []])
   (λ(i,c,s)=>i<=A/\c=s.length/\c<=i/\s=qi (bW N N.length) 0 i) (λ(i,c,s)=>A-i) (0,0,[]) ?_
  refine sW ?_;refine⟨⟨zo,rfl,zo,rfl⟩,by exact sK,rfl,?_⟩;rintro⟨i,c,s⟩ ⟨hi,hc,hci,hs⟩;refine c6 ?_;rw[tu,oT];refine sS (λh2=>?_) λh2=>?_
  ·have aW:i<A:=sO;obtain⟨m,k,q1,q2,q3⟩:=zL (N:=N) (n:=N.length) (i:=i) zo;have gb:=vn q2 N.length q1;have Tu:=HK q2 N.length q1;have pP:=Dj q2;rw[<-q3] at gb Tu;have e1:=WK q1 q2;have e2:=Rz (L:=P.bd) q1 q2;rw[<-q3] at e1 e2;have eT:qi (bW N N.length) 0 (i+1)=if ((bW N N.length).getD i (0,0)).2=0 then qi (bW N N.length) 0 i++[(i:Int)] else qi (bW N N.length) 0 i:=rfl
   have l1:((jt N).take i).length=i:=(by rw[gA];omega);have l2:((nG P.bd N).take i).length=i:=(by rw[gA];omega);have hgt:0<=(ly N m).getD k 0/\(ly N m).getD k 0<(N.length:Int)/\(((mw N m).getD k (0,0)).1<0\/((mw N m).getD k (0,0)).1.toNat<P.bd.length):=by
    by_cases hz:(N.getD m []).length=0
    ·have tL:k=0:=(by rw[pB,ae hz] at q2;omega);subst tL;rw[(Iz hz).1,(Iz hz).2];exact⟨zo,zo,.inl<|by show(-1:Int)<0;decide⟩
    rw[(HZ hz q2).1,(HZ hz q2).2];rw[pB,ab hz] at q2;have:=hS.NR q2;exact⟨zo,zo,.inr zd⟩
   have BN:=O' (N:=N) (n:=N.length) (t:=((ly N m).getD k 0).toNat) zo;rw[uG,show((((ly N m).getD k 0).toNat:Nat):Int)=(ly N m).getD k 0 by omega] at BN;have lab:∀x:bq,¬x.1<0->ss P.bd x.1=2^(P.bd.getD x.1.toNat (0,0,0)).1.toNat:=λx hx=>by unfold ss;rw[ab hx]
   have XP:∀x:bq,x.1<0->ss P.bd x.1=9223372036854775808:=λx hx=>by unfold ss;rw[ae hx]
   refine b8 (fL 15 1 zs rfl) ?_;rw[gb,pP,<-hs] at eT;generalize (mw N m).getD k (0,0)=x at *;generalize (ly N m).getD k 0=g at *;refine bt [3,4,7,9,10,13,14] (λ((k,c,l):Nat×Nat×ah)=>[(15,.own 10 c 0 c),(16,aa k)]) (λ(k,c,l)=>[(10,.vec true c 1<|aA l)]) (λ(k,c,l)=>k<=A/\c=l.length/\c<=k/\l=qi (bW N N.length) g k) (λ(k,c,l)=>A-k) (0,0,[]) ?_;refine sW ?_;refine⟨⟨zo,rfl,zo,rfl⟩,by exact sK,rfl,?_⟩;rintro⟨k',c',l⟩ ⟨hk,gh,ow,iS⟩;refine c6 ?_;rw[tu,oT];refine sS (λh3=>?_) λh3=>?_
   ·have al:k'<A:=sO;have eP:qi (bW N N.length) g (k'+1)=if ((bW N N.length).getD k' (0,0)).2=g then qi (bW N N.length) g k'++[(k':Int)] else qi (bW N N.length) g k':=rfl
    refine sL (ni (l:=bW N N.length) (k:=k') zo zo) ?_;refine⟨zo,_,cA (l:=lf N N.length) (k:=i) zo zo,?_⟩;rw[Tu];refine sW ?_;generalize (bW N N.length).getD k' (0,0)=y at eP;refine sS (λh4=>?_) λh4=>?_
    ·have h4:y.2=g:=sO;rw[ae h4,<-iS] at eP;refine fA ?_;refine⟨(k'+1,c'+1,l++[(k':Int)]),⟨zo,by simp[gh],zo,eP.symm⟩,zd,?_⟩;refine aR 11 zs rfl sQ (sU ?_);exact aZ<|nk gh
    have h4:¬y.2=g:=sO;rw[ab h4,<-iS] at eP;refine sI ?_;exact⟨(k'+1,c',l),⟨zo,gh,zo,eP.symm⟩,zd,aL (by exact sK) rfl⟩
   have al:k'=A:=by have:¬k'<A:=sO
                    omega
   subst al;rw[BN] at iS;refine sJ ?_;refine⟨zo,_,ni (l:=bW N N.length) (k:=i) zo zo,?_⟩;rw[gb];refine sW ?_
   have dF:∀{H:aF},H[10]? = some (.vec true c' 1<|aA l)->jJ (nK 10) H (List.drop 0 (List.take i<|eQ<|List.take i<|jt N)++List.drop 0 (List.take 1 [[D.own 10 c' 0 c']])) (eQ (List.take i<|jt N)++[[aO<|iF N g.toNat]]):=λhH =>
    jJ.append _ _ _ _ (aZ<|cx<|by simp[eQ];omega) (jJ.cons _ _ _ _ (kZ.cons _ _ _ _ (.own _ _ _ _ _ _ _ _ rfl hH (aZ<|by rw[iS,cx<|by simp[aA];rw[<-iS];omega];rfl))<|kZ.refl _)<|jJ.refl _)
   have eg:eQ (List.take i (jt N)++[iF N g.toNat])=eQ (List.take i<|jt N)++[[aO<|iF N g.toNat]]:=(by simp[eQ]);refine sS (λh5=>?_) λh5=>?_
   ·have h5:¬x.1<0:=sO;rw[lab x h5] at e2;refine⟨zo,_,ni (l:=bW N N.length) (k:=i) zo zo,?_⟩;rw[gb];refine sW ?_;have hx:=hgt.2.2.resolve_left h5;have fm:=AX x.1.toNat hx;refine sL (xg (k:=x.1.toNat) zo hx) ?_;generalize P.bd.getD x.1.toNat (0,0,0)=st at *;refine⟨zo,?_⟩;rw[Ui (k:=st.1.toNat) zo zo];refine .inl ⟨Xg zo,?_⟩;refine sWJ ?_;refine⟨zo,_,ni (l:=bW N N.length) (k:=i) zo zo,?_⟩;rw[gb];refine sWS (λh6=>?_) λh6=>?_
    ·have h6:(m:Int)=0:=(by rw[<-pP];exact sO);rw[ae h6] at eT;refine fA ?_;refine⟨(i+1,c+1,s++[(i:Int)]),⟨zo,by simp[hc],zo,eT.symm⟩,zd,?_⟩;dsimp only;rw[e1,e2]
     (refine aR 10 zs rfl ?_ ?_<;>(repeat' (first|exact trivial|exact rfl|exact .refl _|refine And.intro ?_ ?_|(simp[aq,au,bg,-List.map_take,-List.map_drop];done))))
     ·exact aZ<|nk hc
     ·rw[eg];exact dF rfl
     exact aZ<|EL l2.symm
    have h6:¬(m:Int)=0:=(by rw[<-pP];exact sO);rw[ab h6] at eT;refine sI ?_;refine⟨(i+1,c,s),⟨zo,hc,zo,eT.symm⟩,zd,?_⟩;dsimp only;rw[e1,e2]
    (refine aR 10 zs rfl ?_ ?_<;>(repeat' (first|exact trivial|exact rfl|exact .refl _|refine And.intro ?_ ?_|(simp[aq,au,bg,-List.map_take,-List.map_drop];done))))
    ·rw[eg];exact dF rfl
    exact aZ<|EL l2.symm
   have h5:x.1<0:=sO;rw[XP x h5] at e2;refine sJ ?_;refine⟨zo,_,ni (l:=bW N N.length) (k:=i) zo zo,?_⟩;rw[gb];refine sWS (λh6=>?_) λh6=>?_
   ·have h6:(m:Int)=0:=(by rw[<-pP];exact sO);rw[ae h6] at eT;refine fA ?_;refine⟨(i+1,c+1,s++[(i:Int)]),⟨zo,by simp[hc],zo,eT.symm⟩,zd,?_⟩;dsimp only;rw[e1,e2]
    (refine aR 10 zs rfl ?_ ?_<;>(repeat' (first|exact trivial|exact rfl|exact .refl _|refine And.intro ?_ ?_|(simp[aq,au,bg,-List.map_take,-List.map_drop];done))))
    ·exact aZ<|nk hc
    ·rw[eg];exact dF rfl
    exact aZ<|EL l2.symm
   have h6:¬(m:Int)=0:=(by rw[<-pP];exact sO);rw[ab h6] at eT;refine sI ?_;refine⟨(i+1,c,s),⟨zo,hc,zo,eT.symm⟩,zd,?_⟩;dsimp only;rw[e1,e2]
   (refine aR 10 zs rfl ?_ ?_<;>(repeat' (first|exact trivial|exact rfl|exact .refl _|refine And.intro ?_ ?_|(simp[aq,au,bg,-List.map_take,-List.map_drop];done))))
   ·rw[eg];exact dF rfl
   exact aZ<|EL l2.symm
  have aW:i=A:=by have:¬i<A:=sO
                  omega
  subst aW;have BN:=O' (N:=N) (n:=N.length) (t:=0) zo;rw[uG] at BN;rw[show qi (bW N N.length) 0 i=iF N 0 from BN] at hs;rw[jd zo,jd zo]
  refine b8 (rZ (λi=>i==10) (env':=[(18,.aB [aa 0]),(13,.loc 5 0),(3,.loc 1 0),(4,.loc 2 0),(7,m4 P.bd),(9,l7<|bW N N.length)])
   (H':=[.row true P.cells,.row true<|Bb M N,.row true [ax,ax,ax,ax],.vec false i 2<|iR<|bW N N.length,.vec false i 1<|aA<|lf N N.length,.row true [.own 6 c 0 c,.own 7 i 0 i,.own 8 i 0 i,.own 9 0 0 0],
    .vec true c 1 (aA s),.vec true i 1<|eQ<|jt N,.vec true i 1<|n9<|nG P.bd N,.vec true 0 1<|eQ [],.row false [aa 0]]) ?_ ?_) ?_
  ·exact⟨.loc _ _ _ _ _ rfl rfl (.refl _),.refl _,.refl _,.refl _,.refl _,.refl _,trivial⟩
  ·exact⟨⟨.inl rfl,(λh=>by cases h),.refl _⟩,⟨.inl rfl,(λh=>by cases h),.refl _⟩,⟨.inl rfl,(λh=>by cases h),.refl _⟩,⟨.inl rfl,(λh=>by cases h),rfl,rfl,.refl _⟩,⟨.inl rfl,(λh=>by cases h),rfl,rfl,.refl _⟩,⟨.inl rfl,(λh=>by cases h),.refl _⟩,⟨.inl rfl,(λh=>by cases h),rfl,rfl,.refl _⟩,⟨.inl rfl,(λh=>by cases h),rfl,rfl,.refl _⟩,⟨.inl rfl,(λh=>by cases h),rfl,rfl,.refl _⟩,⟨.inl rfl,(λh=>by cases h),rfl,rfl,.refl _⟩,⟨.inr ⟨rfl,rfl⟩,λ_=>rfl,.refl _⟩,trivial⟩
  refine cJ [3,4,7,9,13] (λk:Nat=>[(18,.aB [aa k])])
   (λk=>[.row true P.cells,.row true<|Bb M N,.row true [ax,ax,ax,ax],.vec false i 2<|iR<|bW N N.length,.vec false i 1<|aA<|lf N N.length,.row true [.own 6 c 0 c,.own 7 i 0 i,.own 8 i 0 i,.own 9 k 0 k],
    .vec true c 1 (aA s),.vec true i 1<|eQ<|jt N,.vec true i 1<|n9<|nG P.bd N,.vec true k 1<|eQ<|(oR P.bd N).take k,.row false [aa 0]])
   (λk=>k<=P.bd.length) (λk=>P.bd.length-k) 0 ?_
  refine eC ?_;rintro k hk;refine c6 ?_;rw[zh];refine sS (λh3=>?_) λh3=>?_
  ·have al:k<P.bd.length:=sO;have e1:=WR (N:=N) al;rw[uG] at e1;have l1:((oR P.bd N).take k).length=k:=(by rw[gA];omega);refine b8 (fL 19 1 zs rfl) ?_;refine bt [3,4,7,9,13,18] (λ((k',c,l):Nat×Nat×ah)=>[(19,.own 11 c 0 c),(20,aa k')]) (λ(k',c,l)=>[(11,.vec true c 1<|aA l)]) (λ(k',c,l)=>k'<=i/\c=l.length/\c<=k'/\l=mV N (bW N N.length) k k') (λ(k',c,l)=>i-k') (0,0,[]) ?_;refine sW ?_;refine⟨⟨zo,rfl,zo,rfl⟩,by exact sK,rfl,?_⟩;rintro⟨k',c',l⟩ ⟨fz,gh,ow,iS⟩;refine c6 ?_;rw[tu,oT];refine sS (λh4=>?_) λh4=>?_
   ·have IS:k'<i:=sO;obtain⟨m,j,q1,q2,q3⟩:=zL (N:=N) (n:=N.length) (i:=k') zo;have gb:=vn q2 N.length q1;have pP:=Dj q2;rw[<-q3] at gb;have eT:mV N (bW N N.length) k (k'+1)=if Co N ((bW N N.length).getD k' (0,0)).2.toNat k=false\/((bW N N.length).getD k' (0,0)).1=k then mV N (bW N N.length) k k'++[(k':Int)] else mV N (bW N N.length) k k':=rfl
    rw[gb,pP,bQ,<-iS] at eT;generalize (mw N m).getD j (0,0)=x at *;have lx:=hS.rowAt m;have Ru:=zgR (N.getD m []) zo (λy=>y.1==(k:Int)) 48 [.aB [aa k]] (by simp[an,Pure]) λa _=>zsZ a k;change ar ai _ _<|aD<|Co N m k at Ru;refine⟨zo,_,ni (l:=bW N N.length) (k:=k') zo zo,?_⟩;rw[gb];refine sW ?_;refine sL (EW (L:=N) (k:=m) zo q1) ?_;refine sC Ru ?_;cases U2:Co N m k
    ·rw[U2,ae (.inl rfl)] at eT;refine lh ?_;refine⟨(k'+1,c'+1,l++[(k':Int)]),⟨zo,by simp[gh],zo,eT.symm⟩,zd,?_⟩;refine aR 12 zs rfl sQ (sU ?_);exact aZ<|nk gh
    refine sW ?_;refine⟨zo,_,ni (l:=bW N N.length) (k:=k') zo zo,?_⟩;rw[gb];refine sWS (λh7=>?_) λh7=>?_
    ·have h7:x.1=k:=sO;rw[ae (.inr h7)] at eT;refine fA ?_;refine⟨(k'+1,c'+1,l++[(k':Int)]),⟨zo,by simp[gh],zo,eT.symm⟩,zd,?_⟩;refine aR 12 zs rfl sQ (sU ?_);exact aZ<|nk gh
    have h7:¬x.1=k:=sO;rw[U2,ab λq=>q.elim (λq=>by cases q) h7] at eT;refine sI ?_;exact⟨(k'+1,c',l),⟨zo,gh,zo,eT.symm⟩,zd,aL (by exact sK) rfl⟩
   have IS:k'=i:=by have:¬k'<i:=sO
                    omega
   subst IS;rw[uG] at *;refine fA ?_;refine⟨k+1,zo,zd,?_⟩;dsimp only;rw[e1]
   (refine aR 11 zs rfl ?_ ?_<;>(repeat' (first|exact trivial|exact rfl|exact .refl _|refine And.intro ?_ ?_|(simp[aq,au,bg,-List.map_take,-List.map_drop];done))))
   ·exact .loc _ _ _ _ _ rfl rfl (.refl _)
   have LM:l.length<=c':=zo;rw[show eQ (List.take k (oR P.bd N)++[mV N (bW N N.length) (k:Int) k'])=eQ (List.take k<|oR P.bd N)++[[aO<|mV N (bW N N.length) (k:Int) k']] from by simp[eQ],<-iS];exact jJ.append _ _ _ _ (aZ<|cx<|by simp[eQ];omega)<|jJ.cons _ _ _ _ (kZ.cons _ _ _ _ (.own _ _ _ _ _ _ _ _ rfl rfl (aZ<|cx<|by simpa [aA] using LM))<|kZ.refl _)<|jJ.refl _
  have al:k=P.bd.length:=by have:¬k<P.bd.length:=sO
                            omega
  subst al;rw[jd zo];refine .aI _ _ (.cons _ _ _ _ (.agg _ _ (.cons _ _ _ _ (.own _ _ _ _ _ _ _ _ rfl ?_) (.cons _ _ _ _ (.own _ _ _ _ _ _ _ _ rfl ?_) (.cons _ _ _ _ (.own _ _ _ _ _ _ _ _ rfl ?_) (.cons _ _ _ _ (.own _ _ _ _ _ _ _ _ rfl ?_) .nil))))) (.cons _ _ _ _ (.refl _) (.cons _ _ _ _ (.refl _) .nil)))
  ·rw[cx<|by simp[aA];omega,hs];exact iX _
  ·rw[cx<|by simp[eQ,KO]];exact iX _
  ·rw[cx<|by simp[n9,C9]];exact iX _
  rw[cx<|by simp[eQ,rG]];exact iX _
 have hb:decide ((bm N N.length:Int)>600)=true:=ia zo;rw[hb,ab hA];refine sW ?_;exact .aI _ _ (.cons _ _ _ _ (.agg _ _ (.cons _ _ _ _ (.none _) (.cons _ _ _ _ (.none _) (.cons _ _ _ _ (.none _) (.cons _ _ _ _ (.none _) .nil))))) (.cons _ _ _ _ (.none _) (.cons _ _ _ _ (.refl _) .nil)))
theorem HD(hP:P.nodes.length<=1000000):ar ai 17 [cm P]<|dz<|gj P:=by
 refine bL ?_;refine b8 (fL 3 1 zs rfl) ?_;refine bt [1] (λk:Nat=>[(3,.own 1 k 0 k),(4,aa k)]) (λk=>[(1,.vec true k 1<|((P.nodes.take k).map λx=>x.1).map λs=>[.sc (.string s)])]) (λk=>k<=P.nodes.length) (λk=>P.nodes.length-k) 0 ?_;refine eC ?_;rintro k hk;refine c6 ?_;rw[aK];refine sS (λh=>?_) λh=>?_
 ·have al:k<P.nodes.length:=sO;refine sL (ka P (k:=k) zo al) ?_;refine fA ?_;refine⟨k+1,zo,zd,?_⟩;refine aR 2 zs rfl sQ (sU ?_);exact aZ<|UX al
 have al:k=P.nodes.length:=by have:¬k<P.nodes.length:=sO
                              omega
 subst al;refine .own _ _ _ _ _ _ _ _ rfl ?_;rw[cx zs,eZ];exact iX _
section
variable{P:af}(hP:P.Fits){tok st:Int}{name:aX}(gp:name.size<=9223372036854775807){sort:Int}{x:cC}{k a b c:Int}{f g:Tree}(hf:Small f)(hg:Small g)
def kr(is kn:Bool)(e:Int):D:=.aI [aD is,aD kn,aa e]
include hP in
theorem zxx(h1:P.dL tok st≠0):ar ai 5 [cm P,cK name sort x k a b c f g,aa tok,aa st]<|kr false true<|P.dL tok st:=by
 have hX:=CQ P hP tok st;refine dC fZ zs (by simp[an,Pure,sr,wR]) ?_ (by simp[kr,Pure,an]);generalize P.dL tok st=e at *;unfold kr cm af.cells o4 at *;refine sR ?_;refine sC hX ?_;refine sS (λh=>?_) λh=>?_
 ·exact .refl _
 exfalso;exact sO
include hP in
theorem Zc(h1:P.dL tok st=0)(h2:¬bm (P.cj tok st) (P.cj tok st).length<=600):ar ai 5 [cm P,cK name sort x k a b c f g,aa tok,aa st]<|kr false true 2:=by
 have hX:=CQ P hP tok st;have hR:=Ey P hP _ _<|mc h1;rw[h1] at hX;rw[ab h2] at hR;refine dC fZ zs (by simp[an,Pure,sr,wR]) ?_ (by simp[kr,Pure,an]);unfold kr cm af.cells o4 ur at *;refine sR ?_;refine sC hX ?_;refine sC hR ?_;exact .refl _
include hP gp hf hg in
theorem zxM(h1:P.dL tok st=0)(h2:bm (P.cj tok st) (P.cj tok st).length<=600)(h3:fH (gj P) name sort x k a b c f g≠0):ar ai 5 [cm P,cK name sort x k a b c f g,aa tok,aa st]<|kr false true<|fH (gj P) name sort x k a b c f g:=by
 have hX:=CQ P hP tok st;have hR:=Ey P hP _ _<|mc h1;rw[h1] at hX;rw[ae h2,<-zD] at hR;have hc:=af.kY (mc h1).steps;have zz:=(jV hc.1).1;have nj:=HD P zo;have hC:=IX (gj P) (yV hP h1) name gp sort x k a b c f g hf hg;refine dC fZ zs (by simp[an,Pure,sr,wR]) ?_ (by simp[kr,Pure,an]);generalize fH (gj P) name sort x k a b c f g=e at *;unfold kr cm af.cells o4 cK jC cc iN aN gu bc.cells at *;refine sR ?_;refine sC hX ?_;refine sC hR ?_;refine sC nj ?_;refine sC hC ?_;refine sS (λh=>?_) λh=>?_
 ·exact .refl _
 exfalso;exact sO
include hP gp hf hg in
theorem zzj(h1:P.dL tok st=0)(h2:bm (P.cj tok st) (P.cj tok st).length<=600)(h4:sort=4)(h3:fH (gj P) name sort x k a b c f g=0):∃is kn,ar ai 5 [cm P,cK name sort x k a b c f g,aa tok,aa st] (kr is kn 0) /\
  (kn=true->is=((dw P tok st).start.all λn=>mW (dw P tok st) g n.toNat)):=by
 have hX:=CQ P hP tok st;have hR:=Ey P hP _ _<|mc h1;rw[h1] at hX;rw[ae h2,<-zD] at hR;have hW:=Dv h1 h2;have hc:=af.kY (mc h1).steps;have zz:=(jV hc.1).1;have nj:=HD P zo;have hC:=IX (gj P) (yV hP h1) name gp sort x k a b c f g hf hg;rw[h3] at hC;subst h4;have hL:=YB (dw P tok st) hW.fits hW.aS hW.lett g ((qM _ _).1<|Pa h3).2.2;obtain⟨w1,w2,w3,w4,w5,w6⟩:=tc _ hW.aS;have pV:=hW.start;clear hW h3;generalize dw P tok st=W at *;by_cases Ct:150<W.next.length
 ·refine⟨false,false,?_,λh=>by cases h⟩;refine dC fZ zs (by simp[an,Pure,sr,wR]) ?_ (by simp[kr,Pure,an]);unfold kr cm af.cells o4 cK jC cc iN aN gu bc.cells at *;refine sR ?_;refine sC hX ?_;refine sC hR ?_;refine sC nj ?_;refine sC hC ?_;rw[aK];refine sS (λq=>?_) λq=>?_
  ·exact .refl _
  exact absurd Ct<|sO
 refine⟨W.start.all λn=>mW W g n.toNat,true,?_,λ_=>rfl⟩;refine dC fZ zs (by simp[an,Pure,sr,wR]) ?_ (by simp[kr,Pure,an]);generalize hb:(W.start.all λn=>mW W g n.toNat)=B;unfold kr cm af.cells o4 cK jC cc iN aN gu bc.cells at *;refine sR ?_;refine sC hX ?_;refine sC hR ?_;refine sC nj ?_;refine sC hC ?_;rw[aK];refine sS (λq=>?_) λq=>?_
 ·exact absurd (sO) Ct
 refine sC hL ?_;refine bt [13,16] (λi:Nat=>[(17,aa i)]) (λ_=>[]) (λi=>i<=W.start.length/\∀j,j<i->mW W g (W.start.getD j 0).toNat=true) (λi=>W.start.length-i) 0 ?_;refine sW ?_;refine⟨⟨zo,λj hj=>zo⟩,by exact sK,rfl,?_⟩;rintro i ⟨hi,bR⟩;refine c6 ?_;rw[aK];refine sS (λh=>?_) λh=>?_
 ·have aW:i<W.start.length:=sO;have hx:=cZ w4<|dP aW;refine sL (cA (k:=i) zo aW) ?_;refine sL (bj (W.start.getD i 0).toNat zo zo) ?_;cases r:mW W g (W.start.getD i 0).toNat
  ·refine sW ?_;have:B=false:=by rw[<-hb,List.all_eq_false];exact⟨_,dP aW,by rw[r];simp⟩
   rw[this];exact .refl _
  refine bb ?_;refine⟨i+1,⟨zo,λj hj=>?_⟩,zd,aL (by exact sK) rfl⟩;by_cases e:j=i
  ·subst e;exact r
  exact bR j zo
 have aW:i=W.start.length:=by have:¬i<W.start.length:=sO
                              omega
 subst aW;have:B:=by
  rw[<-hb,ki];intro y hy;obtain⟨j,hj,rfl⟩:=s7 hy;exact bR j hj
 rw[this];exact .refl _
include hP gp hf hg in
theorem zwZ(h1:P.dL tok st=0)(h2:bm (P.cj tok st) (P.cj tok st).length<=600)(h4:sort≠4)(h3:fH (gj P) name sort x k a b c f g=0)(h5:gP sort x k a b c f≠0) :
  ar ai 5 [cm P,cK name sort x k a b c f g,aa tok,aa st] (kr false true<|gP sort x k a b c f):=by
 have hX:=CQ P hP tok st;have hR:=Ey P hP _ _<|mc h1;rw[h1] at hX;rw[ae h2,<-zD] at hR;have hc:=af.kY (mc h1).steps;have zz:=(jV hc.1).1;have nj:=HD P zo;have hC:=IX (gj P) (yV hP h1) name gp sort x k a b c f g hf hg;rw[h3] at hC;have hM:=Rb name sort x k a b c f g hf;unfold oA at hM;rw[ab h5] at hM;generalize gP sort x k a b c f=e at *;refine dC fZ zs (by simp[an,Pure,sr,wR]) ?_ (by simp[kr,Pure,an]);unfold kr cm af.cells o4 cK jC cc iN aN gu bc.cells at *;refine sR ?_;refine sC hX ?_;refine sC hR ?_;refine sC nj ?_;refine sC hC ?_;rw[dr h4];refine sW ?_;refine sC hM ?_;refine sS (λh=>?_) λh=>?_
 ·exact .refl _
 exfalso;exact sO
include hP gp hf hg in
theorem zzk(h1:P.dL tok st=0)(h2:bm (P.cj tok st) (P.cj tok st).length<=600)(h4:sort≠4)(h3:fH (gj P) name sort x k a b c f g=0)(h5:gP sort x k a b c f=0):∃is kn,ar ai 5 [cm P,cK name sort x k a b c f g,aa tok,aa st] (kr is kn<|ig<|cy sort x k a b c f) /\
  (ig (cy sort x k a b c f)=0->kn->is=!(gz (dw P tok st)<|fg<|cy sort x k a b c f)):=by
 have hX:=CQ P hP tok st;have hR:=Ey P hP _ _<|mc h1;rw[h1] at hX;rw[ae h2,<-zD] at hR;have hW:=Dv h1 h2;have hc:=af.kY (mc h1).steps;have zz:=(jV hc.1).1;have nj:=HD P zo;have hC:=IX (gj P) (yV hP h1) name gp sort x k a b c f g hf hg;rw[h3] at hC;have hM:=Rb name sort x k a b c f g hf;unfold oA at hM;rw[ae h5,h5] at hM;have Am:=U4 h5;have Iw:=zwg (cy sort x k a b c f)<|Po _ _ _ _ _ _ _ hf;by_cases h6:ig (cy sort x k a b c f)=0
 ·have hb:=FV hW.fits hW.aS hW.start hW.rows h6;have hn:=L5 (m6 (cP (de (bO 4 (cy sort x k a b c f))))) (bX [] (partsOf (de (bO 4 (cy sort x k a b c f))))) (de (bO 4 (cy sort x k a b c f)));rw[<-KG h6] at hn;have l5:0<(fg (cy sort x k a b c f)).next.length:=(by rw[hn];exact Nat.two_pow_pos _);have hL:sT (fg (cy sort x k a b c f)).jq:=(by rw[KG h6];exact zq7 _ _ _);have h2l:=JG hb.two;rw[h6] at Iw⊢;have hT:(dw P tok st).next.length*(fg (cy sort x k a b c f)).next.length<=4000->ar ai 21 [gu (dw P tok st),lX (fg (cy sort x k a b c f))] (aD (gz (dw P tok st) (fg (cy sort x k a b c f)))):=λh=>ztt hb h hL l5;have emul:((dw P tok st).next.length:Int)*((fg (cy sort x k a b c f)).next.length:Int)=(((dw P tok st).next.length*(fg (cy sort x k a b c f)).next.length:Nat):Int):=(by rw[Eo]);clear hn hb l5 hL Am hW h3 h5 h6;generalize cy sort x k a b c f=T at *;generalize fg T=A at *;generalize dw P tok st=W at *;generalize I3:gz W A=ans at *;by_cases hN:W.next.length*A.next.length<=4000
  ·have Z8:=hT hN;clear hT;refine⟨!ans,true,?_,λ_ _=>rfl⟩;refine dC fZ zs (by simp[an,Pure,sr,wR]) ?_ (by simp[kr,Pure,an]);generalize W.next.length*A.next.length=N at *;unfold kr cm af.cells o4 cK jC cc iN aN gu bc.cells lX bS.cells at *;refine sR ?_;refine sC hX ?_;refine sC hR ?_;refine sC nj ?_;refine sC hC ?_;rw[dr h4];refine sW ?_;refine sC hM ?_;refine sC Iw ?_;rw[aK,aK,emul];refine sI ?_;refine sS (λq=>?_) λq=>?_
   ·have q:((N:Nat):Int)>4000:=qL q;exact absurd hN zo
   refine sC Z8 ?_;cases ans<;>exact .refl _
  refine⟨false,false,?_,λ_ h=>by cases h⟩;clear hT;refine dC fZ zs (by simp[an,Pure,sr,wR]) ?_ (by simp[kr,Pure,an]);generalize W.next.length*A.next.length=N at *;unfold kr cm af.cells o4 cK jC cc iN aN gu bc.cells lX bS.cells at *;refine sR ?_;refine sC hX ?_;refine sC hR ?_;refine sC nj ?_;refine sC hC ?_;rw[dr h4];refine sW ?_;refine sC hM ?_;refine sC Iw ?_;rw[aK,aK,emul];refine sI ?_;refine sS (λq=>?_) λq=>?_
  ·exact .refl _
  have q:¬((N:Nat):Int)>4000:=of_decide_eq_false q;exact absurd zo hN
 refine⟨false,true,?_,λh=>absurd h h6⟩;generalize ig (cy sort x k a b c f)=e at *;generalize cy sort x k a b c f=T at *;generalize dw P tok st=W at *;refine dC fZ zs (by simp[an,Pure,sr,wR]) ?_ (by simp[kr,Pure,an]);unfold kr cm af.cells o4 cK jC cc iN aN gu bc.cells lX bS.cells at *;refine sR ?_;refine sC hX ?_;refine sC hR ?_;refine sC nj ?_;refine sC hC ?_;rw[dr h4];refine sW ?_;refine sC hM ?_;refine sC Iw ?_;refine sS (λq=>?_) λq=>?_
 ·exact .refl _
 exfalso;exact sO
include hP gp hf hg in
theorem zor(tok st:Int)(sort:Int)(x:cC)(k a b c:Int):∃is kn,ar ai 5 [cm P,cK name sort x k a b c f g,aa tok,aa st] (kr is kn<|jE P tok st name sort x k a b c f g) /\
  (jE P tok st name sort x k a b c f g=0->kn->is=jB P tok st name sort x k a b c f g):=by
 by_cases h1:P.dL tok st=0
 ·by_cases h2:bm (P.cj tok st) (P.cj tok st).length<=600
  ·by_cases h3:fH (gj P) name sort x k a b c f g=0
   ·by_cases h4:sort=4
    ·have e:jE P tok st name sort x k a b c f g=0:=(by unfold jE;rw[ab<|by simpa using h1,ab<|by simpa using h2,ab<|by simpa using h3,ae h4]);obtain⟨is,kn,t,u⟩:=zzj hP gp hf hg h1 h2 h4 h3 (x:=x) (k:=k) (a:=a) (b:=b) (c:=c);have hb:jB P tok st name sort x k a b c f g=((dw P tok st).start.all λn=>mW (dw P tok st) g n.toNat):=(by unfold jB;rw[e,ae h4];simp);exact⟨is,kn,by rw[e];exact t,λ_ q=>by rw[hb];exact u q⟩
    by_cases h5:gP sort x k a b c f=0
    ·have e:jE P tok st name sort x k a b c f g=ig (cy sort x k a b c f):=(by unfold jE;rw[ab<|by simpa using h1,ab<|by simpa using h2,ab<|by simpa using h3,ab h4,ab<|by simpa using h5]);obtain⟨is,kn,t,u⟩:=zzk hP gp hf hg h1 h2 h4 h3 h5;exact⟨is,kn,by rw[e];exact t,λp q=>by unfold jB;rw[ab h4,ia p,kP];exact u (e.symm.trans p) q⟩
    have e:jE P tok st name sort x k a b c f g=gP sort x k a b c f:=(by unfold jE;rw[ab<|by simpa using h1,ab<|by simpa using h2,ab<|by simpa using h3,ab h4,ae h5]);exact⟨false,true,by rw[e];exact zwZ hP gp hf hg h1 h2 h4 h3 h5,λp=>absurd (e.symm.trans p) h5⟩
   have e:jE P tok st name sort x k a b c f g=fH (gj P) name sort x k a b c f g:=(by unfold jE;rw[ab<|by simpa using h1,ab<|by simpa using h2,ae h3]);exact⟨false,true,by rw[e];exact zxM hP gp hf hg h1 h2 h3,λp=>absurd (e.symm.trans p) h3⟩
  have e:jE P tok st name sort x k a b c f g=2:=(by unfold jE;rw[ab<|by simpa using h1,ae h2]);exact⟨false,true,by rw[e];exact Zc hP h1 h2,λp=>absurd (e.symm.trans p) zc⟩
 have e:jE P tok st name sort x k a b c f g=P.dL tok st:=by unfold jE;rw[ae h1]
 exact⟨false,true,by rw[e];exact zxx hP h1,λp=>absurd (e.symm.trans p) h1⟩
end
theorem zuX{t:Tree}(h:t.kids.length<=9223372036854775807)(k:∀u∈t.kids,Small u):Small t :=
 .mk t h λj hj=>by rw[Tree.om hj];exact k _<|ib _
theorem UY{P:bI}{L:Nat}{T E I:bl}{f0 f1 f2:Field}(hT:P.underlying T=some (.struct #[f0,f1,f2]))(h0:f0.type=I)(h1:f1.type=I)(h2:f2.type=E)(hE:P.underlying E=some (.slice T))(hI:P.underlying I=some (.int .i64))(hC:P.cellsOf T=3) :
  ∀(m:Nat) (ds:bh),SizeOf.sizeOf ds<=m->kH P L T ds->∃t:Tree,ds=aN t/\Small t:=by
 intro m
 induction m with
 |zero=>intro ds hm;exact absurd hm<|by cases ds<;>simp<;>omega
 |succ m ih =>
  intro ds hm h;have:=of_struct hT h;simp only[fi,gm,h0,h1,h2] at this;obtain⟨a,b,rfl,ha,hb⟩:=ve this;obtain⟨c,d,rfl,hc,hd⟩:=ve hb;obtain⟨e,f,rfl,he,hf⟩:=ve hd;obtain rfl:=A2 hf;obtain⟨k,rfl,_⟩:=of_int hI ha;obtain⟨n,rfl,_⟩:=of_int hI hc;obtain⟨xs,rfl,hl,hx⟩:=of_slice hE he;rw[hC] at hm⊢;have each:∀x∈xs,∃t:Tree,x=aN t/\Small t:=λx lj=>ih x (by
   have:=List.sizeOf_lt_of_mem lj;simp at hm;omega) (Xb hx x lj)
  have all:∃ts:List Tree,xs=ts.map gO/\∀t∈ts,Small t:=by
   clear hm hx hl he hd hb this h ih
   induction xs with
   |nil=>exact⟨[],rfl,zs⟩
   |cons x r ihx =>
    obtain⟨t,rfl,ht⟩:=each x zs;obtain⟨ts,rfl,ko⟩:=ihx λy hy=>each y (by simp[hy]);refine⟨t::ts,by rw[fi,vR],λu hu=>?_⟩;rcases dZ.1 hu with rfl|hu
    ·exact ht
    exact ko u hu
  obtain⟨ts,rfl,ko⟩:=all;exact⟨.node k n ts,rfl,zuX (by simpa [Tree.kids] using hl) ko⟩
section
open Go.RowKit Go.ChangeShapes Go.WideShapes Go.ChangeAt
theorem QE{P:bI}{e:bl}{f:α->bh}{ok:α->Prop}(he:∀cs,OfT P e cs->∃a,cs=f a/\ok a){xs:fE}(h:OfTL P e xs):∃l:List α,xs=l.map f/\∀a∈l,ok a:=by
 induction xs with
 |nil=>exact⟨[],rfl,zs⟩
 |cons x r ih =>
  cases h with
  |cons _ _ _ h k =>
   obtain⟨a,rfl,ha⟩:=he x h;obtain⟨l,rfl,hl⟩:=ih k;exact⟨a::l,rfl,λb hb=>by
    rcases dZ.1 hb with rfl|hb
    ·exact ha
    exact hl b hb⟩
theorem Y3{d:D}(h:OfA ai 25 d):∃P:af,d=cm P/\P.Fits:=by
 unfold OfA BP at h;rw[Tryz.underlying25] at h;obtain⟨cs,rfl,h⟩:=h;have h:=of_struct Tryz.underlying25 h;simp only[fi,gm] at h;obtain⟨xs,r,rfl,IB,hx,h⟩:=R1 Tryz.underlying22 h;obtain⟨ys,r,rfl,yT,hy,h⟩:=R1 Tryz.underlying23 h;obtain rfl:=A2 h;obtain⟨nodes,rfl,hn⟩:=QE (f:=ke) (ok:=λx=>x.1.size<=9223372036854775807) (λcs h=>by
  have h:=of_struct Tryz.underlying103 h;simp only[fi,gm] at h;obtain⟨s,_,rfl,hs,h⟩:=Wq Tryz.underlying9 h;obtain⟨k,_,rfl,_,h⟩:=pX Tryz.underlying3 h;obtain rfl:=A2 h;exact⟨(s,k),rfl,hs⟩) hx
 obtain⟨aG,rfl,_⟩:=QE (f:=oC) (ok:=λ_=>True) (λcs h=>by
  have h:=of_struct Tryz.underlying145 h;simp only[fi,gm] at h;obtain⟨s,_,rfl,hs,h⟩:=pX Tryz.underlying3 h;obtain⟨k,_,rfl,_,h⟩:=pX Tryz.underlying3 h;obtain rfl:=A2 h;exact⟨(s,k),rfl,trivial⟩) hy
 refine⟨⟨nodes,aG⟩,?_,⟨by simpa using IB,by simpa using yT,hn⟩⟩;rw[show Tryz.prog.cellsOf 103=2 by kernel_rfl,show Tryz.prog.cellsOf 145=2 by kernel_rfl];rfl
end
section
open Go.RowKit Go.ChangeShapes Go.WideShapes Go.ChangeAt
theorem zwH{d:D}(h:OfA ai 37 d):∃name sort x k a b c f g,d=cK name sort x k a b c f g/\name.size<=9223372036854775807/\Small f/\Small g:=by
 unfold OfA BP at h;rw[Tryz.underlying37] at h;obtain⟨cs,rfl,h⟩:=h;have h:=of_struct Tryz.underlying37 h;simp only[fi,gm] at h;obtain⟨name,r1,rfl,gp,h⟩:=Wq Tryz.underlying9 h;obtain⟨sort,r2,rfl,_,h⟩:=pX Tryz.underlying3 h;obtain⟨ps,r3,rfl,hp,h⟩:=ve h;obtain⟨tcs,r4,rfl,ht,h⟩:=ve h;obtain⟨fs,r5,rfl,hf,h⟩:=ve h;obtain⟨gs,r6,rfl,hg,h⟩:=ve h;obtain rfl:=A2 h;have hp:=of_struct Tryz.underlying27 hp;obtain⟨kk,_,rfl,_,hp⟩:=pX Tryz.underlying3 hp;obtain⟨sc,_,rfl,_,hp⟩:=pX Tryz.underlying3 hp;obtain⟨p,_,rfl,_,hp⟩:=pX Tryz.underlying3 hp;obtain⟨s,_,rfl,_,hp⟩:=pX Tryz.underlying3 hp;obtain⟨q,_,rfl,_,hp⟩:=pX Tryz.underlying3 hp;obtain⟨r,_,rfl,_,hp⟩:=pX Tryz.underlying3 hp;obtain⟨n,_,rfl,_,hp⟩:=pX Tryz.underlying3 hp;obtain rfl:=A2 hp;have ht:=of_struct Tryz.underlying29 ht;obtain⟨k,_,rfl,_,ht⟩:=pX Tryz.underlying3 ht;obtain⟨a,_,rfl,_,ht⟩:=pX Tryz.underlying3 ht;obtain⟨b,_,rfl,_,ht⟩:=pX Tryz.underlying3 ht;obtain⟨c,_,rfl,_,ht⟩:=pX Tryz.underlying3 ht;obtain rfl:=A2 ht;obtain⟨f,rfl,sf⟩:=UY (I:=3) (E:=30) Tryz.underlying32 rfl rfl rfl Tryz.underlying30 Tryz.underlying3 (by kernel_rfl) _ _ (aT _) hf;obtain⟨g,rfl,sg⟩:=UY (I:=3) (E:=33) Tryz.underlying35 rfl rfl rfl Tryz.underlying33 Tryz.underlying3 (by kernel_rfl) _ _ (aT _) hg;exact⟨name,sort,⟨kk,sc,p,s,q,r,n⟩,k,a,b,c,f,g,by simp[cK,jC,cc,iN],gp,sf,sg⟩
end
end Go.Proofs.YtolilnhippapaaaGreat
