/-
  Parts of a proof, joined. No statement is proved here.
-/
import Derived.Test.YtaalipopcddnjaaGreatDoorX71
import Derived.Test.YtaalipopcddnjaaGreatDoorX73
import Derived.Test.YtaalipopcddnjaaGreatDoorX72
import Derived.Lib.Bytealg
import Derived.WalkKit
import Derived.RowKitTokens
import Derived.Test.YtaalipopcddnjaaGreatDoorX70
namespace Go.Proofs.YtaalipopcddnjaaGreatDoor
set_option linter.unusedSimpArgs false
set_option linter.unusedVariables false
set_option maxRecDepth 100000
set_option linter.unusedSectionVars false
open Go.RowKit
theorem VD{N:List<|List bb}{x:Int}:∀{n:Nat},x∈uc N n->∃m,m<n/\x∈nz N m
 |0,h=>by simp[uc] at h
 |n+1,h=>by
  simp only[uc,de] at h;rcases h with h|h
  ·obtain⟨m,h1,h2⟩:=VD h;exact⟨m,zo,h2⟩
  exact⟨n,zo,h⟩
variable{N:List<|List bb}{m:Nat}{x:Int}
theorem zyx{M:ak}{s:Nat}(h:SpN M N s)(hm:m<N.length)(hx:x∈nz N m):0<=x/\x.toNat<N.length:=by
 unfold nz at hx;split at hx
 ·rw[cM] at hx;subst hx;omega
 obtain⟨e,he,rfl⟩:=cU.1 hx;have hr:N.getD m []∈N:=by rw[ay,aG hm];simp
 have:=h.JB _ hr e he;have:=h.len;omega
variable{n:Nat}
theorem JH{t:Nat}(ht:t<n)(hx:x∈iY N t):0<=x/\x<(bm N n:Int):=by
 obtain⟨i,hi,rfl⟩:=cU.1 hx;have hi:=eW.1 hi;have:=xA (N:=N) (show t+1<=n by omega);rw[qM] at this;omega
noncomputable def cC(P:ah)(tok st:Int):ba:=⟨iY (P.bX tok st) 0,kH<|P.bX tok st,pg P.aC<|P.bX tok st,rm P.aC<|P.bX tok st⟩
theorem Jy(P:ah)(tok st:Int):jQ (cC P tok st)=x6 (iY (P.bX tok st) 0) (kH<|P.bX tok st) (pg P.aC<|P.bX tok st) (rm P.aC<|P.bX tok st):=rfl
theorem NH{N:List<|List bb}{of:List bb}{s x:Int}:∀{i:Nat},x∈mB N of s i->0<=x/\x<(i:Int)
 |0,h=>by simp[mB] at h
 |i+1,h=>by
  simp only[mB] at h;split at h
  ·rcases de.1 h with h|h
   ·have:=NH h;omega
   rw[cM] at h;subst h;omega
  have:=NH h;omega
structure Gj(W:ba):Prop where
 fits:W.Fits
 aV:W.aV=0
 Ev:ly W.label
 start:W.start.length<=1048576
 rows:∀l∈W.next,l.length<=1048576
variable{P:ah}
theorem zqz(h:P.dp=0)(z:Int):0<=uV P.aC z/\uV P.aC z<18446744073709551616:=by
 unfold uV;split
 ·omega
 have hp:∀k:Nat,k<=63->(0:Int)<=2^k/\(2:Int)^k<18446744073709551616:=λk hk=>by
  have h1:(2:Nat)^k<=2^63:=Dw zo hk;have h3:(2:Nat)^63=9223372036854775808:=zc;rw[NS k];generalize (2:Nat)^k=z at *;omega
 refine hp _ ?_;by_cases hz:z.toNat<P.aC.length
 ·have h1:=(ah.Ag h hz).node;have:=(ky (ah.lY h).1).1;omega
 rw[ay,db zo];simp
variable{tok:Int}
theorem Bp{st:Int}(he:P.eZ tok st=0)(hA:bm (P.bX tok st) (P.bX tok st).length<=600):Gj<|cC P tok st:=by
 have hF:=oU he;have hS:=hF.sp;obtain⟨_,_,ko⟩:=ah.lY hF.steps;have IK:=λz=>zqz (P:=P) hF.steps z;have lj:1<=(P.bX tok st).length:=by have:=hS.len;have:=hS.pos;omega
 unfold cC;generalize P.bX tok st=N at *;generalize P.exM tok st=M at *;have s6:=Hp N;have oi:=Ra P.aC N;have rZ:=O1 P.aC N;have hm:∀t,t<N.length->iy N t<=600:=λt ht=>by
  have:=xA (N:=N) (show t+1<=N.length by omega);rw[qM] at this;omega
 have iZ:∀l∈kH N,l≠[]/\l.length<=600/\bq l (kH N).length:=λl hl=>by
  obtain⟨x,hx,rfl⟩:=cU.1 hl;obtain⟨m,m1,m2⟩:=VD hx;obtain⟨x1,x2⟩:=zyx hS m1 m2;refine⟨λh=>?_,?_,j9 λy hy=>?_⟩
  ·have h1:=E7 N x.toNat;have h2:=zvz N x.toNat;rw[h] at h1;simp at h1;omega
  ·rw[E7];exact hm _ x2
  rw[s6];exact JH x2 hy
 have b8:bq (iY N 0) (kH N).length:=j9 λy hy=>by rw[s6];exact JH lj hy
 have pZ:(iY N 0).length<=600:=by rw[E7];exact hm 0 lj
 have iX:∀l∈rm P.aC N,bq l (kH N).length/\l.length<=600:=λl hl=>by
  obtain⟨k,hk,rfl⟩:=cU.1 hl;refine⟨j9 λy hy=>?_,?_⟩
  ·rw[s6];exact NH hy
  have:=WZ N (dr N N.length) (k:Int)<|bm N N.length;omega
 refine⟨⟨?_,?_,?_,?_,?_,?_⟩,?_,?_,?_,?_⟩
 ·show(iY N 0).length<=_;omega
 ·show(kH N).length<=_;omega
 ·show(pg P.aC N).length<=_;omega
 ·show(rm P.aC N).length<=_;omega
 ·intro l hl;have:=iZ l hl;omega
 ·intro l hl;have:=iX l hl;omega
 ·unfold ba.aV;dsimp only;rw[aa zo,aa<|by rw[b8];simp;omega,aa,aa]
  ·rw[mP,oP];intro l hl;rw[(iX l hl).1];decide
  rw[mP,oP];intro l hl;obtain⟨h1,_,h2⟩:=iZ l hl;rw[h2];simpa using h1
 ·intro x hx;obtain⟨e,_,rfl⟩:=cU.1 hx;exact IK e.1
 ·show(iY N 0).length<=_;omega
 intro l hl;have:=iZ l hl;omega
theorem WW:∀{a b:af},aL a=aL b->a=b:=λ{a b} h=>by
 unfold aL at h;injection h with _ h
 induction a generalizing b with
 |nil=>cases b with
  |nil=>rfl
  |cons y b=>simp at h
 |cons x a ih=>cases b with
  |nil=>simp at h
  |cons y b =>
   simp only[dR,List.cons.injEq,D.sc.injEq,Value.int.injEq,true_and,and_true] at h;rw[h.1,ih h.2]
variable{s l:af}{W:ba}{A:bZ}
theorem F5(hb:mD W A)(ha:eK W A)(e:oh W A (bH W A).1 (bH W A).2 (fA W A).2=.aJ [.agg [aL s,aL l],aF<|eK W A,ab 0]) :
  ¬pE (bH W A).2 (gh W A (bH W A).1)<0/\s=kT (bH W A).1 ((dZ (bH W A).2 (gh W A (bH W A).1) (fA W A).2).take<|(dZ (bH W A).2 (gh W A (bH W A).1) (fA W A).2).length-1) /\
   l=kT (bH W A).1 (jU (bH W A).2 (gh W A (bH W A).1) (dw<|dZ (bH W A).2 (gh W A (bH W A).1) (fA W A).2).toNat):=by
 rw[ha] at e;unfold oh at e;split at e
 ·simp at e
 rename_i hp;simp only[D.aJ.injEq,List.cons.injEq,D.agg.injEq,and_true,true_and] at e;exact⟨hp,(WW e.1).symm,(WW e.2).symm⟩
theorem TO(hb:mD W A)(h:bq l (bH W A).2.length):bq (kT (bH W A).1 l) W.next.length:=j9 λx hx=>by
 obtain⟨hN,hg⟩:=ti hb;obtain⟨n,hn,rfl⟩:=cU.1 hx;have h1:=dn h hn;have:=hN.len;exact(hg _<|n6<|show n.toNat<(bH W A).1.length by omega).1
theorem Oz(hb:mD W A)(ha:eK W A)(e:oh W A (bH W A).1 (bH W A).2 (fA W A).2=.aJ [.agg [aL s,aL l],aF<|eK W A,ab 0]) :
  bq s W.next.length=true/\bq l W.next.length/\s.length<=1000000000/\l.length<=1000000000:=by
 obtain⟨hp,rfl,rfl⟩:=F5 hb ha e;obtain⟨h1,h2,h3,h4⟩:=C8 hb hp;obtain⟨h5,h6⟩:=Qt h4;have hG:=(ti hb).1.fits hb (ti hb).2;have hS:(gh W A (bH W A).1).length<=160:=by
  obtain⟨_,_,CN,_⟩:=vy W hb.two.cw;obtain⟨_,_,_,zQP,_⟩:=yk A hb.two.ca;unfold gh;rw[cL,x9<|aI _,x9<|aI _];omega
 refine⟨TO hb<|j9 λx hx=>dn h1<|CB hx,TO hb h5,?_,?_⟩
 ·unfold kT;rw[aS,gO];omega
 unfold kT;rw[aS];have:=yg hS (show(bH W A).2.length<=1228800 by omega);omega
def l5(g:ak):af->Prop
 |[]=>True
 |[_]=>True
 |x::y::r=>y∈g.getD x.toNat []/\l5 g (y::r)
theorem Kn{g:ak}{y:Int}:∀{l:af} {x:Int},l5 g (l++[x])->y∈g.getD x.toNat []->l5 g (l++[x]++[y])
 |[],x,_,h=>⟨h,trivial⟩
 |[a],x,k,h=>⟨k.1,h,trivial⟩
 |a::b::r,x,k,h=>⟨k.1,Kn (l:=b::r) k.2 h⟩
theorem IC{g:ak}:∀{l m:af} {x:Int},l5 g (l++[x])->l5 g (x::m)->l5 g (l++x::m)
 |[],m,x,_,h=>h
 |[a],m,x,k,h=>⟨k.1,h⟩
 |a::b::r,m,x,k,h=>⟨k.1,IC (l:=b::r) k.2 h⟩
theorem LG{g:ak}:∀{l:af} {i:Nat},l5 g l->i+1<l.length->l.getD (i+1) 0∈g.getD (l.getD i 0).toNat []
 |[],i,_,hi=>by simp at hi
 |[a],i,_,hi=>by simp at hi
 |a::b::r,0,h,_=>h.1
 |a::b::r,i+1,h,hi=>LG (l:=b::r) (i:=i) h.2<|by simpa using hi
def wa(g:ak)(from_:af)(p:Pr):Prop:=(p.2=-1/\p.1∈from_)\/(0<=p.2/\p.1∈g.getD p.2.toNat [])
theorem QP{g:ak}{from_:af}:∀(r:af) {M:List Pr},(∀p∈M,wa g from_ p)->(∀x∈r,x∈from_)->∀p∈wSt r M,wa g from_ p
 |[],M,h,_=>h
 |k::r,M,h,hr=>by
  rw[wSt];refine QP r (λp hp=>?_) λx hx=>hr x (by simp[hx]);split at hp
  ·rcases de.1 hp with q|q
   ·exact h p q
   rw[cM] at q;subst q;exact .inl ⟨rfl,hr k zs⟩
  exact h p hp
theorem P8{g:ak}{from_:af}{ok:aq}{n:Int}(hn:0<=n):∀(r:af) {M:List Pr},(∀p∈M,wa g from_ p)->(∀x∈r,x∈g.getD n.toNat [])->∀p∈lz ok n r M,wa g from_ p
 |[],M,h,_=>h
 |k::r,M,h,hr=>by
  rw[lz];refine P8 hn r (λp hp=>?_) λx hx=>hr x (by simp[hx]);split at hp
  ·rcases de.1 hp with q|q
   ·exact h p q
   rw[cM] at q;subst q;exact .inr ⟨hn,hr k zs⟩
  exact h p hp
theorem Vj{g:ak}(bg:∀l∈g,bq l g.length){to ok:aq}{from_:af}:∀(f h:Nat) (M:List Pr),iT g ok from_ M->(∀p∈M,wa g from_ p)->∀{M' h'},nN g to ok f h M=some (M',h')->∀p∈M',wa g from_ p
 |0,h,M,_,_,M',h',e=>by cases e
 |f+1,h,M,hI,hJ,M',h',e=>by
  rw[nN] at e;split at e
  ·rename_i q;split at e
   ·cases e;exact hJ
   have hr:=hI.rng _<|n6 q;refine Vj bg f (h+1) _ (Ij (i0:=h) _ hI q rfl λx hx=>dn (iO bg _) hx).1 (P8 ?_ _ hJ λx hx=>hx) e;exact hr.1
  cases e
theorem QT{g:ak}{ok:aq}{from_:af}{M:List Pr}(h:iT g ok from_ M)(hJ:∀p∈M,wa g from_ p):∀(f t:Nat),t<=M.length->t<=f->0<t ->
  ∃R,(kC M f<|dY M t).reverse=R++[dY M t]/\l5 g (R++[dY M t])/\∃x,(R++[dY M t]).head? = some x/\x∈from_
 |0,t,_,hf,h0=>zo
 |f+1,t,ht,hf,h0=>by
  obtain⟨t',k1,k2,k5,k3,k4⟩:=h.up h0 ht;rw[kC,aa zo,k2,List.reverse_cons];have hp:=hJ _<|n6 (show t-1<M.length by omega);have e1:(M.getD (t-1) (0,0)).1=dY M t:=(by unfold dY;rw[aa zo];rfl);unfold wa at hp;rw[k5,e1] at hp;rcases vM t' with q|q
  ·subst q;have ez:dY M 0=-1:=rfl;have e0:kC M f (dY M 0)=[]:=by
    cases f with
    |zero=>rfl
    |succ f=>rw[kC,ae<|by rw[ez];decide]
   rw[e0];refine⟨[],rfl,trivial,_,rfl,?_⟩;rcases hp with⟨_,hp⟩|⟨hp,_⟩
   ·exact hp
   rw[ez] at hp;omega
  obtain⟨R,r1,r2,x,r3,r4⟩:=QT h hJ f t' zo zo q;rw[r1];have lj:0<=dY M t':=by
   obtain⟨_,_,_,_,z,_⟩:=h.up q zo;exact z
  refine⟨R++[dY M t'],rfl,Kn r2 ?_,x,?_,r4⟩
  ·rcases hp with⟨hp,_⟩|⟨_,hp⟩
   ·omega
   exact hp
  cases R with
  |nil=>simpa using r3
  |cons a R=>simpa using r3
variable{g:ak}
theorem OM(bg:∀l∈g,bq l g.length)(to ok:aq){from_:af}(hf:bq from_ g.length)(b7:ku g to ok from_≠[]) :
  ∃R y,ku g to ok from_=R++[y]/\to y.toNat/\l5 g (R++[y])/\∃x,(R++[y]).head? = some x/\x∈from_:=by
 obtain⟨a,b,_⟩:=GS (ok:=ok) (from_:=from_) from_ (iT.none g ok from_) λx hx=>⟨hx,dn hf hx⟩;have hR:=JE bg (to:=to) (ok:=ok) (g.length+1) 0 (wSt from_ []) a (b9 _) zo b λi hi=>zo;have hJ0:∀p∈wSt from_ [],wa g from_ p:=QP from_ zs λx hx=>hx;unfold ku at b7⊢
 cases e:nN g to ok (g.length+1) 0<|wSt from_ [] with
 |none=>rw[e] at b7;exact absurd rfl b7
 |some q =>
  obtain⟨M,h⟩:=q;rw[e] at hR;obtain⟨hI,hh,ht⟩:=hR;have hJ:=Vj bg _ _ _ a hJ0 e;have en:dj M h=dY M (h+1):=(by unfold dY;rw[aa zo];rfl);obtain⟨R,r1,r2,r3⟩:=QT hI hJ (M.length+1) (h+1) zo zo zo;dsimp only;rw[en];exact⟨R,_,r1,by rw[<-en];exact ht,r2,r3⟩
theorem zpj(R:af)(y:Int):dw (R++[y])=y:=Gf R y
theorem XP(h:l≠[]):∃R,l=R++[dw l]:=by
 refine⟨l.dropLast,?_⟩
 conv=>lhs;rw[<-List.dropLast_concat_getLast h]
 congr 2
 unfold dw;rw[List.getLast_eq_getElem,ay,aG<|by have:=AF.2 h;omega];rfl
theorem UN{g:ak}{F:List aq}{e:Nat}(H:RH g F e):∀k,k<=F.length->l5 g (fR g F e k)/\(fR g F e k).head? = some (e:Int)/\∀j,j<k->∃x∈fR g F e k,(F.getD j noT) x.toNat=true
 |0,_=>⟨trivial,rfl,λj hj=>zo⟩
 |k+1,hk=>by
  obtain⟨h1,h2,h3⟩:=UN H k zo;obtain⟨o1,_⟩:=Ea H k zo;rw[fR];split
  ·rename_i q;refine⟨h1,h2,λj hj=>?_⟩;by_cases ej:j=k
   ·subst ej;obtain⟨x,hx,oO⟩:=iR.1 q;exact⟨x,hx,oO⟩
   exact h3 j zo
  have hS:F.getD k noT∈F:=(by rw[ay,aG<|show k<F.length by omega];simp);obtain⟨_,w2,_⟩:=o1.way H hS;have hl:=o1.lt;obtain⟨R,y,r1,r2,r3,x,r4,r5⟩:=OM H.bg (F.getD k noT) (eV g<|bp g e) (from_:=[dw<|fR g F e k]) (j9 λx hx=>by rw[cM] at hx;subst hx;exact hl) w2;rw[cM] at r5;subst r5;obtain⟨B,hB⟩:=XP o1.ne;rw[r1]
  cases R with
  |nil =>
   have ey:y=dw (fR g F e k):=(by simpa using r4);refine⟨by simpa using h1,by simpa using h2,λj hj=>?_⟩;by_cases ej:j=k
   ·subst ej;exact⟨y,by simp[ey,Nw o1.ne],r2⟩
   obtain⟨x,hx,oO⟩:=h3 j zo;exact⟨x,by simp[hx],oO⟩
  |cons a R =>
   have ea:a=dw (fR g F e k):=(by simpa using r4);subst ea;rw[mJ,FV,ft];refine⟨?_,?_,λj hj=>?_⟩
   ·rw[hB,l8,List.singleton_append];rw[hB] at h1;have:=IC h1 (by rw[<-zpj B (dw<|fR g F e k),<-hB];exact r3);exact this
   ·rw[List.head?_append,h2];rfl
   by_cases ej:j=k
   ·subst ej;exact⟨y,zs,r2⟩
   obtain⟨x,hx,oO⟩:=h3 j zo;exact⟨x,by simp[hx],oO⟩
variable{F:List aq}{e:Nat}
theorem Qj(H:RH g F e):l5 g (jU g F e++[(e:Int)])/\(jU g F e).head? = some (e:Int)/\∀j,j<F.length->∃x∈jU g F e,(F.getD j noT) x.toNat:=by
 obtain⟨h1,h2,h3⟩:=UN H F.length<|aI _;obtain⟨o1,_⟩:=Ea H F.length<|aI _;obtain⟨t1,t2,_⟩:=o1.home H;obtain⟨R,y,r1,r2,r3,x,r4,r5⟩:=OM H.bg (toE e) (eV g<|bp g e) t1 t2;have Cb:ss g (fR g F e F.length) e=R++[y]:=r1;have hx:=CB (nG.1 r5).1;have hy:y=(e:Int):=by
  have hr:=dn (o1.home H).2.2.1 (x:=y) (by rw[Cb];simp);unfold toE at r2;rw[gC] at r2;omega
 subst hy;obtain⟨B,hB⟩:=XP o1.ne;have eR:jU g F e=fR g F e F.length++R:=by unfold jU;rw[Cb];simp
 refine⟨?_,?_,λj hj=>?_⟩
 ·rw[eR,l8]
  cases Py:R++[(e:Int)] with
  |nil=>simp at Py
  |cons a m =>
   rw[Py] at r3 r4;have ea:a=x:=(by simpa using r4);subst ea;have j0:a∈g.getD (dw (fR g F e F.length)).toNat []:=hx;clear hx r5 eR Cb t1 t2 h2 h3 o1 r1;generalize dw (fR g F e F.length)=z at *;generalize fR g F e F.length=o at *;rw[hB] at h1⊢;have:=IC (Kn h1 j0) (m:=m) r3;simpa using this
 ·rw[eR,List.head?_append,h2];rfl
 obtain⟨x,hx,oO⟩:=h3 j hj;exact⟨x,by rw[eR];simp[hx],oO⟩
theorem O8(bg:∀l∈g,bq l g.length){fr:af}(iX:bq fr g.length)(hp:¬pE g F<0)(b7:dZ g F fr≠[]) :
  ∃e:Nat,e<g.length/\(dw<|dZ g F fr).toNat=e/\l5 g ((dZ g F fr).take ((dZ g F fr).length-1)++jU g F e++[(e:Int)])/\(jU g F e).head? = some (e:Int) /\
   (∃x∈fr,((dZ g F fr).take ((dZ g F fr).length-1)++jU g F e).head? = some x)/\∀j,j<F.length->∃x∈jU g F e,(F.getD j noT) x.toNat:=by
 obtain⟨i,ei,hi⟩:=Ud hp;obtain⟨R,y,r1,r2,r3,x,r4,r5⟩:=OM bg (λk=>bp g k==pE g F) (eV g (-1)) iX b7;have Cb:dZ g F fr=R++[y]:=r1;have hy:=dn (Hk bg (λk=>bp g k==pE g F) (eV g (-1)) iX).1 (x:=y) (by rw[r1];simp);have zz:bp g y.toNat=(i:Int):=by rw[<-ei];simpa using r2
 have H:=(RT bg hi).2 y.toNat zo zz;obtain⟨c1,c2,c3⟩:=Qj H;have ey:((y.toNat:Nat):Int)=y:=zo;have el:dw (dZ g F fr)=y:=by rw[Cb,Gf]
 have et:(dZ g F fr).take ((dZ g F fr).length-1)=R:=by rw[Cb];simp
 refine⟨y.toNat,zo,by rw[el],?_,c2,⟨x,r5,?_⟩,c3⟩
 ·rw[et]
  cases hr:jU g F y.toNat with
  |nil=>rw[hr] at c2;cases c2
  |cons a m =>
   rw[hr] at c1 c2;have ea:a=y:=(by have:=oV c2;omega);subst ea;rw[l8,mJ] at *;exact IC r3 c1
 rw[et]
 cases hR:R with
 |nil =>
  rw[hR] at r4;have:y=x:=by simpa using r4
  rw[m9,c2,ey,this]
 |cons a m =>
  rw[hR] at r4;simpa using r4
structure Jo(W:ba)(s:Nat->Int):Prop where
 start:s 0∈W.start
 next:∀i,s (i+1)∈W.next.getD (s i).toNat []
 fair:∀l∈W.fair,∀i,∃j,i<=j/\s j∈l
def wy(W:ba)(s:Nat->Int)(i:Nat):Int:=W.label.getD (s i).toNat 0
variable{t:Tree}
theorem UL(hW:Gj W)(hw:t.wf bD)(h3:fS t=0):eK W (b6 t)↔∃s,Jo W s/\¬bh (wy W s) t 0:=by
 have DW:(aW 4 t).wf bD:=Sw (.inl rfl) hw;have hp:=KZ _ DW;have hI:=NF hp<|Ni h3;have hT:=GV<|vQ hp;have hS:=λw=>W9 hI hp hT w;rw[zsZ<|xq hW.fits hW.aV hW.start hW.rows h3,M6 h3];have hn:∀w,bh w (da<|aW 4 t) 0↔¬bh w t 0:=λw=>by rw[Un w _ DW,BQ rfl rfl];rfl
 constructor
 ·rintro⟨s,r,⟨a1,a2⟩,⟨b1,b2⟩,c,d,e⟩;exact⟨s,⟨a1,a2,d⟩,(hn _).1<|(hS<|wy W s).1 ⟨r,b1,b2,c,e⟩⟩
 rintro⟨s,⟨a1,a2,d⟩,h⟩;obtain⟨r,b1,b2,c,e⟩:=(hS<|wy W s).2<|(hn _).2 h;exact⟨s,r,⟨a1,a2⟩,⟨b1,b2⟩,c,d,e⟩
theorem Ym(hb:mD W A)(ha:eK W A)(e:oh W A (bH W A).1 (bH W A).2 (fA W A).2=.aJ [.agg [aL s,aL l],aF<|eK W A,ab 0]):l≠[]:=by
 obtain⟨hp,rfl,rfl⟩:=F5 hb ha e;obtain⟨_,_,_,h4⟩:=C8 hb hp;obtain⟨_,h5,_⟩:=Qj h4;intro h;unfold kT at h;rw[List.map_eq_nil_iff] at h;rw[h] at h5;cases h5
def chr(s:aM)(p:Nat):Nat:=match s[p]? with
 |some b=>b.toNat
 |none=>0
def one(b:UInt8):aM:=⟨#[b]⟩
section
variable(T:Nat->aM)(names:List aM)(all:Bool)
variable{T names all}
end
def cn(c:Nat)(s:aM)(p:Nat):Nat:=if p<s.size/\chr s p≠c then cn c s<|p+1 else p
termination_by s.size-p
variable{s:aM}{c p:Nat}
theorem JF(h:p<s.size)(k:chr s p≠c):cn c s p=cn c s (p+1):=by rw[cn,ae ⟨h,k⟩]
theorem Dq(h:p<s.size->chr s p=c):cn c s p=p:=by rw[cn,aa λq=>q.2<|h q.1]
theorem Mg{c:Nat}{s:aM}:∀(n p:Nat),s.size-p=n->p<=s.size->p<=cn c s p/\cn c s p<=s.size/\(cn c s p<s.size->chr s (cn c s p)=c)
 |0,p,h,hp=>by rw[Dq λq=>zo];exact⟨zo,zo,λq=>zo⟩
 |n+1,p,h,hp=>by
  by_cases hc:chr s p=c
  ·rw[Dq λ_=>hc];exact⟨zo,zo,λ_=>hc⟩
  rw[JF zo hc];have:=Mg (c:=c) (s:=s) n (p+1) zo zo;exact⟨zo,this.2.1,this.2.2⟩
theorem Mp(h:s.size<=p):cn c s p=p:=Dq λq=>zo
theorem yD(p:Nat):p<=cn c s p:=by
 rcases c7 s.size p with h|h
 ·rw[Mp zo];omega
 exact(Mg _ p rfl h).1
def fQ(s:aM)(p:Nat):List aM :=
 if h:cn 32 s p<s.size then s.extract p (cn 32 s p)::fQ s (cn 32 s p+1) else [s.extract p<|cn 32 s p]
termination_by s.size-p
decreasing_by have:=yD (c:=32) (s:=s) p;omega
theorem xE(h:cn 32 s p<s.size):fQ s p=s.extract p (cn 32 s p)::fQ s (cn 32 s p+1):=by rw[fQ,dif_pos h]
theorem yb(h:¬cn 32 s p<s.size):fQ s p=[s.extract p<|cn 32 s p]:=by rw[fQ,dif_neg h]
theorem LN(s:aM)(p:Nat):0<(fQ s p).length:=by
 by_cases h:cn 32 s p<s.size
 ·rw[xE h];simp
 rw[yb h];simp
theorem W7(s:aM):∀(n p:Nat),s.size-p=n->p<=s.size->(fQ s p).length<=s.size-p+1
 |n,p,h,hp=>by
  by_cases hc:cn 32 s p<s.size
  ·rw[xE hc];have h1:=yD (c:=32) (s:=s) p;have:=W7 s (s.size-(cn 32 s p+1)) (cn 32 s p+1) rfl zo;simp only[cj];omega
  rw[yb hc];simp
termination_by n=>n
theorem NM(s:aM):∀(n p:Nat),s.size-p=n->p<=s.size->∀x∈fQ s p,x.size<=s.size
 |n,p,h,hp,x,hx=>by
  by_cases hc:cn 32 s p<s.size
  ·rw[xE hc] at hx;rcases dD.1 hx with rfl|hx
   ·rw[ByteArray.size_extract];omega
   have h1:=yD (c:=32) (s:=s) p;exact NM s (s.size-(cn 32 s p+1)) (cn 32 s p+1) rfl zo x hx
  rw[yb hc,cM] at hx;subst hx;rw[ByteArray.size_extract];omega
termination_by n=>n
def Nd:List aM:=[⟨#[]⟩,⟨#[115,116,97,114,116]⟩,⟨#[101,110,100]⟩,⟨#[115,116,111,112]⟩,⟨#[116,97,115,107]⟩,⟨#[120,111,114]⟩,⟨#[97,110,100]⟩,⟨#[111,114]⟩]
def wh(k:Nat):aM:=Nd.getD k ⟨#[]⟩
def Lm:aM:=⟨#[102,108,111,119]⟩
def mM(w:aM):Nat->Nat
 |0=>0
 |n+1=>if mM w n≠0 then mM w n else if dH w (wh<|n+1)=true then n+1 else 0
structure RdS where
 nodes:List<|aM×Int
 aP:List<|aM×aM×Int
def w0(w:List aM)(i:Nat):aM:=w.getD i ⟨#[]⟩
def yi(st:RdS)(ln:aM)(a:Int):Option RdS :=
 if dH (w0 (fQ ln 0) 0) Lm=true then
  if (fQ ln 0).length=3/\ic (w0 (fQ ln 0) 1)=true/\ic (w0 (fQ ln 0) 2)=true then some { st with aP:=st.aP++[(w0 (fQ ln 0) 1,w0 (fQ ln 0) 2,a)] } else none
 else if mM (w0 (fQ ln 0) 0) 7≠0 then
  if (fQ ln 0).length=2/\ic (w0 (fQ ln 0) 1)=true/\st.aP=[] then some { st with nodes:=st.nodes++[(w0 (fQ ln 0) 1,((mM (w0 (fQ ln 0) 0) 7:Nat):Int))] } else none
 else none
inductive RdA(α:Type) where
 |done (x:α)
 |bad (a:Int)
def Cc(s:aM):Nat->Nat->Int->RdS->RdA RdS
 |0,_,a,_=>.bad a
 |f+1,p,a,st =>
  if p<s.size then
   if cn 10 s p<s.size then
    match yi st (s.extract p<|cn 10 s p) a with
    |some lZ=>Cc s f (cn 10 s p+1) (a+1) lZ
    |none=>.bad a
   else .bad a
  else .done st
def yn(nodes:List<|aM×Int)(x:aM):Option Nat:=nodes.findIdx? λn=>dH n.1 x
def zN(nodes:List<|aM×Int):List (aM×aM×Int)->List (Int×Int)->RdA (List<|Int×Int)
 |[],out=>.done out
 |(x,y,a)::r,out=>match yn nodes x,yn nodes y with
  |some i,some j=>zN nodes r<|out++[((i:Int),(j:Int))]
  |_,_=>.bad a
noncomputable def Fy(s:aM):ah×Int×Int :=
 match Cc s (s.size+1) 0 1 ⟨[],[]⟩ with
 | .bad a=>(⟨[],[]⟩,a,3)
 | .done st=>match zN st.nodes st.aP [] with
  | .bad a=>(⟨[],[]⟩,a,4)
  | .done fl=>if (ah.mk st.nodes fl).aV=0 then (⟨st.nodes,fl⟩,0,0) else (⟨[],[]⟩,0,(ah.mk st.nodes fl).aV)
def cx:ah:=⟨[(⟨#[97]⟩,1),(⟨#[98]⟩,4),(⟨#[120]⟩,5),(⟨#[99]⟩,4),(⟨#[101]⟩,2)],[(0,1),(1,2),(2,1),(2,3),(3,4)]⟩
def twT:aM:=⟨#[115,116,97,114,116,32,97,10,116,97,115,107,32,98,10,120,111,114,32,120,10,116,97,115,107,32,99,10,101,110,100,32,101,10,102,108,111,119,32,97,32,98,10,102,108,111,119,32,98,32,120,10,102,108,111,119,32,120,32,98,10,102,108,111,119,32,120,32,99,10,102,108,111,119,32,99,32,101,10]⟩
theorem Yv:cx.wg=0:=by decide +kernel
theorem zuN:∀i,i<cx.aP.length->cx.pn i:=by decide +kernel
theorem zDa:∀i,i<cx.nodes.length->cx.tw i:=by decide +kernel
theorem YH:cx.nF cx.nodes.length=1:=by decide +kernel
theorem zyY:∀v,v<cx.nodes.length->cx.HA v:=by
 have g:cx.graph cx.aP.length=[[1],[2],[1,3],[4],[]]:=by decide +kernel
 have e:cx.rX cx.nodes.length=0:=by decide +kernel
 intro v hv;unfold ah.HA;rw[g,e];have h0:fx [[1],[2],[1,3],[4],[]] [0] 0:=.base (x:=0) zs;have h1:fx [[1],[2],[1,3],[4],[]] [0] 1:=.step (x:=1) h0 zc;have h2:fx [[1],[2],[1,3],[4],[]] [0] 2:=.step (x:=2) h1 zc;have h3:fx [[1],[2],[1,3],[4],[]] [0] 3:=.step (x:=3) h2 zc;have h4:fx [[1],[2],[1,3],[4],[]] [0] 4:=.step (x:=4) h3 zc;have hv:v<5:=hv;rcases (by omega:v=0\/v=1\/v=2\/v=3\/v=4) with rfl|rfl|rfl|rfl|rfl<;>assumption
theorem Uk:cx.aV=0:=by
 unfold ah.aV;rw[aa zc,aa<|by rw[Yv];decide,aa λh=>h zuN,aa<|by rw[YH];decide,aa λh=>h zDa,aa λh=>h zyY]
theorem yu:cx.dp=0/\cx.aC=[(1,0,1),(1,2,1),(2,1,1),(2,1,2),(3,3,1),(4,4,0)]:=by
 have e:cx.oT cx.nodes.length=[(1,0,1),(1,2,1),(2,1,1),(2,1,2),(3,3,1),(4,4,0)]:=by decide +kernel
 have e0:cx.dp=0:=by unfold ah.dp;rw[aa<|by rw[Uk];decide,e];rfl
 exact⟨e0,by unfold ah.aC;rw[ae e0,e]⟩
variable{M:af}
theorem Q1(h:cx.jT M):cx.jg M=0:=by
 unfold ah.jg;rw[aa<|by rw[yu.1];decide,ae h]
theorem CS{L:af}(h:cx.jT M)(k:cx.gE M [(1,0,1),(1,2,1),(2,1,1),(2,1,2),(3,3,1),(4,4,0)] 6=L):cx.cD M=L:=by
 unfold ah.cD;rw[ae<|Q1 h,yu.2];exact k
variable{k:Nat}
theorem C1{m:af}{s:bQ}(h:cx.jT M)(hk:k<6)(hs:([(1,0,1),(1,2,1),(2,1,1),(2,1,2),(3,3,1),(4,4,0)]:List bQ).getD k (0,0,0)=s)(hm:cx.ix M s)(h3:¬cx.kind s.1.toNat=3)(hf:∀f,f<cx.aP.length->¬9<cx.rY M s f)(hg:gl cx.aP.length (cx.rY M s)=m) :
  cx.gH M (k:Int)=0/\cx.cR M (k:Int)=m:=by
 have e1:cx.lK M s=0:=by
  unfold ah.lK;rw[aa h3,aa λ⟨f,h1,h2⟩=>hf f h1 h2]
 have e2:cx.pt M s=m:=by
  unfold ah.pt;rw[aa h3,ae e1,hg]
 have e3:cx.gH M (k:Int)=0:=by
  unfold ah.gH;rw[aa<|by rw[Q1 h];decide,yu.2,aa<|by simp;omega,bS,hs,ae hm,e1]
 refine⟨e3,?_⟩;unfold ah.cR;rw[ae e3,yu.2,bS,hs,e2]
variable{st:Nat}{marks:ak}
theorem C3{n:Nat}{m:af}{k:Int}{r:af}{aQ:List cK}{cur:List bb}{last:cK}(he:P.gH M k=0/\P.cR M k=m)(hp:jM marks m tok st=0) :
  P.eX tok st n M (k::r) marks aQ cur last=P.eX tok st n M r (gN marks m tok st) (kW marks aQ m tok st ((n:Int),k)) (cur++[(k,ka marks m tok st)]) ((n:Int),k):=by
 rw[ah.eX,aa<|by rw[he.1];decide,he.2,aa<|by rw[hp];decide]
variable{aQ:List cK}{last:cK}
theorem B0{f:Nat}{marks':ak}{org':List cK}{next:List<|List bb}{cur:List bb}{last':cK}{L:af}(hM:marks.getD n []=M)(hL:P.cD M=L)(hn:n<marks.length)(hE:P.eX tok st n M L marks aQ [] last=⟨0,marks',org',cur,last'⟩) :
  P.iD tok st (f+1) n marks aQ next last=P.iD tok st f (n+1) marks' org' (next++[cur]) last':=by
 rw[ah.iD,ae hn,hM,hL,hE,aa zs]
theorem zwh{f:Nat}{next:List<|List bb}(hn:¬n<marks.length):P.iD tok st (f+1) n marks aQ next last=⟨0,marks,aQ,next,last⟩:=by
 rw[ah.iD,aa hn]
theorem zCp:cx.cD [1,0,0,0,0]=[0]:=CS (by decide +kernel)<|by decide +kernel
theorem zBZ:cx.gH [1,0,0,0,0] 0=0/\cx.cR [1,0,0,0,0] 0=[0,1,0,0,0]:=C1 (k:=0) (s:=(1,0,1)) (by decide +kernel) zc rfl (by decide +kernel) (by decide +kernel) (by decide +kernel) (by decide +kernel)
theorem zA1:cx.cD [0,1,0,0,0]=[2,3]:=CS (by decide +kernel)<|by decide +kernel
theorem zCm:cx.gH [0,1,0,0,0] 2=0/\cx.cR [0,1,0,0,0] 2=[0,0,1,0,0]:=C1 (k:=2) (s:=(2,1,1)) (by decide +kernel) zc rfl (by decide +kernel) (by decide +kernel) (by decide +kernel) (by decide +kernel)
theorem zBp:cx.gH [0,1,0,0,0] 3=0/\cx.cR [0,1,0,0,0] 3=[0,0,0,1,0]:=C1 (k:=3) (s:=(2,1,2)) (by decide +kernel) zc rfl (by decide +kernel) (by decide +kernel) (by decide +kernel) (by decide +kernel)
theorem zBV:cx.cD [0,0,1,0,0]=[1]:=CS (by decide +kernel)<|by decide +kernel
theorem zBb:cx.gH [0,0,1,0,0] 1=0/\cx.cR [0,0,1,0,0] 1=[0,1,0,0,0]:=C1 (k:=1) (s:=(1,2,1)) (by decide +kernel) zc rfl (by decide +kernel) (by decide +kernel) (by decide +kernel) (by decide +kernel)
theorem zBN:cx.cD [0,0,0,1,0]=[4]:=CS (by decide +kernel)<|by decide +kernel
theorem zCw:cx.gH [0,0,0,1,0] 4=0/\cx.cR [0,0,0,1,0] 4=[0,0,0,0,1]:=C1 (k:=4) (s:=(3,3,1)) (by decide +kernel) zc rfl (by decide +kernel) (by decide +kernel) (by decide +kernel) (by decide +kernel)
theorem zBS:cx.cD [0,0,0,0,1]=[5]:=CS (by decide +kernel)<|by decide +kernel
theorem zBy:cx.gH [0,0,0,0,1] 5=0/\cx.cR [0,0,0,0,1] 5=[0,0,0,0,0]:=C1 (k:=5) (s:=(4,4,0)) (by decide +kernel) zc rfl (by decide +kernel) (by decide +kernel) (by decide +kernel) (by decide +kernel)
theorem zCh:cx.cD [0,0,0,0,0]=[]:=CS (by decide +kernel)<|by decide +kernel
theorem zwS:cx.jd=[1,0,0,0,0]:=by
 unfold ah.jd;rw[ae yu.1];decide +kernel
theorem U5:(cx.exF 1 20).e=0/\(cx.exF 1 20).next=[[(0,1)],[(2,2),(3,3)],[(1,1)],[(4,4)],[(5,5)],[]]:=by
 unfold ah.exF;rw[zwS];rw[B0 (f:=200) (M:=[1,0,0,0,0]) (marks':=[[1,0,0,0,0],[0,1,0,0,0]]) (org':=[(-1,-1),(0,0)]) (cur:=[(0,1)]) (last':=(0,0)) rfl zCp zc (by
  rw[C3 zBZ<|by decide +kernel];kernel_rfl)]
 rw[B0 (f:=199) (M:=[0,1,0,0,0]) (marks':=[[1,0,0,0,0],[0,1,0,0,0],[0,0,1,0,0],[0,0,0,1,0]]) (org':=[(-1,-1),(0,0),(1,2),(1,3)]) (cur:=[(2,2),(3,3)]) (last':=(1,3)) rfl zA1 zc (by
  rw[C3 zCm<|by decide +kernel,C3 zBp<|by decide +kernel];kernel_rfl)]
 rw[B0 (f:=198) (M:=[0,0,1,0,0]) (marks':=[[1,0,0,0,0],[0,1,0,0,0],[0,0,1,0,0],[0,0,0,1,0]]) (org':=[(-1,-1),(0,0),(1,2),(1,3)]) (cur:=[(1,1)]) (last':=(2,1)) rfl zBV zc (by
  rw[C3 zBb<|by decide +kernel];kernel_rfl)]
 rw[B0 (f:=197) (M:=[0,0,0,1,0]) (marks':=[[1,0,0,0,0],[0,1,0,0,0],[0,0,1,0,0],[0,0,0,1,0],[0,0,0,0,1]]) (org':=[(-1,-1),(0,0),(1,2),(1,3),(3,4)]) (cur:=[(4,4)]) (last':=(3,4)) rfl zBN zc (by
  rw[C3 zCw<|by decide +kernel];kernel_rfl)]
 rw[B0 (f:=196) (M:=[0,0,0,0,1]) (marks':=[[1,0,0,0,0],[0,1,0,0,0],[0,0,1,0,0],[0,0,0,1,0],[0,0,0,0,1],[0,0,0,0,0]]) (org':=[(-1,-1),(0,0),(1,2),(1,3),(3,4),(4,5)]) (cur:=[(5,5)]) (last':=(4,5)) rfl zBS zc (by
  rw[C3 zBy<|by decide +kernel];kernel_rfl)]
 rw[B0 (f:=195) (M:=[0,0,0,0,0]) (marks':=[[1,0,0,0,0],[0,1,0,0,0],[0,0,1,0,0],[0,0,0,1,0],[0,0,0,0,1],[0,0,0,0,0]]) (org':=[(-1,-1),(0,0),(1,2),(1,3),(3,4),(4,5)]) (cur:=[]) (last':=(4,5)) rfl zCh zc (by
  kernel_rfl)]
 rw[zwh (f:=194) zc];exact⟨rfl,rfl⟩
theorem Iu:cx.eZ 1 20=0/\cx.bX 1 20=[[(0,1)],[(2,2),(3,3)],[(1,1)],[(4,4)],[(5,5)],[]]:=by
 have e:cx.eZ 1 20=0:=by
  unfold ah.eZ;rw[aa<|by rw[yu.1];decide,aa<|by unfold ah.wO;decide];exact U5.1
 refine⟨e,?_⟩;unfold ah.bX;rw[ae e];exact U5.2
theorem GM:cC cx 1 20=⟨[0],[[1,2],[3],[4],[1,2],[5],[6],[6]],[2,4,4,2,8,16,9223372036854775808],[[0,1,2,3,4,5,6],[0,1,2,3,4,5,6],[0,1,3,4,5,6],[0,2,3,4,5,6],[0,1,2,3,4,5,6],[0,1,2,3,4,5,6]]⟩:=by
 unfold cC;rw[Iu.2,yu.2];kernel_rfl
theorem PG:bm (cx.bX 1 20) (cx.bX 1 20).length<=600:=by
 rw[Iu.2];decide +kernel
theorem CD:Gj<|cC cx 1 20:=Bp Iu.1 PG
def twX:cc:=⟨5,1,3,1,0,0,0⟩
def twY:cc:=⟨3,1,3,0,0,0,0⟩
theorem tw_X:gI twX=bE 6 (bE 8 (aW 4<|bd 3 3)<|bd 3 1) (aW 11<|aW 4<|bd 3 3):=by kernel_rfl
theorem tw_Y:gI twY=aW 10 (bd 3 3):=by kernel_rfl
theorem zDj:fL [⟨#[97]⟩,⟨#[98]⟩,⟨#[120]⟩,⟨#[99]⟩,⟨#[101]⟩] ⟨#[114]⟩ 1 twX 0 0 0 0 (bd 0 0) (bd 0 0)=0:=by decide +kernel
theorem zDX:fL [⟨#[97]⟩,⟨#[98]⟩,⟨#[120]⟩,⟨#[99]⟩,⟨#[101]⟩] ⟨#[114]⟩ 1 twY 0 0 0 0 (bd 0 0) (bd 0 0)=0:=by decide +kernel
theorem VF:qt twX=0:=by decide +kernel
theorem XC:qt twY=0:=by decide +kernel
theorem SK:fS (gI twX)=0:=by
 have h:=tx (partsOf<|da<|aW 4<|gI twX) [];have h1:(partsOf<|da<|aW 4<|gI twX).length=2:=by decide +kernel
 have h2:(nQ<|dQ<|da<|aW 4<|gI twX).length=2:=by decide +kernel
 unfold fS;rw[ae<|by decide +kernel,aa<|by simp only[dE] at h;omega]
theorem Pq:fS (gI twY)=0:=by decide +kernel
theorem XA{x:cc}(h:qt x=0):(gI x).wf bD:=by
 unfold qt at h;split at h
 ·exact((qo _ _).1 h).2.2
 rename_i q;exact absurd h q
theorem ZR:eK (cC cx 1 20) (b6<|gI twX)=false:=by
 rw[th,ne_eq,UL CD (XA VF) SK];rintro⟨s,⟨h0,_,_⟩,h⟩;apply h;rw[GM] at h0;have h0:s 0=0:=by simpa using h0
 rw[tw_X,DF rfl rfl];refine .inl<|(yJ rfl rfl).2 ⟨0,aI _,(Cz rfl).2 ?_,λm a b=>zo⟩;unfold wy;rw[GM,h0];decide
def twS(i:Nat):Int:=if i=0 then 0 else if i%2=1 then 1 else 3
variable{i:Nat}
theorem Qd(h:i%2=1):twS i=1:=by
 have h0:¬i=0:=zo;unfold twS;rw[aa h0,ae h]
theorem MC(h0:¬i=0)(h:¬i%2=1):twS i=3:=by
 unfold twS;rw[aa h0,aa h]
theorem zy6:Jo (cC cx 1 20) twS:=by
 rw[GM];refine⟨zc,λi=>?_,λl hl i=>?_⟩
 ·by_cases h0:i=0
  ·subst h0;decide
  by_cases h1:i%2=1
  ·rw[Qd h1,MC (i:=i+1) zo zo];decide
  rw[MC h0 h1,Qd (i:=i+1) zo];decide
 refine⟨2*i+2,zo,?_⟩;have:twS (2*i+2)=3:=MC zo zo;rw[this];revert l;decide
theorem WV:eK (cC cx 1 20)<|b6<|gI twY:=by
 rw[UL CD (XA XC) Pq];refine⟨twS,zy6,λh=>?_⟩;rw[tw_Y,I9 rfl rfl] at h;obtain⟨j,_,h⟩:=h;have h:=(Cz rfl).1 h;unfold wy at h;rw[GM] at h;have hs:twS j=0\/twS j=1\/twS j=3:=by
  unfold twS;split
  ·exact .inl rfl
  split
  ·exact .inr (.inl rfl)
  exact .inr (.inr rfl)
 rcases hs with e|e|e<;>rw[e] at h<;>revert h<;>decide
theorem zyd:Fy twT=(cx,0,0):=by
 have e1:Cc twT (twT.size+1) 0 1 ⟨[],[]⟩=.done ⟨[(⟨#[97]⟩,1),(⟨#[98]⟩,4),(⟨#[120]⟩,5),(⟨#[99]⟩,4),(⟨#[101]⟩,2)],[(⟨#[97]⟩,⟨#[98]⟩,6),(⟨#[98]⟩,⟨#[120]⟩,7),(⟨#[120]⟩,⟨#[98]⟩,8),(⟨#[120]⟩,⟨#[99]⟩,9),(⟨#[99]⟩,⟨#[101]⟩,10)]⟩:=by kernel_rfl
 have e2:zN [(⟨#[97]⟩,1),(⟨#[98]⟩,4),(⟨#[120]⟩,5),(⟨#[99]⟩,4),(⟨#[101]⟩,2)] [(⟨#[97]⟩,⟨#[98]⟩,6),(⟨#[98]⟩,⟨#[120]⟩,7),(⟨#[120]⟩,⟨#[98]⟩,8),(⟨#[120]⟩,⟨#[99]⟩,9),(⟨#[99]⟩,⟨#[101]⟩,10)] []=.done [(0,1),(1,2),(2,1),(2,3),(3,4)]:=by kernel_rfl
 unfold Fy;rw[e1];dsimp only;rw[e2];dsimp only;exact ae Uk
def sfx(s:ByteArray)(p:Nat):ByteArray:=s.extract p s.size
variable{s:ByteArray}
theorem Ox(h:p<=s.size):(sfx s p).size=s.size-p:=by unfold sfx;rw[ByteArray.size_extract];omega
theorem Wg(s:ByteArray):sfx s 0=s:=by unfold sfx;exact ByteArray.extract_zero_size
theorem zuS(s:ByteArray)(p:Nat):(sfx s p).data.toList=s.data.toList.drop p:=by
 unfold sfx;rw[ByteArray.data_extract,Array.toList_extract];simp[List.extract,fF]
theorem Wh(h:p+m<=s.size):(sfx s p).extract 0 m=s.extract p (p+m):=by
 unfold sfx;rw[ByteArray.extract_extract]
 congr 1<;>omega
theorem UW(h:p+m<=s.size):(sfx s p).extract m (s.size-p)=sfx s (p+m):=by
 unfold sfx;rw[ByteArray.extract_extract]
 congr 1
 omega
theorem PU(h:p<s.size):∃b,s[p]? = some b/\s.data.toList.drop p=b::s.data.toList.drop (p+1):=by
 have hl:p<s.data.toList.length:=by simpa using h
 exact⟨s[p],by simp[getElem?_pos,h],by rw[uu hl];rfl⟩
variable(c:UInt8)
theorem Ss(b c:UInt8):(b==c)=decide (b.toNat=c.toNat):=by
 by_cases h:b=c
 ·subst h;simp
 have:b.toNat≠c.toNat:=λe=>h<|UInt8.toNat.inj e;simp[h,this]
theorem W2(c:UInt8)(s:ByteArray):∀(n p:Nat),s.size-p=n->p<=s.size->Lib.indexByte (s.data.toList.drop p) c=if cn c.toNat s p<s.size then ((cn c.toNat s p-p:Nat):Int) else -1
 |0,p,h,hp=>by
  have:s.data.toList.drop p=[]:=List.drop_of_length_le (by simp;omega);rw[this,Mp zo,aa zo];rfl
 |n+1,p,h,hp=>by
  obtain⟨b,hb,e⟩:=PU (s:=s) (p:=p) zo;have hc:chr s p=b.toNat:=(by simp only[chr,hb]);rw[e];simp only[Lib.indexByte];rw[W2 c s n (p+1) zo zo,Ss];by_cases hq:b.toNat=c.toNat
  ·have e1:cn c.toNat s p=p:=Dq λ_=>by rw[hc,hq]
   rw[e1,ae<|show p<s.size by omega,ae<|by simpa using hq];simp
  have e1:cn c.toNat s p=cn c.toNat s (p+1):=JF zo (by rw[hc];exact hq);have hg:=yD (c:=c.toNat) (s:=s)<|p+1;rw[e1,aa<|show ¬decide (b.toNat=c.toNat)=true by simpa using hq];by_cases h3:cn c.toNat s (p+1)<s.size
  ·rw[ae h3,ae h3,aa zs];omega
  rw[aa h3,aa h3];simp
theorem Qa(s:ByteArray):∀(n p:Nat),s.size-p=n->p<=s.size->Lib.countByte (s.data.toList.drop p) 32+1=(fQ s p).length
 |0,p,h,hp=>by
  have:s.data.toList.drop p=[]:=List.drop_of_length_le (by simp;omega);rw[this,yb<|by rw[Mp zo];omega];rfl
 |n+1,p,h,hp=>by
  obtain⟨b,hb,e⟩:=PU (s:=s) (p:=p) zo;have hc:chr s p=b.toNat:=(by simp only[chr,hb]);have ih:=Qa s n (p+1) zo zo;rw[e];unfold Lib.countByte at ih⊢;rw[List.count_cons,Ss];by_cases hq:b.toNat=(32:UInt8).toNat
  ·have C5:chr s p=32:=(by rw[hc,hq];rfl);have e1:cn 32 s p=p:=Dq λ_=>C5;rw[xE<|by rw[e1];omega,e1,cj,<-ih];simp[hq]
  have C5:chr s p≠32:=(by rw[hc];exact hq);have e1:=JF (s:=s) (p:=p) zo C5;rw[aa<|by simpa using hq,kN,ih];by_cases h3:cn 32 s p<s.size
  ·rw[xE h3,xE (p:=p+1)<|by rw[<-e1];exact h3,e1];rfl
  rw[yb h3,yb (p:=p+1)<|by rw[<-e1];exact h3];rfl
variable(s:ByteArray)
theorem zgu(c:UInt8):ar Tryz.prog 262 [.sc (.string s),.sc (.string ⟨#[c]⟩)] (.sc (.int .i64 (Lib.countByte s.data.toList c:Nat))) where
 ok:=⟨_,Tryz.func262,by kernel_rfl,by kernel_rfl⟩
 run J F w vs hF hR:=by
  simp only[bj,rep] at hR;obtain⟨v,us,rfl,rfl,v2,us2,rfl,rfl,rfl⟩:=hR;have h58:=@run_callFunc_extern Tryz.prog 277 _ Extern.BytealgCount.count Tryz.func277 (by kernel_rfl) (by kernel_rfl) (by kernel_rfl) (by kernel_rfl);have h59:=@Lib.run_countString Tryz.prog s;have e1:(⟨#[c]⟩:ByteArray).size=1:=rfl;have e2:(⟨#[c]⟩:ByteArray)[0]? = some c:=rfl
  go_enter Tryz.func262,Tryz.ntmps262
  go_wp2
  go_ret
  refine⟨_,F,rfl,hF.lt,?_,Ext.refl _ _ _⟩;simp only[rep];rfl
def vX(c:UInt8):ByteArray:=⟨#[c]⟩
def DP(c:UInt8)(s:ByteArray)(p:Nat):Int:=if cn c.toNat s p<s.size then ((cn c.toNat s p-p:Nat):Int) else -1
theorem zbD(c:UInt8):ar Tryz.prog 224 [.sc (.string s),.sc (.string ⟨#[c]⟩)] (.sc (.int .i64<|Lib.indexByte s.data.toList c)) where
 ok:=⟨_,Tryz.func224,by kernel_rfl,by kernel_rfl⟩
 run J F w vs hF hR:=by
  simp only[bj,rep] at hR;obtain⟨v,us,rfl,rfl,v2,us2,rfl,rfl,rfl⟩:=hR;have h58:=@run_callFunc_extern Tryz.prog 273 _ Extern.BytealgIndexByte.indexByte Tryz.func273 (by kernel_rfl) (by kernel_rfl) (by kernel_rfl) (by kernel_rfl);have h59:=@Lib.run_indexByteString Tryz.prog s;have e1:(⟨#[c]⟩:ByteArray).size=1:=rfl;have e2:(⟨#[c]⟩:ByteArray)[0]? = some c:=rfl
  go_enter Tryz.func224,Tryz.ntmps224
  go_wp2
  ·rename_i h;have h:s.data.toList=[c]:=by
    rw[ByteArray.toList_eq] at h;exact(by simpa using h:[c]=s.data.toList).symm
   go_ret
   refine⟨_,F,rfl,hF.lt,?_,Ext.refl _ _ _⟩;simp only[rep];show Value.int IntKind.i64 0=_;rw[h];simp[Lib.indexByte]
  go_ret
  refine⟨_,F,rfl,hF.lt,?_,Ext.refl _ _ _⟩;simp only[rep];rfl
theorem RZ(s:ByteArray)(p:Nat)(hp:p<=s.size):ar Tryz.prog 224 [.sc (.string<|sfx s p),.sc (.string<|vX c)] (.sc (.int .i64<|DP c s p)):=by
 have hI:=zbD (sfx s p) c;rwa [zuS,W2 _ s _ p rfl hp] at hI
def c167:PC:=SO [Mv 4<|cS #[],Mv 5<|cS #[],Mv 6 cF] (.seq (SO [qm 8 0,qm 9 1,Ca 10 224 [8,9],qm 7 10]<|SO [qm 11 7,Bi 12 .geq 11 K0]<|If 12 (.seq (.ops [qm 13 0,qm 14 7,qd 15 (.zt 13 none<|some 14) 3,qm 16 0,qm 17 7,qm 18 1,qd 19 (.vK 18) 32,Bd 20 .add 17 19 112,qd 21 (.zt 16 (some 20) none) 248,qw 4 15 7,qw 5 21 1023,Md 6 cT 2047] true) .ret))<|SO [qm 22 0,qm 4 22,Mv 5<|cS #[],Mv 6 cF] .ret)
theorem zfp(s:ByteArray)(hs:s.size<=1000000000)(p:Nat)(hp:p<=s.size):ar Tryz.prog 167 [.sc (.string<|sfx s p),.sc (.string<|vX c)]
  (if cn c.toNat s p<s.size then .aJ [.sc (.string<|s.extract p<|cn c.toNat s p),.sc (.string<|sfx s<|cn c.toNat s p+1),.sc (.bool true)] else .aJ [.sc (.string<|sfx s p),.sc (.string ⟨#[]⟩),.sc (.bool false)]):=by
 refine fi (fJ 23 [.tmp 4,.tmp 5,.tmp 6] c167 Tryz.func167) zs (by simp[ao,Pure]) ?_ (by split<;>simp[ao,Pure]);have hI:=RZ c s p hp;have hg:=yD (c:=c.toNat) (s:=s) p;have hz:=Ox hp;refine sR ?_;refine sC hI ?_;by_cases h:cn c.toNat s p<s.size
 ·rw[ae h];rw[show DP c s p=((cn c.toNat s p-p:Nat):Int) from ae h];refine sW ?_;refine⟨zo,zo,zo,?_⟩;refine sW ?_;have rC:(vX c).size=1:=rfl;refine .inl ⟨by(unfold dW;rw[fU];omega),?_⟩;refine sW ?_;refine⟨zo,zo,zo,?_⟩;refine sW ?_;refine bL ?_;have e1:=Wh (s:=s) (p:=p) (m:=cn c.toNat s p-p) zo;have e2:=UW (s:=s) (p:=p) (m:=cn c.toNat s p-p+1) zo;rw[show p+(cn c.toNat s p-p)=cn c.toNat s p by omega] at e1;rw[show p+(cn c.toNat s p-p+1)=cn c.toNat s p+1 by omega] at e2;rw[hz,rC,bS,show(((cn c.toNat s p-p:Nat):Int)+(1:Nat)).toNat=cn c.toNat s p-p+1 by omega,e1,e2]
 rw[aa h];rw[show DP c s p=-1 from aa h];refine sW ?_;exact sP
def c86:PC:=SO [Mv 4<|cS #[],Mv 5<|cS #[],Mv 6 cF]<|SO [qm 7 0,qm 8 1,Ca 9 167 [7,8],Xt 10 0 9,Xt 11 1 9,Xt 12 2 9,qm 4 10,qm 5 11,qm 6 12] .ret
theorem S0:pj Tryz.prog 86 13 [.tmp 4,.tmp 5,.tmp 6] c86:=fK Tryz.func86
theorem zmA(s:ByteArray)(hs:s.size<=1000000000)(p:Nat)(hp:p<=s.size):ar Tryz.prog 86 [.sc (.string<|sfx s p),.sc (.string<|vX c)]
  (if cn c.toNat s p<s.size then .aJ [.sc (.string<|s.extract p<|cn c.toNat s p),.sc (.string<|sfx s<|cn c.toNat s p+1),.sc (.bool true)] else .aJ [.sc (.string<|sfx s p),.sc (.string ⟨#[]⟩),.sc (.bool false)]):=by
 have hC:=zfp c s hs p hp;by_cases h:cn c.toNat s p<s.size
 ·rw[ae h] at hC⊢;refine bz S0 ?_;refine sR ?_;refine sC hC ?_;exact .refl _
 rw[aa h] at hC⊢;refine bz S0 ?_;refine sR ?_;refine sC hC ?_;exact .refl _
theorem ziP(s:ByteArray)(p:Nat)(hp:p<=s.size):ar Tryz.prog 263 [.sc (.string<|sfx s p),.sc (.string<|vX c)] (.sc (.int .i64<|DP c s p)):=by
 refine bV ?_;refine sC (RZ c s p hp) ?_;exact .refl _
def kO(x:ByteArray):List D:=[.sc (.string x)]
theorem XY(l:List ByteArray):dG l=.a8 1 (l.map kO):=rfl
theorem Pc{L:List ByteArray}{N:Nat}{x:ByteArray}{r:List ByteArray}(hN:L.length=N)(hd:L.drop i=x::r) :
  (((L.take i).map kO++List.replicate (N-i) (kO ⟨#[]⟩)).set i<|kO x)=(L.take<|i+1).map kO++List.replicate (N-(i+1)) (kO ⟨#[]⟩)/\L.drop (i+1)=r/\i<N:=by
 have hi:i<L.length:=by
  rcases c7 i L.length with h|h
  ·exact h
  rw[List.drop_of_length_le h] at hd;cases hd
 rw[uu hi] at hd;obtain⟨h1,h2⟩:=List.cons.inj hd;refine⟨?_,h2,zo⟩;rw[List.set_append_right _ _<|by simp;omega,show N-i=(N-(i+1))+1 by omega,List.replicate_succ];rw[List.take_succ_eq_append_getElem hi,mq,h1];simp[show i-min i L.length=0 by omega]
def zBU:PC:=.seq (SO [qm 34 10,qm 35 3,Bi 36 .lss 34 35]<|CX 36 0) (.block 1<|SO [qm 37 0,qm 38 1,Ca 39 263 [37,38],qm 11 39] (.seq (SO [qm 40 11,Bi 41 .lss 40 K0]<|If 41 (.exit 0))<|SO [qm 42 9,qm 43 10,qm 44 0,qm 45 11,qm 46 2,Bi 47 .add 45 46,q 48 (.zt 44 none<|some 47),Ia 49 1 42 43,So 1 49 48]<|SO [qm 50 0,qm 51 11,qm 52 1,q 53 (.vK 52),Bi 54 .add 51 53,q 55 (.zt 50 (some 54) none),qm 0 55]<|OP [qm 56 10,Bi 57 .add 56 K1,qm 10 57]))
def c225:PC:=SO [Mv 8 cN] (.seq (SO [qm 12 3,Bi 13 .eql 12 K0]<|If 13<|SO [Mv 8 cN] .ret) (.seq (SO [qm 14 1,Bi 15 .eql 14<|cS #[]]<|If 15<|SO [qm 16 0,qm 17 3,Ca 18 261 [16,17],qm 8 18] .ret) (.seq (SO [qm 19 3,Bi 20 .lss 19 K0]<|If 20<|OP [qm 21 0,qm 22 1,Ca 23 262 [21,22],Bi 24 .add 23 K1,qm 3 24])<|SO [qm 25 3,qm 26 0,q 27 (.vK 26),Bi 28 .add 27 K1,q 29 (.mx false 25 28),qm 3 29]<|SO [qm 30 3,q 31 (.wo 1 16 [vS] 30 30),qm 9 31]<|SO [qm 32 3,Bi 33 .sub 32 K1,qm 3 33]<|SO [Mv 10 K0] (.seq (BL 0 zBU)<|SO [qm 58 9,qm 59 10,qm 60 0,Ia 61 1 58 59,So 1 61 60]<|SO [qm 62 9,qm 63 10,Bi 64 .add 63 K1,q 65 (.slc 1 62 none (some 64) none),qm 8 65] .ret))))
theorem ZM(hs:s.size<=1000000000):ar Tryz.prog 225 [.sc (.string s),.sc (.string<|vX 32),.sc (.int .i64 0),.sc (.int .i64 (-1))]<|dG<|fQ s 0:=by
 refine bz (fJ 66 [.tmp 8] c225 Tryz.func225) ?_;have hC:=zgu s 32;have hn:=Qa s _ 0 rfl (b9 _);rw[ft] at hn;have hl:=W7 s _ 0 rfl (b9 _);have lj:=LN s 0;generalize hN:(fQ s 0).length=N at hn hl lj;have hk:Lib.countByte s.data.toList 32=N-1:=zo;rw[hk] at hC;have b7:((vX 32).toList==(⟨#[]⟩:ByteArray).toList)=false:=by rw[ByteArray.toList_eq,ByteArray.toList_eq];rfl
 refine sR ?_;rw[b7];refine sW ?_;refine sC hC ?_;refine sI ?_;refine sI ?_;rw[show(((N-1:Nat):Int)+1)=(N:Int) by omega,show min (N:Int) ((s.size:Int)+1)=(N:Int) by omega];refine⟨zo,zo,zo,?_⟩;refine bJ ?_;rw[show((N:Int)-1)=((N-1:Nat):Int) by omega,bS]
 refine bT [1,2,3,9] (λ((i,p):Nat×Nat)=>[(0,.sc (.string<|sfx s p)),(10,.sc (.int .i64 i))]) (λ(i,p)=>[(0,.vec true 0 1<|((fQ s 0).take i).map kO++List.replicate (N-i) (kO ⟨#[]⟩))])
  (λ(i,p)=>i<N/\p<=s.size/\fQ s p=(fQ s 0).drop i) (λ(i,p)=>N-i) (0,0) ?_
 refine sW ?_;refine⟨⟨lj,b9 _,rfl⟩,by dsimp only;rw[Wg];exact sK,rfl,?_⟩;rintro⟨i,p⟩ ⟨hi,hp,hd⟩;have hI:=ziP 32 s p hp;have hz:=Ox hp;have hlen:(fQ s p).length=N-i:=by rw[hd,mi,hN]
 refine bl (λh1=>?_) λh1=>?_
 ·have h1:i<N-1:=sO;have hm:cn 32 s p<s.size:=by
   rcases c7 (cn 32 s p) s.size with h|h
   ·exact h
   rw[yb zo] at hlen;simp at hlen;omega
  have hg:=yD (c:=32) (s:=s) p;have e0:DP 32 s p=((cn 32 s p-p:Nat):Int):=ae hm;rw[e0] at hI;have e1:=Wh (s:=s) (p:=p) (m:=cn 32 s p-p) zo;have e2:=UW (s:=s) (p:=p) (m:=cn 32 s p-p+1) zo;rw[show p+(cn 32 s p-p)=cn 32 s p by omega] at e1;rw[show p+(cn 32 s p-p+1)=cn 32 s p+1 by omega] at e2;have rC:(vX 32).size=1:=rfl;have oi:(((fQ s 0).take i).map kO++List.replicate (N-i) (kO ⟨#[]⟩)).length=N:=(by simp[hN];omega);have Mt:(((fQ s 0).take i).map kO++List.replicate (N-i) (kO ⟨#[]⟩))[i]? = some (kO ⟨#[]⟩):=by
   rw[fc<|by simp;omega,aS,gO,hN,show min i N=i by omega,mE,show N-i=(N-i-1)+1 by omega,List.replicate_succ];rfl
  refine sC hI ?_;refine sI ?_;rw[Int.add_zero];refine⟨zo,zo,zo,?_⟩;refine sW ?_;rw[bS,e1];refine⟨zo,zo,?_⟩;refine sW ?_;refine⟨_,by rw[show 0+(i:Int).toNat=i by omega];exact Mt,?_⟩;refine sW ?_;refine .inl ⟨by(unfold dW;rw[fU];omega),?_⟩;refine sW ?_;refine⟨zo,zo,aI _,?_⟩;rw[hz,rC,show(((cn 32 s p-p:Nat):Int)+(1:Nat)).toNat=cn 32 s p-p+1 by omega,e2];refine bJ ?_;rw[xE hm] at hd;obtain⟨q1,q2,q3⟩:=Pc hN hd.symm;refine⟨(i+1,cn 32 s p+1),⟨zo,zo,q2.symm⟩,zd,bf (by exact sK) ?_⟩;show[an.vec true 0 1<|List.set (((fQ s 0).take i).map kO++List.replicate (N-i) (kO ⟨#[]⟩)) (0+(i:Int).toNat)<|kO<|s.extract p<|cn 32 s p]=[_];rw[show 0+(i:Int).toNat=i by omega,q1]
 have h1:i=N-1:=sO;have hm:¬cn 32 s p<s.size:=λh=>by
  rw[xE h,cj] at hlen;have:=LN s<|cn 32 s p+1;omega
 have hg:=Mg (c:=32) (s:=s) _ p rfl hp;have e1:s.extract p (cn 32 s p)=sfx s p:=by unfold sfx;congr 1;omega
 rw[yb hm,e1] at hd;have Mt:(((fQ s 0).take i).map kO++List.replicate (N-i) (kO ⟨#[]⟩))[i]? = some (kO ⟨#[]⟩):=by
  rw[fc<|by simp;omega,aS,gO,hN,show min i N=i by omega,mE,show N-i=(N-i-1)+1 by omega,List.replicate_succ];rfl
 obtain⟨q1,q2,q3⟩:=Pc hN hd.symm;refine⟨zo,zo,?_⟩;refine sW ?_;refine⟨_,by rw[show 0+(i:Int).toNat=i by omega];exact Mt,?_⟩;refine bJ ?_;refine⟨zo,zo,zo,?_⟩;refine sW ?_;rw[XY];refine .own 0 0 _ _ 1 true _ _ rfl ?_;show lE _ (((List.set (((fQ s 0).take i).map kO++List.replicate (N-i) (kO ⟨#[]⟩)) (0+(i:Int).toNat)<|kO<|sfx s p).take<|0+((i:Int)+1).toNat).drop<|0+0) _;rw[show 0+(i:Int).toNat=i by omega,q1,show 0+((i:Int)+1).toNat=N by omega,show i+1=N by omega,mE,List.replicate_zero,oR,fF (i:=N) (l:=fQ s 0) zo,ft,fF (i:=N)<|by simp[hN]];exact fW _
theorem ziw(hs:s.size<=1000000000):ar Tryz.prog 168 [.sc (.string s),.sc (.string<|vX 32)]<|dG<|fQ s 0:=by
 refine bV ?_;refine sC (ZM s hs) ?_;exact .refl _
theorem zv0(h:k<8):(Nd.map λs=>D.sc (.string s))[k]? = some (.sc (.string<|wh k)):=by
 unfold wh;rw[cy,ay];have:k<Nd.length:=h;rw[aG this];rfl
def c169:PC:=SO [Mv 2<|cS #[]]<|SO [q 3 (.build [vS,vS,vS,vS,vS,vS,vS,vS] [(0,1,(cS #[])),(1,1,(cS #[115,116,97,114,116])),(2,1,(cS #[101,110,100])),(3,1,(cS #[115,116,111,112])),(4,1,(cS #[116,97,115,107])),(5,1,(cS #[120,111,114])),(6,1,(cS #[97,110,100])),(7,1,(cS #[111,114]))]),qm 4 0,q 5 (.CI 8 1 false 3 4),qm 2 5] .ret
theorem YI(k:Nat)(hk:k<8):ar aj 169 [ab k] (.sc (.string<|wh k)):=by
 refine bz (fJ 6 [.tmp 2] c169 Tryz.func169) ?_;refine sR ?_;refine⟨zo,zo,_,by rw[bS,AE];exact zv0 hk,?_⟩;refine sW ?_;exact .refl _
theorem WY{x:aM}{k:Nat}(h:mM x k≠0):∀n,mM x (k+n)=mM x k
 |0=>rfl
 |n+1=>by
  show mM x (k+n+1)=_;have:=WY h n;simp only[mM];rw[this,ae h]
variable{x:aM}
theorem zuu(h:mM x k=0)(e:dH x<|wh<|k+1)(hk:k+1<=7):mM x 7=k+1:=by
 have h1:mM x (k+1)=k+1:=by simp only[mM];rw[aa<|by simp[h],ae e]
 have:=WY (x:=x) (k:=k+1) (by rw[h1];omega)<|7-(k+1);rw[show k+1+(7-(k+1))=7 by omega] at this;rw[this,h1]
theorem zqq(h:mM x k=0)(e:dH x (wh<|k+1)=false):mM x (k+1)=0:=by
 simp only[mM];rw[aa<|by simp[h],aa<|by simp[e]]
def mo(x:aM×aM×Int):aZ:=[.sc (.string x.1),.sc (.string x.2.1),ab x.2.2]
def rdO(st:RdS):aB:=[.row true [.own 1 st.nodes.length 0 st.nodes.length,bC,.own 2 st.aP.length 0 st.aP.length],.vec true st.nodes.length 2<|st.nodes.map gf,.vec true st.aP.length 3<|st.aP.map mo]
theorem oS{w:List aM}(h:i<w.length):(w.map λs=>[D.sc (.string s)])[(i:Int).toNat]? = some [.sc (.string<|w0 w i)]:=by
 rw[bS,cy,aG h];unfold w0;rw[ay,aG h];rfl
variable(st:RdS)
theorem zr8:kl 3<|rdO st:=by
 refine⟨by simp[an.under,aK,az],bP _<|cO _ tq _,bP _<|cO _ (λx=>by simp[mo,ao,Pure]) _,trivial⟩
theorem DN:∀o∈rdO st,o.under (rdO st).length:=by
 intro o ho;simp only[rdO,dD,tt,or_false] at ho;rcases ho with rfl|rfl|rfl
 ·simp[an.under,aK,az,rdO]
 ·exact bP _<|cO _ tq _
 exact bP _<|cO _ (λx=>by simp[mo,ao,Pure]) _
def zDG:PC:=.seq (SO [qm 49 8,Bi 50 .leq 49 K7]<|CX 50 0) (.seq (.block 1 (.seq (.ops [qm 53 7,Ja 54 1 53 K0 1,Ld 55 54 3,qm 56 8,Cd 57 169 [56] 8,Bd 58 .eql 55 57 31] true)<|If 58 (.seq (SO [qm 59 7,Ln 60 59,Bi 61 .neq 60 K2,qm 62 61,GF 63 62 (.move 7),GF 64 62 (.lg 1 63 K1),GF 65 62 (.fu 64),GF 66 62 (.call 47 [65]),GF 67 62 (.un .not 66),Pk 68 62 cT 67,qm 69 68,GF 70 69 (.move 0),GF 71 69 (.fO 70),GF 72 69 (.gU 2 71),GF 73 69 (.fu 72),GF 74 69 (.len 73),GF 75 69 (.bin .gtr 74 K0),Pk 76 69 cT 75]<|If 76<|SO [Mv 6 cF] .ret) (.seq (.ops [qm 77 0,qm 78 0,qd 79 (.fO 78) 2,Fd 80 0 79 6,Fd 81 0 80 14,Ld 82 81 30,qm 83 7,Ja 84 1 83 K1 64,Ld 85 84 192,qm 86 8,qd 87 (.build [vS,v0] [(0,1,85),(1,1,86)]) 960,qd 88 (.pX 2 1 [87]) 1984,qd 89 (.append 2 24 82 88) 4094,qd 90 (.fO 77) 8191,Fd 91 0 90 16383,Fd 92 0 91 32767,qk (.store 1 92 89) 65535] true)<|SO [Mv 6 cT] .ret))))<|OP [qm 51 8,Bi 52 .add 51 K1,qm 8 52])
def c87:PC:=SO [Mv 6 cF]<|SO [qm 9 1,q 10 (.call 168 [9,(cS #[32])]),qm 7 10] (.seq (SO [qm 11 7,Ia 12 1 11 K0,Lo 13 12,Bi 14 .eql 13<|cS #[102,108,111,119]]<|If 14 (.seq (SO [qm 15 7,Ln 16 15,Bi 17 .neq 16 K3,qm 18 17,GF 19 18 (.move 7),GF 20 18 (.lg 1 19 K1),GF 21 18 (.fu 20),GF 22 18 (.call 47 [21]),GF 23 18 (.un .not 22),Pk 24 18 cT 23,qm 25 24,GF 26 25 (.move 7),GF 27 25 (.lg 1 26 K2),GF 28 25 (.fu 27),GF 29 25 (.call 47 [28]),GF 30 25 (.un .not 29),Pk 31 25 cT 30]<|If 31<|SO [Mv 6 cF] .ret) (.seq (.ops [qm 32 0,qm 33 0,qd 34 (.fO 33) 2,Fd 35 2 34 6,Ld 36 35 14,qm 37 7,Ja 38 1 37 K1 32,Ld 39 38 96,qm 40 7,Ja 41 1 40 K2 256,Ld 42 41 768,qm 43 2,qd 44 (.build [vS,vS,v0] [(0,1,39),(1,1,42),(2,1,43)]) 4064,qd 45 (.pX 3 1 [44]) 8160,qd 46 (.append 3 40 36 45) 16382,qd 47 (.fO 32) 32767,Fd 48 2 47 65535,qk (.store 1 48 46) 131071] true)<|SO [Mv 6 cT] .ret))) (.seq (SO [Mv 8 K1]<|BL 0 zDG)<|SO [Mv 6 cF] .ret))
theorem E6:pj aj 87 93 [.tmp 6] c87:=fK Tryz.func87
theorem zsv(b8:st.nodes.length<=100000000/\st.aP.length<=100000000)(ln:aM)(Dr:ln.size<=100000000)(a:Int) :
  cd aj 87 [.loc 0 0,.sc (.string ln),ab a] (rdO st) (.sc (.bool (yi st ln a).isSome)) (rdO<|(yi st ln a).getD st):=by
 have hS:=ziw ln zo;have lj:=LN ln 0;have gT:∀i,(w0 (fQ ln 0) i).size<=9223372036854775807:=λi=>by
  unfold w0;rw[ay]
  cases h:(fQ ln 0)[i]? with
  |none=>show(0:Nat)<=_;omega
  |some x=>have:=NM ln _ 0 rfl (b9 _) x (kI h);simp;omega
 have iu:=λi=>zw (w0 (fQ ln 0) i)<|gT i;obtain⟨R,hL⟩:∃R,R=yi st ln a:=⟨_,rfl⟩;rw[<-hL];unfold yi at hL;generalize hw:fQ ln 0=w at hS lj gT iu hL;have n1:=iu 1;have n2:=iu 2;by_cases hf:dH (w0 w 0) Lm=true
 ·rw[ae hf] at hL;by_cases hl:w.length=3
  ·cases h1:ic<|w0 w 1 with
   |true =>
    rw[h1] at n1
    cases h2:ic<|w0 w 2 with
    |true =>
     rw[h2] at n2;rw[ae ⟨hl,h1,h2⟩] at hL;subst hL;refine gm E6 zs (by simp[rdO]) ?_ (by simp[az])<|DN _;unfold rdO;refine sR ?_;refine sC hS ?_;refine sL (oS (i:=0) zo) ?_;rw[show((w0 w 0).toList==(⟨#[102,108,111,119]⟩:aM).toList)=true from hf];refine sW ?_;rw[aS];rw[show((w.length:Int) != 3)=false by rw[hl];rfl];refine sW ?_;refine sL (oS (i:=1) zo) ?_;refine sC n1 ?_;refine sL (oS (i:=2) zo) ?_;refine sC n2 ?_;refine sL (oS (i:=1) zo) ?_;refine sL (oS (i:=2) zo) ?_;refine sJ ?_;exact⟨by simp[mo,fF (l:=List.map mo st.aP) (i:=st.aP.length) zs],zs⟩
    |false =>
     rw[h2] at n2;rw[aa<|by simp[h2]] at hL;subst hL;refine gm E6 zs (by simp[rdO]) ?_ (by simp[az])<|DN _;unfold rdO;refine sR ?_;refine sC hS ?_;refine sL (oS (i:=0) zo) ?_;rw[show((w0 w 0).toList==(⟨#[102,108,111,119]⟩:aM).toList)=true from hf];refine sW ?_;rw[aS];rw[show((w.length:Int) != 3)=false by rw[hl];rfl];refine sW ?_;refine sL (oS (i:=1) zo) ?_;refine sC n1 ?_;refine sL (oS (i:=2) zo) ?_;refine sC n2 ?_;exact aI _
   |false =>
    rw[h1] at n1;rw[aa<|by simp[h1]] at hL;subst hL;refine gm E6 zs (by simp[rdO]) ?_ (by simp[az])<|DN _;unfold rdO;refine sR ?_;refine sC hS ?_;refine sL (oS (i:=0) zo) ?_;rw[show((w0 w 0).toList==(⟨#[102,108,111,119]⟩:aM).toList)=true from hf];refine sW ?_;rw[aS];rw[show((w.length:Int) != 3)=false by rw[hl];rfl];refine sW ?_;refine sL (oS (i:=1) zo) ?_;refine sC n1 ?_;exact aI _
  rw[aa λq=>hl q.1] at hL;subst hL;refine gm E6 zs (by simp[rdO]) ?_ (by simp[az])<|DN _;unfold rdO;refine sR ?_;refine sC hS ?_;refine sL (oS (i:=0) zo) ?_;rw[show((w0 w 0).toList==(⟨#[102,108,111,119]⟩:aM).toList)=true from hf];refine sW ?_;rw[aS];rw[show((w.length:Int) != 3)=true by simpa using (by omega:(w.length:Int)≠3)];refine sW ?_;exact aI _
 rw[aa hf] at hL;have hf:dH (w0 w 0) Lm=false:=by simpa using hf
 refine gm E6 zs (by simp[rdO]) ?_ (by simp[az])<|DN _;unfold rdO;refine sR ?_;refine sC hS ?_;refine sL (oS (i:=0) zo) ?_;rw[show((w0 w 0).toList==(⟨#[102,108,111,119]⟩:aM).toList)=false from hf];refine sW ?_;refine bT [0,7] (λk:Nat=>[(8,ab k)]) (λ_=>[]) (λk=>1<=k/\k<=8/\mM (w0 w 0) (k-1)=0) (λk=>8-k) 1 ?_;refine sW ?_;refine⟨⟨aI _,zo,rfl⟩,by exact sK,rfl,?_⟩;rintro k ⟨dN,hk8,pV⟩;obtain⟨j,rfl⟩:∃j,k=j+1:=⟨k-1,zo⟩;have pV:mM (w0 w 0) j=0:=pV;have hW:=λh=>YI (j+1) h;refine bl (λh5=>?_) λh5=>?_
 ·have h5:j+1<=7:=sO;refine sL (oS (i:=0) zo) ?_;refine sC (hW zo) ?_
  cases he:dH (w0 w 0)<|wh<|j+1 with
  |false =>
   rw[show((w0 w 0).toList==(wh<|j+1).toList)=false from he];refine bJ ?_;exact⟨j+2,⟨zo,zo,zqq pV he⟩,zd,bf (by exact sK) rfl⟩
  |true =>
   rw[show((w0 w 0).toList==(wh<|j+1).toList)=true from he];have mj:=zuu pV he zo;rw[mj,ae zo] at hL;refine sW ?_;rw[aS];by_cases hl:w.length=2
   ·rw[show((w.length:Int) != 2)=false by rw[hl];rfl];refine sW ?_;refine sL (oS (i:=1) zo) ?_
    cases h1:ic<|w0 w 1 with
    |true =>
     rw[h1] at n1;refine sC n1 ?_;by_cases rZ:st.aP=[]
     ·rw[ae ⟨hl,h1,rZ⟩] at hL;subst hL;refine FX (by rw[rZ];rfl) ?_;refine sW ?_;refine sL (oS (i:=1) zo) ?_;refine sJ ?_;exact⟨by simp[gf,fF (l:=List.map gf st.nodes) (i:=st.nodes.length) zs],zs⟩
     rw[aa λq=>rZ q.2.2] at hL;subst hL;have:0<st.aP.length:=AF.2 rZ;refine GL (by simp;omega) ?_;refine sW ?_;exact aI _
    |false =>
     rw[h1] at n1;rw[aa<|by simp[h1]] at hL;subst hL;refine sC n1 ?_;exact aI _
   rw[aa λq=>hl q.1] at hL;subst hL;rw[show((w.length:Int) != 2)=true by simpa using (by omega:(w.length:Int)≠2)];refine sW ?_;exact aI _
 have h5:j=7:=sO;subst h5;rw[pV,aa zs] at hL;subst hL;exact⟨rfl,rfl,aI _⟩
theorem zqB{st lZ:RdS}{ln:aM}{a:Int}(h:yi st ln a=some lZ)(hn:∀x∈st.nodes,x.1.size<=1000000)(hl:ln.size<=1000000) :
  lZ.nodes.length<=st.nodes.length+1/\lZ.aP.length<=st.aP.length+1/\∀x∈lZ.nodes,x.1.size<=1000000:=by
 unfold yi at h;split at h
 ·split at h
  ·cases h;exact⟨zs,zs,hn⟩
  cases h
 split at h
 ·split at h
  ·cases h;refine⟨zs,zs,λx hx=>?_⟩;rcases de.1 hx with hx|hx
   ·exact hn x hx
   rw[cM] at hx;subst hx;show(w0 (fQ ln 0) 1).size<=_;unfold w0;rw[ay]
   cases e:(fQ ln 0)[1]? with
   |none=>show(0:Nat)<=_;omega
   |some y=>have:=NM ln _ 0 rfl (b9 _) y (kI e);show y.size<=_;omega
  cases h
 cases h
variable{H:aB}
theorem R8{l:fp}(h:l.length<=n):lE H (List.drop 0<|List.take n l) l:=by rw[ft,fF h];exact fW _
variable(ρ:Nat->Nat)
theorem Sd(l:List<|aM×Int):jH ρ (l.map gf)=l.map gf:=jb _<|cO _ tq _
theorem QL(l:List<|aM×aM×Int):jH ρ (l.map mo)=l.map mo:=jb _<|cO _ (λx=>by simp[mo,ao,Pure]) _
theorem zol(l:List<|Int×Int):jH ρ (l.map kg)=l.map kg:=jb _<|cO _ Bz _
theorem VY(st:RdS):(rdO st).map (an.aO ρ)=[.row true [.own (ρ 1) st.nodes.length 0 st.nodes.length,bC,.own (ρ 2) st.aP.length 0 st.aP.length],.vec true st.nodes.length 2<|st.nodes.map gf,.vec true st.aP.length 3<|st.aP.map mo]:=by
 simp only[rdO,dR,gP,an.aO,bO,D.aO,Sd,QL]
def rdQ(st:RdS)(fl:List<|Int×Int):aB:=[.row true [.own 1 st.nodes.length 0 st.nodes.length,.own 3 fl.length 0 fl.length,.own 2 st.aP.length 0 st.aP.length],.vec true st.nodes.length 2<|st.nodes.map gf,.vec true st.aP.length 3<|st.aP.map mo,.vec true fl.length 2<|fl.map kg]
theorem ztd(fl:List<|Int×Int):kl 4 (rdQ st fl) :=
 ⟨by simp[an.under,aK,az],bP _<|cO _ tq _,bP _<|cO _ (λx=>by simp[mo,ao,Pure]) _,bP _<|cO _ Bz _,trivial⟩
theorem zo5(m:aM×Int)(x:aM):ar aj 171 [.agg<|gf m,.aN [.sc (.string x)]]<|aF<|dH m.1 x:=by
 refine bV ?_;exact .refl _
def uR(nodes:List<|aM×Int)(x:aM):Int:=ee (λn=>dH n.1 x) nodes
theorem ztJ(b8:st.nodes.length<=1000000000)(fl:List<|Int×Int)(x:aM):cd aj 88 [.loc 0 0,.sc (.string x)] (rdQ st fl) (ab<|uR st.nodes x)<|rdQ st fl:=by
 have hI:=Tn st.nodes zo (λn=>dH n.1 x) 171 [.aN [.sc (.string x)]] (by simp[ao,Pure]) λa _=>zo5 a x;refine gm fZ zs (by simp[rdQ]) ?_ (by simp[az]) (by
  intro o ho;simp only[rdQ,dD,tt,or_false] at ho;rcases ho with rfl|rfl|rfl|rfl
  ·simp[an.under,aK,az,rdQ]
  ·exact bP _<|cO _ tq _
  ·exact bP _<|cO _ (λx=>by simp[mo,ao,Pure]) _
  exact bP _<|cO _ Bz _)
 unfold rdQ;refine sR ?_;refine .inr (.inl ⟨_,_,im.cons _ _ _ _ (.own 1 _ _ _ 2 true _ _ rfl (by rw[ft,fF zs];exact fW _)) (.cons _ _ _ _ (.fn _ _ _ _ _ (.nil) (.cons _ _ _ _ (.loc 4 0 true _ _ rfl (oX _)) .nil)) .nil),hI,rfl,?_⟩);refine sW ?_;simp
theorem Vs(b8:st.nodes.length<=1000000000)(fl:List<|Int×Int)(x:aM){r0:an}{T:aB} :
  BV aj 88 [.loc 1 0,.sc (.string x)] (r0::.row true [.own 2 st.nodes.length 0 st.nodes.length,.own 4 fl.length 0 fl.length,.own 3 st.aP.length 0 st.aP.length]::.vec true st.nodes.length 2 (st.nodes.map gf)::.vec true st.aP.length 3 (st.aP.map mo)::.vec true fl.length 2 (fl.map kg)::T) (ab<|uR st.nodes x) [1,2,3,4]:=by
 refine Q6 (ztJ st b8 fl x) [1,2,3,4] rfl zc (by simp[aK,az,rdQ]) (ztd st fl) (by simp[bO,D.aO]) (by simp[D.aO]) (λi o ho=>?_) 1 (q:=true) (cs:=[.own 2 st.nodes.length 0 st.nodes.length,.own 4 fl.length 0 fl.length,.own 3 st.aP.length 0 st.aP.length]) zs rfl zs (λid hid=>?_)
 ·match i,ho with
  |0,ho=>cases ho;simp[an.aO,bO,D.aO]
  |1,ho=>cases ho;exact bK some<|show an.vec true _ 2 (st.nodes.map gf)=an.aO _ (.vec true _ 2<|st.nodes.map gf) by simp only[an.aO,Sd]
  |2,ho=>cases ho;exact bK some<|show an.vec true _ 3 (st.aP.map mo)=an.aO _ (.vec true _ 3<|st.aP.map mo) by simp only[an.aO,QL]
  |3,ho=>cases ho;exact bK some<|show an.vec true _ 2 (fl.map kg)=an.aO _ (.vec true _ 2<|fl.map kg) by simp only[an.aO,zol]
 simp only[dD,tt,or_false] at hid;rcases hid with rfl|rfl|rfl|rfl
 ·exact .inl rfl
 ·exact .inr ⟨st.nodes.length,0,st.nodes.length,zs⟩
 ·exact .inr ⟨st.aP.length,0,st.aP.length,zs⟩
 exact .inr ⟨fl.length,0,fl.length,zs⟩
def Jq(x:ah×Int×Int):D:=.aJ [cH x.1,ab x.2.1,ab x.2.2]
@[simp] theorem zCA(x:ah×Int×Int):Pure<|Jq x:=by simp[Jq,Pure,ao,Jk]
def zDS:PC:=.seq (SO [qm 21 0,Bi 22 .neq 21<|cS #[]]<|CX 22 0) (.seq (.block 1<|SO [qm 26 0,q 27 (.call 86 [26,(cS #[10])]),qm 25 27,Xt 28 0 25,Xt 29 1 25,Xt 30 2 25,qm 7 28,qm 8 29,qm 9 30] (.seq (SO [qm 31 9,Nt 32 31,qm 33 32,GF 34 33 (.move 5),GF 35 33 (.move 7),GF 36 33 (.move 6),GF 37 33 (.call 87 [34,35,36]),GF 38 33 (.un .not 37),Pk 39 33 cT 38]<|If 39<|SO [q 40 (.build [vN,vN] []),qm 41 6,So 2 2 40,qm 3 41,Mv 4 K3] .ret)<|OP [qm 42 8,qm 0 42]))<|OP [qm 23 6,Bi 24 .add 23 K1,qm 6 24])
def Z7:PC:=SO [Bi 49 .lss 48 47] (.seq (CX 49 2) (.seq (.block 3<|SO [Ia 50 3 46 48,LA 51 3 50,q 11 (.alloc [vS,vS,v0]),So 3 11 51] (.seq (.ops [qm 52 5,Fa 53 0 11,Ld 54 53 2,Cd 55 88 [52,54] 7,qm 56 5,Fa 57 1 11,Ld 58 57 32,Cd 59 88 [56,58] 127,qw 12 55 255,qw 13 59 511] true) (.seq (SO [qm 60 12,Bi 61 .lss 60 K0,qm 62 61,GF 63 62 (.move 13),GF 64 62 (.bin .lss 63 K0),Pk 65 62 cT 64]<|If 65 (.seq (.ops [q 66 (.build [vN,vN] []),Fa 67 2 11,Ld 68 67 2,qk (.store 2 2 66) 1,qw 3 68 15,Md 4 K4 31] true) .ret))<|OP [qm 69 5,qm 70 5,q 71 (.fO 70),Fa 72 0 71,Fa 73 1 72,Lo 74 73,qm 75 12,qm 76 13,q 77 (.build [v0,v0] [(0,1,75),(1,1,76)]),Bs 78 2 1 [77],Ap 79 2 16 74 78,q 80 (.fO 69),Fa 81 0 80,Fa 82 1 81,So 1 82 79])))<|OP [Bi 83 .add 48 K1,qm 48 83]))
def c40:PC:=SO [q 2 (.alloc [vN,vN]),Mv 3 K0,Mv 4 K0] (.seq (SO [qm 15 0,q 16 (.vK 15),Bi 17 .gtr 16<|cI 4096]<|If 17<|SO [q 18 (.build [vN,vN] []),So 2 2 18,Mv 3 K0,Mv 4 K2] .ret)<|SO [q 19 (.build [vN,vN,vN] []),Bx 20 19,qm 5 20] (.seq (SO [Mv 6 K1]<|BL 0 zDS) (.seq (SO [qm 43 5,q 44 (.fO 43),Fa 45 2 44,Lo 46 45,Ln 47 46,Mv 48 K0]<|BL 2 Z7) (.seq (SO [qm 84 5,q 85 (.fO 84),Fa 86 0 85,LA 87 2 86,Ca 88 66 [87],qm 14 88]<|SO [qm 89 14,Bi 90 .neq 89 K0]<|If 90<|SO [q 91 (.build [vN,vN] []),qm 92 14,So 2 2 91,Mv 3 K0,qm 4 92] .ret)<|SO [qm 93 5,q 94 (.fO 93),Fa 95 0 94,LA 96 2 95,So 2 2 96,Mv 3 K0,Mv 4 K0] .ret))))
theorem zpA(s:aM)(hs:s.size<=4096):ar aj 40 [.sc (.string s)]<|Jq<|Fy s:=by
 refine bz (fJ 97 [.agg 2 2,.tmp 3,.tmp 4] c40 Tryz.func40) ?_;obtain⟨R,hR⟩:∃R,R=Cc s (s.size+1) 0 1 ⟨[],[]⟩:=⟨_,rfl⟩;obtain⟨T,hT⟩:∃T,T=Fy s:=⟨_,rfl⟩;rw[<-hT];unfold Fy at hT;rw[<-hR] at hT;refine sR ?_;refine FX (by simp;omega) ?_;refine sW ?_;refine dk (oK (jN 1 0 2 zs rfl rfl)<|jN 1 2 3 zs rfl rfl) ?_
 refine bT [2,5] (λ((f,p,a,st):Nat×Nat×Int×RdS)=>[(0,.sc (.string<|sfx s p)),(6,ab a)])
  (λ(f,p,a,st)=>[(1,.row true [.own 2 st.nodes.length 0 st.nodes.length,bC,.own 3 st.aP.length 0 st.aP.length]),(2,.vec true st.nodes.length 2<|st.nodes.map gf),(3,.vec true st.aP.length 3<|st.aP.map mo)])
  (λ(f,p,a,st)=>R=Cc s f p a st/\p<=s.size/\s.size-p<f/\st.nodes.length<=p/\st.aP.length<=p/\1<=a/\a<=p+1/\∀x∈st.nodes,x.1.size<=1000000) (λ(f,p,a,st)=>f) (s.size+1,0,1,⟨[],[]⟩) ?_
 refine sW ?_;refine⟨⟨hR,b9 _,zo,b9 _,b9 _,zo,zo,λx hx=>by cases hx⟩,by dsimp only;rw[Wg];exact sK,rfl,?_⟩;rintro⟨f,p,a,st⟩ ⟨hR,hp,hf,hn,rZ,O0,Zl,iu⟩;obtain⟨f,rfl⟩:∃g,f=g+1:=⟨f-1,zo⟩;have hC:=zmA 10 s zo p hp;have hz:=Ox hp;refine sWR ?_;simp only[Cc] at hR;by_cases nR:p<s.size
 ·rw[ae nR] at hR;have he:dH (sfx s p) ⟨#[]⟩=false:=by
   cases h:dH (sfx s p) ⟨#[]⟩ with
   |false=>rfl
   |true=>have:=(NT _).1 h;omega
  rw[show((sfx s p).toList==(⟨#[]⟩:aM).toList)=false from he];refine sW ?_;by_cases s6:cn 10 s p<s.size
  ·rw[ae s6] at hR;rw[show(10:UInt8).toNat=10 from rfl,ae s6] at hC;refine sC hC ?_;have hg:=yD (c:=10) (s:=s) p;have Dr:(s.extract p<|cn 10 s p).size<=1000000:=(by rw[ByteArray.size_extract];omega);have hE:=zsv st ⟨zo,zo⟩ (s.extract p<|cn 10 s p) zo a;refine sA (sF hE [_] [] rfl (by simp[aK,az,rdO]) (zr8 st) rfl rfl (by rw[VY];try rfl) (by rw[VY];try rfl)) ?_
   cases D8:yi st (s.extract p<|cn 10 s p) a with
   |none =>
    rw[D8] at hR;subst hR;simp only at hT;subst hT;refine sW ?_;exact sP
   |some lZ =>
    rw[D8] at hR;obtain⟨f1,f2,f3⟩:=zqB D8 iu Dr;refine bJ ?_;exact⟨(f,cn 10 s p+1,a+1,lZ),⟨hR,zo,zo,zo,zo,zo,zo,f3⟩,zd,bf (by exact sK) rfl⟩
  rw[aa s6] at hR;rw[show(10:UInt8).toNat=10 from rfl,aa s6] at hC;subst hR;simp only at hT;subst hT;refine sC hC ?_;exact sP
 rw[aa nR] at hR;have he:dH (sfx s p) ⟨#[]⟩=true:=(NT _).2 zo;rw[show((sfx s p).toList==(⟨#[]⟩:aM).toList)=true from he];subst hR;refine sW ?_;obtain⟨FR,Q'⟩:∃FR,FR=zN st.nodes st.aP []:=⟨_,rfl⟩;simp only at hT;rw[<-Q'] at hT;refine dk (jN 1 1 2 zs rfl rfl) ?_
 refine bT [2,5,46,47] (λ((k,c,out):Nat×Nat×List (Int×Int))=>[(48,ab k)])
  (λ(k,c,out)=>[(1,.row true [.own 2 st.nodes.length 0 st.nodes.length,.own 4 c 0 c,.own 3 st.aP.length 0 st.aP.length]),(4,.vec true c 2<|out.map kg)])
  (λ(k,c,out)=>FR=zN st.nodes (st.aP.drop k) out/\k<=st.aP.length/\out.length=k/\c=out.length) (λ(k,c,out)=>st.aP.length-k) (0,0,[]) ?_
 refine sW ?_;refine⟨⟨by rw[ft];exact Q',b9 _,rfl,rfl⟩,by exact sK,rfl,?_⟩;rintro⟨k,c,out⟩ ⟨hR,hk,ho,rfl⟩;refine bl (λh6=>?_) λh6=>?_
 ·have au:k<st.aP.length:=sO;obtain⟨x,y,al,hx⟩:∃x y al,st.aP[k]=(x,y,al):=⟨_,_,_,rfl⟩;have gR:(st.aP.map mo)[k]? = some (mo (x,y,al)):=(by rw[cy,aG au,hx];rfl);rw[uu au,hx] at hR;simp only[zN] at hR;refine⟨zo,zo,?_⟩;refine sW ?_;refine⟨_,by rw[show 0+(k:Int).toNat=k by omega];exact gR,?_⟩;refine sW ?_;refine sX (Vs st zo out x) ?_;refine sX (Vs st zo out y) ?_
  cases uq:yn st.nodes x with
  |none =>
   rw[uq] at hR;rw[show uR st.nodes x=-1 by unfold uR ee;unfold yn at uq;rw[uq]];subst hR;simp only at hT;subst hT;refine sW ?_;exact sP
  |some i =>
   rw[uq] at hR;rw[show uR st.nodes x=(i:Int) by unfold uR ee;unfold yn at uq;rw[uq]];rw[show decide ((i:Int)<0)=false by simp];refine sW ?_
   cases uB:yn st.nodes y with
   |none =>
    rw[uB] at hR;rw[show uR st.nodes y=-1 by unfold uR ee;unfold yn at uB;rw[uB]];subst hR;simp only at hT;subst hT;refine sW ?_;exact sP
   |some j =>
    rw[uB] at hR;rw[show uR st.nodes y=(j:Int) by unfold uR ee;unfold yn at uB;rw[uB]];rw[show decide ((j:Int)<0)=false by simp];refine mQ ?_;refine⟨(k+1,out.length+1,out++[((i:Int),(j:Int))]),⟨hR,zo,by simp[ho],zs⟩,zd,?_⟩
    (refine br 5 zs rfl ?_ ?_<;>(repeat' (first|exact trivial|exact rfl|exact bR.refl _|exact ck.refl _|exact cg.refl _|refine And.intro ?_ ?_|(simp[az,aK,bN,-List.map_take,-List.map_drop];done))))
    all_goals first
     |exact bM (by rw[ft,fF zs,mq];rfl)
     |exact bP _ (cO _ Bz _)
     |exact bP _ (cO _ tq _)
     |exact bP _ (cO _ (λx=>by simp[mo,ao,Pure]) _)
 have au:k=st.aP.length:=by have:¬k<st.aP.length:=sO
                            omega
 subst au;rw[wX] at hR;simp only[zN] at hR;subst hR;simp only at hT;have hC:=Le ⟨st.nodes,out⟩ ⟨by show st.nodes.length<=_;omega,by show out.length<=_;omega,λx hx=>by have:=iu x hx;omega⟩;refine sN hC ?_;by_cases h0:(ah.mk st.nodes out).aV=0
 ·rw[ae h0] at hT;subst hT;refine FX (by simp[h0]) ?_;refine sW ?_;exact .aJ _ _ (.cons _ _ _ _ (.agg _ _ (.cons _ _ _ _ (.own 2 _ _ _ 2 true _ _ rfl (R8 zs)) (.cons _ _ _ _ (.own 4 _ _ _ 2 true _ _ rfl (R8 zs)) .nil))) (.cons _ _ _ _ (.refl _) (.cons _ _ _ _ (.refl _) .nil)))
 rw[aa h0] at hT;subst hT;refine GL (by simpa using h0) ?_;refine sW ?_;exact sP
theorem cat3(a b:aM)(c:UInt8):a++⟨#[32]⟩++⟨#[c]⟩++⟨#[32]⟩++b=a++⟨#[32,c,32]⟩++b:=by
 rw[ByteArray.append_assoc (a:=a),ByteArray.append_assoc (a:=a)];rfl
theorem Vh:∀{ts:List Tree} {t:Tree},t∈ts->t.size<=Tree.ma ts
 |a::r,t,h=>by
  simp only[Tree.ma];rcases dD.1 h with rfl|h
  ·omega
  have:=Vh h;omega
variable{j:Nat}
theorem Wq(hj:j<t.width):(t.aD j).size<t.size:=by
 have h:t.aD j∈t.kids:=by rw[Tree.nP hj];exact ig _
 have:=Vh h;cases t;simp only[Tree.size,Tree.kids] at this⊢;omega
def eJ(names:List aM)(bad:Bool):aZ:=[dG names,aF bad]
variable(names:List aM)
@[simp] theorem fg(bad:Bool):ao<|eJ names bad:=by simp[eJ,ao,Pure,oJ]
def c229:PC:=SO [Bx 4 1,Mv 6<|cS #[]]<|SO [qm 8 0,Fa 9 2 4,Lo 10 9,qm 11 2,Ia 12 3 10 11,LA 13 3 12,Ca 14 174 [8,13],qm 7 14] (.seq (.seq (.ops [Fa 15 0 4,Ld 16 15 1,qm 17 2,Fa 18 2 4,Ld 19 18 8,qm 20 2,Ja 21 3 19 20 56,Fd 22 0 21 120,Ld 23 22 248,Cd 24 264 [16,17,23] 511] true)<|If 24<|SO [qm 25 7,qm 6 25] .ret)<|SO [qm 26 7,Bi 27 .add (cS #[40]) 26,Bi 28 .add 27<|cS #[41],qm 6 28] .ret)
def c174:PC:=SO [Bx 3 1,Mv 4<|cS #[]] (.seq (SO [Fa 7 0 3,Lo 8 7] (.block 0<|SO [Bi 10 .eql 8 K1,qm 9 10] (.cond 9 (SO [Mv 4<|cS #[116,114,117,101]] .ret)<|SO [Bi 12 .eql 8 K2,qm 11 12] (.cond 11 (SO [Mv 4<|cS #[102,97,108,115,101]] .ret)<|SO [Bi 14 .eql 8 K3,qm 13 14] (.cond 13 (.seq (.ops [Fa 15 1 3,Ld 16 15 1,qm 17 0,qd 18 (.fO 17) 4,Fd 19 0 18 12,Ld 20 19 28,Cd 21 228 [16,20] 63,qw 5 21 127] true)<|SO [qm 22 0,qm 23 0,q 24 (.fO 23),Fa 25 1 24,Lo 26 25,qm 27 26,GF 28 27 (.move 5),GF 29 27 (.bin .eql 28<|cS #[]),Pk 30 27 cT 29,q 31 (.fO 22),Fa 32 1 31,So 1 32 30]<|SO [qm 33 5,qm 4 33] .ret)<|SO [Bi 35 .eql 8 K4,qm 34 35] (.cond 34 (SO [qm 36 0,LA 37 3 3,Ca 38 229 [36,37,K0],Bi 39 .add (cS #[33]) 38,qm 4 39] .ret)<|SO [Bi 41 .eql 8 K7,qm 40 41] (.cond 40 (SO [qm 42 0,LA 43 3 3,Ca 44 229 [42,43,K0],Bi 45 .add (cS #[88,32]) 44,qm 4 45] .ret)<|SO [Bi 47 .eql 8<|cI 10,qm 46 47] (.cond 46 (SO [qm 48 0,LA 49 3 3,Ca 50 229 [48,49,K0],Bi 51 .add (cS #[70,32]) 50,qm 4 51] .ret)<|SO [Bi 53 .eql 8<|cI 11,qm 52 53]<|If 52<|SO [qm 54 0,LA 55 3 3,Ca 56 229 [54,55,K0],Bi 57 .add (cS #[71,32]) 56,qm 4 57] .ret))))))))<|SO [q 58 (.build [vS,vS,vS,vS,vS,vS,vS,vS,vS,vS] [(5,1,(cS #[38])),(6,1,(cS #[47])),(8,1,(cS #[85])),(9,1,(cS #[82]))]),Fa 59 0 3,Lo 60 59,q 61 (.CI 10 1 false 58 60),qm 6 61] (.seq (.ops [qm 62 0,LA 63 3 3,Cd 64 229 [62,63,K0] 3,Bd 65 .add 64 (cS #[32]) 7,qm 66 6,Bd 67 .add 65 66 31,Bd 68 .add 67 (cS #[32]) 63,qm 69 0,LA 70 3 3,Cd 71 229 [69,70,K1] 391,Bd 72 .add 68 71 1023,qw 4 72 2047] true) .ret))
variable(c:Int)
theorem zvc(k i c:Int):ar aj 264 [ab k,ab i,ab c]<|aF<|wv k i c:=by
 refine bV ?_
 repeat' (first
  |(first|(refine GL ‹_› ?_;((conv=>whnf);repeat(refine⟨rfl,?_⟩;conv=>whnf)))|(refine FX ‹_› ?_;((conv=>whnf);repeat(refine⟨rfl,?_⟩;conv=>whnf)))|(refine xa (λh=>?_) (λh=>?_)<;>(rw[h];((conv=>whnf);repeat(refine⟨rfl,?_⟩;conv=>whnf)))))
  |exact bL (bK (λb=>D.sc (.bool b)) (by unfold wv;simp_all)))
theorem zzM(t:Tree)(j:Nat)(hj:j<t.width)(gT:(kx names<|t.aD j).size<=1000000)(bad Fj:Bool)
  (hT:cd aj 174 ([]++.loc 0 0::[bn<|t.aD j]) [.row true<|eJ names bad] (.sc (.string<|kx names<|t.aD j)) [.row true<|eJ names Fj]) :
  cd aj 229 ([]++.loc 0 0::[bn t,ab j]) [.row true<|eJ names bad] (.sc (.string<|m6 names t j)) [.row true<|eJ names Fj]:=by
 refine gm (fJ 29 [.tmp 6] c229 Tryz.func229) zs zs ?_ (by simp[az]) (by simp[an.under,cu _<|fg _ _]);refine sR ?_;refine sL (gd hj) ?_;refine sA (qL hT (by simp[ao]) (by simp[ao,dT]) (fg _ _) (fg _ _) (by simp[Pure]) (H:=[.row true<|eJ names bad,.row true<|bx t]) (id:=0) rfl) ?_;refine sL (gd hj) ?_;refine sC (zvc t.kind j (t.aD j).kind) ?_;refine sS (λh=>?_) λh=>?_
 ·exact⟨bK (λs=>D.sc (.string s))<|by simp[m6,nC,h],rfl,zs⟩
 refine⟨by simp only[gY,gS,gZ,cj,dE];omega,?_⟩;refine sW ?_;refine⟨by simp only[gY,gS,gZ,cj,dE];omega,?_⟩;refine sW ?_;exact⟨bK (λs=>D.sc (.string s))<|by simp[m6,nC,h],rfl,zs⟩
theorem ZI(hn:pF names):∀t:Tree,t.wf bD->t.size<=60->∀bad:Bool,
  cd aj 174 ([]++.loc 0 0::[bn t]) [.row true<|eJ names bad] (.sc (.string<|kx names t)) [.row true<|eJ names<|bad||!dK names t]:=by
 intro t
 induction t using Tree.ind with
 |h t ih =>
  intro df gT bad;have hs:=wu t df;have rV:=qN ((gK _ _).1 df).1;have vV:0<=t.num:=(by have:=((gK _ _).1 df).1;unfold fE at this;omega);have tsz:∀j,j<t.width->(kx names<|t.aD j).size<=720/\(t.aD j).size<=60:=λj hj=>by
   have h1:=zr9 names<|t.aD j;have h2:=Wq hj;omega
  have rA:∀j,j<t.width->∀bad:Bool,cd aj 229 ([]++.loc 0 0::[bn t,ab j]) [.row true<|eJ names bad] (.sc (.string<|m6 names t j)) [.row true<|eJ names<|bad||!dK names (t.aD j)] :=
   λj hj bad=>zzM names t j hj (by have:=tsz j hj;omega) bad _<|ih j hj (gy df hj) (tsz j hj).2 bad
  have ksz:∀j,j<t.width->(m6 names t j).size<=722:=λj hj=>by
   have:=xp (wv t.kind j (t.aD j).kind)<|kx names<|t.aD j;have:=tsz j hj;unfold m6;omega
  clear ih;refine gm (fJ 73 [.tmp 4] c174 Tryz.func174) zs zs ?_ (by simp[az]) (by simp[an.under,cu _<|fg _ _]);refine sR ?_;have fin:∀{s:aM} {b:Bool} {r:aZ},s=kx names t->b=(bad||!dK names t)->(D.sc (.string s)=.sc (.string (kx names t))/\List.take 1 [an.row true [dG names,aF b],.row true r]=[an.row true (eJ names (bad||!dK names t))]/\[an.row true (eJ names (bad||!dK names t))].length<=2):=λh1 h2=>by
   subst h1 h2;exact⟨rfl,rfl,zs⟩
  have zero:t.width=0->kx names t=uS names t.kind t.num ⟨#[]⟩ ⟨#[]⟩/\dK names t=qg names t.kind t.num:=λh=>⟨zBw names h,RN names h⟩;refine sS (λh1=>?_) λh1=>?_
  ·have hk:t.kind=1:=sO;have:=zero zo;exact fin (by rw[this.1,hk];rfl)<|by rw[this.2,hk];simp[qg]
  refine sS (λh2=>?_) λh2=>?_
  ·have hk:t.kind=2:=sO;have:=zero zo;exact fin (by rw[this.1,hk];rfl)<|by rw[this.2,hk];simp[qg]
  refine sS (λh3=>?_) λh3=>?_
  ·have hk:t.kind=3:=sO;have:=zero zo;refine sC (zww names hn t.num vV) ?_;cases bad
   ·refine sW ?_;exact fin (by rw[this.1,hk];rfl)<|by rw[this.2,hk];show dH (nm names t.num) ⟨#[]⟩=_;simp only[qg];cases dH (nm names t.num) ⟨#[]⟩<;>rfl
   refine sW ?_;exact fin (by rw[this.1,hk];rfl) zs
  clear zero;have one:t.width=1->kx names t=uS names t.kind t.num (m6 names t 0) ⟨#[]⟩/\dK names t=dK names (t.aD 0):=λh=>⟨zBP names h,QF names h<|sO⟩;refine sS (λh4=>?_) λh4=>?_
  ·have hk:t.kind=4:=sO;have hw:t.width=1:=zo;have:=one hw;have:=ksz 0 zo;refine sA (qL (rA 0 zo bad) (by simp[ao]) (by simp[ao,dT,Pure]) (fg _ _) (fg _ _) (by simp[Pure]) (H:=[.row true<|eJ names bad,.row true<|bx t]) (id:=0) rfl) ?_;refine⟨by simp only[gY,gS,gZ,cj,dE];omega,?_⟩;refine sW ?_;exact fin (by rw[(one hw).1,hk];rfl)<|by rw[(one hw).2]
  refine sS (λh5=>?_) λh5=>?_
  ·have hk:t.kind=7:=sO;have hw:t.width=1:=zo;have:=one hw;have:=ksz 0 zo;refine sA (qL (rA 0 zo bad) (by simp[ao]) (by simp[ao,dT,Pure]) (fg _ _) (fg _ _) (by simp[Pure]) (H:=[.row true<|eJ names bad,.row true<|bx t]) (id:=0) rfl) ?_;refine⟨by simp only[gY,gS,gZ,cj,dE];omega,?_⟩;refine sW ?_;exact fin (by rw[(one hw).1,hk];rfl)<|by rw[(one hw).2]
  refine sS (λh6=>?_) λh6=>?_
  ·have hk:t.kind=10:=sO;have hw:t.width=1:=zo;have:=one hw;have:=ksz 0 zo;refine sA (qL (rA 0 zo bad) (by simp[ao]) (by simp[ao,dT,Pure]) (fg _ _) (fg _ _) (by simp[Pure]) (H:=[.row true<|eJ names bad,.row true<|bx t]) (id:=0) rfl) ?_;refine⟨by simp only[gY,gS,gZ,cj,dE];omega,?_⟩;refine sW ?_;exact fin (by rw[(one hw).1,hk];rfl)<|by rw[(one hw).2]
  refine sS (λh7=>?_) λh7=>?_
  ·have hk:t.kind=11:=sO;have hw:t.width=1:=zo;have:=one hw;have:=ksz 0 zo;refine sA (qL (rA 0 zo bad) (by simp[ao]) (by simp[ao,dT,Pure]) (fg _ _) (fg _ _) (by simp[Pure]) (H:=[.row true<|eJ names bad,.row true<|bx t]) (id:=0) rfl) ?_;refine⟨by simp only[gY,gS,gZ,cj,dE];omega,?_⟩;refine sW ?_;exact fin (by rw[(one hw).1,hk];rfl)<|by rw[(one hw).2]
  clear one;have hw:t.width=2:=sO;have k0:=ksz 0 zo;have k1:=ksz 1 zo;have e1:=zB8 names hw;have e2:=R7 names hw<|sO;have hk:t.kind=5\/t.kind=6\/t.kind=8\/t.kind=9:=sO;refine⟨zo,zo,?_⟩
  have two:∀{c:UInt8} {r:aZ},uS names t.kind t.num (m6 names t 0) (m6 names t 1)=m6 names t 0++⟨#[32,c,32]⟩++m6 names t 1 ->
    (D.sc (.string<|m6 names t 0++⟨#[32]⟩++⟨#[c]⟩++⟨#[32]⟩++m6 names t 1)=.sc (.string<|kx names t)/\List.take 1 [an.row true [dG names,aF<|(bad||!dK names (t.aD 0))||!dK names (t.aD 1)],.row true r]=[an.row true (eJ names (bad||!dK names t))]/\[an.row true (eJ names (bad||!dK names t))].length<=2):=λh =>
   fin (by rw[cat3,e1,h]) (by rw[e2];cases bad<;>cases dK names (t.aD 0)<;>rfl)
  clear fin;have A0:=s8 (rA 0 zo bad) (by simp[ao]) (by simp[ao,dT,Pure]) (fg _ _) (fg _ _) (by simp[Pure]) (H:=[.row true<|eJ names bad,.row true<|bx t]) (id:=0) rfl;have A1:=s8 (rA 1 zo<|bad||!dK names (t.aD 0)) (by simp[ao]) (by simp[ao,dT,Pure]) (fg _ _) (fg _ _) (by simp[Pure]) (H:=[.row true<|eJ names<|bad||!dK names (t.aD 0),.row true<|bx t]) (id:=0) rfl;rcases hk with hk|hk|hk|hk
  all_goals
   refine⟨_,by rw[hk];rfl,?_⟩;refine sW ?_;refine sE A0 ?_;refine⟨by simp only[gY,gS,gZ,cj,dE];omega,?_⟩;refine sW ?_;refine⟨by simp only[gY,gS,gZ,cj,dE];omega,?_⟩;refine sW ?_;refine⟨by simp only[gY,gS,gZ,cj,dE];omega,?_⟩;refine sW ?_;refine sE A1 ?_;refine⟨by simp only[gY,gS,gZ,cj,dE];omega,?_⟩;refine sW ?_;exact two<|by rw[hk];rfl
def c92:PC:=SO [Bx 2 0,Mv 4<|cS #[],Mv 5 K0] (.seq (SO [LA 9 3 2,Ca 10 23 [9],qm 6 10]<|SO [qm 11 6,Bi 12 .neq 11 K0]<|If 12<|SO [qm 13 6,Mv 4<|cS #[],qm 5 13] .ret)<|SO [qm 14 1,q 15 (.build [vN,vF] [(0,1,14)]),Bx 16 15,qm 7 16]<|SO [qm 17 7,LA 18 3 2,Ca 19 174 [17,18],qm 8 19] (.seq (SO [qm 20 7,q 21 (.fO 20),Fa 22 1 21,Lo 23 22]<|If 23<|SO [Mv 4<|cS #[],Mv 5 K4] .ret)<|SO [qm 24 8,qm 4 24,Mv 5 K0] .ret))
noncomputable def CH(names:List aM)(t:Tree):D :=
 if aV bD t=0 then (if dK names t then .aJ [.sc (.string<|kx names t),ab 0] else .aJ [.sc (.string ⟨#[]⟩),ab 4]) else .aJ [.sc (.string ⟨#[]⟩),ab<|aV bD t]
theorem zs1(hn:pF names)(t:Tree)(hs:Small t):ar aj 92 [bn t,dG names]<|CH names t:=by
 refine fi (fJ 25 [.tmp 4,.tmp 5] c92 Tryz.func92) zs (by simp[ao,dT,oJ]) ?_ (by unfold CH;(repeat' split)<;>simp[Pure,ao]);refine sR ?_;refine sC (uK t hs) ?_;refine sS (λh1=>?_) λh1=>?_
 ·have h:¬aV bD t=0:=sO;unfold CH;rw[aa h];exact sP
 have h:aV bD t=0:=sO;have hz:=(qo _ _).1 h;unfold CH;rw[ae h];refine sA (qL (ZI names hn t hz.2.2 hz.1 false) (by simp[ao]) (by simp[ao,dT]) (fg _ _) (fg _ _) (by simp[Pure]) (H:=[.row true<|bx t,.row true<|eJ names false]) (id:=1) rfl) ?_;cases hk:dK names t
 ·refine sW ?_;exact sP
 refine sW ?_;exact sP
theorem Rm(h:¬fE fX t):(t.kind=1\/t.kind=2\/t.kind=3)/\t.width=0\/(t.kind=4\/t.kind=7\/t.kind=8\/t.kind=9\/t.kind=11\/t.kind=12\/t.kind=13)/\t.width=1\/(t.kind=5\/t.kind=6\/t.kind=10\/t.kind=14)/\t.width=2:=by
 unfold fE fX at h
 (repeat' split at h)<;>omega
theorem zs7:∀t:Tree,t.wf fX->Small t:=by
 intro t
 induction t using Tree.ind with
 |h t ih =>
  intro hw;refine .mk t ?_ λj hj=>ih j hj<|gy hw hj;have:=Rm ((gK _ _).1 hw).1;omega
def c230:PC:=SO [Mv 4<|cS #[]] (.seq (SO [qm 5 1,Bi 6 .eql 5<|cI 63]<|If 6<|SO [Mv 4<|cS #[115,105,108,101,110,116]] .ret) (.seq (.seq (.ops [qm 7 1,qm 8 0,qd 9 (.fO 8) 2,Fd 10 0 9 6,Ld 11 10 14,qd 12 (.len 11) 30,Bd 13 .geq 7 12 63,qw 14 13 127,⟨some 15,.move 0,some (14,false),255⟩,⟨some 16,.fO 15,some (14,false),511⟩,⟨some 17,.gU 0 16,some (14,false),1023⟩,⟨some 18,.fu 17,some (14,false),2047⟩,⟨some 19,.move 1,some (14,false),255⟩,⟨some 20,.lg 1 18 19,some (14,false),8191⟩,⟨some 21,.fu 20,some (14,false),16383⟩,⟨some 22,.call 47 [21],some (14,false),32767⟩,⟨some 23,.un .not 22,some (14,false),65535⟩,qd 24 (.pick 14 cT 23) 131071,qw 25 24 262143,⟨some 26,.move 0,some (25,false),524287⟩,⟨some 27,.fO 26,some (25,false),1048575⟩,⟨some 28,.gU 0 27,some (25,false),2097151⟩,⟨some 29,.fu 28,some (25,false),4194303⟩,⟨some 30,.move 0,some (25,false),524287⟩,⟨some 31,.fO 30,some (25,false),8912895⟩,⟨some 32,.gU 0 31,some (25,false),25690111⟩,⟨some 33,.fu 32,some (25,false),59244543⟩,⟨some 34,.move 1,some (25,false),524287⟩,⟨some 35,.lg 1 33 34,some (25,false),260571135⟩,⟨some 36,.fu 35,some (25,false),529006591⟩,⟨some 37,.call 177 [29,36],some (25,false),1073741823⟩,⟨some 38,.move 1,some (25,false),524287⟩,⟨some 39,.bin .neq 37 38,some (25,false),4294967295⟩,qd 40 (.pick 25 cT 39) 8589934591] true)<|If 40<|SO [qm 41 0,q 42 (.fO 41),Fa 43 1 42,So 1 43 cT]<|SO [Mv 4<|cS #[]] .ret)<|SO [qm 44 0,q 45 (.fO 44),Fa 46 0 45,Lo 47 46,qm 48 1,Ia 49 1 47 48,Lo 50 49,qm 4 50] .ret))
def c231:PC:=SO [Bx 4 1,Mv 6<|cS #[]]<|SO [qm 8 0,Fa 9 2 4,Lo 10 9,qm 11 2,Ia 12 3 10 11,LA 13 3 12,Ca 14 175 [8,13],qm 7 14] (.seq (.seq (.ops [Fa 15 0 4,Ld 16 15 1,qm 17 2,Fa 18 2 4,Ld 19 18 8,qm 20 2,Ja 21 3 19 20 56,Fd 22 0 21 120,Ld 23 22 248,Cd 24 265 [16,17,23] 511] true)<|If 24<|SO [qm 25 7,qm 6 25] .ret)<|SO [qm 26 7,Bi 27 .add (cS #[40]) 26,Bi 28 .add 27<|cS #[41],qm 6 28] .ret)
def c175:PC:=SO [Bx 3 1,Mv 4<|cS #[]] (.seq (SO [Fa 5 0 3,Lo 6 5] (.block 0<|SO [Bi 8 .eql 6 K1,qm 7 8] (.cond 7 (SO [Mv 4<|cS #[116,114,117,101]] .ret)<|SO [Bi 10 .eql 6 K2,qm 9 10] (.cond 9 (SO [Mv 4<|cS #[102,97,108,115,101]] .ret)<|SO [Bi 12 .eql 6 K3,qm 11 12] (.cond 11 (SO [qm 13 0,Fa 14 1 3,Lo 15 14,Ca 16 230 [13,15],qm 4 16] .ret)<|SO [Bi 18 .eql 6 K5,qm 17 18] (.cond 17 (.seq (.ops [qm 19 0,LA 20 3 3,Cd 21 231 [19,20,K0] 3,Bd 22 .add 21 (cS #[32,38,32]) 7,qm 23 0,LA 24 3 3,Cd 25 231 [23,24,K1] 55,Bd 26 .add 22 25 127,qw 4 26 255] true) .ret)<|SO [Bi 28 .eql 6 K6,qm 27 28] (.cond 27 (.seq (.ops [qm 29 0,LA 30 3 3,Cd 31 231 [29,30,K0] 3,Bd 32 .add 31 (cS #[32,47,32]) 7,qm 33 0,LA 34 3 3,Cd 35 231 [33,34,K1] 55,Bd 36 .add 32 35 127,qw 4 36 255] true) .ret)<|SO [Bi 38 .eql 6<|cI 10,qm 37 38] (.cond 37 (.seq (.ops [qm 39 0,Fa 40 2 3,Ld 41 40 2,Ja 42 3 41 K0 6,qd 43 (.r8 3 42) 14,Cd 44 175 [39,43] 31,Bd 45 .add (cS #[69,32,91]) 44 63,Bd 46 .add 45 (cS #[32,85,32]) 127,qm 47 0,Fa 48 2 3,Ld 49 48 512,Ja 50 3 49 K1 1536,qd 51 (.r8 3 50) 3584,Cd 52 175 [47,51] 7999,Bd 53 .add 46 52 16383,Bd 54 .add 53 (cS #[93]) 32767,qw 4 54 65535] true) .ret)<|SO [Bi 56 .eql 6<|cI 14,qm 55 56]<|If 55 (.seq (.ops [qm 57 0,Fa 58 2 3,Ld 59 58 2,Ja 60 3 59 K0 6,qd 61 (.r8 3 60) 14,Cd 62 175 [57,61] 31,Bd 63 .add (cS #[65,32,91]) 62 63,Bd 64 .add 63 (cS #[32,85,32]) 127,qm 65 0,Fa 66 2 3,Ld 67 66 512,Ja 68 3 67 K1 1536,qd 69 (.r8 3 68) 3584,Cd 70 175 [65,69] 7999,Bd 71 .add 64 70 16383,Bd 72 .add 71 (cS #[93]) 32767,qw 4 72 65535] true) .ret))))))))) (.seq (.ops [Fa 73 0 3,Ld 74 73 1,Cd 75 232 [74] 3,qm 76 0,LA 77 3 3,Cd 78 231 [76,77,K0] 31,Bd 79 .add 75 78 63,qw 4 79 127] true) .ret))
def c232:PC:=SO [Mv 2<|cS #[]]<|SO [q 3 (.build [vS,vS,vS,vS,vS,vS,vS,vS,vS,vS,vS,vS,vS,vS] [(4,1,(cS #[33])),(7,1,(cS #[69,88,32])),(8,1,(cS #[69,70,32])),(9,1,(cS #[69,71,32])),(11,1,(cS #[65,88,32])),(12,1,(cS #[65,70,32])),(13,1,(cS #[65,71,32]))]),qm 4 0,q 5 (.CI 14 1 false 3 4),qm 2 5] .ret
theorem zY:pj aj 232 6 [.tmp 2] c232:=fK Tryz.func232
theorem zwA(k i c:Int):ar aj 265 [ab k,ab i,ab c]<|aF<|Iq k i c:=by
 refine bV ?_
 repeat' (first
  |(first|(refine GL ‹_› ?_;((conv=>whnf);repeat(refine⟨rfl,?_⟩;conv=>whnf)))|(refine FX ‹_› ?_;((conv=>whnf);repeat(refine⟨rfl,?_⟩;conv=>whnf)))|(refine xa (λh=>?_) (λh=>?_)<;>(rw[h];((conv=>whnf);repeat(refine⟨rfl,?_⟩;conv=>whnf)))))
  |exact bL (bK (λb=>D.sc (.bool b)) (by unfold Iq;simp_all)))
theorem zt8:ar aj 232 [ab 4] (.sc (.string ⟨#[33]⟩)):=by
 refine bz zY ?_;refine sR ?_;refine⟨zo,zo,_,rfl,?_⟩;refine sW ?_;exact sP
theorem zsX:ar aj 232 [ab 7] (.sc (.string ⟨#[69,88,32]⟩)):=by
 refine bz zY ?_;refine sR ?_;refine⟨zo,zo,_,rfl,?_⟩;refine sW ?_;exact sP
theorem zs3:ar aj 232 [ab 8] (.sc (.string ⟨#[69,70,32]⟩)):=by
 refine bz zY ?_;refine sR ?_;refine⟨zo,zo,_,rfl,?_⟩;refine sW ?_;exact sP
theorem ztg:ar aj 232 [ab 9] (.sc (.string ⟨#[69,71,32]⟩)):=by
 refine bz zY ?_;refine sR ?_;refine⟨zo,zo,_,rfl,?_⟩;refine sW ?_;exact sP
theorem YW:ar aj 232 [ab 11] (.sc (.string ⟨#[65,88,32]⟩)):=by
 refine bz zY ?_;refine sR ?_;refine⟨zo,zo,_,rfl,?_⟩;refine sW ?_;exact sP
theorem zpe:ar aj 232 [ab 12] (.sc (.string ⟨#[65,70,32]⟩)):=by
 refine bz zY ?_;refine sR ?_;refine⟨zo,zo,_,rfl,?_⟩;refine sW ?_;exact sP
theorem zpn:ar aj 232 [ab 13] (.sc (.string ⟨#[65,71,32]⟩)):=by
 refine bz zY ?_;refine sR ?_;refine⟨zo,zo,_,rfl,?_⟩;refine sW ?_;exact sP
theorem YB(hs:pF names)(n:Int)(hn:0<=n)(bad:Bool) :
  cd aj 230 ([]++.loc 0 0::[ab n]) [.row true<|eJ names bad] (.sc (.string<|nm names n)) [.row true<|eJ names<|bad||dH (nm names n) ⟨#[]⟩]:=by
 refine gm (fJ 51 [.tmp 4] c230 Tryz.func230) zs zs ?_ (by simp[az]) (by simp[an.under,cu _<|fg _ _]);unfold eJ dG;refine sR ?_;have fB:∀{s:aM},s=nm names n->dH s ⟨#[]⟩=false->(D.sc (.string s)=.sc (.string<|nm names n)/\List.take 1 [an.row true [.a8 1<|names.map λs=>[.sc (.string s)],aF bad]]=[an.row true [.a8 1<|names.map λs=>[.sc (.string s)],aF<|bad||dH (nm names n) ⟨#[]⟩]]/\1<=1):=λh h'=>by
  subst h;rw[h'];simp
 have none_:nm names n=⟨#[]⟩->(D.sc (.string ⟨#[]⟩)=.sc (.string<|nm names n)/\List.take 1 [an.row true [.a8 1<|names.map λs=>[.sc (.string s)],aF true]]=[an.row true [.a8 1<|names.map λs=>[.sc (.string s)],aF<|bad||dH (nm names n) ⟨#[]⟩]]/\1<=1):=λh=>by
  rw[h];simp
 refine sS (λh1=>?_) λh1=>?_
 ·exact fB (by simp only[gC] at h1;simp[nm,h1,yc])<|by rw[<-mP,NT];decide
 have h1:n≠63:=sO;rw[aS];refine sS (λh2=>?_) λh2=>?_
 ·exact none_ (by have:(names.length:Int)≤n:=sO
                  simp[nm,h1,this])
 have h2:¬(names.length:Int)<=n:=sO;have hk:n.toNat<names.length:=zo;refine⟨hn,_,uE hk,?_⟩;refine sW ?_;refine sC (zw _<|hs.at hk) ?_;refine sS (λh3=>?_) λh3=>?_
 ·exact none_ (by have:ic (names.getD n.toNat ⟨#[]⟩)=false:=by simpa using h3
                  unfold nm;rw[aa h1,aa h2,ae this])
 have h3:¬ic (names.getD n.toNat ⟨#[]⟩)=false:=by simpa using h3
 refine⟨hn,_,uE hk,?_⟩;refine sW ?_;refine sC (KS names _ hs.1) ?_;have hd:=Mf hk;rw[show(n.toNat:Int)=n by omega] at hd;refine sS (λh4=>?_) λh4=>?_
 ·exact none_ (by have:rO names n.toNat<|names.getD n.toNat ⟨#[]⟩:=hd.1 (by simpa using h4)
                  unfold nm;rw[aa h1,aa h2,aa h3,ae this])
 refine⟨hn,_,uE hk,?_⟩;refine sW ?_
 exact fB (by have:¬rO names n.toNat (names.getD n.toNat ⟨#[]⟩):=λh=>hd.2 h (by simpa using h4)
              unfold nm;rw[aa h1,aa h2,aa h3,aa this]) (by
              have:ic<|names.getD n.toNat ⟨#[]⟩:=by simpa using h3
              unfold ic at this;simp only[dL,oG] at this;exact this.1.1.1.1.1)
theorem zz5(t:Tree)(j:Nat)(hj:j<t.width)(gT:(ja names<|t.aD j).size<=1000000)(bad Fj:Bool)
  (hT:cd aj 175 ([]++.loc 0 0::[bn<|t.aD j]) [.row true<|eJ names bad] (.sc (.string<|ja names<|t.aD j)) [.row true<|eJ names Fj]) :
  cd aj 231 ([]++.loc 0 0::[bn t,ab j]) [.row true<|eJ names bad] (.sc (.string<|nC (Iq t.kind j (t.aD j).kind)<|ja names<|t.aD j)) [.row true<|eJ names Fj]:=by
 refine gm (fJ 29 [.tmp 6] c231 Tryz.func231) zs zs ?_ (by simp[az]) (by simp[an.under,cu _<|fg _ _]);refine sR ?_;refine sL (gd hj) ?_;refine sA (qL hT (by simp[ao]) (by simp[ao,dT]) (fg _ _) (fg _ _) (by simp[Pure]) (H:=[.row true<|eJ names bad,.row true<|bx t]) (id:=0) rfl) ?_;refine sL (gd hj) ?_;refine sC (zwA t.kind j (t.aD j).kind) ?_;refine sS (λh=>?_) λh=>?_
 ·first|exact⟨bK (λs=>D.sc (.string s)) (by simp[nC,h]),rfl,zs⟩|simp
 refine⟨by simp only[gY,gS,gZ,cj,dE];omega,?_⟩;refine sW ?_;refine⟨by simp only[gY,gS,gZ,cj,dE];omega,?_⟩;refine sW ?_;first|exact⟨bK (λs=>D.sc (.string s)) (by simp[nC,h]),rfl,zs⟩|simp
theorem zxQ(hn:pF names):∀t:Tree,t.wf fX->t.size<=60->∀bad:Bool,
  cd aj 175 ([]++.loc 0 0::[bn t]) [.row true<|eJ names bad] (.sc (.string<|ja names t)) [.row true<|eJ names<|bad||!dK names t]:=by
 intro t
 induction t using Tree.ind with
 |h t ih =>
  intro df gT bad;have hs:=zs7 t df;have rV:=Rm ((gK _ _).1 df).1;have vV:0<=t.num:=(by have:=((gK _ _).1 df).1;unfold fE at this;omega);have tsz:∀j,j<t.width->(ja names<|t.aD j).size<=720/\(t.aD j).size<=60:=λj hj=>by
   have h1:=ztX names<|t.aD j;have h2:=Wq hj;omega
  have Em:∀j,j<t.width->∀bad:Bool,cd aj 175 ([]++.loc 0 0::[bn<|t.aD j]) [.row true<|eJ names bad] (.sc (.string<|ja names<|t.aD j)) [.row true<|eJ names<|bad||!dK names (t.aD j)] :=
   λj hj bad=>ih j hj (gy df hj) (tsz j hj).2 bad
  have rA:∀j,j<t.width->¬(t.kind=10\/t.kind=14)->∀bad:Bool,cd aj 231 ([]++.loc 0 0::[bn t,ab j]) [.row true<|eJ names bad] (.sc (.string<|mG names t j)) [.row true<|eJ names<|bad||!dK names (t.aD j)] :=
   λj hj cJ bad=>by
    have:=zz5 names t j hj (by have:=tsz j hj;omega) bad _<|Em j hj bad;unfold mG ri;rw[aa cJ];exact this
  have ksz:∀j,j<t.width->(mG names t j).size<=722:=λj hj=>by
   have:=xp (ri t.kind j (t.aD j).kind)<|ja names<|t.aD j;have:=tsz j hj;unfold mG;omega
  clear ih;refine gm (fJ 80 [.tmp 4] c175 Tryz.func175) zs zs ?_ (by simp[az]) (by simp[an.under,cu _<|fg _ _]);refine sR ?_;have fin:∀{s:aM} {b:Bool} {r:aZ},s=ja names t->b=(bad||!dK names t)->(D.sc (.string s)=.sc (.string (ja names t))/\List.take 1 [an.row true [dG names,aF b],.row true r]=[an.row true (eJ names (bad||!dK names t))]/\[an.row true (eJ names (bad||!dK names t))].length<=2):=λh1 h2=>by
   subst h1 h2;exact⟨rfl,rfl,zs⟩
  have zero:t.width=0->ja names t=vf names t.kind t.num ⟨#[]⟩ ⟨#[]⟩/\dK names t=qg names t.kind t.num:=λh=>⟨zCs names h,RN names h⟩;refine sS (λh1=>?_) λh1=>?_
  ·have hk:t.kind=1:=sO;have:=zero zo;exact fin (by rw[this.1,hk];rfl)<|by rw[this.2,hk];simp[qg]
  refine sS (λh2=>?_) λh2=>?_
  ·have hk:t.kind=2:=sO;have:=zero zo;exact fin (by rw[this.1,hk];rfl)<|by rw[this.2,hk];simp[qg]
  refine sS (λh3=>?_) λh3=>?_
  ·have hk:t.kind=3:=sO;have:=zero zo;refine sA (qL (YB names hn t.num vV bad) (by simp[ao]) (by simp[ao,Pure]) (fg _ _) (fg _ _) (by simp[Pure]) (H:=[.row true<|eJ names bad,.row true<|bx t]) (id:=0) rfl) ?_;exact fin (by rw[this.1,hk];rfl)<|by rw[this.2,hk];simp only[qg];cases dH (nm names t.num) ⟨#[]⟩<;>cases bad<;>rfl
  clear zero;have two:t.width=2->ja names t=vf names t.kind t.num (mG names t 0) (mG names t 1)/\(bad||!dK names t)=((bad||!dK names (t.aD 0))||!dK names (t.aD 1)):=λh=>⟨zCC names h,by
   rw[R7 names h<|sO];cases bad<;>cases dK names (t.aD 0)<;>rfl⟩
  refine sS (λh4=>?_) λh4=>?_
  ·have hk:t.kind=5:=sO;have hw:t.width=2:=zo;have k0:=ksz 0 zo;have k1:=ksz 1 zo;refine sE (s8 (rA 0 zo zo bad) (by simp[ao]) (by simp[ao,dT,Pure]) (fg _ _) (fg _ _) (by simp[Pure]) (H:=[.row true<|eJ names bad,.row true<|bx t]) (id:=0) rfl) ?_;refine⟨by simp only[gY,gS,gZ,cj,dE];omega,?_⟩;refine sW ?_;refine sE (s8 (rA 1 zo zo<|bad||!dK names (t.aD 0)) (by simp[ao]) (by simp[ao,dT,Pure]) (fg _ _) (fg _ _) (by simp[Pure]) (H:=[.row true<|eJ names<|bad||!dK names (t.aD 0),.row true<|bx t]) (id:=0) rfl) ?_;refine⟨by simp only[gY,gS,gZ,cj,dE];omega,?_⟩;refine sW ?_;exact fin (by rw[(two hw).1,hk];rfl) (two hw).2.symm
  refine sS (λh5=>?_) λh5=>?_
  ·have hk:t.kind=6:=sO;have hw:t.width=2:=zo;have k0:=ksz 0 zo;have k1:=ksz 1 zo;refine sE (s8 (rA 0 zo zo bad) (by simp[ao]) (by simp[ao,dT,Pure]) (fg _ _) (fg _ _) (by simp[Pure]) (H:=[.row true<|eJ names bad,.row true<|bx t]) (id:=0) rfl) ?_;refine⟨by simp only[gY,gS,gZ,cj,dE];omega,?_⟩;refine sW ?_;refine sE (s8 (rA 1 zo zo<|bad||!dK names (t.aD 0)) (by simp[ao]) (by simp[ao,dT,Pure]) (fg _ _) (fg _ _) (by simp[Pure]) (H:=[.row true<|eJ names<|bad||!dK names (t.aD 0),.row true<|bx t]) (id:=0) rfl) ?_;refine⟨by simp only[gY,gS,gZ,cj,dE];omega,?_⟩;refine sW ?_;exact fin (by rw[(two hw).1,hk];rfl) (two hw).2.symm
  refine sS (λh6=>?_) λh6=>?_
  ·have hk:t.kind=10:=sO;have hw:t.width=2:=zo;have t0:=tsz 0 zo;have t1:=tsz 1 zo;have e0:mG names t 0=ja names (t.aD 0):=(by simp[mG,ri,hk,nC]);have e1:mG names t 1=ja names (t.aD 1):=(by simp[mG,ri,hk,nC]);refine sL (gd (t:=t) (j:=0) zo) ?_;refine sE (s8 (Em 0 zo bad) (by simp[ao]) (by simp[ao,dT,Pure]) (fg _ _) (fg _ _) (by simp[Pure]) (H:=[.row true<|eJ names bad,.row true<|bx t]) (id:=0) rfl) ?_;refine⟨by simp only[gY,gS,gZ,cj,dE];omega,?_⟩;refine sW ?_;refine⟨by simp only[gY,gS,gZ,cj,dE];omega,?_⟩;refine sW ?_;refine sL (gd (t:=t) (j:=1) zo) ?_;refine sE (s8 (Em 1 zo<|bad||!dK names (t.aD 0)) (by simp[ao]) (by simp[ao,dT,Pure]) (fg _ _) (fg _ _) (by simp[Pure]) (H:=[.row true<|eJ names<|bad||!dK names (t.aD 0),.row true<|bx t]) (id:=0) rfl) ?_;refine⟨by simp only[gY,gS,gZ,cj,dE];omega,?_⟩;refine sW ?_;refine⟨by simp only[gY,gS,gZ,cj,dE];omega,?_⟩;refine sW ?_;exact fin (by rw[(two hw).1,hk,e0,e1];rfl) (two hw).2.symm
  refine sS (λh7=>?_) λh7=>?_
  ·have hk:t.kind=14:=sO;have hw:t.width=2:=zo;have t0:=tsz 0 zo;have t1:=tsz 1 zo;have e0:mG names t 0=ja names (t.aD 0):=(by simp[mG,ri,hk,nC]);have e1:mG names t 1=ja names (t.aD 1):=(by simp[mG,ri,hk,nC]);refine sL (gd (t:=t) (j:=0) zo) ?_;refine sE (s8 (Em 0 zo bad) (by simp[ao]) (by simp[ao,dT,Pure]) (fg _ _) (fg _ _) (by simp[Pure]) (H:=[.row true<|eJ names bad,.row true<|bx t]) (id:=0) rfl) ?_;refine⟨by simp only[gY,gS,gZ,cj,dE];omega,?_⟩;refine sW ?_;refine⟨by simp only[gY,gS,gZ,cj,dE];omega,?_⟩;refine sW ?_;refine sL (gd (t:=t) (j:=1) zo) ?_;refine sE (s8 (Em 1 zo<|bad||!dK names (t.aD 0)) (by simp[ao]) (by simp[ao,dT,Pure]) (fg _ _) (fg _ _) (by simp[Pure]) (H:=[.row true<|eJ names<|bad||!dK names (t.aD 0),.row true<|bx t]) (id:=0) rfl) ?_;refine⟨by simp only[gY,gS,gZ,cj,dE];omega,?_⟩;refine sW ?_;refine⟨by simp only[gY,gS,gZ,cj,dE];omega,?_⟩;refine sW ?_;exact fin (by rw[(two hw).1,hk,e0,e1];rfl) (two hw).2.symm
  have hw:t.width=1:=sO;have k0:=ksz 0 zo;have e1:=zBO names hw;have e2:=QF names hw<|sO;have hk:t.kind=4\/t.kind=7\/t.kind=8\/t.kind=9\/t.kind=11\/t.kind=12\/t.kind=13:=sO;have A0:=s8 (rA 0 zo zo bad) (by simp[ao]) (by simp[ao,dT,Pure]) (fg _ _) (fg _ _) (by simp[Pure]) (H:=[.row true<|eJ names bad,.row true<|bx t]) (id:=0) rfl;rcases hk with hk|hk|hk|hk|hk|hk|hk
  ·refine sC (by rw[hk];exact zt8) ?_;refine sE A0 ?_;refine⟨by simp only[gY,gS,gZ,cj,dE];omega,?_⟩;refine sW ?_;exact fin (by rw[e1,hk];rfl)<|by rw[e2]
  ·refine sC (by rw[hk];exact zsX) ?_;refine sE A0 ?_;refine⟨by simp only[gY,gS,gZ,cj,dE];omega,?_⟩;refine sW ?_;exact fin (by rw[e1,hk];rfl)<|by rw[e2]
  ·refine sC (by rw[hk];exact zs3) ?_;refine sE A0 ?_;refine⟨by simp only[gY,gS,gZ,cj,dE];omega,?_⟩;refine sW ?_;exact fin (by rw[e1,hk];rfl)<|by rw[e2]
  ·refine sC (by rw[hk];exact ztg) ?_;refine sE A0 ?_;refine⟨by simp only[gY,gS,gZ,cj,dE];omega,?_⟩;refine sW ?_;exact fin (by rw[e1,hk];rfl)<|by rw[e2]
  ·refine sC (by rw[hk];exact YW) ?_;refine sE A0 ?_;refine⟨by simp only[gY,gS,gZ,cj,dE];omega,?_⟩;refine sW ?_;exact fin (by rw[e1,hk];rfl)<|by rw[e2]
  ·refine sC (by rw[hk];exact zpe) ?_;refine sE A0 ?_;refine⟨by simp only[gY,gS,gZ,cj,dE];omega,?_⟩;refine sW ?_;exact fin (by rw[e1,hk];rfl)<|by rw[e2]
  refine sC (by rw[hk];exact zpn) ?_;refine sE A0 ?_;refine⟨by simp only[gY,gS,gZ,cj,dE];omega,?_⟩;refine sW ?_;exact fin (by rw[e1,hk];rfl)<|by rw[e2]
def c93:PC:=SO [Bx 2 0,Mv 4<|cS #[],Mv 5 K0] (.seq (SO [LA 9 3 2,Ca 10 97 [9],qm 6 10]<|SO [qm 11 6,Bi 12 .neq 11 K0]<|If 12<|SO [qm 13 6,Mv 4<|cS #[],qm 5 13] .ret)<|SO [qm 14 1,q 15 (.build [vN,vF] [(0,1,14)]),Bx 16 15,qm 7 16]<|SO [qm 17 7,LA 18 3 2,Ca 19 175 [17,18],qm 8 19] (.seq (SO [qm 20 7,q 21 (.fO 20),Fa 22 1 21,Lo 23 22]<|If 23<|SO [Mv 4<|cS #[],Mv 5 K4] .ret)<|SO [qm 24 8,qm 4 24,Mv 5 K0] .ret))
noncomputable def A5(names:List aM)(t:Tree):D :=
 if aV fX t=0 then (if dK names t then .aJ [.sc (.string<|ja names t),ab 0] else .aJ [.sc (.string ⟨#[]⟩),ab 4]) else .aJ [.sc (.string ⟨#[]⟩),ab<|aV fX t]
theorem zsT(hn:pF names)(t:Tree)(hs:Small t):ar aj 93 [bn t,dG names]<|A5 names t:=by
 refine fi (fJ 25 [.tmp 4,.tmp 5] c93 Tryz.func93) zs (by simp[ao,dT,oJ]) ?_ (by unfold A5;(repeat' split)<;>simp[Pure,ao]);refine sR ?_;refine sC (Sa t hs) ?_;refine sS (λh1=>?_) λh1=>?_
 ·have h:¬aV fX t=0:=sO;unfold A5;rw[aa h];exact sP
 have h:aV fX t=0:=sO;have hz:=(qo _ _).1 h;unfold A5;rw[ae h];refine sA (qL (zxQ names hn t hz.2.2 hz.1 false) (by simp[ao]) (by simp[ao,dT]) (fg _ _) (fg _ _) (by simp[Pure]) (H:=[.row true<|bx t,.row true<|eJ names false]) (id:=1) rfl) ?_;cases hk:dK names t
 ·refine sW ?_;exact sP
 refine sW ?_;exact sP
def c96:PC:=SO [Mv 6<|cS #[]] (.seq (SO [qm 7 0,Bi 8 .eql 7<|cI 63,qm 9 8,GT 10 9 (.move 2),Pk 11 9 10 cF]<|If 11<|SO [Mv 6<|cS #[115,105,108,101,110,116]] .ret) (.seq (SO [qm 12 0,Bi 13 .lss 12 K0,qm 14 13,GF 15 14 (.move 0),GF 16 14 (.move 1),GF 17 14 (.len 16),GF 18 14 (.bin .geq 15 17),Pk 19 14 cT 18,qm 20 19,GF 21 20 (.move 0),GF 22 20 (.bin .geq 21<|cI 63),Pk 23 20 cT 22,qm 24 23,GF 25 24 (.move 1),GF 26 24 (.move 0),GF 27 24 (.lg 1 25 26),GF 28 24 (.fu 27),GF 29 24 (.call 47 [28]),GF 30 24 (.un .not 29),Pk 31 24 cT 30,qm 32 31,GF 33 32 (.move 1),GF 34 32 (.move 1),GF 35 32 (.move 0),GF 36 32 (.lg 1 34 35),GF 37 32 (.fu 36),GF 38 32 (.call 177 [33,37]),GF 39 32 (.move 0),GF 40 32 (.bin .neq 38 39),Pk 41 32 cT 40]<|If 41<|SO [Mv 6<|cS #[]] .ret)<|SO [qm 42 1,qm 43 0,Ia 44 1 42 43,Lo 45 44,qm 6 45] .ret))
theorem ztv(hs:pF names)(n:Int)(silent:Bool):ar aj 96 [ab n,dG names,aF silent] (.sc (.string<|rnm names silent n)):=by
 refine bz (fJ 46 [.tmp 6] c96 Tryz.func96) ?_;unfold dG;refine sR ?_;have eq:∀{s:aM},s=rnm names silent n->Deep [] (D.sc (.string s)) (.sc (.string<|rnm names silent n)):=λh=>h▸.refl _;cases e1:(n==63)
 ·have e1:n≠63:=(by simpa using e1);have g1:¬(n=63/\silent):=λh=>e1 h.1;refine sW ?_;cases e2:decide (n<0)
  ·refine sW ?_;rw[aS];cases e3:decide (n>=(names.length:Int))
   ·refine sW ?_;cases e4:decide (n>=63)
    ·have e2:¬n<0:=of_decide_eq_false e2;have e3:¬n>=(names.length:Int):=of_decide_eq_false e3;have e4:¬n>=63:=of_decide_eq_false e4;have hk:n.toNat<names.length:=zo;have g2:¬(n<0\/(names.length:Int)<=n\/63<=n):=zo;refine sW ?_;refine sL (uE hk) ?_;refine sC (zw _<|hs.at hk) ?_;cases e5:ic (names.getD n.toNat ⟨#[]⟩)
     ·refine sW ?_;exact eq<|by unfold rnm;rw[aa g1,aa g2,ae e5]
     refine sW ?_;refine sL (uE hk) ?_;refine sC (KS names _ hs.1) ?_;have hd:=Mf hk;rw[show(n.toNat:Int)=n by omega] at hd;refine sS (λh4=>?_) λh4=>?_
     ·exact eq (by have:rO names n.toNat<|names.getD n.toNat ⟨#[]⟩:=hd.1 (by simpa using h4)
                   unfold rnm;rw[aa g1,aa g2,aa<|by rw[e5];decide,ae this])
     refine sL (uE hk) ?_
     exact eq (by have:¬rO names n.toNat (names.getD n.toNat ⟨#[]⟩):=λh=>hd.2 h (by simpa using h4)
                  unfold rnm;rw[aa g1,aa g2,aa<|by rw[e5];decide,aa this])
    refine sW ?_;exact eq<|by unfold rnm;rw[aa g1,ae<|by have:=tk e4;omega]
   refine sW ?_;exact eq<|by unfold rnm;rw[aa g1,ae<|by have:=tk e3;omega]
  refine sW ?_;exact eq<|by unfold rnm;rw[aa g1,ae<|by have:=tk e2;omega]
 have e1:n=63:=by simpa using e1
 subst e1;refine sW ?_;cases silent
 ·refine sW ?_;rw[aS];cases e3:decide ((63:Int)>=(names.length:Int))
  ·refine sW ?_;exact eq<|by simp[rnm]
  refine sW ?_;exact eq<|by simp[rnm]
 refine sW ?_;exact eq<|by simp[rnm,yc]
theorem Pf(k:Int):ar aj 91 [ab k]<|aF<|decide (k<=4):=by
 refine bV ?_;exact .refl _
def c95:PC:=SO [Mv 4 cF]<|SO [qm 5 0,Lo 6 1,Lo 7 2,Ca 8 96 [5,6,7],Bi 9 .eql 8<|cS #[],qm 4 9] .ret
theorem rB(hs:pF names)(silent:Bool)(n:Int):ar aj 95 [ab n,.aN [dG names],.aN [aF silent]]<|aF<|gJ names silent n:=by
 refine bz (fJ 10 [.tmp 4] c95 Tryz.func95) ?_;refine sR ?_;refine sC (ztv names hs n silent) ?_;exact .refl _
variable(x:cc)
theorem Zb(h:x.kind≠5/\x.kind≠6)(k:x.scope≠2/\x.scope≠3/\x.scope≠4/\x.scope≠5):cd aj 90 [iS x] [] (.aJ [.own 1 0 0 1,bC]) [.row true<|cm x,.vec true 0 1<|aE [x.p]]:=by
 refine gm fZ zs zs ?_ (by simp[az,aK]) (by simp[an.under,cm,aK,bN,az,aE]);refine sR ?_;rw[show(x.kind==5)=false from dz zo];refine sW ?_;rw[show(x.kind==6)=false from dz zo];refine sW ?_;rw[show(x.scope==2)=false from dz zo];refine sW ?_;rw[show(x.scope==3)=false from dz zo];refine sW ?_;rw[show(x.scope==4)=false from dz zo];refine sW ?_;rw[show(x.scope==5)=false from dz zo];refine sW ?_;exact aI _
theorem zkR(h:x.kind≠5/\x.kind≠6)(k:x.scope=2):cd aj 90 [iS x] [] (.aJ [.own 1 0 0 1,.own 2 0 0 1]) [.row true<|cm x,.vec true 0 1<|aE [x.p],.vec true 0 1<|aE [x.r]]:=by
 refine gm fZ zs zs ?_ (by simp[az,aK]) (by simp[an.under,cm,aK,bN,az,aE]);refine sR ?_;rw[show(x.kind==5)=false from dz zo];refine sW ?_;rw[show(x.kind==6)=false from dz zo];refine sW ?_;rw[show(x.scope==2)=true from gG zo];refine sW ?_;exact aI _
theorem zkN(h:x.kind≠5/\x.kind≠6)(k:x.scope=3):cd aj 90 [iS x] [] (.aJ [.own 1 0 0 1,.own 2 0 0 1]) [.row true<|cm x,.vec true 0 1<|aE [x.p],.vec true 0 1<|aE [x.q]]:=by
 refine gm fZ zs zs ?_ (by simp[az,aK]) (by simp[an.under,cm,aK,bN,az,aE]);refine sR ?_;rw[show(x.kind==5)=false from dz zo];refine sW ?_;rw[show(x.kind==6)=false from dz zo];refine sW ?_;rw[show(x.scope==2)=false from dz zo];refine sW ?_;rw[show(x.scope==3)=true from gG zo];refine sW ?_;exact aI _
theorem zlg(h:x.kind≠5/\x.kind≠6)(k:x.scope=4\/x.scope=5):cd aj 90 [iS x] [] (.aJ [.own 1 0 0 1,.own 2 0 0 2]) [.row true<|cm x,.vec true 0 1<|aE [x.p],.vec true 0 1<|aE [x.q,x.r]]:=by
 refine gm fZ zs zs ?_ (by simp[az,aK]) (by simp[an.under,cm,aK,bN,az,aE]);refine sR ?_;rw[show(x.kind==5)=false from dz zo];refine sW ?_;rw[show(x.kind==6)=false from dz zo];refine sW ?_;rcases k with k|k
 ·rw[show(x.scope==2)=false from dz zo];refine sW ?_;rw[show(x.scope==3)=false from dz zo];refine sW ?_;rw[show(x.scope==4)=true from gG zo];refine sW ?_;exact aI _
 rw[show(x.scope==2)=false from dz zo];refine sW ?_;rw[show(x.scope==3)=false from dz zo];refine sW ?_;rw[show(x.scope==4)=false from dz zo];refine sW ?_;rw[show(x.scope==5)=true from gG zo];refine sW ?_;exact aI _
theorem zld(h:x.kind=5\/x.kind=6)(k:x.scope≠2/\x.scope≠3/\x.scope≠4/\x.scope≠5):cd aj 90 [iS x] [] (.aJ [.own 2 0 0 2,bC]) [.row true<|cm x,.vec true 0 1<|aE [x.p],.vec true 0 1<|aE [x.s,x.p]]:=by
 refine gm fZ zs zs ?_ (by simp[az,aK]) (by simp[an.under,cm,aK,bN,az,aE]);refine sR ?_;rcases h with h|h
 ·rw[show(x.kind==5)=true from gG zo];refine sW ?_;rw[show(x.scope==2)=false from dz zo];refine sW ?_;rw[show(x.scope==3)=false from dz zo];refine sW ?_;rw[show(x.scope==4)=false from dz zo];refine sW ?_;rw[show(x.scope==5)=false from dz zo];refine sW ?_;exact aI _
 rw[show(x.kind==5)=false from dz zo];refine sW ?_;rw[show(x.kind==6)=true from gG zo];refine sW ?_;rw[show(x.scope==2)=false from dz zo];refine sW ?_;rw[show(x.scope==3)=false from dz zo];refine sW ?_;rw[show(x.scope==4)=false from dz zo];refine sW ?_;rw[show(x.scope==5)=false from dz zo];refine sW ?_;exact aI _
theorem zkJ(h:x.kind=5\/x.kind=6)(k:x.scope=2):cd aj 90 [iS x] [] (.aJ [.own 2 0 0 2,.own 3 0 0 1]) [.row true<|cm x,.vec true 0 1<|aE [x.p],.vec true 0 1<|aE [x.s,x.p],.vec true 0 1<|aE [x.r]]:=by
 refine gm fZ zs zs ?_ (by simp[az,aK]) (by simp[an.under,cm,aK,bN,az,aE]);refine sR ?_;rcases h with h|h
 ·rw[show(x.kind==5)=true from gG zo];refine sW ?_;rw[show(x.scope==2)=true from gG zo];refine sW ?_;exact aI _
 rw[show(x.kind==5)=false from dz zo];refine sW ?_;rw[show(x.kind==6)=true from gG zo];refine sW ?_;rw[show(x.scope==2)=true from gG zo];refine sW ?_;exact aI _
theorem zlr(h:x.kind=5\/x.kind=6)(k:x.scope=3):cd aj 90 [iS x] [] (.aJ [.own 2 0 0 2,.own 3 0 0 1]) [.row true<|cm x,.vec true 0 1<|aE [x.p],.vec true 0 1<|aE [x.s,x.p],.vec true 0 1<|aE [x.q]]:=by
 refine gm fZ zs zs ?_ (by simp[az,aK]) (by simp[an.under,cm,aK,bN,az,aE]);refine sR ?_;rcases h with h|h
 ·rw[show(x.kind==5)=true from gG zo];refine sW ?_;rw[show(x.scope==2)=false from dz zo];refine sW ?_;rw[show(x.scope==3)=true from gG zo];refine sW ?_;exact aI _
 rw[show(x.kind==5)=false from dz zo];refine sW ?_;rw[show(x.kind==6)=true from gG zo];refine sW ?_;rw[show(x.scope==2)=false from dz zo];refine sW ?_;rw[show(x.scope==3)=true from gG zo];refine sW ?_;exact aI _
theorem zlS(h:x.kind=5\/x.kind=6)(k:x.scope=4\/x.scope=5):cd aj 90 [iS x] [] (.aJ [.own 2 0 0 2,.own 3 0 0 2]) [.row true<|cm x,.vec true 0 1<|aE [x.p],.vec true 0 1<|aE [x.s,x.p],.vec true 0 1<|aE [x.q,x.r]]:=by
 refine gm fZ zs zs ?_ (by simp[az,aK]) (by simp[an.under,cm,aK,bN,az,aE]);refine sR ?_;rcases h with h|h
 ·rw[show(x.kind==5)=true from gG zo];refine sW ?_;rcases k with k|k
  ·rw[show(x.scope==2)=false from dz zo];refine sW ?_;rw[show(x.scope==3)=false from dz zo];refine sW ?_;rw[show(x.scope==4)=true from gG zo];refine sW ?_;exact aI _
  rw[show(x.scope==2)=false from dz zo];refine sW ?_;rw[show(x.scope==3)=false from dz zo];refine sW ?_;rw[show(x.scope==4)=false from dz zo];refine sW ?_;rw[show(x.scope==5)=true from gG zo];refine sW ?_;exact aI _
 rw[show(x.kind==5)=false from dz zo];refine sW ?_;rw[show(x.kind==6)=true from gG zo];refine sW ?_;rcases k with k|k
 ·rw[show(x.scope==2)=false from dz zo];refine sW ?_;rw[show(x.scope==3)=false from dz zo];refine sW ?_;rw[show(x.scope==4)=true from gG zo];refine sW ?_;exact aI _
 rw[show(x.scope==2)=false from dz zo];refine sW ?_;rw[show(x.scope==3)=false from dz zo];refine sW ?_;rw[show(x.scope==4)=false from dz zo];refine sW ?_;rw[show(x.scope==5)=true from gG zo];refine sW ?_;exact aI _
section
variable(names:List aM)(hn:pF names)(name:aM)(sort:Int)(x:cc)(k a b c:Int)(f g:Tree)
include hn
theorem SH(h1:sort=1)(hk:x.kind≠5/\x.kind≠6)(hs:x.scope≠2/\x.scope≠3/\x.scope≠4/\x.scope≠5):ar aj 48 [cQ name sort x k a b c f g,dG names]<|ab<|eQ names sort x k a b c f g:=by
 have hE:eQ names sort x k a b c f g=if fo x=0/\(kb x++j5 x).any (gJ names true)=true then 4 else fo x:=by unfold eQ;rw[ae h1]
 have hO:kb x=[x.p]:=by unfold kb;rw[aa zo]
 have hP:j5 x=[]:=by unfold j5;rw[aa zo,aa zo,aa zo]
 rw[hO,hP] at hE;have mb:=u0 x;have hA:=Zb x hk hs;have hF:=kY (λn=>ab n) (λ_=>by simp[Pure]) ([x.p]++[]) zs (gJ names true) 95 [.aN [dG names],.aN [aF true]] (by simp[ao,Pure,oJ]) λn _=>rB names hn true n;refine bz fZ ?_;rw[hE];unfold cQ jF cm iS at *;refine sR ?_;rw[gG h1];refine sW ?_;refine sC mb ?_;refine sE (nX hA (by simp[ao,Pure,cm]) [3,4] rfl rfl (by simp[an.aO,bO,D.aO];rfl)) ?_;refine sJ ?_;cases e:(fo x==0)
 ·refine sW ?_;exact bL<|bK (λz=>ab z) (aa λh=>by have:=h.1;simp[this] at e).symm
 have e:fo x=0:=by simpa using e
 refine sW ?_;refine sN hF ?_;cases e2:([x.p]++[]).any<|gJ names true
 ·refine sW ?_;exact bL<|bK (λz=>ab z) (aa λh=>by cases h.2).symm
 refine sW ?_;exact bL<|bK (λz=>ab z) (ae ⟨e,rfl⟩).symm
theorem zmr(h1:sort=1)(hk:x.kind≠5/\x.kind≠6)(hs:x.scope=2):ar aj 48 [cQ name sort x k a b c f g,dG names]<|ab<|eQ names sort x k a b c f g:=by
 have hE:eQ names sort x k a b c f g=if fo x=0/\(kb x++j5 x).any (gJ names true)=true then 4 else fo x:=by unfold eQ;rw[ae h1]
 have hO:kb x=[x.p]:=by unfold kb;rw[aa zo]
 have hP:j5 x=[x.r]:=by unfold j5;rw[ae zo]
 rw[hO,hP] at hE;have mb:=u0 x;have hA:=zkR x hk hs;have hF:=kY (λn=>ab n) (λ_=>by simp[Pure]) ([x.p]++[x.r]) zs (gJ names true) 95 [.aN [dG names],.aN [aF true]] (by simp[ao,Pure,oJ]) λn _=>rB names hn true n;refine bz fZ ?_;rw[hE];unfold cQ jF cm iS at *;refine sR ?_;rw[gG h1];refine sW ?_;refine sC mb ?_;refine sE (nX hA (by simp[ao,Pure,cm]) [3,4,5] rfl rfl (by simp[an.aO,bO,D.aO];rfl)) ?_;refine sJ ?_;cases e:(fo x==0)
 ·refine sW ?_;exact bL<|bK (λz=>ab z) (aa λh=>by have:=h.1;simp[this] at e).symm
 have e:fo x=0:=by simpa using e
 refine sW ?_;refine sN hF ?_;cases e2:([x.p]++[x.r]).any<|gJ names true
 ·refine sW ?_;exact bL<|bK (λz=>ab z) (aa λh=>by cases h.2).symm
 refine sW ?_;exact bL<|bK (λz=>ab z) (ae ⟨e,rfl⟩).symm
theorem zn5(h1:sort=1)(hk:x.kind≠5/\x.kind≠6)(hs:x.scope=3):ar aj 48 [cQ name sort x k a b c f g,dG names]<|ab<|eQ names sort x k a b c f g:=by
 have hE:eQ names sort x k a b c f g=if fo x=0/\(kb x++j5 x).any (gJ names true)=true then 4 else fo x:=by unfold eQ;rw[ae h1]
 have hO:kb x=[x.p]:=by unfold kb;rw[aa zo]
 have hP:j5 x=[x.q]:=by unfold j5;rw[aa zo,ae zo]
 rw[hO,hP] at hE;have mb:=u0 x;have hA:=zkN x hk hs;have hF:=kY (λn=>ab n) (λ_=>by simp[Pure]) ([x.p]++[x.q]) zs (gJ names true) 95 [.aN [dG names],.aN [aF true]] (by simp[ao,Pure,oJ]) λn _=>rB names hn true n;refine bz fZ ?_;rw[hE];unfold cQ jF cm iS at *;refine sR ?_;rw[gG h1];refine sW ?_;refine sC mb ?_;refine sE (nX hA (by simp[ao,Pure,cm]) [3,4,5] rfl rfl (by simp[an.aO,bO,D.aO];rfl)) ?_;refine sJ ?_;cases e:(fo x==0)
 ·refine sW ?_;exact bL<|bK (λz=>ab z) (aa λh=>by have:=h.1;simp[this] at e).symm
 have e:fo x=0:=by simpa using e
 refine sW ?_;refine sN hF ?_;cases e2:([x.p]++[x.q]).any<|gJ names true
 ·refine sW ?_;exact bL<|bK (λz=>ab z) (aa λh=>by cases h.2).symm
 refine sW ?_;exact bL<|bK (λz=>ab z) (ae ⟨e,rfl⟩).symm
theorem zmR(h1:sort=1)(hk:x.kind≠5/\x.kind≠6)(hs:x.scope=4\/x.scope=5):ar aj 48 [cQ name sort x k a b c f g,dG names]<|ab<|eQ names sort x k a b c f g:=by
 have hE:eQ names sort x k a b c f g=if fo x=0/\(kb x++j5 x).any (gJ names true)=true then 4 else fo x:=by unfold eQ;rw[ae h1]
 have hO:kb x=[x.p]:=by unfold kb;rw[aa zo]
 have hP:j5 x=[x.q,x.r]:=by unfold j5;rw[aa zo,aa zo,ae zo]
 rw[hO,hP] at hE;have mb:=u0 x;have hA:=zlg x hk hs;have hF:=kY (λn=>ab n) (λ_=>by simp[Pure]) ([x.p]++[x.q,x.r]) zs (gJ names true) 95 [.aN [dG names],.aN [aF true]] (by simp[ao,Pure,oJ]) λn _=>rB names hn true n;refine bz fZ ?_;rw[hE];unfold cQ jF cm iS at *;refine sR ?_;rw[gG h1];refine sW ?_;refine sC mb ?_;refine sE (nX hA (by simp[ao,Pure,cm]) [3,4,5] rfl rfl (by simp[an.aO,bO,D.aO];rfl)) ?_;refine sJ ?_;cases e:(fo x==0)
 ·refine sW ?_;exact bL<|bK (λz=>ab z) (aa λh=>by have:=h.1;simp[this] at e).symm
 have e:fo x=0:=by simpa using e
 refine sW ?_;refine sN hF ?_;cases e2:([x.p]++[x.q,x.r]).any<|gJ names true
 ·refine sW ?_;exact bL<|bK (λz=>ab z) (aa λh=>by cases h.2).symm
 refine sW ?_;exact bL<|bK (λz=>ab z) (ae ⟨e,rfl⟩).symm
theorem Pv(h1:sort=1)(hk:x.kind=5\/x.kind=6)(hs:x.scope≠2/\x.scope≠3/\x.scope≠4/\x.scope≠5):ar aj 48 [cQ name sort x k a b c f g,dG names]<|ab<|eQ names sort x k a b c f g:=by
 have hE:eQ names sort x k a b c f g=if fo x=0/\(kb x++j5 x).any (gJ names true)=true then 4 else fo x:=by unfold eQ;rw[ae h1]
 have hO:kb x=[x.s,x.p]:=by unfold kb;rw[ae zo]
 have hP:j5 x=[]:=by unfold j5;rw[aa zo,aa zo,aa zo]
 rw[hO,hP] at hE;have mb:=u0 x;have hA:=zld x hk hs;have hF:=kY (λn=>ab n) (λ_=>by simp[Pure]) ([x.s,x.p]++[]) zs (gJ names true) 95 [.aN [dG names],.aN [aF true]] (by simp[ao,Pure,oJ]) λn _=>rB names hn true n;refine bz fZ ?_;rw[hE];unfold cQ jF cm iS at *;refine sR ?_;rw[gG h1];refine sW ?_;refine sC mb ?_;refine sE (nX hA (by simp[ao,Pure,cm]) [3,4,5] rfl rfl (by simp[an.aO,bO,D.aO];rfl)) ?_;refine sJ ?_;cases e:(fo x==0)
 ·refine sW ?_;exact bL<|bK (λz=>ab z) (aa λh=>by have:=h.1;simp[this] at e).symm
 have e:fo x=0:=by simpa using e
 refine sW ?_;refine sN hF ?_;cases e2:([x.s,x.p]++[]).any<|gJ names true
 ·refine sW ?_;exact bL<|bK (λz=>ab z) (aa λh=>by cases h.2).symm
 refine sW ?_;exact bL<|bK (λz=>ab z) (ae ⟨e,rfl⟩).symm
theorem zmW(h1:sort=1)(hk:x.kind=5\/x.kind=6)(hs:x.scope=2):ar aj 48 [cQ name sort x k a b c f g,dG names]<|ab<|eQ names sort x k a b c f g:=by
 have hE:eQ names sort x k a b c f g=if fo x=0/\(kb x++j5 x).any (gJ names true)=true then 4 else fo x:=by unfold eQ;rw[ae h1]
 have hO:kb x=[x.s,x.p]:=by unfold kb;rw[ae zo]
 have hP:j5 x=[x.r]:=by unfold j5;rw[ae zo]
 rw[hO,hP] at hE;have mb:=u0 x;have hA:=zkJ x hk hs;have hF:=kY (λn=>ab n) (λ_=>by simp[Pure]) ([x.s,x.p]++[x.r]) zs (gJ names true) 95 [.aN [dG names],.aN [aF true]] (by simp[ao,Pure,oJ]) λn _=>rB names hn true n;refine bz fZ ?_;rw[hE];unfold cQ jF cm iS at *;refine sR ?_;rw[gG h1];refine sW ?_;refine sC mb ?_;refine sE (nX hA (by simp[ao,Pure,cm]) [3,4,5,6] rfl rfl (by simp[an.aO,bO,D.aO];rfl)) ?_;refine sJ ?_;cases e:(fo x==0)
 ·refine sW ?_;exact bL<|bK (λz=>ab z) (aa λh=>by have:=h.1;simp[this] at e).symm
 have e:fo x=0:=by simpa using e
 refine sW ?_;refine sN hF ?_;cases e2:([x.s,x.p]++[x.r]).any<|gJ names true
 ·refine sW ?_;exact bL<|bK (λz=>ab z) (aa λh=>by cases h.2).symm
 refine sW ?_;exact bL<|bK (λz=>ab z) (ae ⟨e,rfl⟩).symm
theorem ZU(h1:sort=1)(hk:x.kind=5\/x.kind=6)(hs:x.scope=3):ar aj 48 [cQ name sort x k a b c f g,dG names]<|ab<|eQ names sort x k a b c f g:=by
 have hE:eQ names sort x k a b c f g=if fo x=0/\(kb x++j5 x).any (gJ names true)=true then 4 else fo x:=by unfold eQ;rw[ae h1]
 have hO:kb x=[x.s,x.p]:=by unfold kb;rw[ae zo]
 have hP:j5 x=[x.q]:=by unfold j5;rw[aa zo,ae zo]
 rw[hO,hP] at hE;have mb:=u0 x;have hA:=zlr x hk hs;have hF:=kY (λn=>ab n) (λ_=>by simp[Pure]) ([x.s,x.p]++[x.q]) zs (gJ names true) 95 [.aN [dG names],.aN [aF true]] (by simp[ao,Pure,oJ]) λn _=>rB names hn true n;refine bz fZ ?_;rw[hE];unfold cQ jF cm iS at *;refine sR ?_;rw[gG h1];refine sW ?_;refine sC mb ?_;refine sE (nX hA (by simp[ao,Pure,cm]) [3,4,5,6] rfl rfl (by simp[an.aO,bO,D.aO];rfl)) ?_;refine sJ ?_;cases e:(fo x==0)
 ·refine sW ?_;exact bL<|bK (λz=>ab z) (aa λh=>by have:=h.1;simp[this] at e).symm
 have e:fo x=0:=by simpa using e
 refine sW ?_;refine sN hF ?_;cases e2:([x.s,x.p]++[x.q]).any<|gJ names true
 ·refine sW ?_;exact bL<|bK (λz=>ab z) (aa λh=>by cases h.2).symm
 refine sW ?_;exact bL<|bK (λz=>ab z) (ae ⟨e,rfl⟩).symm
theorem znn(h1:sort=1)(hk:x.kind=5\/x.kind=6)(hs:x.scope=4\/x.scope=5):ar aj 48 [cQ name sort x k a b c f g,dG names]<|ab<|eQ names sort x k a b c f g:=by
 have hE:eQ names sort x k a b c f g=if fo x=0/\(kb x++j5 x).any (gJ names true)=true then 4 else fo x:=by unfold eQ;rw[ae h1]
 have hO:kb x=[x.s,x.p]:=by unfold kb;rw[ae zo]
 have hP:j5 x=[x.q,x.r]:=by unfold j5;rw[aa zo,aa zo,ae zo]
 rw[hO,hP] at hE;have mb:=u0 x;have hA:=zlS x hk hs;have hF:=kY (λn=>ab n) (λ_=>by simp[Pure]) ([x.s,x.p]++[x.q,x.r]) zs (gJ names true) 95 [.aN [dG names],.aN [aF true]] (by simp[ao,Pure,oJ]) λn _=>rB names hn true n;refine bz fZ ?_;rw[hE];unfold cQ jF cm iS at *;refine sR ?_;rw[gG h1];refine sW ?_;refine sC mb ?_;refine sE (nX hA (by simp[ao,Pure,cm]) [3,4,5,6] rfl rfl (by simp[an.aO,bO,D.aO];rfl)) ?_;refine sJ ?_;cases e:(fo x==0)
 ·refine sW ?_;exact bL<|bK (λz=>ab z) (aa λh=>by have:=h.1;simp[this] at e).symm
 have e:fo x=0:=by simpa using e
 refine sW ?_;refine sN hF ?_;cases e2:([x.s,x.p]++[x.q,x.r]).any<|gJ names true
 ·refine sW ?_;exact bL<|bK (λz=>ab z) (aa λh=>by cases h.2).symm
 refine sW ?_;exact bL<|bK (λz=>ab z) (ae ⟨e,rfl⟩).symm
theorem zmg(h1:sort=2)(hk:k<=4):ar aj 48 [cQ name sort x k a b c f g,dG names]<|ab<|eQ names sort x k a b c f g:=by
 have hE:eQ names sort x k a b c f g=if kZ k a b c=0/\(yC k a b).any (gJ names false)=true then 4 else kZ k a b c:=by unfold eQ;rw[aa zo,ae h1]
 have hO:yC k a b=[a]:=by unfold yC;rw[ae hk]
 rw[hO] at hE;have mb:=F7 k a b c;have hA:=Pf k;rw[show decide (k<=4)=true by simpa using hk] at hA;have hF:=kY (λn=>ab n) (λ_=>by simp[Pure]) [a] zs (gJ names false) 95 [.aN [dG names],.aN [aF false]] (by simp[ao,Pure,oJ]) λn _=>rB names hn false n;refine bz fZ ?_;rw[hE];unfold cQ jF cm jf oF at *;refine sR ?_;rw[dz<|show sort≠1 by omega];refine sW ?_;rw[gG h1];refine sW ?_;refine sC mb ?_;refine sC hA ?_
 skip
 refine sW ?_;cases e:(kZ k a b c==0)
 ·refine sW ?_;exact bL<|bK (λz=>ab z) (aa λh=>by have:=h.1;simp[this] at e).symm
 have e:kZ k a b c=0:=by simpa using e
 refine sW ?_;refine sN hF ?_;cases e2:[a].any<|gJ names false
 ·refine sW ?_;exact bL<|bK (λz=>ab z) (aa λh=>by cases h.2).symm
 refine sW ?_;exact bL<|bK (λz=>ab z) (ae ⟨e,rfl⟩).symm
theorem zoe(h1:sort=2)(hk:¬k<=4):ar aj 48 [cQ name sort x k a b c f g,dG names]<|ab<|eQ names sort x k a b c f g:=by
 have hE:eQ names sort x k a b c f g=if kZ k a b c=0/\(yC k a b).any (gJ names false)=true then 4 else kZ k a b c:=by unfold eQ;rw[aa zo,ae h1]
 have hO:yC k a b=[a,b]:=by unfold yC;rw[aa hk]
 rw[hO] at hE;have mb:=F7 k a b c;have hA:=Pf k;rw[show decide (k<=4)=false by simpa using hk] at hA;have hF:=kY (λn=>ab n) (λ_=>by simp[Pure]) [a,b] zs (gJ names false) 95 [.aN [dG names],.aN [aF false]] (by simp[ao,Pure,oJ]) λn _=>rB names hn false n;refine bz fZ ?_;rw[hE];unfold cQ jF cm jf oF at *;refine sR ?_;rw[dz<|show sort≠1 by omega];refine sW ?_;rw[gG h1];refine sW ?_;refine sC mb ?_;refine sC hA ?_;refine sJ ?_;cases e:(kZ k a b c==0)
 ·refine sW ?_;exact bL<|bK (λz=>ab z) (aa λh=>by have:=h.1;simp[this] at e).symm
 have e:kZ k a b c=0:=by simpa using e
 refine sW ?_;refine sN hF ?_;cases e2:[a,b].any<|gJ names false
 ·refine sW ?_;exact bL<|bK (λz=>ab z) (aa λh=>by cases h.2).symm
 refine sW ?_;exact bL<|bK (λz=>ab z) (ae ⟨e,rfl⟩).symm
theorem zpM(h1:sort=3)(hv:Small f):ar aj 48 [cQ name sort x k a b c f g,dG names]<|ab<|eQ names sort x k a b c f g:=by
 have hE:eQ names sort x k a b c f g=if aV bD f=0 then (if dK names f then 0 else 4) else aV bD f:=by unfold eQ;rw[aa zo,aa zo,ae h1]
 have hR:=zs1 names hn f hv;have hF:=kY (λn=>ab n) (λ_=>by simp[Pure]) [] zs (gJ names false) 95 [.aN [dG names],.aN [aF false]] (by simp[ao,Pure,oJ]) λn _=>rB names hn false n;have hD:∃s,CH names f=.aJ [.sc (.string s),ab<|eQ names sort x k a b c f g]:=by
  rw[hE];unfold CH;split
  ·split
   ·exact⟨_,rfl⟩
   exact⟨_,rfl⟩
  exact⟨_,rfl⟩
 obtain⟨s,hD⟩:=hD;rw[hD] at hR;refine bz fZ ?_;generalize eQ names sort x k a b c f g=e at *;unfold cQ jF cm jf bx at *;refine sR ?_;rw[dz<|show sort≠1 by omega];refine sW ?_;rw[dz<|show sort≠2 by omega];refine sW ?_;rw[gG h1]
 skip
 skip
 refine sW ?_;refine sC hR ?_;cases e2:(e==0)
 ·refine sW ?_;exact .refl _
 refine sW ?_;refine sN hF ?_;exact .refl _
theorem zo6(h1:sort=4)(hv:Small g):ar aj 48 [cQ name sort x k a b c f g,dG names]<|ab<|eQ names sort x k a b c f g:=by
 have hE:eQ names sort x k a b c f g=if aV fX g=0 then (if dK names g then 0 else 4) else aV fX g:=by unfold eQ;rw[aa zo,aa zo,aa zo,ae h1]
 have hR:=zsT names hn g hv;have hF:=kY (λn=>ab n) (λ_=>by simp[Pure]) [] zs (gJ names false) 95 [.aN [dG names],.aN [aF false]] (by simp[ao,Pure,oJ]) λn _=>rB names hn false n;have hD:∃s,A5 names g=.aJ [.sc (.string s),ab<|eQ names sort x k a b c f g]:=by
  rw[hE];unfold A5;split
  ·split
   ·exact⟨_,rfl⟩
   exact⟨_,rfl⟩
  exact⟨_,rfl⟩
 obtain⟨s,hD⟩:=hD;rw[hD] at hR;refine bz fZ ?_;generalize eQ names sort x k a b c f g=e at *;unfold cQ jF cm jf bx at *;refine sR ?_;rw[dz<|show sort≠1 by omega];refine sW ?_;rw[dz<|show sort≠2 by omega];refine sW ?_;rw[dz<|show sort≠3 by omega];refine sW ?_;rw[gG h1];refine sW ?_;refine sC hR ?_;cases e2:(e==0)
 ·refine sW ?_;exact .refl _
 refine sW ?_;refine sN hF ?_;exact .refl _
theorem zug(h1:1<=sort/\sort<=4)(hf:Small f)(hg:Small g):ar aj 48 [cQ name sort x k a b c f g,dG names]<|ab<|eQ names sort x k a b c f g:=by
 by_cases s1:sort=1
 ·by_cases hk:x.kind=5\/x.kind=6
  ·by_cases e2:x.scope=2
   ·exact zmW names hn name sort x k a b c f g s1 hk e2
   by_cases e3:x.scope=3
   ·exact ZU names hn name sort x k a b c f g s1 hk e3
   by_cases e4:x.scope=4\/x.scope=5
   ·exact znn names hn name sort x k a b c f g s1 hk e4
   exact Pv names hn name sort x k a b c f g s1 hk zo
  by_cases e2:x.scope=2
  ·exact zmr names hn name sort x k a b c f g s1 zo e2
  by_cases e3:x.scope=3
  ·exact zn5 names hn name sort x k a b c f g s1 zo e3
  by_cases e4:x.scope=4\/x.scope=5
  ·exact zmR names hn name sort x k a b c f g s1 zo e4
  exact SH names hn name sort x k a b c f g s1 zo zo
 by_cases s2:sort=2
 ·by_cases hk:k<=4
  ·exact zmg names hn name sort x k a b c f g s2 hk
  exact zoe names hn name sort x k a b c f g s2 hk
 by_cases s3:sort=3
 ·exact zpM names hn name sort x k a b c f g s3 hf
 exact zo6 names hn name sort x k a b c f g zo hg
end
def c16:PC:=SO [Bx 2 0,Mv 4 K0] (.seq (SO [Fa 7 0 2,Lo 8 7,Ca 9 47 [8],Nt 10 9,qm 11 10,GF 12 11 (.gU 1 2),GF 13 11 (.fu 12),GF 14 11 (.bin .lss 13 K1),Pk 15 11 cT 14,qm 16 15,GF 17 16 (.gU 1 2),GF 18 16 (.fu 17),GF 19 16 (.bin .gtr 18 K4),Pk 20 16 cT 19]<|If 20<|SO [Mv 4 K1] .ret) (.seq (SO [LA 21 19 2,qm 22 1,Ca 23 48 [21,22],qm 5 23]<|SO [qm 24 5,Bi 25 .neq 24 K0]<|If 25<|SO [qm 26 5,qm 4 26] .ret)<|SO [Fa 27 1 2,Lo 28 27,Bi 29 .neq 28 K1,qm 30 29,GT 31 30 (.gU 2 2),GT 32 30 (.r8 7 31),GT 33 30 (.build [v0,v0,v0,v0,v0,v0,v0] []),GT 34 30 (.eqa true [0,0,0,0,0,0,0] 32 33),Pk 35 30 34 cF,qm 36 35,GF 37 36 (.gU 1 2),GF 38 36 (.fu 37),GF 39 36 (.bin .neq 38 K2),GF 40 36 (.move 39),GT 41 40 (.gU 9 2),GT 42 40 (.r8 4 41),GT 43 40 (.build [v0,v0,v0,v0] []),GT 44 40 (.eqa true [0,0,0,0] 42 43),GF 45 36 (.pick 40 44 cF),Pk 46 36 cT 45,qm 6 46]<|SO [qm 47 6,qm 48 47,GF 49 48 (.gU 1 2),GF 50 48 (.fu 49),GF 51 48 (.bin .neq 50 K3),GF 52 48 (.move 51),GT 53 52 (.gU 13 2),GT 54 52 (.gU 0 53),GT 55 52 (.fu 54),GT 56 52 (.bin .neq 55 K0),GT 57 52 (.move 56),GF 58 57 (.gU 13 2),GF 59 57 (.gU 1 58),GF 60 57 (.fu 59),GF 61 57 (.bin .neq 60 K0),GT 62 52 (.pick 57 cT 61),GT 63 52 (.move 62),GF 64 63 (.gU 13 2),GF 65 63 (.gU 2 64),GF 66 63 (.fu 65),GF 67 63 (.len 66),GF 68 63 (.bin .gtr 67 K0),GT 69 52 (.pick 63 cT 68),GF 70 48 (.pick 52 69 cF),Pk 71 48 cT 70,qm 6 71] (.seq (SO [qm 72 6,qm 73 72,GF 74 73 (.gU 1 2),GF 75 73 (.fu 74),GF 76 73 (.bin .neq 75 K4),GF 77 73 (.move 76),GT 78 77 (.gU 16 2),GT 79 77 (.gU 0 78),GT 80 77 (.fu 79),GT 81 77 (.bin .neq 80 K0),GT 82 77 (.move 81),GF 83 82 (.gU 16 2),GF 84 82 (.gU 1 83),GF 85 82 (.fu 84),GF 86 82 (.bin .neq 85 K0),GT 87 77 (.pick 82 cT 86),GT 88 77 (.move 87),GF 89 88 (.gU 16 2),GF 90 88 (.gU 2 89),GF 91 88 (.fu 90),GF 92 88 (.len 91),GF 93 88 (.bin .gtr 92 K0),GT 94 77 (.pick 88 cT 93),GF 95 73 (.pick 77 94 cF),Pk 96 73 cT 95]<|If 96<|SO [Mv 4 K1] .ret)<|SO [Mv 4 K0] .ret)))
theorem PY:pj aj 16 97 [.tmp 4] c16:=fK Tryz.func16
theorem HN(hn:pF names)(name:aM)(iu:name.size<=9223372036854775807)(sort:Int)(x:cc)(k a b c:Int)(f g:Tree)(hf:Small f)(hg:Small g) :
  ar aj 16 [cQ name sort x k a b c f g,dG names] (ab<|fL names name sort x k a b c f g):=by
 have hN:=zw name iu;refine bz PY ?_;have fin:∀{H:aB} {z:Int},z=fL names name sort x k a b c f g->Deep H (ab z) (ab<|fL names name sort x k a b c f g):=λh=>h▸.refl _;by_cases hs:1<=sort/\sort<=4
 ·have hP:=zug names hn name sort x k a b c f g hs hf hg;unfold cQ jF cm jf bx at *;refine sR ?_;refine sC hN ?_;cases e1:ic name
  ·refine sW ?_;exact fin<|by unfold fL;rw[ae (.inl e1)]
  refine sW ?_;rw[show decide (sort<1)=false from gx zo];refine sW ?_;rw[show decide (sort>4)=false from gx zo];refine sW ?_;refine sC hP ?_;refine sS (λe2=>?_) λe2=>?_
  ·have e2:eQ names sort x k a b c f g≠0:=(by simpa using e2);exact fin<|by unfold fL;rw[aa<|by rw[e1];simp;omega,ae e2]
  have e2:eQ names sort x k a b c f g=0:=(by simpa using e2);have hE:fL names name sort x k a b c f g=if Ie sort x k a b c f g=true then 1 else 0:=by unfold fL;rw[aa<|by rw[e1];simp;omega,aa<|by simp[e2]]
  rw[hE];clear fin hE hP hN e2 e1 hn iu;have h4:sort=1\/sort=2\/sort=3\/sort=4:=zo;clear hs;rcases h4 with rfl|rfl|rfl|rfl
  all_goals
   refine sW ?_
   repeat' (first
    |exact bL (bK (λz=>D.sc (.int .i64 z)) (by simp_all [Ie,uo,Tree.width]<;>(intros;omega)))
    |(split<;>(rename_i _ heq;(try rw[heq]);refine sW ?_))
    |(refine xa (λh=>?_) (λh=>?_)<;>((try rw[h]);refine sW ?_)))
 have hE:fL names name sort x k a b c f g=1:=by unfold fL;rw[ae zo]
 unfold cQ jF cm jf bx at *;refine sR ?_;refine sC hN ?_;cases e1:ic name
 ·refine sW ?_;exact fin hE.symm
 refine sW ?_;cases e2:decide (sort<1)
 ·refine sW ?_;rw[show decide (sort>4)=true from gb<|by have:=of_decide_eq_false e2;omega];refine sW ?_;exact fin hE.symm
 refine sW ?_;exact fin hE.symm
theorem zmS(hn:pF names)(name:aM)(iu:name.size<=9223372036854775807)(x:cc)(hx:x.scope=1) :
  ar aj 16 [cQ name 1 x 0 0 0 0 (bd 0 0)<|bd 0 0,dG names] (ab<|fL names name 1 x 0 0 0 0 (bd 0 0)<|bd 0 0):=by
 have hN:=zw name iu;refine bz PY ?_;have fin:∀{H:aB} {z:Int},z=fL names name 1 x 0 0 0 0 (bd 0 0) (bd 0 0)->Deep H (ab z) (ab<|fL names name 1 x 0 0 0 0 (bd 0 0)<|bd 0 0):=λh=>h▸.refl _;have hP:ar aj 48 [cQ name 1 x 0 0 0 0 (bd 0 0)<|bd 0 0,dG names]<|ab<|eQ names 1 x 0 0 0 0 (bd 0 0)<|bd 0 0:=by
  by_cases hk:x.kind=5\/x.kind=6
  ·exact Pv names hn name 1 x 0 0 0 0 _ _ rfl hk zo
  exact SH names hn name 1 x 0 0 0 0 _ _ rfl zo zo
 have hB:Ie 1 x 0 0 0 0 (bd 0 0) (bd 0 0)=false:=rfl;unfold cQ jF cm jf bx at *;refine sR ?_;refine sC hN ?_;cases e1:ic name
 ·refine sW ?_;exact fin<|by unfold fL;rw[ae (.inl e1)]
 refine sW ?_;refine sC hP ?_;refine sS (λe2=>?_) λe2=>?_
 ·have e2:eQ names 1 x 0 0 0 0 (bd 0 0) (bd 0 0)≠0:=(by simpa using e2);exact fin<|by unfold fL;rw[aa<|by rw[e1];simp,ae e2]
 have e2:eQ names 1 x 0 0 0 0 (bd 0 0) (bd 0 0)=0:=by simpa using e2
 exact fin<|by unfold fL;rw[aa<|by rw[e1];simp,aa<|by simp[e2],hB];rfl
theorem Yf(name:aM)(x:cc)(f g:Tree)(k a b c:Int):ar aj 6 [cQ name 1 x k a b c f g]<|oe (gW 1 x k a b c f)<|cz 1 x k a b c f:=by
 refine bz fZ ?_;have e:gW 1 x k a b c f=qt x:=rfl;have t:cz 1 x k a b c f=gI x:=rfl;rw[e,t];refine sR ?_;refine sC (S4 x) ?_;exact .refl _
def jc(h:Bool)(s l:af):D:=.agg [aF h,aL s,aL l]
@[simp] theorem zA9(h:Bool)(s l:af):Pure<|jc h s l:=by simp[jc,Pure,ao,c9]
theorem zpk(h:k<P.nodes.length):List.drop 0 (List.take k<|((P.nodes.take k).map λx=>x.1).map λs=>[D.sc (.string s)])++[[D.sc (.string<|P.name k)]]=((P.nodes.take<|k+1).map λx=>x.1).map λs=>[D.sc (.string s)]:=by
 rw[dt<|by simp;omega,ld,aG h];unfold ah.name;rw[ay,aG h];simp only[mq,dR,gP,A3,pe]
def iG(P:ah):List aM:=P.nodes.map λx=>x.1
theorem Hu(P:ah)(hP:P.nodes.length<=1000000):ar aj 17 [cH P]<|dG<|iG P:=by
 refine bV ?_;rw[aS];refine dk (iF 3 1 zs rfl) ?_;refine bT [7,8] (λk:Nat=>[(3,.own 1 k 0 k),(9,ab k)]) (λk=>[(1,.vec true k 1<|((P.nodes.take k).map λx=>x.1).map λs=>[.sc (.string s)])]) (λk=>k<=P.nodes.length) (λk=>P.nodes.length-k) 0 ?_;refine gp ?_;rintro k hk;refine bl (λh=>?_) λh=>?_
 ·have au:k<P.nodes.length:=sO;refine sL (xr P (k:=k) zo au) ?_;refine sJI ?_;refine⟨k+1,zo,zd,?_⟩;refine br 2 zs rfl sQ (sU ?_);exact bM<|zpk au
 have au:k=P.nodes.length:=by have:¬k<P.nodes.length:=sO
                              omega
 subst au;refine .own _ _ _ _ _ _ _ _ rfl ?_;rw[dt zs,gz];exact fW _
theorem PO(of:List bb)(hof:of.length<=1000000)(l:af)(hl:l.length<=1000000000000)(bg:bq l of.length):ar aj 20 [nD of,aL l]<|aL<|l.map λn=>(of.getD n.toNat (0,0)).1:=by
 refine bz fZ ?_;unfold nD aL;refine sR ?_;rw[aS];refine dk (iF 5 1 zs rfl) ?_;refine bT [0,8,9] (λk:Nat=>[(5,.own 0 k 0 k),(10,ab k)]) (λk=>[(0,.vec true k 1<|aE<|(l.take k).map λn=>(of.getD n.toNat (0,0)).1)]) (λk=>k<=l.length) (λk=>l.length-k) 0 ?_;refine gp ?_;rintro k hk;refine bl (λh=>?_) λh=>?_
 ·have au:k<l.length:=sO;have hx:=dn bg<|fV au;refine sL (eY (k:=k) zo au) ?_;refine sL (ur (k:=(l.getD k 0).toNat) zo zo) ?_;refine sJI ?_;refine⟨k+1,zo,zd,?_⟩;refine br 1 zs rfl sQ (sU ?_);refine bM<|(tS<|by simp;omega).trans ?_;have e:l.getD k 0=l[k]:=(by rw[ay,aG au];rfl);rw[ld,aG au,e,mq];rfl
 have au:k=l.length:=by have:¬k<l.length:=sO
                        omega
 subst au;rw[gz];exact AV zs rfl
section
variable(P:ah)(tok st:Int)(name:aM)(sort:Int)(x:cc)(k a b c:Int)(f g:Tree)
noncomputable def fG(l:af):af:=l.map λn=>((dr (P.bX tok st) (P.bX tok st).length).getD n.toNat (0,0)).1
end
theorem Ft{e:Int}:Deep H (.aJ [.agg [aF false,bC,bC],ab e]) (.aJ [jc false [] [],ab e]) :=
 .aJ _ _ (.cons _ _ _ _ (.agg _ _ (.cons _ _ _ _ (.refl _) (.cons _ _ _ _ (.none _) (.cons _ _ _ _ (.none _) .nil)))) (.cons _ _ _ _ (.refl _) .nil))
section
variable{P:ah}(hP:P.Fits){tok st:Int}{name:aM}(iu:name.size<=9223372036854775807){sort:Int}{x:cc}{k a b c:Int}{f g:Tree}(hf:Small f)(hg:Small g)
include hP in
theorem zzv(h1:P.eZ tok st≠0):ar aj 5 [cH P,cQ name sort x k a b c f g,ab tok,ab st] (.aJ [jc false [] [],ab<|P.eZ tok st]):=by
 have hR:=YD P hP tok st h1;refine bz fZ ?_;generalize P.eZ tok st=e at *;unfold cH ah.cells x6 at *;refine sR ?_;refine sC hR ?_;refine sS (λh=>?_) λh=>?_
 ·exact Ft
 exfalso;exact sO
include hP in
theorem zz7(h1:P.eZ tok st=0)(h2:¬bm (P.bX tok st) (P.bX tok st).length<=600):ar aj 5 [cH P,cQ name sort x k a b c f g,ab tok,ab st] (.aJ [jc false [] [],ab 2]):=by
 have hR:=DI P hP tok st h1<|oU h1;rw[aa h2] at hR;refine bz fZ ?_;unfold cH ah.cells x6 at *;refine sR ?_;refine sC hR ?_;exact Ft
theorem N8(h:gW sort x k a b c f=0):aV bD (cz sort x k a b c f)=0:=by
 unfold gW at h;unfold cz;split at h
 ·rename_i h1;rw[ae h1];unfold qt at h;split at h
  ·exact h
  rename_i q;exact absurd h q
 rename_i h1;rw[aa h1];split at h
 ·rename_i h2;rw[ae h2];unfold CV at h;split at h
  ·exact h
  rename_i q;exact absurd h q
 rename_i h2;rw[aa h2];split at h
 ·exact h
 cases h
include hP in
theorem zxk(hC:ar aj 16 [cQ name sort x k a b c f g,dG<|iG P]<|ab<|fL (iG P) name sort x k a b c f g)(h1:P.eZ tok st=0)(h2:bm (P.bX tok st) (P.bX tok st).length<=600)(h3:fL (iG P) name sort x k a b c f g≠0):ar aj 5 [cH P,cQ name sort x k a b c f g,ab tok,ab st] (.aJ [jc false [] [],ab<|fL (iG P) name sort x k a b c f g]):=by
 have hR:=DI P hP tok st h1<|oU h1;rw[ae h2,<-Jy] at hR;have hc:=ah.lY (oU h1).steps;have I5:=(ky hc.1).1;have vT:=Hu P zo;generalize fL (iG P) name sort x k a b c f g=e at *;refine bz fZ ?_;unfold cH ah.cells cQ jF cm jf bx jQ ba.cells at *;refine sR ?_;refine sC hR ?_;refine sC vT ?_;refine sC hC ?_;refine sS (λh=>?_) λh=>?_
 ·exact Ft
 exfalso;exact sO
include hP in
theorem zw1(hC:ar aj 16 [cQ name sort x k a b c f g,dG<|iG P]<|ab<|fL (iG P) name sort x k a b c f g)(hM:ar aj 6 [cQ name sort x k a b c f g]<|oe (gW sort x k a b c f)<|cz sort x k a b c f)(h1:P.eZ tok st=0)(h2:bm (P.bX tok st) (P.bX tok st).length<=600)(h4:sort≠4)(h3:fL (iG P) name sort x k a b c f g=0)(h5:gW sort x k a b c f≠0) :
  ar aj 5 [cH P,cQ name sort x k a b c f g,ab tok,ab st] (.aJ [jc false [] [],ab<|gW sort x k a b c f]):=by
 have hR:=DI P hP tok st h1<|oU h1;rw[ae h2,<-Jy] at hR;have hc:=ah.lY (oU h1).steps;have I5:=(ky hc.1).1;have vT:=Hu P zo;rw[h3] at hC;unfold oe at hM;rw[aa h5] at hM;generalize gW sort x k a b c f=e at *;refine bz fZ ?_;unfold cH ah.cells cQ jF cm jf bx jQ ba.cells at *;refine sR ?_;refine sC hR ?_;refine sC vT ?_;refine sC hC ?_;rw[dz h4];refine sW ?_;refine sC hM ?_;refine sS (λh=>?_) λh=>?_
 ·exact Ft
 exfalso;exact sO
include hP hf in
theorem RE(hC:ar aj 16 [cQ name sort x k a b c f g,dG<|iG P]<|ab<|fL (iG P) name sort x k a b c f g)(hM:ar aj 6 [cQ name sort x k a b c f g]<|oe (gW sort x k a b c f)<|cz sort x k a b c f)(h1:P.eZ tok st=0)(h2:bm (P.bX tok st) (P.bX tok st).length<=600)(h4:sort≠4)(h3:fL (iG P) name sort x k a b c f g=0)(h5:gW sort x k a b c f=0) :
  ∃s l,ar aj 5 [cH P,cQ name sort x k a b c f g,ab tok,ab st]
   (.aJ [jc (decide (fS (cz sort x k a b c f)=0)&&!(eK (cC P tok st)<|b6<|cz sort x k a b c f)) (fG P tok st s)<|fG P tok st l,ab<|fS<|cz sort x k a b c f]) /\
   (fS (cz sort x k a b c f)=0->eK (cC P tok st) (b6<|cz sort x k a b c f)->oh (cC P tok st) (b6<|cz sort x k a b c f) (bH (cC P tok st)<|b6<|cz sort x k a b c f).1 (bH (cC P tok st)<|b6<|cz sort x k a b c f).2 (fA (cC P tok st)<|b6<|cz sort x k a b c f).2=.aJ [.agg [aL s,aL l],aF<|eK (cC P tok st)<|b6<|cz sort x k a b c f,ab 0]) /\
   (¬(fS (cz sort x k a b c f)=0/\eK (cC P tok st) (b6<|cz sort x k a b c f))->s=[]/\l=[]):=by
 have hR:=DI P hP tok st h1<|oU h1;rw[ae h2,<-Jy] at hR;have hW:=Bp h1 h2;have hc:=ah.lY (oU h1).steps;have I5:=(ky hc.1).1;have vT:=Hu P zo;rw[h3] at hC;unfold oe at hM;rw[ae h5,h5] at hM;have DB:=N8 h5;obtain⟨s,l,hH,tF,pd⟩:=zuY (cC P tok st) hW.fits hW.start hW.rows (cz sort x k a b c f)<|OF _ _ _ _ _ _ _ hf;rw[aa<|by simpa using hW.aV,aa<|by simpa using DB] at hH;have hd:decide ((cC P tok st).aV=0/\aV bD (cz sort x k a b c f)=0/\fS (cz sort x k a b c f)=0)=decide (fS (cz sort x k a b c f)=0):=by rw[decide_eq_decide];exact⟨λh=>h.2.2,λh=>⟨hW.aV,DB,h⟩⟩
 rw[hd] at hH;refine⟨s,l,?_,λq q2=>tF hW.aV DB q,λq=>pd λq2=>q q2.2.2⟩
 have bg:fS (cz sort x k a b c f)=0->eK (cC P tok st) (b6<|cz sort x k a b c f)->bq s (cC P tok st).next.length/\bq l (cC P tok st).next.length/\s.length<=1000000000/\l.length<=1000000000:=λq q2 =>
  Oz (xq hW.fits hW.aV hW.start hW.rows q) q2 (tF hW.aV DB q)
 have qV:(dr (P.bX tok st) (P.bX tok st).length).length=(cC P tok st).next.length:=by rw[zi];exact(Hp _).symm
 have b7:¬(fS (cz sort x k a b c f)=0/\eK (cC P tok st) (b6<|cz sort x k a b c f))->s=[]/\l=[]:=λq=>pd λq2=>q q2.2.2;have v7:(dr (P.bX tok st) (P.bX tok st).length).length<=600:=h2;unfold fG;clear tF pd hd hW DB h3 h5;generalize dr (P.bX tok st) (P.bX tok st).length=of at *;generalize cC P tok st=W at *;generalize cz sort x k a b c f=T at *;generalize hA:eK W (b6 T)=A at *;generalize fS T=e at *;refine bz fZ ?_;unfold cH ah.cells cQ jF cm jf bx jQ ba.cells at *;by_cases he:e=0
 ·subst he;cases A
  ·obtain⟨rfl,rfl⟩:=b7 zs;refine sR ?_;refine sC hR ?_;refine sC vT ?_;refine sC hC ?_;rw[dz h4];refine sW ?_;refine sC hM ?_;refine sC hH ?_;exact .aJ _ _ (.cons _ _ _ _ (.agg _ _ (.cons _ _ _ _ (.refl _) (.cons _ _ _ _ (.none _) (.cons _ _ _ _ (.none _) .nil)))) (.cons _ _ _ _ (.refl _) .nil))
  obtain⟨i1,i2,i3,i4⟩:=bg rfl rfl;have Ff:=PO of zo s zo (by rw[qV];exact i1);have EL:=PO of zo l zo (by rw[qV];exact i2);refine sR ?_;refine sC hR ?_;refine sC vT ?_;refine sC hC ?_;rw[dz h4];refine sW ?_;refine sC hM ?_;refine sC hH ?_;refine sC Ff ?_;refine sC EL ?_;exact .refl _
 obtain⟨rfl,rfl⟩:=b7 λq=>he q.1;refine sR ?_;refine sC hR ?_;refine sC vT ?_;refine sC hC ?_;rw[dz h4];refine sW ?_;refine sC hM ?_;refine sC hH ?_;rw[show(e != 0)=true by simpa using he];refine sW ?_;rw[gx he];exact .aJ _ _ (.cons _ _ _ _ (.agg _ _ (.cons _ _ _ _ (.refl _) (.cons _ _ _ _ (.none _) (.cons _ _ _ _ (.none _) .nil)))) (.cons _ _ _ _ (.refl _) .nil))
end
def FB(x:cc):D:=cQ ⟨#[114]⟩ 1 x 0 0 0 0 (bd 0 0)<|bd 0 0
def c14:PC:=SO [q 12 (.alloc [vS,v0,v0,v0,v0,v0,v0,v0,v0,v0,v0,v0,v0,v0,v0,vN,v0,v0,vN])]<|SO [qm 13 0,qm 14 1,qm 15 2,qm 16 3,qm 17 4,qm 18 5,q 19 (.build [v0,v0,v0,v0,v0,v0,v0] [(0,1,13),(1,1,14),(2,1,15),(3,1,16),(4,1,17),(5,1,18)]),q 20 (.build [vS,v0,v0,v0,v0,v0,v0,v0,v0,v0,v0,v0,v0,v0,v0,vN,v0,v0,vN] [(0,1,(cS #[114])),(1,1,K1),(2,7,19)]),So 19 12 20] .ret
theorem U9(a b c d e f:Int):ar aj 14 [ab a,ab b,ab c,ab d,ab e,ab f]<|FB ⟨a,b,c,d,e,f,0⟩:=by
 refine fi (fJ 21 [.agg 12 19] c14 Tryz.func14) zs (by simp[ao,Pure]) ?_<|zoG _ _ _ _ _ _ _ _ _;unfold FB cQ jF cm jf bx;refine sR ?_;exact sP
theorem zCi:Small<|bd 0 0:=zpC
variable{st:Int}
theorem FP(hP:P.Fits)(h1:P.eZ tok st=0):pF<|iG P:=by
 have hc:=ah.lY (oU h1).steps;have I5:=(ky hc.1).1;exact⟨by simp[iG];omega,λs hs=>by obtain⟨z,hz,rfl⟩:=cU.1 hs;exact hP.name z hz⟩
theorem zBY(hP:P.Fits){x:cc}(hx:x.scope=1)(h1:P.eZ tok st=0)(h2:bm (P.bX tok st) (P.bX tok st).length<=600)(he:qt x=0)
  (hr:fL (iG P) ⟨#[114]⟩ 1 x 0 0 0 0 (bd 0 0) (bd 0 0)=0) (hn:fS (gI x)=0) :
  ∃s l,ar aj 5 [cH P,FB x,ab tok,ab st] (.aJ [jc (!(eK (cC P tok st)<|b6<|gI x)) (fG P tok st s)<|fG P tok st l,ab 0]) /\
   (eK (cC P tok st) (b6<|gI x)=true->oh (cC P tok st) (b6<|gI x) (bH (cC P tok st)<|b6<|gI x).1 (bH (cC P tok st)<|b6<|gI x).2 (fA (cC P tok st)<|b6<|gI x).2=.aJ [.agg [aL s,aL l],aF<|eK (cC P tok st)<|b6<|gI x,ab 0]):=by
 have e:cz 1 x 0 0 0 0 (bd 0 0)=gI x:=rfl;obtain⟨s,l,k1,k2,_⟩:=RE hP (tok:=tok) (st:=st) (name:=⟨#[114]⟩) (sort:=1) (x:=x) (k:=0) (a:=0) (b:=0) (c:=0) (f:=bd 0 0) (g:=bd 0 0) zCi (zmS _ (FP hP h1) _ zc x hx) (Yf _ x _ _ _ _ _ _) h1 h2 zc hr (by unfold gW;rw[ae rfl];exact he);rw[e,hn] at k1;rw[e] at k2;exact⟨s,l,by simpa [FB] using k1,k2 hn⟩
def c13:PC:=SO [q 0 (.alloc [vN,vN])]<|SO [q 5 (.call 40 [(cS #[115,116,97,114,116,32,97,10,116,97,115,107,32,98,10,120,111,114,32,120,10,116,97,115,107,32,99,10,101,110,100,32,101,10,102,108,111,119,32,97,32,98,10,102,108,111,119,32,98,32,120,10,102,108,111,119,32,120,32,98,10,102,108,111,119,32,120,32,99,10,102,108,111,119,32,99,32,101,10])]),qm 4 5,Xt 6 0 4,Xt 7 1 4,Xt 8 2 4,q 1 (.alloc [vN,vN]),So 2 1 6,qm 2 7,qm 3 8]<|SO [LA 9 2 1,So 2 0 9] .ret
theorem Ve:ar aj 13 []<|cH cx:=by
 have hR:=zpA twT zc;rw[zyd] at hR;refine bz (fJ 10 [.agg 0 2] c13 Tryz.func13) ?_;unfold Jq cH ah.cells at *;refine sR ?_;refine sC hR ?_;exact .refl _
theorem zuK:cx.Fits:=⟨zc,zc,zc⟩
theorem S3(hx:x.scope=1)(he:qt x=0)(hr:fL [⟨#[97]⟩,⟨#[98]⟩,⟨#[120]⟩,⟨#[99]⟩,⟨#[101]⟩] ⟨#[114]⟩ 1 x 0 0 0 0 (bd 0 0) (bd 0 0)=0)(hn:fS (gI x)=0) :
  ∃s l,ar aj 5 [cH cx,FB x,ab 1,ab 20] (.aJ [jc (!(eK (cC cx 1 20)<|b6<|gI x)) s l,ab 0])/\(eK (cC cx 1 20) (b6<|gI x)=true->0<l.length):=by
 obtain⟨s,l,h1,h2⟩:=zBY (P:=cx) zuK (tok:=1) (st:=20) hx Iu.1 PG he hr hn;refine⟨fG cx 1 20 s,fG cx 1 20 l,h1,λha=>?_⟩;have hb:=xq CD.fits CD.aV CD.start CD.rows hn;have:=Ym hb ha<|h2 ha;unfold fG;rw[aS];exact AF.2 this
theorem MT:ar aj 4 []<|tc true:=by
 obtain⟨s1,l1,h1,_⟩:=S3 twX rfl VF zDj SK;obtain⟨s2,l2,h2,k2⟩:=S3 twY rfl XC zDX Pq;rw[ZR] at h1;rw[WV] at h2;have k2:=k2 WV;have hX:=U9 5 1 3 1 0 0;have hY:=U9 3 1 3 0 0 0;refine bz fZ ?_;unfold jc aL at *;refine sR ?_;refine sC Ve ?_;refine sC hX ?_;refine sC h1 ?_;refine sC Ve ?_;refine sC hY ?_;refine sC h2 ?_;rw[aS];exact bL<|bK (λb=>aF b)<|gb zo
section
variable{P:ah}(hP:P.Fits){tok st:Int}{name:aM}{sort:Int}{x:cc}{k a b c:Int}{f g:Tree}(hg:Small g)
theorem zvI{names:List aM}(h:fL names name 4 x k a b c f g=0):aV fX g=0:=by
 unfold fL at h;split at h
 ·cases h
 split at h
 ·rename_i q;exact absurd h q
 rename_i q;have q:=Classical.not_not.1 q;unfold eQ at q;rw[aa zc,aa zc,aa zc,ae rfl] at q;split at q
 ·assumption
 exact q
include hP hg in
theorem zy4(hC:ar aj 16 [cQ name sort x k a b c f g,dG<|iG P]<|ab<|fL (iG P) name sort x k a b c f g)(h1:P.eZ tok st=0)(h2:bm (P.bX tok st) (P.bX tok st).length<=600)(h4:sort=4)(h3:fL (iG P) name sort x k a b c f g=0) :
  ar aj 5 [cH P,cQ name sort x k a b c f g,ab tok,ab st] (.aJ [jc ((cC P tok st).start.all λn=>pb (cC P tok st) g n.toNat) [] [],ab 0]):=by
 have hR:=DI P hP tok st h1<|oU h1;rw[ae h2,<-Jy] at hR;have hW:=Bp h1 h2;have hc:=ah.lY (oU h1).steps;have I5:=(ky hc.1).1;have vT:=Hu P zo;rw[h3] at hC;subst h4;have hL:=Yu (cC P tok st) hW.fits hW.Ev g hg hW.aV<|zvI h3;obtain⟨w1,w2,w3,w4,w5,w6⟩:=vy _ hW.aV;have pZ:=hW.start;clear hW h3;generalize cC P tok st=W at *;refine bz fZ ?_;generalize hb:(W.start.all λn=>pb W g n.toNat)=B;unfold cH ah.cells cQ jF cm jf bx jQ ba.cells at *;refine sR ?_;refine sC hR ?_;refine sC vT ?_;refine sC hC ?_;refine sC hL ?_;rw[aS];refine bT [8,14,56,57] (λi:Nat=>[(58,ab i)]) (λ_=>[]) (λi=>i<=W.start.length/\∀j,j<i->pb W g (W.start.getD j 0).toNat=true) (λi=>W.start.length-i) 0 ?_;refine sW ?_;refine⟨⟨zo,λj hj=>zo⟩,by exact sK,rfl,?_⟩;rintro i ⟨hi,dg⟩;refine bl (λh=>?_) λh=>?_
 ·have bu:i<W.start.length:=sO;have hx:=dn w4<|fV bu;refine sL (eY (k:=i) zo bu) ?_;refine sL (cX (W.start.getD i 0).toNat zo zo) ?_;cases r:pb W g (W.start.getD i 0).toNat
  ·refine sW ?_;have:B=false:=by rw[<-hb,List.all_eq_false];exact⟨_,fV bu,by rw[r];simp⟩
   rw[this];exact Ft
  refine bJ ?_;refine⟨i+1,⟨zo,λj hj=>?_⟩,zd,bf (by exact sK) rfl⟩;by_cases e:j=i
  ·subst e;exact r
  exact dg j zo
 have bu:i=W.start.length:=by have:¬i<W.start.length:=sO
                              omega
 subst bu;have:B:=by
  rw[<-hb,kv];intro y hy;obtain⟨j,hj,rfl⟩:=xd hy;exact dg j hj
 rw[this];exact .aJ _ _ (.cons _ _ _ _ (.agg _ _ (.cons _ _ _ _ (.refl _) (.cons _ _ _ _ (.none _) (.cons _ _ _ _ (.none _) .nil)))) (.cons _ _ _ _ (.refl _) .nil))
end
section
variable(P:ah)(tok st:Int)(name:aM)(sort:Int)(x:cc)(k a b c:Int)(f g:Tree)
noncomputable def jE:Int :=
 if P.eZ tok st≠0 then P.eZ tok st else if ¬bm (P.bX tok st) (P.bX tok st).length<=600 then 2
 else if fL (iG P) name sort x k a b c f g≠0 then fL (iG P) name sort x k a b c f g
 else if sort=4 then 0 else if gW sort x k a b c f≠0 then gW sort x k a b c f else fS<|cz sort x k a b c f
noncomputable def jB:Bool :=
 decide (jE P tok st name sort x k a b c f g=0)&&if sort=4 then (cC P tok st).start.all λn=>pb (cC P tok st) g n.toNat else !(eK (cC P tok st)<|b6<|cz sort x k a b c f)
end
section
variable{P:ah}(hP:P.Fits){tok st:Int}{name:aM}(iu:name.size<=9223372036854775807){sort:Int}{x:cc}{k a b c:Int}{f g:Tree}(hf:Small f)(hg:Small g)
include hP iu hf hg in
theorem zyV(h1:P.eZ tok st=0)(h2:bm (P.bX tok st) (P.bX tok st).length<=600)(h3:fL (iG P) name sort x k a b c f g≠0):ar aj 5 [cH P,cQ name sort x k a b c f g,ab tok,ab st] (.aJ [jc false [] [],ab<|fL (iG P) name sort x k a b c f g]) :=
 zxk hP (HN (iG P) (FP hP h1) name iu sort x k a b c f g hf hg) h1 h2 h3
include hP iu hf hg in
theorem zBi(h1:P.eZ tok st=0)(h2:bm (P.bX tok st) (P.bX tok st).length<=600)(h4:sort=4)(h3:fL (iG P) name sort x k a b c f g=0) :
  ar aj 5 [cH P,cQ name sort x k a b c f g,ab tok,ab st] (.aJ [jc ((cC P tok st).start.all λn=>pb (cC P tok st) g n.toNat) [] [],ab 0]) :=
 zy4 hP hg (HN (iG P) (FP hP h1) name iu sort x k a b c f g hf hg) h1 h2 h4 h3
include hP iu hf hg in
theorem zzh(h1:P.eZ tok st=0)(h2:bm (P.bX tok st) (P.bX tok st).length<=600)(h4:sort≠4)(h3:fL (iG P) name sort x k a b c f g=0)(h5:gW sort x k a b c f≠0) :
  ar aj 5 [cH P,cQ name sort x k a b c f g,ab tok,ab st] (.aJ [jc false [] [],ab<|gW sort x k a b c f]) :=
 zw1 hP (HN (iG P) (FP hP h1) name iu sort x k a b c f g hf hg) (HJ name sort x k a b c f g hf) h1 h2 h4 h3 h5
include hP iu hf hg in
theorem zBl(h1:P.eZ tok st=0)(h2:bm (P.bX tok st) (P.bX tok st).length<=600)(h4:sort≠4)(h3:fL (iG P) name sort x k a b c f g=0)(h5:gW sort x k a b c f=0) :
  ∃s l,ar aj 5 [cH P,cQ name sort x k a b c f g,ab tok,ab st]
   (.aJ [jc (decide (fS (cz sort x k a b c f)=0)&&!(eK (cC P tok st)<|b6<|cz sort x k a b c f)) (fG P tok st s)<|fG P tok st l,ab<|fS<|cz sort x k a b c f]) /\
   (fS (cz sort x k a b c f)=0->eK (cC P tok st) (b6<|cz sort x k a b c f)->oh (cC P tok st) (b6<|cz sort x k a b c f) (bH (cC P tok st)<|b6<|cz sort x k a b c f).1 (bH (cC P tok st)<|b6<|cz sort x k a b c f).2 (fA (cC P tok st)<|b6<|cz sort x k a b c f).2=.aJ [.agg [aL s,aL l],aF<|eK (cC P tok st)<|b6<|cz sort x k a b c f,ab 0]) /\
   (¬(fS (cz sort x k a b c f)=0/\eK (cC P tok st) (b6<|cz sort x k a b c f))->s=[]/\l=[]) :=
 RE hP hf (HN (iG P) (FP hP h1) name iu sort x k a b c f g hf hg) (HJ name sort x k a b c f g hf) h1 h2 h4 h3 h5
include hP iu hf hg in
end
namespace ah
noncomputable def gr(P:ah)(l:af):Nat->af
 |0=>P.jd
 |i+1=>if l.getD i 0=-1 then P.gr l i else P.cR (P.gr l i)<|l.getD i 0
open Classical in
noncomputable def gL(P:ah)(l:af)(i:Nat):Int :=
 if l.getD i 0=-1 then (if P.cD (P.gr l i)=[] then 0 else 9) else P.gH (P.gr l i)<|l.getD i 0
noncomputable def nw(P:ah)(l:af):Nat->ak
 |0=>[P.gr l 0]
 |i+1=>P.nw l i++[P.gr l<|i+1]
theorem Ad(P:ah)(l:af):∀i,(P.nw l i).length=i+1
 |0=>rfl
 |i+1=>by simp[nw,Ad P l i]
theorem MX(P:ah)(l:af){k:Nat}:∀{i:Nat},k<=i->(P.nw l i).getD k []=P.gr l k
 |0,h=>by rw[show k=0 by omega];rfl
 |i+1,h=>by
  simp only[nw];by_cases e:k=i+1
  ·subst e;rw[ay,fc<|by rw[Ad];omega,Ad,mE];rfl
  rw[ay,dJ<|by rw[Ad];omega,<-ay];exact MX P l zo
theorem Ha{P:ah}{l:af}(h:P.dp=0):∀i,(∀j,j<i->P.gL l j=0)->P.jT (P.gr l i)=true
 |0,_=>MN h
 |i+1,hz=>by
  have ih:=Ha h i λj hj=>hz j zo;have hi:=hz i zo;unfold gL at hi;simp only[gr];split
  ·exact ih
  rename_i q;rw[aa q] at hi;obtain⟨_,_,_,a,b,c⟩:=V5 hi;rw[c];exact RB ih a b
theorem LB(h:P.dp=0)(hz:∀j,j<i->P.gL l j=0):(P.gr l i).length<=30:=by
 have h1:=(jX<|Ha h i hz).len;have h2:=(ky (lY h).1).2;omega
noncomputable def mS(P:ah)(ax loop:af)(n:Nat):Int :=
 if P.dp≠0 then P.dp else if loop.length=0 then 1 else if 60000<ax.length+loop.length then 2
 else if n≠ax.length+loop.length then P.gL (ax++loop) n
 else if P.gr (ax++loop) ax.length=P.gr (ax++loop) (ax.length+loop.length) then 0 else 9
noncomputable def zV(P:ah)(ax loop:af)(n:Nat):ak:=if P.mS ax loop n=0 then P.nw (ax++loop)<|ax.length+loop.length else []
def seg(ax loop:af):Nat->af
 |0=>ax
 |_=>loop
def off(ax loop:af):Nat->Nat
 |0=>0
 |1=>ax.length
 |_=>ax.length+loop.length
theorem zwu{ax loop:af}(h:j<2):off ax loop (j+1)=off ax loop j+(seg ax loop j).length:=by
 rcases j with _|_|j
 ·simp[off,seg]
 ·simp[off,seg]
 omega
theorem X2{ax loop:af}(h:j<2)(hk:k<(seg ax loop j).length):(ax++loop).getD (off ax loop j+k) 0=(seg ax loop j).getD k 0:=by
 rcases j with _|_|j
 ·simp only[off,seg,jP] at hk⊢;rw[ay,ay,dJ hk]
 ·simp only[off,seg,jP] at hk⊢;rw[ay,ay,fc zo,vI]
 omega
theorem zCk(ax loop:af)(j:Nat):off ax loop j<=ax.length+loop.length:=by
 rcases j with _|_|j<;>simp[off]
end ah
section
open Classical in
noncomputable def Eh(P:ah)(M:af)(k:Int):Int:=if k=-1 then (if P.cD M=[] then 0 else 9) else P.gH M k
open Classical in
noncomputable def EV(P:ah)(M:af)(k:Int):af:=if k=-1 then (if P.cD M=[] then M else []) else P.cR M k
theorem Z3(P:ah)(l:af)(i:Nat):P.gL l i=Eh P (P.gr l i) (l.getD i 0):=by unfold ah.gL Eh;rfl
theorem zvM(h:P.gL l i=0):P.gr l (i+1)=EV P (P.gr l i) (l.getD i 0):=by
 unfold ah.gL at h;unfold EV;simp only[ah.gr];split
 ·rename_i q;rw[ae q] at h;split at h
  ·rename_i q2;rw[ae q2]
  cases h
 rfl
variable(P:ah)
theorem Zw(hP:P.Fits)(M:af)(hM:M.length<=1000)(k:Int):ar aj 59 [cH P,aL M,ab k] (.aJ [aL<|EV P M k,ab<|Eh P M k]):=by
 have eE:Eh P M k=if k=-1 then (if P.cD M=[] then 0 else 9) else P.gH M k:=by unfold Eh;rfl
 have eL:EV P M k=if k=-1 then (if P.cD M=[] then M else []) else P.cR M k:=by unfold EV;rfl
 refine bz fZ ?_;refine sRS (λh1=>?_) λh1=>?_
 ·have h1:k≠-1:=sO;rw[aa h1] at eE eL;refine sC (Qf P hP M zo k) ?_;rw[eE,eL];exact .refl _
 have h1:k=-1:=sO;rw[ae h1] at eE eL;refine sC (LL P hP M zo) ?_;rw[aS];refine sS (λh2=>?_) λh2=>?_
 ·have h2:0<(P.cD M).length:=sO;have b7:P.cD M≠[]:=λe=>by rw[e] at h2;simp at h2
  rw[aa b7] at eE eL;rw[eE,eL];exact .aJ _ _ (.cons _ _ _ _ (.none _) (.cons _ _ _ _ (.refl _) .nil))
 have h2:(P.cD M).length=0:=sO;have b7:P.cD M=[]:=nh.1 h2;rw[ae b7] at eE eL;refine sE (nX (Hw M zo) (by simp[ao,Pure]) [1] rfl rfl (by simp[an.aO,bO,D.aO];rfl)) ?_;rw[eE,eL];exact .aJ _ _ (.cons _ _ _ _ (AV rfl rfl) (.cons _ _ _ _ (.refl _) .nil))
theorem zzQ{ax loop:af}{z:Nat}(hz:z=j)(h:j<2):([[aL ax],[aL loop]]:fp)[z]? = some [aL<|ah.seg ax loop j]:=by
 subst hz;rcases z with _|_|z
 ·rfl
 ·rfl
 omega
theorem PS(hP:P.Fits)(h:Bool)(ax loop:af)(l1:ax.length<=9223372036854775807)(l2:loop.length<=9223372036854775807)(n:Nat)(hn:n<=ax.length+loop.length)(hz:∀j,j<n->P.gL (ax++loop) j=0)(hs:n=ax.length+loop.length\/P.gL (ax++loop) n≠0) :
  ar aj 25 [cH P,jc h ax loop] (.aJ [bW<|P.zV ax loop n,ab<|P.mS ax loop n]):=by
 have eE:P.mS ax loop n=if P.dp≠0 then P.dp else if loop.length=0 then 1 else if 60000<ax.length+loop.length then 2
   else if n≠ax.length+loop.length then P.gL (ax++loop) n
   else if P.gr (ax++loop) ax.length=P.gr (ax++loop) (ax.length+loop.length) then 0 else 9:=rfl
 have eL:P.zV ax loop n=if P.mS ax loop n=0 then P.nw (ax++loop)<|ax.length+loop.length else []:=rfl
 refine bz fZ ?_;have bad:∀{H:aB} {e:Int},e≠0->P.mS ax loop n=e->Deep H (.aJ [bC,ab e]) (.aJ [bW<|P.zV ax loop n,ab<|P.mS ax loop n]):=λh q=>by
  rw[eL,q,aa h];exact .aJ _ _ (.cons _ _ _ _ (.none _) (.cons _ _ _ _ (.refl _) .nil))
 refine sR ?_;refine sC (Qw P hP) ?_;refine sS (λh1=>?_) λh1=>?_
 ·have h1:P.dp≠0:=sO;exact bad h1<|by rw[eE,ae h1]
 have h1:P.dp=0:=sO;rw[aa zo] at eE;rw[aS];refine sS (λh2=>?_) λh2=>?_
 ·exact bad zc<|by rw[eE,ae<|sO]
 rw[aa<|sO] at eE;rw[aS];by_cases h3:60000<ax.length
 ·have hb:decide ((ax.length:Int)>60000)=true:=gb zo;rw[hb];refine sW ?_;exact bad zc<|by rw[eE,ae zo]
 have hb:decide ((ax.length:Int)>60000)=false:=gx zo;rw[hb];refine sW ?_;rw[aS,aS];refine sI ?_;refine sS (λh4=>?_) λh4=>?_
 ·exact bad zc<|by rw[eE,ae<|sO]
 rw[aa<|sO] at eE;have h4:ax.length+loop.length<=60000:=sO;refine sW ?_;refine bT [2,3,48,49] (λj:Nat=>[(6,aL<|P.gr (ax++loop)<|ah.off ax loop j),(8,.own 2 (ah.off ax loop j) 0<|ah.off ax loop j+1),(50,ab j)]) (λj=>[(2,.vec true (ah.off ax loop j) 1<|jw<|P.nw (ax++loop)<|ah.off ax loop j)]) (λj=>j<=2/\ah.off ax loop j<=n) (λj=>2-j) 0 ?_;refine sW ?_;refine⟨⟨zo,by simp[ah.off]⟩,by exact sK,rfl,?_⟩;rintro j ⟨hj,hjn⟩;refine bl (λh5=>?_) λh5=>?_
 ·have jC:j<2:=sO;have en:=ah.zwu (ax:=ax) (loop:=loop) jC;have qV:=ah.zCk ax loop<|j+1;refine sB ?_;refine⟨_,zzQ (ax:=ax) (loop:=loop) (j:=j) zo jC,?_⟩;refine sW ?_;rw[aS];refine bT [2,3,48,49,50,54,55] (λk:Nat=>[(6,aL<|P.gr (ax++loop)<|ah.off ax loop j+k),(8,.own 2 (ah.off ax loop j+k) 0<|ah.off ax loop j+k+1),(56,ab k)]) (λk=>[(2,.vec true (ah.off ax loop j+k) 1<|jw<|P.nw (ax++loop)<|ah.off ax loop j+k)]) (λk=>k<=(ah.seg ax loop j).length/\ah.off ax loop j+k<=n) (λk=>(ah.seg ax loop j).length-k) 0 ?_;refine sW ?_;refine⟨⟨zo,zo⟩,by exact sK,rfl,?_⟩;rintro k ⟨hk,nY⟩;refine bl (λh6=>?_) λh6=>?_
  ·have au:k<(ah.seg ax loop j).length:=sO;have esg:=ah.X2 (ax:=ax) (loop:=loop) jC au;have Y3:∀q,q<ah.off ax loop j+k->P.gL (ax++loop) q=0:=λq hq=>hz q zo;have lN:=ah.LB h1 Y3;have hO:=Zw P hP (P.gr (ax++loop)<|ah.off ax loop j+k) zo<|(ah.seg ax loop j).getD k 0;have er:=Z3 P (ax++loop)<|ah.off ax loop j+k;have eo:=zvM (P:=P) (l:=ax++loop) (i:=ah.off ax loop j+k);rw[esg] at er eo;rw[<-er] at hO;have eg:P.nw (ax++loop) (ah.off ax loop j+(k+1))=P.nw (ax++loop) (ah.off ax loop j+k)++[P.gr (ax++loop)<|ah.off ax loop j+k+1]:=rfl;have lG:=P.Ad (ax++loop)<|ah.off ax loop j+k;refine sL (eY (k:=k) zo au) ?_;refine sC hO ?_;refine sS (λh7=>?_) λh7=>?_
   ·have h7:P.gL (ax++loop) (ah.off ax loop j+k)≠0:=sO;have e:ah.off ax loop j+k=n:=by
     by_cases q:ah.off ax loop j+k=n
     ·exact q
     exact absurd (hz _ zo) h7
    refine bad h7 ?_;rw[eE,<-e,ae zo]
   have h7:P.gL (ax++loop) (ah.off ax loop j+k)=0:=sO;have e:ah.off ax loop j+k<n:=by
    by_cases q:ah.off ax loop j+k=n
    ·rw[q] at h7;rcases hs with hs|hs
     ·omega
     exact absurd h7 hs
    omega
   rw[<-eo h7];refine sJI ?_;refine⟨k+1,⟨zo,zo⟩,zd,?_⟩;refine br 4 zs rfl sQ (sU ?_);exact bM<|by rw[eg];exact Im lG.symm
  have au:k=(ah.seg ax loop j).length:=by have:¬k<(ah.seg ax loop j).length:=sO
                                          omega
  subst au;rw[<-en];refine sI ?_;refine⟨j+1,⟨zo,zo⟩,zd,bf (by exact sK) rfl⟩
 have jC:j=2:=by have:¬j<2:=sO
                 omega
 subst jC;have e:n=ax.length+loop.length:=by
  have:ah.off ax loop 2=ax.length+loop.length:=rfl;omega
 subst e;rw[show ah.off ax loop 2=ax.length+loop.length from rfl,aS];rw[aa zo] at eE;have lG:=P.Ad (ax++loop)<|ax.length+loop.length;have lN:=ah.LB (l:=ax++loop) h1 (i:=ax.length) λq hq=>hz q zo;refine sB ?_;refine⟨_,On (k:=ax.length) zo zo,?_⟩;refine sW ?_;rw[ah.MX P (ax++loop) zo];refine sC (Y' (P.gr (ax++loop) ax.length) (P.gr (ax++loop)<|ax.length+loop.length) zo) ?_;by_cases h8:P.gr (ax++loop) ax.length=P.gr (ax++loop) (ax.length+loop.length)
 ·rw[ae h8] at eE;rw[gb h8];refine sW ?_;rw[eL,eE,ae rfl];exact .aJ _ _ (.cons _ _ _ _ (Xn lG.symm rfl) (.cons _ _ _ _ (.refl _) .nil))
 rw[aa h8] at eE;rw[gx h8];refine sW ?_;exact bad zc eE
end
section
end
namespace ah
def AZ(P:ah)(M:ak)(m:Nat)(e:bb):Prop:=(P.gH (M.getD m []) e.1=0/\P.cR (M.getD m []) e.1=M.getD e.2.toNat [])/\e.2.toNat<M.length
def Ext(M M':ak):Prop:=M.length<=M'.length/\∀i,i<M.length->M'.getD i []=M.getD i []
theorem Ext.trans{A B C:ak}(h:Ext A B)(k:Ext B C):Ext A C:=⟨ia h.1 k.1,λi hi=>by rw[k.2 i<|vY hi h.1,h.2 i hi]⟩
theorem AZ.ext{M M':ak}{e:bb}(h:AZ P M m e)(hm:m<M.length)(hx:Ext M M'):AZ P M' m e:=by
 obtain⟨⟨a,b⟩,c⟩:=h;refine⟨⟨?_,?_⟩,by have:=hx.1;omega⟩
 ·rw[hx.2 _ hm];exact a
 rw[hx.2 _ hm,hx.2 _ c];exact b
variable{m:af}
theorem zym{st:Nat}:Ext marks<|gN marks m tok st:=⟨Hd,λi hi=>Oc hi⟩
theorem zy1{l:ak}(h:m∈l):l.getD (oy l m) []=m/\oy l m<l.length:=by
 have h1:=Ks h;have h2:oy l m<l.length:=h1;refine⟨?_,h2⟩;rw[ay,aG h2];exact beq_iff_eq.1<|List.findIdx_getElem (p:=λx=>x==m) (xs:=l) (w:=h1)
theorem Sn{P:ah}{tok:Int}{st n:Nat}{M:af}:∀(L:af) (marks:ak) (aQ:List cK) (cur:List bb) (last:cK),marks.getD n []=M->n<marks.length->(∀e∈cur,AZ P marks n e)->(P.eX tok st n M L marks aQ cur last).e=0 ->
  Ext marks (P.eX tok st n M L marks aQ cur last).marks/\(∀e∈(P.eX tok st n M L marks aQ cur last).cur,AZ P (P.eX tok st n M L marks aQ cur last).marks n e)/\(P.eX tok st n M L marks aQ cur last).cur.map (λe=>e.1)=cur.map (λe=>e.1)++L
 |[],marks,aQ,cur,last,_,_,hc,_=>⟨⟨aI _,λ_ _=>rfl⟩,hc,(oR _).symm⟩
 |k::r,marks,aQ,cur,last,hM,hn,hc,he=>by
  rw[BU] at he⊢;split at he
  ·rename_i h1;exact absurd he h1
  rename_i h1;rw[aa h1];split at he
  ·rename_i h2;exact absurd he h2
  rename_i h2;rw[aa h2];have h2:jM marks (P.cR M k) tok st=0:=zo;have h1:P.gH M k=0:=zo;have x:=zym (marks:=marks) (m:=P.cR M k) (tok:=tok) (st:=st);have hm:=PA h2;obtain⟨i1,i2⟩:=zy1 hm;have ei:ka marks (P.cR M k) tok st=(oy (gN marks (P.cR M k) tok st) (P.cR M k):Int):=(by unfold ka;rw[ae h2]);have x2:=x.2 n hn;have x1:=x.1
  obtain⟨q1,q2,q3⟩:=Sn (P:=P) (tok:=tok) (st:=st) (n:=n) (M:=M) r (gN marks (P.cR M k) tok st) (kW marks aQ (P.cR M k) tok st ((n:Int),k)) (cur++[(k,ka marks (P.cR M k) tok st)]) ((n:Int),k)
   (by rw[x2];exact hM) zo (λe he=>by
    rcases de.1 he with he|he
    ·exact(hc e he).ext hn x
    rw[cM] at he;subst he;refine⟨⟨by rw[x2,hM];exact h1,?_⟩,?_⟩
    ·rw[x2,hM];show P.cR M k=(gN marks (P.cR M k) tok st).getD (ka marks (P.cR M k) tok st).toNat [];rw[ei,bS,i1]
    show(ka marks (P.cR M k) tok st).toNat<_;rw[ei,bS];exact i2) he
  refine⟨x.trans q1,q2,?_⟩;rw[q3];simp
def Ce(P:ah)(M:ak)(N:List<|List bb)(i:Nat):Prop:=(∀e∈N.getD i [],AZ P M i e)/\(N.getD i []).map (λe=>e.1)=P.cD (M.getD i [])
theorem Ql{P:ah}{tok:Int}{st:Nat}(b8:st<=200):∀(f n:Nat) (marks:ak) (aQ:List cK) (next:List<|List bb) (last:cK),Sp P tok st marks aQ->next.length=n->n<=marks.length->n+f=201->(∀i,i<n->Ce P marks next i) ->
  (P.iD tok st f n marks aQ next last).e=0->Ext marks (P.iD tok st f n marks aQ next last).marks/\∀i,i<(P.iD tok st f n marks aQ next last).next.length->Ce P (P.iD tok st f n marks aQ next last).marks (P.iD tok st f n marks aQ next last).next i
 |0,n,marks,aQ,next,last,hS,_,hn,hf,_,_=>by have:=hS.room;omega
 |f+1,n,marks,aQ,next,last,hS,hl,hn,hf,hR,he=>by
  simp only[iD] at he⊢;split
  ·rename_i bF;rw[ae bF] at he;have hM:=hS.fB _<|yY bF;split
   ·rename_i h0;rw[ae h0] at he;exact absurd he h0
   rename_i h0;rw[aa h0] at he;have h0:(P.eX tok st n (marks.getD n []) (P.cD<|marks.getD n []) marks aQ [] last).e=0:=zo;obtain⟨q1,q2,_⟩:=DE (tok:=tok) (st:=st) (n:=n) hM (P.cD<|marks.getD n []) marks aQ [] last (λ_ h=>h) hS bF;obtain⟨r1,r2,r3⟩:=Sn (P:=P) (tok:=tok) (st:=st) (n:=n) (M:=marks.getD n []) (P.cD<|marks.getD n []) marks aQ [] last rfl bF zs h0;obtain⟨t1,t2⟩:=Ql b8 f (n+1) _ _ _ _ q1 (by simp[hl]) zo zo (λi hi=>by
    by_cases e:i=n
    ·have ea:(next++[(P.eX tok st n (marks.getD n []) (P.cD<|marks.getD n []) marks aQ [] last).cur]).getD i []=(P.eX tok st n (marks.getD n []) (P.cD<|marks.getD n []) marks aQ [] last).cur:=by
      rw[ay,fc zo,show i-next.length=0 by omega];rfl
     unfold Ce;rw[ea,e];refine⟨r2,?_⟩;rw[r3,r1.2 n bF];simp
    have hi:i<n:=zo;have ea:(next++[(P.eX tok st n (marks.getD n []) (P.cD<|marks.getD n []) marks aQ [] last).cur]).getD i []=next.getD i []:=by
     rw[ay,dJ zo,<-ay]
    obtain⟨a,b⟩:=hR i hi;unfold Ce;rw[ea];exact⟨λe he=>(a e he).ext zo r1,by rw[b,r1.2 i zo]⟩) he
   exact⟨r1.trans t1,t2⟩
  rename_i bF;exact⟨⟨aI _,λ_ _=>rfl⟩,λi hi=>hR i<|by rw[<-hl];exact hi⟩
end ah
theorem Vt(he:P.eZ tok st=0):(P.exM tok st).getD 0 []=P.jd/\∀i,i<(P.bX tok st).length->ah.Ce P (P.exM tok st) (P.bX tok st) i:=by
 have eM:P.exM tok st=(P.exF tok st.toNat).marks:=by unfold ah.exM;rw[ae he]
 have eN:P.bX tok st=(P.exF tok st.toNat).next:=by unfold ah.bX;rw[ae he]
 unfold ah.eZ at he;split at he
 ·exfalso;omega
 rename_i h1;have h1:P.dp=0:=zo;split at he
 ·exfalso;omega
 rename_i h2;unfold ah.wO at h2;obtain⟨t1,t2⟩:=ah.Ql (P:=P) (tok:=tok) (st:=st.toNat) zo 201 0 [P.jd] [(-1,-1)] [] (-1,-1) (ah.Sp.start h1 zo) rfl zs rfl (λi hi=>absurd hi<|Nat.not_lt_zero _) he;rw[eM,eN];exact⟨by have:=t1.2 0 zs;exact this,t2⟩
theorem Xw(hi:i<bm N N.length):∃m:Nat,m<N.length/\((dr N N.length).getD i (0,0)).2=(m:Int) /\
  (((N.getD m []).length=0/\((dr N N.length).getD i (0,0)).1=-1/\(kH N).getD i []=iY N m)\/∃e∈N.getD m [],((dr N N.length).getD i (0,0)).1=e.1/\(kH N).getD i []=iY N e.2.toNat):=by
 obtain⟨m,k,hm,hk,rfl⟩:=It hi;have h1:=zl hk N.length hm;have h2:=LC hk N.length hm;have h3:(kH N).getD (bm N m+k) []=iY N ((nz N m).getD k 0).toNat:=by
  unfold kH;rw[ay,cy];have h4:bm N m+k<(uc N N.length).length:=(by rw[Cv];exact hi);rw[aG h4];rw[ay,aG h4] at h2;simp only[xg,pe] at h2⊢;rw[h2]
 refine⟨m,hm,by rw[h1];exact Nb hk,?_⟩;rw[h1,h3];rw[qy] at hk;by_cases z:(N.getD m []).length=0
 ·rw[ae z] at hk;left;rw[show k=0 by omega];unfold mX nz;rw[ae z,ae z];exact⟨z,rfl,rfl⟩
 rw[aa z] at hk;right;unfold mX nz;rw[aa z,aa z];refine⟨(N.getD m [])[k],ig hk,?_,?_⟩
 ·rw[ay,cy,aG hk];rfl
 rw[ay,cy,aG hk];rfl
variable{x:Int}
theorem OT{t:Nat}(ht:t<N.length)(hx:x∈iY N t):x.toNat<bm N N.length/\((dr N N.length).getD x.toNat (0,0)).2=(t:Int):=by
 obtain⟨i,hi,rfl⟩:=cU.1 hx;have hi:=eW.1 hi;have h1:=JH ht hx;rw[bS];refine⟨zo,?_⟩;rw[zl hi N.length ht];exact Nb hi
theorem TP{P:ah}{M:ak}{N:List<|List bb}(hF:Nf P M N)(h0:M.getD 0 []=P.jd)(hR:∀i,i<N.length->ah.Ce P M N i){q:af}(hc:l5 (kH N) q)(hb:q.getD 0 0∈iY N 0){L:af}(hL:∀i,i+1<q.length->L.getD i 0=((dr N N.length).getD (q.getD i 0).toNat (0,0)).1) :
  ∀j,j<q.length->(q.getD j 0).toNat<bm N N.length/\P.gr L j=M.getD ((dr N N.length).getD (q.getD j 0).toNat (0,0)).2.toNat []/\∀i,i<j->P.gL L i=0
 |0,h=>by
  obtain⟨a,b⟩:=OT (by have:=hF.sp.len;have:=hF.sp.pos;omega) hb;exact⟨a,by rw[b];exact h0.symm,λi hi=>absurd hi<|Nat.not_lt_zero _⟩
 |j+1,h=>by
  obtain⟨i1,i2,i3⟩:=TP hF h0 hR hc hb hL j zo;have c:=LG hc h;have l:=hL j h;obtain⟨m,hm,e2,h'⟩:=Xw i1;rw[e2,bS] at i2;have S7:=hR m hm;have done:P.gL L j=0->∀i,i<j+1->P.gL L i=0:=λh i hi=>by
   by_cases e:i=j
   ·rw[e];exact h
   exact i3 i zo
  rcases h' with⟨z,e1,en⟩|⟨e,he,e1,en⟩
  ·rw[en] at c;obtain⟨b1,b2⟩:=OT hm c;have hz:P.cD (M.getD m [])=[]:=(by rw[<-S7.2,nh.1 z];rfl);refine⟨b1,?_,done ?_⟩
   ·show(if L.getD j 0=-1 then P.gr L j else P.cR (P.gr L j)<|L.getD j 0)=_;rw[ae<|l.trans e1,i2,b2,bS]
   unfold ah.gL;rw[ae<|l.trans e1,i2,ae hz]
  rw[en] at c;have hE:=S7.1 e he;have hr:N.getD m []∈N:=(by rw[ay,aG hm];simp);obtain⟨k1,k2,k3,k4⟩:=hF.sp.JB _ hr e he;obtain⟨b1,b2⟩:=OT (by have:=hF.sp.len;omega) c;have b7:¬L.getD j 0=-1:=(by rw[l,e1];omega);refine⟨b1,?_,done ?_⟩
  ·show(if L.getD j 0=-1 then P.gr L j else P.cR (P.gr L j)<|L.getD j 0)=_;rw[aa b7,i2,b2,l,e1,hE.1.2,bS]
  unfold ah.gL;rw[aa b7,i2,l,e1];exact hE.1.1
theorem Vv{W:ba}{A:bZ}(hb:mD W A):∀{p:af},l5 (bH W A).2 p->l5 W.next (kT (bH W A).1 p)
 |[],_=>trivial
 |[_],_=>trivial
 |x::y::r,h=>by
  obtain⟨hN,_⟩:=ti hb;obtain⟨hv,q,q1,q2,q3,q4⟩:=hN.Ef h.1;have hr:=Vv hb h.2;refine⟨?_,hr⟩;show((bH W A).1.getD y.toNat (0,0)).1∈W.next.getD ((bH W A).1.getD x.toNat (0,0)).1.toNat [];rw[q3,bS,so q2];unfold nxE iP rq at q1;obtain⟨a,ha,hq⟩:=D1.1 q1;obtain⟨b,yp,rfl⟩:=cU.1 hq;exact ha
variable{s:af}
theorem Ri(hb:mD W A)(ha:eK W A)(e:oh W A (bH W A).1 (bH W A).2 (fA W A).2=.aJ [.agg [aL s,aL l],aF<|eK W A,ab 0]) :
  ∃z:Int,l5 W.next (s++l++[z])/\l.head? = some z/\(s++l++[z]).getD 0 0∈W.start:=by
 obtain⟨hp,rfl,rfl⟩:=F5 hb ha e;obtain⟨h1,h2,h3,h4⟩:=C8 hb hp;obtain⟨hN,hg⟩:=ti hb;obtain⟨b1,_⟩:=GP hb;obtain⟨v,v1,v2,v3,v4,⟨x,x1,x2⟩,_⟩:=O8 hN.inG b1 hp h3;rw[v2];have hc:=Vv hb v3;generalize (dZ (bH W A).2 (gh W A (bH W A).1) (fA W A).2).take ((dZ (bH W A).2 (gh W A (bH W A).1) (fA W A).2).length-1)=S at *;generalize jU (bH W A).2 (gh W A (bH W A).1) v=R at *;refine⟨((bH W A).1.getD ((v:Int)).toNat (0,0)).1,?_,?_,?_⟩
 ·simpa [kT] using hc
 ·unfold kT;rw[List.head?_map,v4];rfl
 have hx:(S++R).getD 0 0=x:=by
  cases zG:S++R with
  |nil=>rw[zG] at x2;cases x2
  |cons a b=>rw[zG] at x2;exact oV x2
 have b7:0<(S++R).length:=by
  cases zG:S++R with
  |nil=>rw[zG] at x2;cases x2
  |cons a b=>simp
 have l4:(kT (bH W A).1 S++kT (bH W A).1 R++[((bH W A).1.getD ((v:Int)).toNat (0,0)).1]).getD 0 0=((bH W A).1.getD x.toNat (0,0)).1:=by
  have j0:(S++R)[0]=x:=(by rw[ay,aG b7] at hx;exact hx);unfold kT;rw[<-mq,ay,dJ<|by simpa using b7,cy,aG b7,j0];rfl
 rw[l4];rw[Gq] at x1;obtain⟨p,p1,rfl⟩:=cU.1 x1;rw[bS,so<|hN.st p p1];unfold iP rq at p1;obtain⟨a,ha,hq⟩:=D1.1 p1;obtain⟨b,yp,rfl⟩:=cU.1 hq;exact ha
theorem wZ(P:ah)(tok st:Int)(l:af):(fG P tok st l).length=l.length:=by simp[fG]
variable{z:Int}
theorem Sy(he:P.eZ tok st=0)(hc:l5 (cC P tok st).next<|s++l++[z])(hb:(s++l++[z]).getD 0 0∈(cC P tok st).start)(j:Nat)(hj:j<s.length+l.length+1) :
  ((s++l++[z]).getD j 0).toNat<bm (P.bX tok st) (P.bX tok st).length/\P.gr (fG P tok st s++fG P tok st l) j=(P.exM tok st).getD ((dr (P.bX tok st) (P.bX tok st).length).getD ((s++l++[z]).getD j 0).toNat (0,0)).2.toNat []/\∀i,i<j->P.gL (fG P tok st s++fG P tok st l) i=0:=by
 obtain⟨r1,r2⟩:=Vt he;have hlen:(s++l++[z]).length=s.length+l.length+1:=by simp;omega
 exact TP (oU he) r1 r2 hc hb (L:=fG P tok st s++fG P tok st l) (λi hi=>by
  rw[hlen] at hi;unfold fG;rw[<-mq,ay,cy,ay (l:=s++l++[z]),dJ (l₁:=s++l)<|by simp;omega,aG (l:=s++l)<|by simp;omega];rfl) j zo
theorem zxi(he:P.eZ tok st=0)(hc:l5 (cC P tok st).next<|s++l++[z])(hz:l.head? = some z)(hb:(s++l++[z]).getD 0 0∈(cC P tok st).start)(ko:s.length+l.length<=60000) :
  (∀j,j<s.length+l.length->P.gL (fG P tok st s++fG P tok st l) j=0)/\P.mS (fG P tok st s) (fG P tok st l) (s.length+l.length)=0:=by
 have hF:=oU he;have ls:(fG P tok st s).length=s.length:=by simp[fG]
 have ll:(fG P tok st l).length=l.length:=by simp[fG]
 have hl:0<l.length:=by
  cases l with
  |nil=>cases hz
  |cons a b=>simp
 have key:=Sy he hc hb;obtain⟨_,a2,_⟩:=key s.length zo;obtain⟨_,b2,b3⟩:=key (s.length+l.length) zo;refine⟨b3,?_⟩;unfold ah.mS;rw[aa<|by have:=hF.steps;omega,aa<|by rw[ll];omega,aa<|by rw[ls,ll];omega,aa<|by rw[ls,ll];omega,ae];rw[ls,ll,a2,b2];have e1:(s++l++[z]).getD s.length 0=z:=by
  rw[ay,l8,fc<|aI _,mE]
  cases l with
  |nil=>cases hz
  |cons a b=>exact oV hz
 have e2:(s++l++[z]).getD (s.length+l.length) 0=z:=by
  rw[ay,fc zs,cL,mE];rfl
 rw[e1,e2]
def NA(P:ah)(tok st:Int)(T:Tree)(s l:af):Prop:=(P.eZ tok st=0/\bm (P.bX tok st) (P.bX tok st).length<=600/\fS T=0/\eK (cC P tok st) (b6 T))/\∃s0 l0,s=fG P tok st s0/\l=fG P tok st l0 /\
 oh (cC P tok st) (b6 T) (bH (cC P tok st)<|b6 T).1 (bH (cC P tok st)<|b6 T).2 (fA (cC P tok st)<|b6 T).2=.aJ [.agg [aL s0,aL l0],aF<|eK (cC P tok st)<|b6 T,ab 0]
structure tK(P:ah)(tok st sort rE:Int)(T:Tree)(E:Int)(B:Bool)(s l:af):Prop where
 bad:E≠0->B=false/\s=[]/\l=[]
 fB:E=0->B\/sort=4->s=[]/\l=[]
 raw:E=0->B=false->sort≠4->rE=0/\NA P tok st T s l
 room:s.length<=1000000000/\l.length<=1000000000
variable{T:Tree}
theorem tK.err{sort rE E:Int}(h:E≠0):tK P tok st sort rE T E false [] []:=⟨λ_=>⟨rfl,rfl,rfl⟩,λq=>absurd q h,λq=>absurd q h,zs⟩
theorem tK.way{sort rE E:Int}{B:Bool}(h:tK P tok st sort rE T E B s l)(q1:E=0)(q2:B=false)(q3:sort≠4)(ko:s.length+l.length<=60000):(∀j,j<s.length+l.length->P.gL (s++l) j=0)/\P.mS s l (s.length+l.length)=0:=by
 obtain⟨_,⟨h1,h2,h3,h4⟩,s0,l0,rfl,rfl,e⟩:=h.raw q1 q2 q3;have hW:=Bp h1 h2;obtain⟨z,z1,z2,z3⟩:=Ri (xq hW.fits hW.aV hW.start hW.rows h3) h4 e;rw[wZ,wZ] at *;exact zxi h1 z1 z2 z3 ko
section
variable{P:ah}(hP:P.Fits){name:aM}(iu:name.size<=9223372036854775807){f g:Tree}(hf:Small f)(hg:Small g)
include hP iu hf hg in
theorem zBk(tok st:Int)(sort:Int)(x:cc)(k a b c:Int):∃s l,ar aj 5 [cH P,cQ name sort x k a b c f g,ab tok,ab st] (.aJ [jc (jB P tok st name sort x k a b c f g) s l,ab<|jE P tok st name sort x k a b c f g]) /\
  tK P tok st sort (gW sort x k a b c f) (cz sort x k a b c f) (jE P tok st name sort x k a b c f g) (jB P tok st name sort x k a b c f g) s l:=by
 have bad:∀{e},jE P tok st name sort x k a b c f g=e->e≠0->jB P tok st name sort x k a b c f g=false:=λh q=>by unfold jB;rw[h,gx q,qG]
 by_cases h1:P.eZ tok st=0
 ·by_cases h2:bm (P.bX tok st) (P.bX tok st).length<=600
  ·by_cases h3:fL (iG P) name sort x k a b c f g=0
   ·by_cases h4:sort=4
    ·have e:jE P tok st name sort x k a b c f g=0:=(by unfold jE;rw[aa<|by simpa using h1,aa<|by simpa using h2,aa<|by simpa using h3,ae h4]);have:=zBi hP iu hf hg h1 h2 h4 h3 (x:=x) (k:=k) (a:=a) (b:=b) (c:=c);refine⟨[],[],?_,?_⟩
     ·have hb:jB P tok st name sort x k a b c f g=((cC P tok st).start.all λn=>pb (cC P tok st) g n.toNat):=(by unfold jB;rw[e,ae h4];simp);rw[e,hb];exact this
     rw[e];exact⟨λq=>absurd rfl q,λ_ _=>⟨rfl,rfl⟩,λ_ _ q=>absurd h4 q,zs⟩
    by_cases h5:gW sort x k a b c f=0
    ·have e:jE P tok st name sort x k a b c f g=fS (cz sort x k a b c f):=(by unfold jE;rw[aa<|by simpa using h1,aa<|by simpa using h2,aa<|by simpa using h3,aa h4,aa<|by simpa using h5]);obtain⟨s,l,this,tF,pd⟩:=zBl hP iu hf hg h1 h2 h4 h3 h5;have hb:jB P tok st name sort x k a b c f g=(decide (fS (cz sort x k a b c f)=0)&&!(eK (cC P tok st)<|b6<|cz sort x k a b c f)):=(by unfold jB;rw[e,aa h4]);have hW:=Bp h1 h2;refine⟨fG P tok st s,fG P tok st l,?_,?_⟩
     ·rw[e,hb];exact this
     rw[e,hb];by_cases q:fS (cz sort x k a b c f)=0/\eK (cC P tok st) (b6<|cz sort x k a b c f)=true
     ·obtain⟨q1,q2⟩:=q;have KD:=xq hW.fits hW.aV hW.start hW.rows q1;have iX:=tF q1 q2;obtain⟨i1,i2,i3,i4⟩:=Oz KD q2 iX;rw[q1,q2];refine⟨λq=>absurd rfl q,λ_ q=>?_,λ_ _ _=>⟨h5,⟨h1,h2,q1,q2⟩,s,l,rfl,rfl,iX⟩,by rw[wZ,wZ];exact⟨i3,i4⟩⟩;rcases q with q|q
      ·simp at q
      exact absurd q h4
     obtain⟨rfl,rfl⟩:=pd q;by_cases q1:fS (cz sort x k a b c f)=0
     ·have q2:eK (cC P tok st) (b6<|cz sort x k a b c f)=false:=(by simpa using λh=>q ⟨q1,h⟩);rw[q1,q2];exact⟨λq=>absurd rfl q,λ_ _=>⟨rfl,rfl⟩,λ_ q=>by simp at q,by simp[fG]⟩
     rw[gx q1,qG];exact tK.err q1
    have e:jE P tok st name sort x k a b c f g=gW sort x k a b c f:=(by unfold jE;rw[aa<|by simpa using h1,aa<|by simpa using h2,aa<|by simpa using h3,aa h4,ae h5]);refine⟨[],[],?_,?_⟩
    ·rw[bad e h5,e];exact zzh hP iu hf hg h1 h2 h4 h3 h5
    rw[bad e h5,e];exact tK.err h5
   have e:jE P tok st name sort x k a b c f g=fL (iG P) name sort x k a b c f g:=(by unfold jE;rw[aa<|by simpa using h1,aa<|by simpa using h2,ae h3]);refine⟨[],[],?_,?_⟩
   ·rw[bad e h3,e];exact zyV hP iu hf hg h1 h2 h3
   rw[bad e h3,e];exact tK.err h3
  have e:jE P tok st name sort x k a b c f g=2:=(by unfold jE;rw[aa<|by simpa using h1,ae h2]);refine⟨[],[],?_,?_⟩
  ·rw[bad e zc,e];exact zz7 hP h1 h2
  rw[bad e zc,e];exact tK.err zc
 have e:jE P tok st name sort x k a b c f g=P.eZ tok st:=by unfold jE;rw[ae h1]
 refine⟨[],[],?_,?_⟩
 ·rw[bad e h1,e];exact zzv hP h1
 rw[bad e h1,e];exact tK.err h1
end
def wr(n m i:Nat):Nat:=if i<n then i else i-m
def vv(n m:Nat)(a b:aq):Nat->Nat->Bool
 |_,0=>false
 |j,f+1=>b (wr n m j)||(a (wr n m j)&&vv n m a b (j+1) f)
def qh(n m:Nat)(a b:aq)(i:Nat):Bool:=vv n m a b i<|n+m-i
def rr(a b:aq)(e:Bool):Nat->Nat->Bool
 |_,0=>e
 |j,f+1=>b j||(a j&&rr a b e (j+1) f)
theorem Pt{n m s:Nat}{a b:aq}(hn:n=s+m):∀(f d:Nat),d+f=m->vv n m a b (n+d) f=rr a b false (s+d) f
 |0,_,_=>rfl
 |f+1,d,h=>by
  have hw:wr n m (n+d)=s+d:=(by unfold wr;rw[aa zo];omega);simp only[vv,rr];rw[hw,show n+d+1=n+(d+1) by omega,Pt hn f (d+1) zo];rfl
theorem XO{n m:Nat}{a b:aq}:∀(f j:Nat),j+f=n->vv n m a b j (f+m)=rr a b (vv n m a b n m) j f
 |0,j,h=>by
  have:j=n:=zo;subst this;simp only[rr,jP]
 |f+1,j,h=>by
  have hw:wr n m j=j:=(by unfold wr;rw[ae zo]);rw[show f+1+m=(f+m)+1 by omega];simp only[vv,rr];rw[hw,XO f (j+1) zo]
variable{b a:aq}
theorem ON{s:Nat}(hn:n=s+m)(hi:i<=n):qh n m a b i=rr a b (rr a b false s m) i (n-i):=by
 unfold qh;have h1:=XO (n:=n) (m:=m) (a:=a) (b:=b) (n-i) i zo;have h2:=Pt (a:=a) (b:=b) hn m 0 zo;rw[show n-i+m=n+m-i by omega] at h1;rw[h1];simp only[kN] at h2;rw[h2]
section
variable(s l:af)
def trF(k num:Int)(a b:aq)(i:Nat):Bool :=
 if k=1 then true
 else if k=3 then jz (bw s l i) num
 else if k=4 then !(a i)
 else if k=5 then a i&&b i
 else if k=6 then a i||b i
 else if k=7 then a<|wr (s.length+l.length) l.length<|i+1
 else if k=8 then qh (s.length+l.length) l.length a b i
 else if k=9 then !(qh (s.length+l.length) l.length (λj=>!(a j)) (λj=>!(b j)) i)
 else if k=10 then qh (s.length+l.length) l.length (λ_=>true) a i
 else if k=11 then !(qh (s.length+l.length) l.length (λ_=>true) (λj=>!(a j)) i)
 else false
mutual
def dU:Tree->Nat->Bool
 | .node k num ks=>trF s l k num ((trL ks).getD 0 λ_=>false)<|(trL ks).getD 1 λ_=>false
def trL:List Tree->List aq
 |[]=>[]
 |t::r=>dU t::trL r
end
theorem Xx:∀ks,trL s l ks=ks.map (dU s l)
 |[]=>by simp only[trL,gP]
 |t::r=>by simp only[trL,dR,Xx r]
def my(t:Tree)(j:Nat):Nat->Bool:=(t.kids.map<|dU s l).getD j λ_=>false
theorem Lb(t:Tree):dU s l t=trF s l t.kind t.num (my s l t 0) (my s l t 1):=by
 cases t;simp only[dU,Xx];rfl
theorem yy(h:j<t.width):my s l t j=dU s l (t.aD j):=by
 unfold my;rw[ay,cy,Tree.nP h,aG h];rfl
end
def red(s m i:Nat):Nat:=if i<s+m then i else s+(i-s)%m
section
variable{s m:Nat}
theorem zu(hm:1<=m)(i:Nat):red s m i<s+m:=by
 unfold red;split
 ·assumption
 have:=Nat.mod_lt (i-s) (show 0<m by omega);omega
theorem AM(h:i<s+m):red s m i=i:=by unfold red;rw[ae h]
theorem zy(hm:1<=m)(h:s<=i):red s m (i+m)=red s m i:=by
 unfold red;rw[aa zo,show i+m-s=(i-s)+m by omega,Nat.add_mod_right];split
 ·rw[ya zo];omega
 rfl
theorem C9(hm:1<=m)(h:i<s+m+m):wr (s+m) m i=red s m i:=by
 unfold wr;split
 ·rename_i q;rw[AM q]
 rename_i q;rw[show i=(i-m)+m by omega,zy hm zo,AM zo];omega
theorem Ic(hm:1<=m){U:Nat->Prop}(h:∀i,s<=i->(U (i+m)↔U i)):∀i,U i↔U (red s m i):=by
 intro i
 induction i using Nat.strongRecOn with
 |ind i ih =>
  by_cases q:i<s+m
  ·rw[AM q]
  have e:i=(i-m)+m:=zo;have h1:=h (i-m) zo;have h2:=zy (s:=s) hm (i:=i-m) zo;rw[<-e] at h1 h2;rw[h1,h2];exact ih (i-m) zo
theorem ZV(hm:1<=m)(i:Nat):wr (s+m) m (red s m i+1)=red s m (i+1):=by
 rw[C9 hm<|by have:=zu (s:=s) hm i;omega];have:=(Ic (s:=s) hm (U:=λi=>red s m (red s m i+1)=red s m (i+1)) (λi hi=>by
  rw[zy hm hi,show i+m+1=i+1+m by omega,zy hm zo])) i
 exact this.2<|by rw[AM<|zu hm i]
def Unt(A B:Nat->Prop)(i:Nat):Prop:=∃j,i<=j/\B j/\∀k,i<=k->k<j->A k
theorem ztB(hm:1<=m){A B:Nat->Prop}(hA:∀i,s<=i->(A (i+m)↔A i))(hB:∀i,s<=i->(B (i+m)↔B i))(hi:s<=i):Unt A B (i+m)↔Unt A B i:=by
 constructor
 ·rintro⟨j,h1,h2,h3⟩;refine⟨j-m,zo,(hB (j-m) zo).1<|by rw[show j-m+m=j by omega];exact h2,λk k1 k2=>(hA k zo).1<|h3 (k+m) zo zo⟩
 rintro⟨j,h1,h2,h3⟩;refine⟨j+m,zo,(hB j zo).2 h2,λk k1 k2=>?_⟩;have:=(hA (k-m) zo).2<|h3 (k-m) zo zo;rwa [show k-m+m=k by omega] at this
theorem SJ{n:Nat}{a b:aq}:∀(f j:Nat),vv n m a b j f↔∃d,d<f/\b (wr n m<|j+d)/\∀e,e<d->a (wr n m<|j+e)=true
 |0,j=>by simp[vv]
 |f+1,j=>by
  simp only[vv,jh,dL];rw[SJ f<|j+1];constructor
  ·rintro(h|⟨h,d,h1,h2,h3⟩)
   ·exact⟨0,zo,h,λe he=>zo⟩
   refine⟨d+1,zo,by rw[show j+(d+1)=j+1+d by omega];exact h2,λe he=>?_⟩;rcases e with _|e
   ·exact h
   rw[show j+(e+1)=j+1+e by omega];exact h3 e zo
  rintro⟨d,h1,h2,h3⟩;rcases d with _|d
  ·exact .inl h2
  exact .inr ⟨h3 0 zo,d,zo,by rw[show j+1+d=j+(d+1) by omega];exact h2,λe he=>by rw[show j+1+e=j+(e+1) by omega];exact h3 (e+1) zo⟩
theorem Gu(hm:1<=m)(hi:i<s+m):qh (s+m) m a b i↔Unt (λk=>a (red s m k)=true) (λk=>b (red s m k)=true) i:=by
 unfold qh;rw[SJ];constructor
 ·rintro⟨d,h1,h2,h3⟩;refine⟨i+d,zo,by show b (red s m<|i+d)=true;rw[<-C9 hm zo];exact h2,λk k1 k2=>?_⟩;have:=h3 (k-i) zo;rw[show i+(k-i)=k by omega,C9 hm zo] at this;exact this
 rintro⟨j,h1,h2,h3⟩
 -- a witness that lies kG
 have kG:∀j,i<=j->b (red s m j)->(∀k,i<=k->k<j->a (red s m k))->∃j,i<=j/\j<s+m+m/\b (red s m j)/\∀k,i<=k->k<j->a (red s m k):=by
  intro j
  induction j using Nat.strongRecOn with
  |ind j ih =>
   intro q1 q2 q3;by_cases q:j<s+m+m
   ·exact⟨j,q1,q,q2,q3⟩
   have e:=zy (s:=s) hm (i:=j-m) zo;rw[show j-m+m=j by omega] at e;exact ih (j-m) zo zo (by rw[<-e];exact q2) λk k1 k2=>q3 k k1 zo
 obtain⟨j,j1,j2,j3,j4⟩:=kG j h1 h2 h3;refine⟨j-i,zo,by rw[show i+(j-i)=j by omega,C9 hm j2];exact j3,λe he=>?_⟩;rw[C9 hm zo];exact j4 (i+e) zo zo
end
theorem Ax{n:Int}(h0:0<=x)(h1:x<18446744073709551616)(hn:0<=n/\n<=63):jz x n=nq x n:=by
 obtain⟨k,rfl⟩:=Int.eq_ofNat_of_zero_le h0;obtain⟨m,rfl⟩:=Int.eq_ofNat_of_zero_le hn.1;unfold jz nq;have e:BitVec.ofInt 64 (k:Int)=BitVec.ofNat 64 k:=BitVec.ofInt_natCast ..;rw[e,BitVec.getLsbD_ofNat,bS,tJ zo,gb (by omega:m<64),jZ,Nat.testBit_eq_decide_div_mod_eq];have e2:((k:Int).fdiv<|2^m)=((k/2^m:Nat):Int):=by
  rw[MI _<|by exact Int.le_of_lt<|Int.pow_pos zo];simp[Int.natCast_ediv]
 rw[e2,show((k/2^m:Nat):Int).tmod 2=((k/2^m%2:Nat):Int) from(Int.ofNat_tmod _ 2).symm];rw[kj,gC,c6];omega
variable{A:Nat->Prop}
theorem zzm{B:Nat->Prop}:(∀j,i<=j->B j\/∃m,i<=m/\m<j/\A m)↔¬Unt (λk=>¬A k) (λk=>¬B k) i:=by
 constructor
 ·rintro h ⟨j,h1,h2,h3⟩;rcases h j h1 with q|⟨m,q1,q2,q3⟩
  ·exact h2 q
  exact h3 m q1 q2 q3
 intro h j hj;by_cases q:B j
 ·exact .inl q
 right;refine Classical.byContradiction λw=>h ⟨j,hj,q,λk k1 k2 k3=>w ⟨k,k1,k2,k3⟩⟩
section
variable{s l:af}
theorem Z1(hl:1<=l.length)(i:Nat):bw s l (red s.length l.length i)=bw s l i :=
 ((Ic (s:=s.length) hl (U:=λi=>bw s l (red s.length l.length i)=bw s l i) λi hi=>by rw[zy hl hi,Lw s l hi]) i).2 (by rw[AM<|zu hl i])
theorem OQ(hl:1<=l.length)(hr:∀i,0<=bw s l i/\bw s l i<18446744073709551616):∀t:Tree,t.wf bD->∀i,bh (bw s l) t i↔dU s l t (red s.length l.length i):=by
 intro t
 induction t using Tree.ind with
 |h t ih =>
  intro hw i;have hn:=((gK _ _).1 hw).1;have rV:=qN hn;have ihk:=λj (hj:j<t.width)=>ih j hj<|gy hw hj;rw[Lb];have HI:=zu (s:=s.length) hl i;have CP:∀j (hj:j<t.width) i,s.length<=i->(bh (bw s l) (t.aD j) (i+l.length)↔bh (bw s l) (t.aD j) i):=λj hj i hi=>by rw[ihk j hj,ihk j hj,zy hl hi]
  have hf:∀j (hj:j<t.width),(λk=>dU s l (t.aD j) (red s.length l.length k)=true)=bh (bw s l) (t.aD j):=λj hj=>funext λk=>propext (ihk j hj k).symm;have hg:∀j (hj:j<t.width),(λk=>(!dU s l (t.aD j) (red s.length l.length k))=true)=λk=>¬bh (bw s l) (t.aD j) k:=λj hj=>funext λk=>propext (by rw[ihk j hj k];simp);have hT:(λ_:Nat=>true=true)=λ_=>True:=funext λ_=>propext zs;have hU:∀{A B:Nat->Prop},(∀i,s.length<=i->(A (i+l.length)↔A i))->(∀i,s.length<=i->(B (i+l.length)↔B i))->(Unt A B i↔Unt A B (red s.length l.length i)):=λhA hB=>Ic hl (λi hi=>ztB hl hA hB hi) i;unfold trF;rcases rV with⟨hk,pP⟩|⟨hk,pP⟩|⟨hk,pP⟩
  ·rcases hk with h|h|h
   ·exact iff_of_true (Il h)<|by rw[ae h]
   ·exact iff_of_false (HF h)<|by rw[h];simp
   rw[Cz h,h,aa zc,ae rfl,Z1 hl,Ax (hr i).1 (hr i).2];unfold fE at hn;omega
  ·rw[yy s l<|show 0<t.width by omega];rcases hk with h|h|h|h
   ·rw[BQ h pP,ihk 0 zo,h,aa zc,aa zc,ae rfl];simp
   ·rw[Hj h pP,ihk 0 zo,h,aa zc,aa zc,aa zc,aa zc,aa zc,ae rfl,ZV hl]
   ·rw[I9 h pP,h,aa zc,aa zc,aa zc,aa zc,aa zc,aa zc,aa zc,aa zc,ae rfl];rw[Gu hl HI,hf 0 zo,hT,<-hU (λ_ _=>Iff.rfl) (CP 0 zo)];unfold Unt;simp
   rw[My h pP,h,aa zc,aa zc,aa zc,aa zc,aa zc,aa zc,aa zc,aa zc,aa zc,ae rfl];have:=Gu (a:=λ_=>true) (b:=λj=>!dU s l (t.aD 0) j) hl HI;rw[hg 0 zo,hT,<-hU (λ_ _=>Iff.rfl) (λi hi=>not_congr<|CP 0 zo i hi)] at this;rw[oG,<-mP,this];unfold Unt;simp
  rw[yy s l<|show 0<t.width by omega,yy s l<|show 1<t.width by omega];rcases hk with h|h|h|h
  ·rw[I7 h pP,ihk 0 zo,ihk 1 zo,h,aa zc,aa zc,aa zc,ae rfl,dL]
  ·rw[DF h pP,ihk 0 zo,ihk 1 zo,h,aa zc,aa zc,aa zc,aa zc,ae rfl,jh]
  ·rw[yJ h pP,h,aa zc,aa zc,aa zc,aa zc,aa zc,aa zc,ae rfl];rw[Gu hl HI,hf 0 zo,hf 1 zo,<-hU (CP 0 zo) (CP 1 zo)];rfl
  rw[Dk h pP,h,aa zc,aa zc,aa zc,aa zc,aa zc,aa zc,aa zc,ae rfl];have:=Gu (a:=λj=>!dU s l (t.aD 0) j) (b:=λj=>!dU s l (t.aD 1) j) hl HI;rw[hg 0 zo,hg 1 zo,<-hU (λi hi=>not_congr<|CP 0 zo i hi) (λi hi=>not_congr<|CP 1 zo i hi)] at this;rw[oG,<-mP,this];exact zzm
theorem NZ(hl:1<=l.length)(hr:∀i,0<=bw s l i/\bw s l i<18446744073709551616)(hw:t.wf bD):(∀j,0<=j->bh (bw s l) t j)↔∀i,i<s.length+l.length->bh (bw s l) t i:=by
 refine⟨λh i _=>h i<|b9 _,λh j _=>?_⟩;have:=h _<|zu (s:=s.length) hl j;rw[OQ hl hr t hw,AM<|zu hl j] at this;exact(OQ hl hr t hw j).2 this
end
theorem GU(h:i<s.length+l.length)(r:af):(s++l++r).getD i 0=bw s l i:=by
 unfold bw;rw[ay,dJ<|by simpa using h];split
 ·rename_i q;rw[dJ q,ay]
 rename_i q;rw[fc zo,ay,ya zo]
theorem Y2(hc:l5 g<|s++l++[z])(hz:l.head? = some z):∀i,bw s l (i+1)∈g.getD (bw s l i).toNat []:=by
 have hl:1<=l.length:=by
  cases l with
  |nil=>cases hz
  |cons a b=>simp
 have hlen:(s++l++[z]).length=s.length+l.length+1:=by simp;omega
 have zAI:(s++l++[z]).getD (s.length+l.length) 0=z:=by
  rw[ay,fc zs,cL,mE];rfl
 have h0:bw s l (s.length+l.length)=z:=by
  unfold bw;rw[aa zo,show s.length+l.length-s.length=l.length by omega,Nat.mod_self]
  cases l with
  |nil=>cases hz
  |cons a b=>exact oV hz
 intro i;refine(Ic (s:=s.length) hl (U:=λi=>bw s l (i+1)∈g.getD (bw s l i).toNat []) (λi hi=>?_) i).2 ?_
 ·rw[show i+l.length+1=i+1+l.length by omega,Lw s l hi,Lw s l zo]
 have hr:=zu (s:=s.length) hl i;generalize red s.length l.length i=k at *;have c:=LG hc (i:=k) zo;rw[GU hr] at c;by_cases q:k+1<s.length+l.length
 ·rw[GU q] at c;exact c
 rw[show k+1=s.length+l.length by omega,zAI,<-h0] at c;rw[show k+1=s.length+l.length by omega];exact c
theorem zps(hx:x∈l)(i:Nat):∃j,i<=j/\s.length<=j/\bw s l j=x:=by
 obtain⟨k,hk,rfl⟩:=xd hx;refine⟨s.length+k+l.length*i,?_,zo,?_⟩
 ·have:i<=l.length*i:=Nat.le_mul_of_pos_left i zo;omega
 unfold bw;rw[aa zo,show s.length+k+l.length*i-s.length=k+l.length*i by omega,Nat.add_mul_mod_self_left,ya hk]
theorem Mr{f:Int->Int}(hl:1<=l.length)(i:Nat):bw (s.map f) (l.map f) i=f (bw s l i):=by
 unfold bw;rw[aS,aS];have e:∀(x:af) (k:Nat),k<x.length->(x.map f).getD k 0=f (x.getD k 0):=λx k hk=>by
  rw[ay,cy,aG hk,ay,aG hk];rfl
 split
 ·rename_i q;exact e _ _ q
 exact e _ _<|Nat.mod_lt _ zo
theorem zp4(hW:Gj W)(hw:t.wf bD)(h3:fS t=0)(ha:eK W<|b6 t){s l:af}
  (e:oh W (b6 t) (bH W<|b6 t).1 (bH W<|b6 t).2 (fA W<|b6 t).2=.aJ [.agg [aL s,aL l],aF<|eK W<|b6 t,ab 0]) :
  Jo W (bw s l)/\¬bh (wy W<|bw s l) t 0/\1<=l.length:=by
 have hb:=xq hW.fits hW.aV hW.start hW.rows h3;have DW:(aW 4 t).wf bD:=Sw (.inl rfl) hw;have hp:=KZ _ DW;have hS:=λw=>W9 (NF hp<|Ni h3) hp (GV<|vQ hp) w;obtain⟨CR,rfl,rfl⟩:=F5 hb ha e;obtain⟨b1,b2,b3,b4⟩:=C8 hb CR;obtain⟨hN,hg⟩:=ti hb;obtain⟨bi,_⟩:=GP hb;obtain⟨v,v1,v2,v3,v4,⟨x,x1,x2⟩,v5⟩:=O8 hN.inG bi CR b3;rw[v2];rw[Gq] at x1;have zQd:=hN.len;generalize (dZ (bH W<|b6 t).2 (gh W (b6 t) (bH W<|b6 t).1) (fA W<|b6 t).2).take ((dZ (bH W<|b6 t).2 (gh W (b6 t) (bH W<|b6 t).1) (fA W<|b6 t).2).length-1)=S at *;generalize jU (bH W<|b6 t).2 (gh W (b6 t) (bH W<|b6 t).1) v=R at *;have hR:1<=R.length:=by
  cases R with
  |nil=>cases v4
  |cons a b=>simp
 have zKx:=Y2 v3 v4;have dV:=λi=>hN.Ef<|zKx i;have bF:∀i,(bw S R i).toNat<(bH W<|b6 t).1.length:=λi=>(dV i).1;have DK:∀i,(bH W<|b6 t).1.getD (bw S R<|i+1).toNat (0,0)∈nxE W (b6 t) ((bH W<|b6 t).1.getD (bw S R i).toNat (0,0)):=λi=>by
  obtain⟨_,q,q1,q2,q3,_⟩:=dV i;rw[q3,bS,so q2];exact q1
 have Mz:(bH W<|b6 t).1.getD (bw S R 0).toNat (0,0)∈iP W (b6 t) W.start (b6 t).start:=by
  have e0:bw S R 0=x:=by
   rw[<-GU zo []];rw[oR]
   cases zG:S++R with
   |nil=>rw[zG] at x2;cases x2
   |cons a b=>rw[zG] at x2;exact oV x2
  obtain⟨p,p1,rfl⟩:=cU.1 x1;rw[e0,bS,so<|hN.st p p1];exact p1
 have Ku:∀F∈gh W (b6 t) (bH W<|b6 t).1,∀i,∃j,i<=j/\F (bw S R j).toNat:=λF hF i=>by
  obtain⟨j,hj,rfl⟩:=kn.1 hF;obtain⟨y,y1,y2⟩:=v5 j hj;obtain⟨k,k1,_,k2⟩:=zps (s:=S) y1 i;refine⟨k,k1,?_⟩;rw[k2];rw[ay,aG hj] at y2;exact y2
 obtain⟨⟨a1,a2⟩,⟨c1,c2⟩,c3,c4,c5⟩:=Re hg (π:=λi=>(bw S R i).toNat) bF Mz DK Ku;have es:bw (kT (bH W<|b6 t).1 S) (kT (bH W<|b6 t).1 R)=λi=>((bH W<|b6 t).1.getD (bw S R i).toNat (0,0)).1:=funext λi=>by
  unfold kT;exact Mr (f:=λn=>((bH W<|b6 t).1.getD n.toNat (0,0)).1) hR i
 rw[es];refine⟨⟨a1,a2,c4⟩,?_,by unfold kT;rw[aS];exact hR⟩;have hn:∀w,bh w (da<|aW 4 t) 0↔¬bh w t 0:=λw=>by rw[Un w _ DW,BQ rfl rfl];rfl
 have mI:=hS<|wy W λi=>((bH W<|b6 t).1.getD (bw S R i).toNat (0,0)).1;rw[<-M6 h3] at mI;exact(hn _).1 (mI.1 ⟨λi=>((bH W<|b6 t).1.getD (bw S R i).toNat (0,0)).2,c1,c2,c3,c5⟩)
section
theorem zpy{P:bt}{f:FuncId}{v lo hi v' cv bu:Nat}{o x:an}(h:cd P f [.own 0 v lo hi] [o] (.own 1 v' cv bu) [o,x])(ho:∀ρ,o.aO ρ=o)(hx:∀ρ,x.aO ρ=x)(hu:o.under 1)
  {H:aB} {id:Nat} (hid:H[id]? = some o):cd P f [.own id v lo hi] H (.own H.length v' cv bu)<|H++[x]:=by
 have bF:=lO hid;refine Np (H:=H) (H':=H++[x]) (λi=>if i=0 then id else H.length) h (λi j hi hj e=>?_) (λi q hq=>?_) (λi h1 h2=>?_) zs (λi q hq=>?_) (λj hj _=>?_) ⟨by simp[az],trivial⟩ λq hq=>?_
 ·simp only[cj,dE] at hi hj
  (repeat' split at e)<;>omega
 ·cases i with
  |zero=>simp at hq;subst hq;rw[ho];exact hid
  |succ i=>simp at hq
 ·simp only[cj,dE] at h1 h2;rw[aa zo];exact aI _
 ·match i with
  |0=>simp at hq;subst hq;rw[ho];simp only[if_true];rw[dJ bF];exact hid
  |1=>simp at hq;subst hq;rw[hx];simp
  |i+2=>simp at hq
 ·rw[dJ hj]
 simp at hq;subst hq;exact hu
theorem Pu(s l:af)(hl:1<=l.length)(h1:s.length+l.length<=60)(i:Nat)(hi:i<s.length+l.length):ar aj 85 [kV s l,ab i]<|ab (wr (s.length+l.length) l.length (i+1):Nat):=by
 refine bz fZ ?_;unfold kV rU cY;refine sR ?_;refine .inl ⟨by unfold dW;rw[fU];omega,?_⟩;refine sW ?_;rw[aS,aS];refine .inl ⟨by unfold dW;rw[fU];omega,?_⟩;refine sW ?_;have fin:∀{H:aB} {z:Int},z=(wr (s.length+l.length) l.length (i+1):Nat)->Deep H (ab z) (ab (wr (s.length+l.length) l.length (i+1):Nat)):=λh=>h▸.refl _;refine sS (λg=>?_) λg=>?_
 ·rw[aS]
  exact fin (by have:i+1=s.length+l.length:=sO
                unfold wr;rw[aa zo];omega)
 refine .inl ⟨by unfold dW;rw[fU];omega,?_⟩;refine sW ?_
 exact fin (by have:¬i+1=s.length+l.length:=sO
               unfold wr;rw[ae zo];omega)
theorem zy3(n:Nat)(hn:n<=1000)(g:aq):ar aj 82 [bI n g]<|bI n λi=>!(g i):=by
 refine bV ?_;rw[C4];refine⟨zo,zo,zo,?_⟩;rw[bS];refine sW ?_;rw[C4]
 refine yA (λk:Nat=>[(3,.own 0 0 0 n),(9,bI n g),(10,ab n),(11,ab k)]) (λk=>[.vec true 0 1<|bU n λi=>if i<k then !(g i) else false])
  (λk=>k<=n) (λk=>n-k) 0 zo (uh ⟨rfl,rfl,rfl,rfl,trivial⟩<|by simp[n5]) ?_
 rintro k hk;refine sRS (λh=>?_) λh=>?_
 ·have au:k<n:=sO;obtain⟨q1,q2⟩:=DJ (g:=g) (z:=(k:Int)) k rfl au;refine⟨q1,_,q2,?_⟩;refine sW ?_;refine⟨zo,zo,?_⟩;refine sW ?_;refine⟨_,cX k zo au,?_⟩;refine sW ?_;refine .inl ⟨by unfold dW;rw[fU];omega,?_⟩;refine sW ?_;refine⟨k+1,zo,zd,uh ⟨rfl,rfl,rfl,rfl,trivial⟩ ?_⟩;rw[show 0+(k:Int).toNat=k by omega,wW]
  congr 2
  refine iw λi hi=>?_;by_cases e:i=k
  ·subst e;simp
  rw[aa e];by_cases e2:i<k
  ·rw[ae e2,ae zo]
  rw[aa e2,aa zo]
 have nY:k=n:=by have:¬k<n:=sO
                 omega
 subst nY;refine .own _ _ _ _ _ _ _ _ rfl ?_;rw[Af,iw (g':=λi=>!(g i)) λi hi=>ae hi];exact fW _
theorem zmu(n v:Nat)(hn:n<=1000)(g:aq):cd aj 82 [.own 0 v 0 n] [.vec true v 1<|bU n g] (.own 1 0 0 n) [.vec true v 1<|bU n g,.vec true 0 1<|bU n λi=>!(g i)]:=by
 refine gm fZ zs zs ?_ (by simp[az]) (by simp[an.under,bP _<|r9 _ _]);refine sR ?_;refine⟨zo,zo,zo,?_⟩;rw[bS];refine sW ?_
 refine yA (λk:Nat=>[(3,.own 1 0 0 n),(9,.own 0 v 0 n),(10,ab n),(11,ab k)]) (λk=>[.vec true v 1<|bU n g,.vec true 0 1<|bU n λi=>if i<k then !(g i) else false])
  (λk=>k<=n) (λk=>n-k) 0 zo (uh ⟨rfl,rfl,rfl,rfl,trivial⟩<|by simp[n5]) ?_
 rintro k hk;refine sRS (λh=>?_) λh=>?_
 ·have au:k<n:=sO;refine⟨zo,zo,?_⟩;refine sW ?_;refine⟨_,cX k zo au,?_⟩;refine sW ?_;refine⟨zo,zo,?_⟩;refine sW ?_;refine⟨_,cX k zo au,?_⟩;refine sW ?_;refine .inl ⟨by unfold dW;rw[fU];omega,?_⟩;refine sW ?_;refine⟨k+1,zo,zd,uh ⟨rfl,rfl,rfl,rfl,trivial⟩ ?_⟩;rw[show 0+(k:Int).toNat=k by omega,wW]
  congr 3
  refine iw λi hi=>?_;by_cases e:i=k
  ·subst e;simp
  rw[aa e];by_cases e2:i<k
  ·rw[ae e2,ae zo]
  rw[aa e2,aa zo]
 have nY:k=n:=by have:¬k<n:=sO
                 omega
 subst nY;rw[iw (g:=λi=>if i<k then !(g i) else false) (g':=λi=>!(g i)) λi hi=>ae hi];exact⟨rfl,zs⟩
def np(n s:Nat)(a b:aq):Nat->Nat->Bool
 |0=>λ_=>false
 |r+1=>λi=>rr a b (np n s a b r s) i<|n-i
theorem zxl{s:Nat}(hn:n=s+m)(hi:i<=n):np n s a b 2 i=qh n m a b i:=by
 rw[ON hn hi];simp only[np];rw[show n-s=m by omega]
theorem ztN(s l:af)(hl:1<=l.length)(h1:s.length+l.length<=60)(a b:aq)(n:Nat)(hn:n=s.length+l.length):ar aj 83 [kV s l,bI n a,bI n b]<|bI n<|qh n l.length a b:=by
 have iZ:∀i:Nat,i<n->ar aj 85 [kV s l,ab i] (ab (wr n l.length (i+1):Nat)):=λi hi=>by subst hn;exact Pu s l hl h1 i hi
 refine bV ?_;rw[C4];refine⟨zo,zo,zo,?_⟩;rw[bS];refine sW ?_
 refine yA (λr:Nat=>[(1,bI n a),(2,bI n b),(3,.loc 0 0),(7,ab n),(8,.own 1 0 0 n),(14,ab r)]) (λr=>[.row true<|rU s l,.vec true 0 1<|bU n<|np n s.length a b r])
  (λr=>r<=2) (λr=>2-r) 0 zo (uh ⟨rfl,rfl,rfl,rfl,rfl,rfl,trivial⟩<|by simp[n5,np]) ?_
 rintro r hr;refine sRS (λu4=>?_) λu4=>?_
 ·have u4:r<2:=sO;refine .inl ⟨by unfold dW;rw[fU];omega,?_⟩;refine sW ?_;generalize ho:np n s.length a b r=fD;have lX:np n s.length a b (r+1)=λi=>rr a b (fD s.length) i<|n-i:=by rw[<-ho];rfl
  refine yA (λc:Nat=>[(1,bI n a),(2,bI n b),(3,.loc 0 0),(7,ab n),(8,.own 1 0 0 n),(14,ab r),(9,ab<|(c:Int)-1)])
   (λc=>[.row true<|rU s l,.vec true 0 1<|bU n λi=>if c<=i then rr a b (fD s.length) i<|n-i else fD i])
   (λc=>c<=n) (λc=>c) n zo (uh ⟨rfl,rfl,rfl,rfl,rfl,rfl,rfl,trivial⟩<|by rw[iw (g:=fD) (g':=λi=>if n<=i then rr a b (fD s.length) i<|n-i else fD i) λi hi=>by rw[aa zo]]) ?_
  rintro c hc;refine sRS (λqT=>?_) λqT=>?_
  ·have qT:1<=c:=sO;obtain⟨k,rfl⟩:∃k,c=k+1:=⟨c-1,zo⟩;rw[show((k+1:Nat):Int)-1=(k:Int) by omega];have hk:k<n:=zo;obtain⟨q1,q2⟩:=DJ (g:=b) (z:=(k:Int)) k rfl hk;refine⟨q1,_,q2,?_⟩;refine sW ?_;have step:rr a b (fD s.length) k (n-k)=(b k||(a k&&rr a b (fD s.length) (k+1) (n-(k+1)))):=by
    rw[show n-k=(n-(k+1))+1 by omega];rfl
   have nextv:(if k+1<=wr n l.length (k+1) then rr a b (fD s.length) (wr n l.length<|k+1)<|n-wr n l.length (k+1) else fD<|wr n l.length<|k+1)=rr a b (fD s.length) (k+1) (n-(k+1)):=by
    by_cases e:k+1<n
    ·have:wr n l.length (k+1)=k+1:=by unfold wr;rw[ae e]
     rw[this,ae zo]
    have:wr n l.length (k+1)=s.length:=by unfold wr;rw[aa e];omega
    rw[this,aa zo,show n-(k+1)=0 by omega];rfl
   have fin:∀{v:Bool},v=rr a b (fD s.length) k (n-k)->(bU n λi=>if k+1<=i then rr a b (fD s.length) i<|n-i else fD i).set (0+(k:Int).toNat) [aF v]=bU n λi=>if k<=i then rr a b (fD s.length) i<|n-i else fD i:=λh=>by
    rw[show 0+(k:Int).toNat=k by omega,wW,h];refine iw λi hi=>?_;by_cases e:i=k
    ·subst e;simp
    rw[aa e];by_cases e2:k<=i
    ·rw[ae e2,ae zo]
    rw[aa e2,aa zo]
   have close:∀{v:Bool},v=rr a b (fD s.length) k (n-k)->dW .i64 ((k:Int)-1):=λ_=>by unfold dW;rw[fU];omega
   cases hb:b k
   ·refine sW ?_;obtain⟨q3,q4⟩:=DJ (g:=a) (z:=(k:Int)) k rfl hk;refine⟨q3,_,q4,?_⟩;refine sW ?_;cases ha:a k
    ·refine sW ?_;refine⟨zo,zo,?_⟩;refine sW ?_;refine⟨_,cX k zo hk,?_⟩;refine sW ?_;refine .inl ⟨by unfold dW;rw[fU];omega,?_⟩;refine sW ?_;exact⟨k,zo,zd,uh ⟨rfl,rfl,rfl,rfl,rfl,rfl,rfl,trivial⟩<|by congr 3;exact fin<|by rw[step,hb,ha];rfl⟩
    refine sW ?_;refine sC (iZ k hk) ?_;have hw:wr n l.length (k+1)<n:=(by unfold wr;split<;>omega);refine⟨zo,zo,?_⟩;refine sW ?_;refine⟨_,cX (wr n l.length<|k+1) zo hw,?_⟩;refine sW ?_;refine⟨zo,zo,?_⟩;refine sW ?_;refine⟨_,cX k zo hk,?_⟩;refine sW ?_;refine .inl ⟨by unfold dW;rw[fU];omega,?_⟩;refine sW ?_;exact⟨k,zo,zd,uh ⟨rfl,rfl,rfl,rfl,rfl,rfl,rfl,trivial⟩<|by congr 3;exact fin<|by rw[step,hb,ha,nextv];rfl⟩
   refine sW ?_;refine⟨zo,zo,?_⟩;refine sW ?_;refine⟨_,cX k zo hk,?_⟩;refine sW ?_;refine .inl ⟨by unfold dW;rw[fU];omega,?_⟩;refine sW ?_;exact⟨k,zo,zd,uh ⟨rfl,rfl,rfl,rfl,rfl,rfl,rfl,trivial⟩<|by congr 3;exact fin<|by rw[step,hb];rfl⟩
  have wE:c=0:=by have:¬1≤c:=sO
                  omega
  subst wE;refine .inl ⟨by unfold dW;rw[fU];omega,?_⟩;refine sW ?_;exact⟨r+1,zo,zd,uh ⟨rfl,rfl,rfl,rfl,rfl,rfl,trivial⟩<|by congr 3;rw[lX];exact iw λi hi=>zs⟩
 have u4:r=2:=by have:¬r<2:=sO
                 omega
 subst u4;refine .own _ _ _ _ _ _ _ _ rfl ?_;rw[Af,iw λi hi=>zxl hn zo];exact fW _
end
section
def kf(s l:af)(t:Tree)(k:Nat):fp:=(List.range k).map λj=>[bI (s.length+l.length)<|dU s l<|t.aD j]
@[simp] theorem zC2(s l:af)(t:Tree)(k:Nat):(kf s l t k).length=k:=by simp[kf]
theorem Iy(h:j<k):(kf s l t k)[j]? = some [bI (s.length+l.length)<|dU s l<|t.aD j]:=by
 simp[kf,cy,pN h]
variable(s l:af)
theorem UH(t:Tree)(k:Nat):List.drop 0 (List.take k<|kf s l t k)++[[bI (s.length+l.length)<|dU s l<|t.aD k]]=kf s l t (k+1):=by
 rw[ft,fF zs];simp[kf,qa]
@[simp] theorem R3(t:Tree)(k:Nat):dX<|kf s l t k:=cO _ (λj=>by simp[ao,ke]) _
def Zt:PC:=SO [Bi 25 .lss 24 23] (.seq (CX 25 0) (.seq (.block 1<|SO [Ia 26 3 22 24,LA 27 3 26,q 9 (.alloc [v0,v0,vN]),So 3 9 27]<|OP [qm 28 7,LA 29 3 9,LA 30 2 3,Ca 31 39 [29,30],Bs 32 1 1 [31],Ap 33 1 24 28 32,qm 7 33])<|OP [Bi 34 .add 24 K1,qm 24 34]))
def zDO:PC:=SO [Bi 92 .lss 91 90] (.seq (CX 92 3) (.seq (.block 4<|SO [qm 93 91,qm 11 93]<|SO [Fa 94 0 2,Lo 95 94] (.block 5<|SO [Bi 97 .eql 95 K3,qm 96 97] (.cond 96 (.ops [qm 98 6,qm 99 11,LA 100 2 3,qm 101 11,Cd 102 84 [100,101] 12,Fa 103 1 2,Ld 104 103 32,Bd 105 .shr 102 104 124,qd 106 (.bin .and 105 (.const (.int .u64 1))) 252,qd 107 (.bin .eql 106 (.const (.int .u64 1))) 508,Ja 108 1 98 99 1023,qk (.store 1 108 107) 2047] true)<|SO [Bi 110 .eql 95 K5,qm 109 110] (.cond 109 (OP [qm 111 6,qm 112 11,qm 113 7,Ia 114 1 113 K0,Lo 115 114,qm 116 11,Ia 117 1 115 116,Lo 118 117,qm 119 118,GT 120 119 (.move 7),GT 121 119 (.lg 1 120 K1),GT 122 119 (.fu 121),GT 123 119 (.move 11),GT 124 119 (.lg 1 122 123),GT 125 119 (.fu 124),Pk 126 119 125 cF,Ia 127 1 111 112,So 1 127 126])<|SO [Bi 129 .eql 95 K6,qm 128 129] (.cond 128 (OP [qm 130 6,qm 131 11,qm 132 7,Ia 133 1 132 K0,Lo 134 133,qm 135 11,Ia 136 1 134 135,Lo 137 136,qm 138 137,GF 139 138 (.move 7),GF 140 138 (.lg 1 139 K1),GF 141 138 (.fu 140),GF 142 138 (.move 11),GF 143 138 (.lg 1 141 142),GF 144 138 (.fu 143),Pk 145 138 cT 144,Ia 146 1 130 131,So 1 146 145])<|SO [Bi 148 .eql 95 K7,qm 147 148]<|If 147 (.ops [qm 149 6,qm 150 11,qm 151 7,Ja 152 1 151 K0 4,Ld 153 152 12,LA 154 2 3,qm 155 11,Cd 156 85 [154,155] 96,Ja 157 1 153 156 252,Ld 158 157 508,Ja 159 1 149 150 1023,qk (.store 1 159 158) 2047] true))))))<|OP [Bi 160 .add 91 K1,qm 91 160]))
def c39:PC:=SO [Bx 2 0,Bx 3 1,Mv 4 cN]<|SO [Fa 12 0 3,Lo 13 12,Ln 14 13,Fa 15 1 3,Lo 16 15,Ln 17 16,Bi 18 .add 14 17,qm 5 18]<|SO [qm 19 5,q 20 (.wo 1 1 [vF] 19 19),qm 6 20]<|SO [Mv 7 cN] (.seq (SO [Fa 21 2 2,Lo 22 21,Ln 23 22,Mv 24 K0]<|BL 0 Zt)<|SO [qm 35 6,Ca 36 82 [35],qm 10 36] (.seq (.seq (.stop<|OP [Fa 37 0 2,Lo 38 37]) (.block 2<|SO [Bi 40 .eql 38 K8,qm 39 40] (.cond 39 (.seq (.ops [LA 41 2 3,qm 42 7,Ja 43 1 42 K0 2,Ld 44 43 6,qm 45 7,Ja 46 1 45 K1 16,Ld 47 46 48,Cd 48 83 [41,44,47] 127,qw 4 48 255] true) .ret)<|SO [Bi 50 .eql 38 K9,qm 49 50] (.cond 49 (.seq (.ops [LA 51 2 3,qm 52 7,Ja 53 1 52 K0 2,Ld 54 53 6,Cd 55 82 [54] 14,qm 56 7,Ja 57 1 56 K1 32,Ld 58 57 96,Cd 59 82 [58] 254,Cd 60 83 [51,55,59] 511,Cd 61 82 [60] 1023,qw 4 61 2047] true) .ret)<|SO [Bi 63 .eql 38<|cI 10,qm 62 63] (.cond 62 (.seq (.ops [LA 64 2 3,qm 65 10,qm 66 7,Ja 67 1 66 K0 4,Ld 68 67 12,Cd 69 83 [64,65,68] 31,qw 4 69 63] true) .ret)<|SO [Bi 71 .eql 38<|cI 11,qm 70 71] (.cond 70 (.seq (.ops [LA 72 2 3,qm 73 10,qm 74 7,Ja 75 1 74 K0 4,Ld 76 75 12,Cd 77 82 [76] 28,Cd 78 83 [72,73,77] 63,Cd 79 82 [78] 127,qw 4 79 255] true) .ret)<|SO [Bi 81 .eql 38 K4,qm 80 81] (.cond 80 (SO [qm 82 7,Ia 83 1 82 K0,Lo 84 83,Ca 85 82 [84],qm 4 85] .ret)<|SO [Bi 87 .eql 38 K1,qm 86 87]<|If 86<|SO [qm 88 10,qm 4 88] .ret))))))) (.seq (SO [qm 89 6,Ln 90 89,Mv 91 K0]<|BL 3 zDO)<|SO [qm 161 6,qm 4 161] .ret)))
theorem zt1(hw:s.length+l.length<=60/\1<=l.length)(pW:ly s)(oi:ly l):∀t:Tree,t.wf bD->ar aj 39 [bn t,kV s l] (bI (s.length+l.length)<|dU s l t):=by
 intro t
 induction t using Tree.ind with
 |h t ih =>
  intro df;have hs:=wu t df;have gu:=hs.width;have rV:=qN ((gK _ _).1 df).1;have vV:0<=t.num:=(by have:=((gK _ _).1 df).1;unfold fE at this;omega);obtain⟨n,hn⟩:∃n,n=s.length+l.length:=⟨_,rfl⟩;have hU:∀a b:Nat->Bool,ar aj 83 [kV s l,bI n a,bI n b]<|bI n<|qh n l.length a b:=λa b=>ztN s l hw.2 hw.1 a b n hn;have hN:∀g:Nat->Bool,ar aj 82 [bI n g]<|bI n λi=>!(g i):=λg=>zy3 n zo g;refine bz (fJ 162 [.tmp 4] c39 Tryz.func39) ?_;refine sR ?_;rw[aS,aS];refine .inl ⟨by unfold dW;rw[fU];omega,?_⟩;rw[show(s.length:Int)+l.length=(n:Int) by omega];refine sW ?_;refine⟨zo,zo,zo,?_⟩;rw[bS];refine sW ?_;rw[aS]
  refine Ci (λk:Nat=>[(2,.loc 0 0),(3,.loc 1 0),(5,ab n),(6,.own 2 0 0 n),(7,.own 3 k 0 k),(22,.a8 3<|t.kids.map fT),(23,ab t.kids.length),(24,ab k)])
   (λk=>[.row true<|bx t,.row true<|rU s l,.vec true 0 1<|bU n λ_=>false,.vec true k 1<|kf s l t k])
   (λk=>k<=t.width) (λk=>t.width-k) 0 zo (oK (iF 7 1 zs rfl)<|bf ⟨rfl,rfl,rfl,rfl,rfl,rfl,rfl,rfl,trivial⟩<|by simp[n5];rfl) ?_
  rintro k hk;refine sRS (λh1=>?_) λh1=>?_
  ·have au:k<t.width:=(by simpa [Tree.width] using h1);refine sL (gd au) ?_;refine sC (ih k au<|gy df au) ?_;refine⟨by unfold mu;simp only[ft,Ey,zC,cj,dE];omega,?_⟩;refine sW ?_;refine .inl ⟨by unfold dW;rw[fU];unfold Tree.width at *;omega,?_⟩;refine sW ?_
   exact⟨k+1,zo,zd,br 4 zs rfl ⟨.refl _,by simp[az],.refl _,by simp[az],.refl _,by simp[az],.refl _,by simp[az],.refl _,by simp[az],.refl _,by simp only[az];exact bP _<|nH t,.refl _,by simp[az],.refl _,by simp[az],trivial⟩
    ⟨⟨rfl,.refl _,cu _<|iv t⟩,⟨rfl,.refl _,cu _<|PX s l⟩,⟨rfl,rfl,rfl,.refl _,bP _<|r9 _ _⟩,⟨rfl,rfl,rfl,bM<|UH s l t k,bP _<|R3 _ _ _ _⟩,trivial⟩⟩
  have EX:k=t.width:=by have:¬k<t.width:=by simpa [Tree.width] using h1
                        omega
  subst EX;clear h1 hk;refine sA (zpy (zmu n 0 zo λ_=>false) (λρ=>by simp[an.aO,jb _<|r9 _ _]) (λρ=>by simp[an.aO,jb _<|r9 _ _]) (by simp[an.under,bP _<|r9 _ _]) (H:=[.row true<|bx t,.row true<|rU s l,.vec true 0 1<|bU n λ_=>false,.vec true t.width 1<|kf s l t t.width]) (id:=2) rfl) ?_
  refine dk (vl (lF 3) (env':=[(2,.loc 0 0),(3,.loc 1 0),(6,.own 2 0 0 n),(7,.a8 1<|kf s l t t.width),(10,bI n λ_=>true)])
   (H':=[.row true<|bx t,.row true<|rU s l,.vec true 0 1<|bU n λ_=>false,.vec false t.width 1<|kf s l t t.width,.vec false 0 1<|bU n λ_=>true])
   ⟨.refl _,.refl _,.refl _,.own _ _ _ _ _ _ _ _ rfl rfl (bM<|by rw[ft,fF zs]),.own _ _ _ _ _ _ _ _ rfl rfl (bM<|Af n _),trivial⟩
   ⟨⟨.inl rfl,(λh=>by cases h),.refl _⟩,⟨.inl rfl,(λh=>by cases h),.refl _⟩,⟨.inl rfl,(λh=>by cases h),rfl,rfl,.refl _⟩,⟨.inr ⟨rfl,rfl⟩,λ_=>rfl,rfl,rfl,.refl _⟩,⟨.inr ⟨rfl,rfl⟩,λ_=>rfl,rfl,rfl,.refl _⟩,trivial⟩) ?_
  refine sR ?_;have kid0:1<=t.width->my s l t 0=dU s l (t.aD 0):=λh=>yy s l zo;have kid1:2<=t.width->my s l t 1=dU s l (t.aD 1):=λh=>yy s l zo;have tr:=Lb s l t;have fin:∀{H:aB} {g:aq},g=dU s l t->Deep H (bI n g) (bI (s.length+l.length)<|dU s l t):=λh=>by rw[h,hn];exact .refl _
  have ka0:∀{z:Nat},z=0->1<=t.width->(kf s l t t.width)[z]? = some [bI n<|dU s l<|t.aD 0]:=λh h1=>by subst h;rw[hn];exact Iy zo
  have ka1:∀{z:Nat},z=1->2<=t.width->(kf s l t t.width)[z]? = some [bI n<|dU s l<|t.aD 1]:=λh h1=>by subst h;rw[hn];exact Iy zo
  refine sS (λh8=>?_) λh8=>?_
  ·have dN:t.kind=8:=sO;refine sL (ka0 rfl zo) ?_;refine sL (ka1 rfl zo) ?_;refine sC (hU _ _) ?_;exact fin<|by rw[tr,dN,kid0 zo,kid1 zo,hn];rfl
  refine sS (λh9=>?_) λh9=>?_
  ·have dN:t.kind=9:=sO;refine sL (ka0 rfl zo) ?_;refine sC (hN _) ?_;refine sL (ka1 rfl zo) ?_;refine sC (hN _) ?_;refine sC (hU _ _) ?_;refine sC (hN _) ?_;exact fin<|by rw[tr,dN,kid0 zo,kid1 zo,hn];rfl
  refine sS (λgD=>?_) λgD=>?_
  ·have dN:t.kind=10:=sO;refine sL (ka0 rfl zo) ?_;refine sC (hU _ _) ?_;exact fin<|by rw[tr,dN,kid0 zo,hn];rfl
  refine sS (λj6=>?_) λj6=>?_
  ·have dN:t.kind=11:=sO;refine sL (ka0 rfl zo) ?_;refine sC (hN _) ?_;refine sC (hU _ _) ?_;refine sC (hN _) ?_;exact fin<|by rw[tr,dN,kid0 zo,hn];rfl
  refine sS (λh4=>?_) λh4=>?_
  ·have dN:t.kind=4:=sO;refine sL (ka0 rfl zo) ?_;refine sC (hN _) ?_;exact fin<|by rw[tr,dN,kid0 zo];rfl
  refine sS (λh1=>?_) λh1=>?_
  ·have dN:t.kind=1:=sO;exact fin<|by rw[tr,dN];rfl
  refine bT [2,3,6,7,90] (λk:Nat=>[(91,ab k)]) (λk=>[(2,.vec true 0 1<|bU n<|rD (dU s l t) k false)]) (λk=>k<=n) (λk=>n-k) 0 ?_;refine sW ?_;refine⟨zo,by exact sK,by rw[YS n<|dU s l t];rfl,?_⟩;rintro k hk;refine bl (λg1=>?_) λg1=>?_
  ·have au:k<n:=sO;have put:∀{v:Bool},v=dU s l t k->(bU n<|rD (dU s l t) k false).set (0+(k:Int).toNat) [aF v]=bU n (rD (dU s l t) (k+1) false):=λh=>by rw[zzX zo,Pn h]
   have inr:dW .i64<|(k:Int)+1:=(by unfold dW;rw[fU];omega);have kat:∀g:Nat->Bool,0<=(k:Int)/\(bU n g)[(k:Int).toNat]? = some [aF<|g k]:=λg=>DJ k rfl au;have trk:=congrFun tr k;refine sS (λg3=>?_) λg3=>?_
   ·have dN:t.kind=3:=sO;refine sC (XI s l hw.2 zo zo k zo) ?_;refine⟨vV,?_⟩;refine sW ?_;refine⟨zo,zo,?_⟩;refine sW ?_;refine⟨_,cX k zo au,?_⟩;refine sW ?_;refine .inl ⟨inr,?_⟩;refine sW ?_;refine⟨k+1,zo,zd,bf (by exact sK) ?_⟩;rw[put]
    ·rfl
    rw[trk,dN];have ha:=FQ pW oi k;have hr:=Fg ha.1 ha.2<|min t.num.toNat 64;have:=Fh hr.1 hr.2;show(gF .and .u64 ((bw s l k).fdiv<|2^min t.num.toNat 64) 1==1)=jz (bw s l k) t.num;rw[this];rfl
   refine sS (λg5=>?_) λg5=>?_
   ·have dN:t.kind=5:=sO;have e0:=kid0 zo;have e1:=kid1 zo;refine sL (ka0 rfl zo) ?_;refine sL ((kat _).2) ?_;cases c0:dU s l (t.aD 0) k
    ·refine sW ?_;refine⟨zo,zo,?_⟩;refine sW ?_;refine⟨_,cX k zo au,?_⟩;refine sW ?_;refine .inl ⟨inr,?_⟩;refine sW ?_;exact⟨k+1,zo,zd,bf (by exact sK)<|by rw[put<|by rw[trk,dN,e0,e1];simp[trF,c0]];rfl⟩
    refine sW ?_;refine sL (ka1 rfl zo) ?_;refine sL ((kat _).2) ?_;refine⟨zo,zo,?_⟩;refine sW ?_;refine⟨_,cX k zo au,?_⟩;refine sW ?_;refine .inl ⟨inr,?_⟩;refine sW ?_;exact⟨k+1,zo,zd,bf (by exact sK)<|by rw[put<|by rw[trk,dN,e0,e1];simp[trF,c0]];rfl⟩
   refine sS (λg6=>?_) λg6=>?_
   ·have dN:t.kind=6:=sO;have e0:=kid0 zo;have e1:=kid1 zo;refine sL (ka0 rfl zo) ?_;refine sL ((kat _).2) ?_;cases c0:dU s l (t.aD 0) k
    ·refine sW ?_;refine sL (ka1 rfl zo) ?_;refine sL ((kat _).2) ?_;refine⟨zo,zo,?_⟩;refine sW ?_;refine⟨_,cX k zo au,?_⟩;refine sW ?_;refine .inl ⟨inr,?_⟩;refine sW ?_;exact⟨k+1,zo,zd,bf (by exact sK)<|by rw[put<|by rw[trk,dN,e0,e1];simp[trF,c0]];rfl⟩
    refine sW ?_;refine⟨zo,zo,?_⟩;refine sW ?_;refine⟨_,cX k zo au,?_⟩;refine sW ?_;refine .inl ⟨inr,?_⟩;refine sW ?_;exact⟨k+1,zo,zd,bf (by exact sK)<|by rw[put<|by rw[trk,dN,e0,e1];simp[trF,c0]];rfl⟩
   refine sS (λg7=>?_) λg7=>?_
   ·have dN:t.kind=7:=sO;have e0:=kid0 zo;have vn:wr n l.length (k+1)<n:=(by unfold wr;split<;>omega);refine sL (ka0 rfl zo) ?_;refine sC (Pu s l hw.2 hw.1 k zo) ?_;rw[<-hn];refine sL (uY (i:=wr n l.length<|k+1) vn) ?_;refine⟨zo,zo,?_⟩;refine sW ?_;refine⟨_,cX k zo au,?_⟩;refine sW ?_;refine .inl ⟨inr,?_⟩;refine sW ?_;exact⟨k+1,zo,zd,bf (by exact sK)<|by rw[put<|by rw[trk,dN,e0];simp[trF,hn]];rfl⟩
   have dN:t.kind=2:=sO;refine .inl ⟨inr,?_⟩;refine sW ?_;exact⟨k+1,zo,zd,bf (by exact sK)<|by rw[Pn<|by rw[trk,dN];rfl];rfl⟩
  have nY:k=n:=by have:¬k<n:=sO
                  omega
  subst nY;rw[<-hn];exact zW<|by rw[<-zwG k (dU s l t) false];rfl
end

def atF(k num x:Int)(a b c later:Bool):Bool :=
 if k=1 then true else if k=3 then jz x num else if k=4 then !a else if k=5 then a&&b else if k=6 then a||b else if k=7 then c
 else if k=10 then a||later else if k=11 then a&&later else if k=8 then b||(a&&later) else if k=9 then b&&(a||later) else false
def rg(st:Nat->Bool->Bool)(e:Bool):Nat->Nat->Bool
 |_,0=>e
 |j,f+1=>st j<|rg st e (j+1) f
def oC(n s:Nat)(st:Nat->Bool->Bool)(g0:Bool):Nat->Nat->Bool
 |0=>λ_=>g0
 |r+1=>λi=>rg st (oC n s st g0 r s) i<|n-i
theorem LF{st:Nat->Bool->Bool}{a b:aq}(h:∀i q,st i q=(b i||(a i&&q)))(e:Bool):∀f j,rg st e j f=rr a b e j f
 |0,_=>rfl
 |f+1,j=>by simp only[rg,rr];rw[h,LF h e f<|j+1]
theorem Mo{st:Nat->Bool->Bool}{a b:aq}(h:∀i q,st i q=!(b i||(a i&&!q)))(e:Bool):∀f j,rg st e j f=!(rr a b (!e) j f)
 |0,_=>by simp[rg,rr]
 |f+1,j=>by simp only[rg,rr];rw[h,Mo h e f<|j+1,Bool.not_not]
variable{st:Nat->Bool->Bool}{v:aq}
theorem Y9(h:∀i q,st i q=v i)(e:Bool){f:Nat}(hf:1<=f):rg st e j f=v j:=by
 obtain⟨f,rfl⟩:∃k,f=k+1:=⟨f-1,zo⟩;simp only[rg];rw[h]
theorem zb{s:Nat}(h:∀i q,st i q=v i){g0:Bool}(hi:i<n):oC n s st g0 2 i=v i:=by
 simp only[oC];exact Y9 h _ zo
theorem UP{s:Nat}(hn:n=s+m)(h:∀i q,st i q=(b i||(a i&&q)))(hi:i<n):oC n s st false 2 i=qh n m a b i:=by
 rw[ON hn zo];simp only[oC];rw[LF h,LF h,show n-s=m by omega]
theorem Tw{s:Nat}(hn:n=s+m)(h:∀i q,st i q=!(b i||(a i&&!q)))(hi:i<n):oC n s st true 2 i=!(qh n m a b i):=by
 rw[ON hn zo];simp only[oC];rw[Mo h,Mo h,show n-s=m by omega];simp
section
variable(s l:af)
def stF(k num:Int)(a b:aq)(i:Nat)(q:Bool):Bool:=atF k num (bw s l i) (a i) (b i) (a<|wr (s.length+l.length) l.length<|i+1) q
def upB(k:Int):Bool:=k==9||k==11
theorem zqy(k num:Int)(a b:aq)(hi:i<s.length+l.length):oC (s.length+l.length) s.length (stF s l k num a b) (upB k) 2 i=trF s l k num a b i:=by
 unfold trF;by_cases h1:k=1
 ·subst h1;rw[ae rfl];exact zb (v:=λ_=>true) (λi q=>rfl) hi
 rw[aa h1];by_cases h3:k=3
 ·subst h3;rw[ae rfl];exact zb (v:=λi=>jz (bw s l i) num) (λi q=>rfl) hi
 rw[aa h3];by_cases h4:k=4
 ·subst h4;rw[ae rfl];exact zb (v:=λi=>!(a i)) (λi q=>rfl) hi
 rw[aa h4];by_cases h5:k=5
 ·subst h5;rw[ae rfl];exact zb (v:=λi=>a i&&b i) (λi q=>rfl) hi
 rw[aa h5];by_cases h6:k=6
 ·subst h6;rw[ae rfl];exact zb (v:=λi=>a i||b i) (λi q=>rfl) hi
 rw[aa h6];by_cases h7:k=7
 ·subst h7;rw[ae rfl];exact zb (v:=λi=>a<|wr (s.length+l.length) l.length<|i+1) (λi q=>rfl) hi
 rw[aa h7];by_cases h8:k=8
 ·subst h8;rw[ae rfl];exact UP rfl (λi q=>rfl) hi
 rw[aa h8];by_cases h9:k=9
 ·subst h9;rw[ae rfl];exact Tw rfl (λi q=>by show(b i&&(a i||q))=_;cases b i<;>cases a i<;>cases q<;>rfl) hi
 rw[aa h9];by_cases gD:k=10
 ·subst gD;rw[ae rfl];exact UP rfl (λi q=>by show(a i||q)=_;simp) hi
 rw[aa gD];by_cases j6:k=11
 ·subst j6;rw[ae rfl];exact Tw rfl (λi q=>by show(a i&&q)=_;cases a i<;>cases q<;>rfl) hi
 rw[aa j6];refine zb (v:=λ_=>false) (λi q=>?_) hi;unfold stF atF;rw[aa h1,aa h3,aa h4,aa h5,aa h6,aa h7,aa gD,aa j6,aa h8,aa h9]
end
def tv(L:List bQ)(k:Int):Int:=if k<0 then 9223372036854775808 else 2^(L.getD k.toNat (0,0,0)).1.toNat
def dd(L:List bQ)(l:af):af:=l.map<|tv L
@[simp] theorem Mi(L:List bQ)(l:af):(dd L l).length=l.length:=by simp[dd]
theorem Je{L:List bQ}(h:∀k,(L.getD k (0,0,0)).1.toNat<=63):∀x∈dd L l,0<=x/\x<18446744073709551616:=by
 intro x hx;unfold dd at hx;obtain⟨k,_,rfl⟩:=cU.1 hx;unfold tv;split
 ·omega
 have h1:=h k.toNat;have h2:=BS (L.getD k.toNat (0,0,0)).1.toNat;have h3:=Ao h1;have:(2:Int)^63=9223372036854775808:=zc;omega
def ov(l:af)(g:Nat->Int):Nat->Nat->Int
 |0=>g
 |j+1=>kD (ov l g j) (l.getD j 0).toNat<|ov l g j (l.getD j 0).toNat+1
theorem N9{l:af}{g:Nat->Int}{c:Int}(hg:∀k,0<=g k/\g k<=c):∀j k,0<=ov l g j k/\ov l g j k<=c+j
 |0,k=>by have:=hg k;simp only[ov];omega
 |j+1,k=>by
  have h1:=N9 (l:=l) hg j k;have h2:=N9 (l:=l) hg j (l.getD j 0).toNat;simp only[ov];by_cases e:k=(l.getD j 0).toNat
  ·rw[<-e,tu];rw[<-e] at h2;omega
  rw[wj e];omega
namespace ah
theorem MB{P:ah}{M:af}{L:List bQ}{g:Nat->Int}{l:af}:∀n,(∀j,j<(P.gE M L n).length->l.getD j 0=(P.gE M L n).getD j 0) ->
  ∀k,ov l g (P.gE M L n).length k=g k+if k<n/\P.ix M (L.getD k (0,0,0))=true then 1 else 0
 |0,_,k=>by simp[gE,ov]
 |n+1,h,k=>by
  by_cases q:P.ix M (L.getD n (0,0,0))=true
  ·have e:P.gE M L (n+1)=P.gE M L n++[(n:Int)]:=(by simp only[gE];rw[ae q]);have ih:=MB (P:=P) (M:=M) (L:=L) (g:=g) (l:=l) n λj hj=>by
    rw[h j<|by rw[e];simp;omega,e,ay,dJ hj,<-ay]
   have hl:l.getD (P.gE M L n).length 0=(n:Int):=by
    rw[h _<|by rw[e];simp,e,ay,fc<|aI _,mE];rfl
   rw[e,cL,jt];simp only[ov];rw[hl,bS];by_cases w:k=n
   ·subst w;rw[tu,ih,aa zo,ae ⟨zo,q⟩];omega
   rw[wj w,ih];by_cases r:k<n/\P.ix M (L.getD k (0,0,0))=true
   ·rw[ae r,ae ⟨zo,r.2⟩]
   rw[aa r,aa λr'=>r ⟨zo,r'.2⟩]
  have e:P.gE M L (n+1)=P.gE M L n:=(by simp only[gE];rw[aa q]);rw[e] at h⊢;rw[MB n h];by_cases r:k<n/\P.ix M (L.getD k (0,0,0))=true
  ·rw[ae r,ae ⟨zo,r.2⟩]
  rw[aa r,aa];rintro⟨r1,r2⟩;by_cases w:k=n
  ·subst w;exact q r2
  exact r ⟨zo,r2⟩
theorem Ot{P:ah}{M:af}{L:List bQ}:∀n,∀x∈P.gE M L n,0<=x/\x.toNat<n
 |0,x,h=>by simp[gE] at h
 |n+1,x,h=>by
  simp only[gE] at h;split at h
  ·rcases de.1 h with h|h
   ·have:=Ot n x h;omega
   rw[cM] at h;subst h;omega
  have:=Ot n x h;omega
noncomputable def pR(P:ah)(L:List bQ)(fr:Nat->af):Nat->Nat->Int
 |0=>λ_=>0
 |i+1=>λk=>P.pR L fr i k+if k<L.length/\P.ix (fr i) (L.getD k (0,0,0))=true then 1 else 0
theorem OS(P:ah)(L:List bQ)(fr:Nat->af):∀i k,0<=P.pR L fr i k/\P.pR L fr i k<=i
 |0,k=>by simp[pR]
 |i+1,k=>by
  have:=OS P L fr i k;simp only[pR];split<;>omega
theorem Tc{P:ah}{L:List bQ}{fr:Nat->af}{k:Nat}(hk:k<L.length):∀i,P.pR L fr i k=i↔∀j,j<i->P.ix (fr j) (L.getD k (0,0,0))=true
 |0=>by simp[pR]
 |i+1=>by
  have h1:=OS P L fr i k;have ih:=Tc (P:=P) (fr:=fr) hk i;simp only[pR];by_cases q:P.ix (fr i) (L.getD k (0,0,0))=true
  ·rw[ae ⟨hk,q⟩];constructor
   ·intro h j hj;by_cases e:j=i
    ·subst e;exact q
    exact ih.1 zo j zo
   intro h;have:=ih.2 λj hj=>h j zo;omega
  rw[aa λr=>q r.2];constructor
  ·intro h;omega
  intro h;exact absurd (h i zo) q
open Classical in
noncomputable def tl(P:ah)(L:List bQ)(loop:af)(fr:Nat->af):Bool :=
 decide (∀k:Nat,k<L.length->(k:Int)∈loop\/∃j,j<loop.length/\P.ix (fr j) (L.getD k (0,0,0))=false)
variable{L:List bQ}{fr:Nat->af}
theorem zwP{loop:af}(hk:k<L.length)(h1:(k:Int) ∉ loop)(h2:∀j,j<loop.length->P.ix (fr j) (L.getD k (0,0,0))):P.tl L loop fr=false:=by
 unfold tl;refine gx λh=>?_;rcases h k hk with q|⟨j,hj,q⟩
 ·exact h1 q
 rw[h2 j hj] at q;cases q
theorem TN{loop:af}(h:∀k:Nat,k<L.length->(k:Int)∈loop\/∃j,j<loop.length/\P.ix (fr j) (L.getD k (0,0,0))=false):P.tl L loop fr:=by
 unfold tl;exact gb h
end ah
section
theorem zzs(h:i<s.length+l.length):(s++l).getD i 0=bw s l i:=by
 unfold bw;split
 ·rw[ay,dJ zo,<-ay]
 rw[ay,fc zo,<-ay,ya zo]
variable(l:af)
@[simp] theorem zCf:az m (cY l)↔True:=⟨λ_=>trivial,λ_=>cp _<|qR l⟩
variable(s:af)
theorem zuM(n m:Nat)(hn:n=s.length+m)(hm:1<=m)(h1:n<=60000)(i:Nat)(hi:i<n):ar aj 64 [ab i,.aN [ab n],.aN [cY s]]<|ab (wr n m (i+1):Nat):=by
 refine bz fZ ?_;unfold cY;refine sR ?_;refine sI ?_;have fin:∀{H:aB} {z:Int},z=(wr n m (i+1):Nat)->Deep H (ab z) (ab (wr n m (i+1):Nat)):=λh=>h▸.refl _;refine sS (λg=>?_) λg=>?_
 ·rw[aS]
  exact fin (by have:i+1=n:=sO
                unfold wr;rw[aa zo];omega)
 refine sI ?_
 exact fin (by have:¬i+1=n:=sO
               unfold wr;rw[ae zo];omega)
theorem zCe(s l:af)(hw:s.length+l.length<=60000/\1<=l.length)(pW:ly s)(oi:ly l)(t:Tree)(df:t.wf bD)(n:Nat)(hn:n=s.length+l.length)(i:Nat)(hi:i<n)(q:Bool) :
  ar aj 65 [bn t,.a8 1<|kf s l t t.width,ab i,.sc (.int .u64<|bw s l i),aF q,ab (wr n l.length (i+1):Nat)]
   (aF<|stF s l t.kind t.num (my s l t 0) (my s l t 1) i q):=by
 have hs:=wu t df;have gu:=hs.width;have rV:=qN ((gK _ _).1 df).1;have vV:0<=t.num:=by have:=((gK _ _).1 df).1;unfold fE at this;omega
 have kid0:1<=t.width->my s l t 0=dU s l (t.aD 0):=λh=>yy s l zo;have kid1:2<=t.width->my s l t 1=dU s l (t.aD 1):=λh=>yy s l zo;have ka0:∀{z:Nat},z=0->1<=t.width->(kf s l t t.width)[z]? = some [bI n<|dU s l<|t.aD 0]:=λh h1=>by subst h;rw[hn];exact Iy zo
 have ka1:∀{z:Nat},z=1->2<=t.width->(kf s l t t.width)[z]? = some [bI n<|dU s l<|t.aD 1]:=λh h1=>by subst h;rw[hn];exact Iy zo
 have kat:∀g:Nat->Bool,0<=(i:Int)/\(bU n g)[(i:Int).toNat]? = some [aF<|g i]:=λg=>DJ i rfl hi;have vn:wr n l.length (i+1)<n:=by unfold wr;split<;>omega
 have est:stF s l t.kind t.num (my s l t 0) (my s l t 1) i q=atF t.kind t.num (bw s l i) (my s l t 0 i) (my s l t 1 i) (my s l t 0<|wr n l.length<|i+1) q:=by unfold stF;rw[hn]
 rw[est];refine bz fZ ?_;refine sRS (λh1=>?_) λh1=>?_
 ·have dN:t.kind=1:=sO;exact bL<|by rw[dN];rfl
 refine sS (λh3=>?_) λh3=>?_
 ·have dN:t.kind=3:=sO;refine⟨vV,?_⟩;refine sW ?_;refine bL ?_;rw[dN];have ha:=FQ pW oi i;have hr:=Fg ha.1 ha.2<|min t.num.toNat 64;have:=Fh hr.1 hr.2;show aF (gF .and .u64 ((bw s l i).fdiv<|2^min t.num.toNat 64) 1==1)=aF (jz (bw s l i) t.num);rw[this];rfl
 refine sS (λh4=>?_) λh4=>?_
 ·have dN:t.kind=4:=sO;refine sL (ka0 rfl zo) ?_;refine sL ((kat _).2) ?_;exact bL<|by rw[dN,kid0 zo];rfl
 refine sS (λh5=>?_) λh5=>?_
 ·have dN:t.kind=5:=sO;have e0:=kid0 zo;have e1:=kid1 zo;refine sL (ka0 rfl zo) ?_;refine sL ((kat _).2) ?_;rw[dN,e0,e1];cases c0:dU s l (t.aD 0) i
  ·refine sW ?_;exact bL<|by simp[atF]
  refine sW ?_;refine sL (ka1 rfl zo) ?_;refine sL ((kat _).2) ?_;exact bL<|by simp[atF]
 refine sS (λh6=>?_) λh6=>?_
 ·have dN:t.kind=6:=sO;have e0:=kid0 zo;have e1:=kid1 zo;refine sL (ka0 rfl zo) ?_;refine sL ((kat _).2) ?_;rw[dN,e0,e1];cases c0:dU s l (t.aD 0) i
  ·refine sW ?_;refine sL (ka1 rfl zo) ?_;refine sL ((kat _).2) ?_;exact bL<|by simp[atF]
  refine sW ?_;exact bL<|by simp[atF]
 refine sS (λh7=>?_) λh7=>?_
 ·have dN:t.kind=7:=sO;have e0:=kid0 zo;refine sL (ka0 rfl zo) ?_;refine sL (uY (i:=wr n l.length<|i+1) vn) ?_;exact bL<|by rw[dN,e0];rfl
 refine sS (λgD=>?_) λgD=>?_
 ·have dN:t.kind=10:=sO;have e0:=kid0 zo;refine sL (ka0 rfl zo) ?_;refine sL ((kat _).2) ?_;rw[dN,e0];cases c0:dU s l (t.aD 0) i
  ·refine sW ?_;exact bL<|by simp[atF]
  refine sW ?_;exact bL<|by simp[atF]
 refine sS (λj6=>?_) λj6=>?_
 ·have dN:t.kind=11:=sO;have e0:=kid0 zo;refine sL (ka0 rfl zo) ?_;refine sL ((kat _).2) ?_;rw[dN,e0];cases c0:dU s l (t.aD 0) i
  ·refine sW ?_;exact bL<|by simp[atF]
  refine sW ?_;exact bL<|by simp[atF]
 refine sS (λh8=>?_) λh8=>?_
 ·have dN:t.kind=8:=sO;have e0:=kid0 zo;have e1:=kid1 zo;refine sL (ka1 rfl zo) ?_;refine sL ((kat _).2) ?_;rw[dN,e0,e1];cases c1:dU s l (t.aD 1) i
  ·refine sW ?_;refine sL (ka0 rfl zo) ?_;refine sL ((kat _).2) ?_;cases c0:dU s l (t.aD 0) i
   ·refine sW ?_;exact bL<|by simp[atF]
   refine sW ?_;exact bL<|by simp[atF]
  refine sW ?_;exact bL<|by simp[atF]
 refine sS (λh9=>?_) λh9=>?_
 ·have dN:t.kind=9:=sO;have e0:=kid0 zo;have e1:=kid1 zo;refine sL (ka1 rfl zo) ?_;refine sL ((kat _).2) ?_;rw[dN,e0,e1];cases c1:dU s l (t.aD 1) i
  ·refine sW ?_;exact bL<|by simp[atF]
  refine sW ?_;refine sL (ka0 rfl zo) ?_;refine sL ((kat _).2) ?_;cases c0:dU s l (t.aD 0) i
  ·refine sW ?_;exact bL<|by simp[atF]
  refine sW ?_;exact bL<|by simp[atF]
 have dN:t.kind=2:=sO;exact bL<|by rw[dN];rfl
def zDd:PC:=SO [Bi 28 .lss 27 26] (.seq (CX 28 0) (.seq (.block 1<|SO [Ia 29 3 25 27,LA 30 3 29,q 12 (.alloc [v0,v0,vN]),So 3 12 30]<|OP [qm 31 10,LA 32 3 12,Lo 33 4,qm 34 2,Ca 35 27 [32,33,34],Bs 36 1 1 [35],Ap 37 1 24 31 36,qm 10 37])<|OP [Bi 38 .add 27 K1,qm 27 38]))
def YN:PC:=SO [Bi 52 .lss 51 50] (.seq (CX 52 2) (.seq (.block 3<|SO [qm 53 51,qm 15 53]<|OP [qm 54 13,qm 55 15,qm 56 14,Ia 57 1 54 55,So 1 57 56])<|OP [Bi 58 .add 51 K1,qm 51 58]))
def zDm:PC:=.seq (SO [qm 63 16,Bi 64 .geq 63 K0]<|CX 64 6) (.seq (.block 7 (.ops [qm 67 13,qm 68 16,LA 69 3 3,qm 70 10,qm 71 16,qm 72 7,qm 73 16,Ja 74 1 72 73 96,Ld 75 74 224,qm 76 13,qm 77 9,qm 78 16,qd 79 (.iB 77 [78]) 3072,Ja 80 1 76 79 7680,Ld 81 80 15872,qm 82 9,qm 83 16,qd 84 (.iB 82 [83]) 105472,Cd 85 65 [69,70,71,75,81,84] 262140,Ja 86 1 67 68 524287,qk (.store 1 86 85) 1048575] true))<|OP [qm 65 16,Bi 66 .sub 65 K1,qm 16 66])
def zDK:PC:=SO [Bi 60 .lss 59 K2] (.seq (CX 60 4) (.seq (.block 5<|SO [Lo 61 8,Bi 62 .sub 61 K1,qm 16 62]<|BL 6 zDm)<|OP [Bi 87 .add 59 K1,qm 59 87]))
def c27:PC:=SO [Bx 3 0,Bx 4 1,Mv 6 cN]<|SO [Lo 17 4,Ca 18 63 [17],qm 19 2,Ap 20 1 8 18 19,qm 7 20]<|SO [qm 21 7,Ln 22 21,q 8 (.alloc [v0]),So 1 8 22]<|SO [q 23 (.n4 (.func 64) [] [8,4]),qm 9 23]<|SO [Mv 10 cN] (.seq (SO [Fa 24 2 3,Lo 25 24,Ln 26 25,Mv 27 K0]<|BL 0 zDd) (.seq (.stop<|OP [Lo 39 8,q 40 (.wo 1 1 [vF] 39 39),qm 13 40]) (.seq (.stop<|OP [Fa 41 0 3,Lo 42 41,Bi 43 .eql 42 K9,qm 44 43,GF 45 44 (.gU 0 3),GF 46 44 (.fu 45),GF 47 44 (.bin .eql 46<|cI 11),Pk 48 44 cT 47,qm 14 48]) (.seq (SO [qm 49 13,Ln 50 49,Mv 51 K0]<|BL 2 YN) (.seq (SO [Mv 59 K0]<|BL 4 zDK)<|SO [qm 88 13,qm 6 88] .ret)))))
theorem zuw(s l:af)(hw:s.length+l.length<=60000/\1<=l.length)(pW:ly s)(oi:ly l):∀t:Tree,t.wf bD->ar aj 27 [bn t,cY s,cY l] (bI (s.length+l.length)<|dU s l t):=by
 intro t
 induction t using Tree.ind with
 |h t ih =>
  intro df;have hs:=wu t df;have gu:=hs.width;obtain⟨n,hn⟩:∃n,n=s.length+l.length:=⟨_,rfl⟩;have hA:=λi hi q=>zCe s l hw pW oi t df n hn i hi q;have hN:=λi hi=>zuM s n l.length hn hw.2 zo i hi;have h2:∀i,i<n->oC n s.length (stF s l t.kind t.num (my s l t 0)<|my s l t 1) (upB t.kind) 2 i=dU s l t i:=λi hi=>by
   rw[Lb,hn];exact zqy s l _ _ _ _ zo
  generalize stF s l t.kind t.num (my s l t 0) (my s l t 1)=st at hA h2;refine bz (fJ 89 [.tmp 6] c27 Tryz.func27) ?_;refine sR ?_;have hC:=zqb s zo;refine sE (nX hC (by simp[ao,Pure]) [2] rfl rfl (by simp[an.aO,bO,D.aO];rfl)) ?_;refine sJ ?_;have rV:=qN ((gK _ _).1 df).1;have pP:t.width<=1000000:=(by unfold Tree.width at *;omega);have eall:List.drop 0 (List.take s.length<|s.map λn=>[D.sc (.int .u64 n)])++(l.map λn=>[D.sc (.int .u64 n)])=(s++l).map λn=>[D.sc (.int .u64 n)]:=by
   rw[ft,fF zs,mq]
  have elen:s.length-0+(l.map λn=>[D.sc (.int .u64 n)]).length-0=n:=(by rw[aS];omega);rw[eall,elen];refine dk (iF 10 1 zs rfl) ?_;refine bT [2,3,4,7,8,9,25,26] (λk:Nat=>[(10,.own 4 k 0 k),(27,ab k)]) (λk=>[(4,.vec true k 1<|kf s l t k)]) (λk=>k<=t.width) (λk=>t.width-k) 0 ?_;refine gp ?_;rintro k hk;refine sWR ?_;rw[aS];refine sS (λh1=>?_) λh1=>?_
  ·have au:k<t.width:=(by simpa [Tree.width] using h1);refine sL (gd au) ?_;refine sC (ih k au<|gy df au) ?_;refine sJI ?_;refine⟨k+1,zo,zd,?_⟩
   (refine br 5 zs rfl ?_ ?_<;>(repeat' (first|exact trivial|exact rfl|exact bR.refl _|exact ck.refl _|exact cg.refl _|refine And.intro ?_ ?_|(simp[az,aK,bN,-List.map_take,-List.map_drop];done))))
   all_goals first|exact bM (UH s l t k)|exact bP _ (R3 _ _ _ _)|exact(G2 _ _).2 λ_ _=>by simp[aK,az]
  have EX:k=t.width:=by have:¬k<t.width:=by simpa [Tree.width] using h1
                        omega
  subst EX;clear h1 hk;have zIi:∀{H:aB},H[4]? = some (.vec true t.width 1<|kf s l t t.width)->bR (lF 0) H (.own 4 t.width 0 t.width) (.a8 1<|kf s l t t.width):=λh=>.own _ _ _ _ _ _ _ _ rfl h (bM<|by rw[ft,fF zs]);have dg:∀{H:aB} {v e:Nat},e=n->H[2]? = some (.vec true v 1<|(s++l).map λn=>[D.sc (.int .u64 n)])->bR (lF 0) H (.own 2 v 0 e) (cY<|s++l):=λhe h=>.own _ _ _ _ _ _ _ _ rfl h (bM<|by rw[ft,fF<|by simp;omega])
  refine dk (vl (lF 0) (env':=[(3,.aN<|bx t),(7,cY<|s++l),(8,.aN [ab n]),(9,.fn (.func 64) [] [.aN [ab n],.aN [cY s]]),(10,.a8 1<|kf s l t t.width)])
   (H':=[.row false<|bx t,.row false [cY s],.vec false 2 1<|(s++l).map λn=>[D.sc (.int .u64 n)],.row false [ab n],.vec false t.width 1<|kf s l t t.width])
   ⟨.loc _ _ _ _ _ rfl rfl (.refl _),dg (by rw[aS];omega) rfl,.loc _ _ _ _ _ rfl rfl (.refl _),.fn _ _ _ _ _ (.refl _) (.cons _ _ _ _ (.loc _ _ _ _ _ rfl rfl (.refl _)) (.cons _ _ _ _ (.loc _ _ _ _ _ rfl rfl (.refl _)) (.refl _))),zIi rfl,trivial⟩
   ⟨⟨.inr ⟨rfl,rfl⟩,λ_=>rfl,.refl _⟩,⟨.inr ⟨rfl,rfl⟩,λ_=>rfl,.refl _⟩,⟨.inr ⟨rfl,rfl⟩,λ_=>rfl,rfl,rfl,.refl _⟩,⟨.inr ⟨rfl,rfl⟩,λ_=>rfl,.refl _⟩,⟨.inr ⟨rfl,rfl⟩,λ_=>rfl,rfl,rfl,.refl _⟩,trivial⟩) ?_
  refine sR ?_;refine⟨zo,zo,zo,?_⟩;rw[bS];refine sW ?_;rw[show List.map D.sc [Value.bool false]=[aF false] from rfl,n5]
  refine Bo (λ_:Unit=>[(3,.aN<|bx t),(7,cY<|s++l),(8,.aN [ab n]),(9,.fn (.func 64) [] [.aN [ab n],.aN [cY s]]),(10,.a8 1<|kf s l t t.width),(13,.own 5 0 0 n),(14,aF<|upB t.kind)])
   (λ_=>[.row false<|bx t,.row false [cY s],.vec false 2 1<|(s++l).map λn=>[D.sc (.int .u64 n)],.row false [ab n],.vec false t.width 1<|kf s l t t.width,.vec true 0 1<|bU n λ_=>false]) (λ_=>True) ?_ ?_
  ·refine sR ?_;cases h9:t.kind==9
   ·refine sW ?_;exact⟨(),trivial,xP ⟨rfl,rfl,rfl,rfl,rfl,rfl,by unfold upB;rw[h9];rfl,trivial⟩⟩
   refine sW ?_;exact⟨(),trivial,xP ⟨rfl,rfl,rfl,rfl,rfl,rfl,by unfold upB;rw[h9];rfl,trivial⟩⟩
  rintro _ _;generalize upB t.kind=up at h2;refine sW ?_;refine bT [3,7,8,9,10,13,14,50] (λk:Nat=>[(51,ab k)]) (λk=>[(5,.vec true 0 1<|bU n λi=>if i<k then up else false)]) (λk=>k<=n) (λk=>n-k) 0 ?_;refine gp ?_;rintro k hk;refine bl (λh1=>?_) λh1=>?_
  ·have au:k<n:=sO;refine sB ?_;refine⟨_,cX k zo au,?_⟩;refine bJ ?_;have put:(bU n λi=>if i<k then up else false).set (0+(k:Int).toNat) [aF up]=bU n λi=>if i<k+1 then up else false:=by
    rw[show 0+(k:Int).toNat=k by omega,wW];refine iw λi hi=>?_;by_cases e:i=k
    ·subst e;simp
    rw[aa e];by_cases e2:i<k
    ·rw[ae e2,ae zo]
    rw[aa e2,aa zo]
   exact⟨k+1,zo,zd,bf (by exact sK)<|by rw[put];rfl⟩
  have nY:k=n:=by have:¬k<n:=sO
                  omega
  subst nY;rw[iw (g:=λi=>if i<k then up else false) (g':=oC k s.length st up 0) λi hi=>ae hi];refine bT [3,7,8,9,10,13] (λr:Nat=>[(59,ab r)]) (λr=>[(5,.vec true 0 1<|bU k<|oC k s.length st up r)]) (λr=>r<=2) (λr=>2-r) 0 ?_;refine gp ?_;clear h1 hk;rintro r hr;refine bl (λh1=>?_) λh1=>?_
  ·have Dp:r<2:=sO;refine sI ?_;generalize hold:oC k s.length st up r=fD;have lX:oC k s.length st up (r+1)=λi=>rg st (fD s.length) i<|k-i:=(by rw[<-hold];rfl);refine bT [3,7,8,9,10,13,59] (λc:Nat=>[(16,ab<|(c:Int)-1)]) (λc=>[(5,.vec true 0 1<|bU k λi=>if c<=i then rg st (fD s.length) i<|k-i else fD i)]) (λc=>c<=k) (λc=>c) k ?_;refine sW ?_;refine⟨zo,by exact sK,by rw[iw (g:=fD) (g':=λi=>if k<=i then rg st (fD s.length) i<|k-i else fD i) λi hi=>by rw[aa zo]];rfl,?_⟩;clear h1;rintro c hc;refine bl (λh1=>?_) λh1=>?_
   ·have h1:1<=c:=sO;obtain⟨i,rfl⟩:∃i,c=i+1:=⟨c-1,zo⟩;rw[show((i+1:Nat):Int)-1=(i:Int) by omega];have hi:i<k:=zo;have vn:wr k l.length (i+1)<k:=(by unfold wr;split<;>omega);have wY:=LV (l:=s++l) (z:=(i:Int)) i rfl (by simp;omega);rw[show(s++l).getD i 0=bw s l i from zzs zo] at wY;refine⟨wY.1,_,wY.2,?_⟩;refine sW ?_;have nextv:(if i+1<=wr k l.length (i+1) then rg st (fD s.length) (wr k l.length<|i+1)<|k-wr k l.length (i+1) else fD<|wr k l.length<|i+1)=rg st (fD s.length) (i+1) (k-(i+1)):=by
     by_cases e:i+1<k
     ·have:wr k l.length (i+1)=i+1:=by unfold wr;rw[ae e]
      rw[this,ae zo]
     have:wr k l.length (i+1)=s.length:=by unfold wr;rw[aa e];omega
     rw[this,aa zo,show k-(i+1)=0 by omega];rfl
    have step:rg st (fD s.length) i (k-i)=st i (rg st (fD s.length) (i+1)<|k-(i+1)):=by
     rw[show k-i=(k-(i+1))+1 by omega];rfl
    have put:∀{v:Bool},v=rg st (fD s.length) i (k-i)->(bU k λj=>if i+1<=j then rg st (fD s.length) j<|k-j else fD j).set (0+(i:Int).toNat) [aF v]=bU k λj=>if i<=j then rg st (fD s.length) j<|k-j else fD j:=λh=>by
     rw[show 0+(i:Int).toNat=i by omega,wW,h];refine iw λj hj=>?_;by_cases e:j=i
     ·subst e;simp
     rw[aa e];by_cases e2:i<=j
     ·rw[ae e2,ae zo]
     rw[aa e2,aa zo]
    refine sC (hN i hi) ?_;refine⟨zo,zo,?_⟩;refine sW ?_;refine⟨_,cX (wr k l.length<|i+1) zo vn,?_⟩;refine sW ?_;rw[nextv];refine sC (hN i hi) ?_;refine sC (hA i hi _) ?_;rw[<-step];refine⟨zo,zo,?_⟩;refine sW ?_;refine⟨_,cX i zo hi,?_⟩;refine bJ ?_;exact⟨i,zo,zd,bf (by exact sK)<|by rw[put rfl];rfl⟩
   have wE:c=0:=by have:¬1≤c:=sO
                   omega
   subst wE;refine sI ?_;have e9:(bU k λi=>if 0<=i then rg st (fD s.length) i<|k-i else fD i)=bU k (oC k s.length st up<|r+1):=(by rw[lX];exact iw λi hi=>zs);exact⟨r+1,zo,zd,bf (by exact sK)<|by rw[e9];rfl⟩
  have u4:r=2:=by have:¬r<2:=sO
                  omega
  subst u4;have e:bI (s.length+l.length) (dU s l t)=bI k (oC k s.length st up 2):=(by rw[<-hn];exact TU λi hi=>(h2 i hi).symm);rw[e];exact zW rfl
end
section
theorem Jn{c:Nat}(h:c=l.length):List.drop 0 (List.take c<|l.map λn=>[D.sc (.int .u64 n)])++[[D.sc (.int .u64 x)]]=(l++[x]).map λn=>[D.sc (.int .u64 n)]:=by
 rw[ft,fF<|by simp[h],mq];rfl
theorem GR(m:Nat)(l:af):bN m<|l.map λn=>[D.sc (.int .u64 n)]:=(G2 _ _).2 λ_ _=>by simp[aK,az]
theorem PD(hk:z=k)(h:k<=63):(1:Int)*2^min z.toNat IntKind.u64.bits=2^k:=by
 subst hk;rw[bS,Int.one_mul,tJ<|by show k<=64;omega]
theorem XG(h:k<=63):dW .u64<|(2:Int)^k:=by
 have h1:=BS k;have h2:=Ao (k:=k) (n:=63) h;have h3:(2:Int)^63=9223372036854775808:=zc;unfold dW IntKind.wrap;simp only[IntKind.bits,IntKind.signed];have h4:(2:Int)^64=18446744073709551616:=zc;simp;omega
theorem WH{L:List bQ}{x:af}(h:k<x.length):dd L (x.take<|k+1)=dd L (x.take k)++[tv L<|x.getD k 0]:=by
 unfold dd;rw[ld,aG h,ay,aG h,mq];rfl
def StepsIn(L:List bQ)(x:af):Prop:=∀k∈x,k<0\/k.toNat<L.length
theorem TL(P:ah)(hP:P.Fits)(h1:P.dp=0)(x:af)(hx:x.length<=60000)(bg:StepsIn P.aC x):ar aj 28 [cH P,aL x]<|cY<|dd P.aC x:=by
 refine bV ?_;refine sC (vO P hP) ?_;rw[aS];refine dk (iF 7 1 zs rfl) ?_;refine bT [5,15,16] (λ((k,c,l):Nat×Nat×af)=>[(7,.own 1 c 0 c),(17,ab k)]) (λ(k,c,l)=>[(1,.vec true c 1<|l.map λn=>[D.sc (.int .u64 n)])]) (λ(k,c,l)=>k<=x.length/\c=l.length/\c=k/\l=dd P.aC (x.take k)) (λ(k,c,l)=>x.length-k) (0,0,[]) ?_;refine sW ?_;refine⟨⟨zo,rfl,zo,by simp[dd]⟩,by exact sK,rfl,?_⟩;rintro⟨k,c,l⟩ ⟨hk,hc,m8,hl⟩;refine bl (λh2=>?_) λh2=>?_
 ·have au:k<x.length:=sO;have eT:=WH (L:=P.aC) au;rw[<-hl] at eT;have jL:=bg _<|ah.Al au;refine sL (eY (k:=k) zo au) ?_;generalize x.getD k 0=z at eT jL;refine sS (λh3=>?_) λh3=>?_
  ·have h3:z<0:=sO;refine sJI ?_;refine⟨(k+1,c+1,l++[9223372036854775808]),⟨zo,by simp[hc],zo,by rw[eT];unfold tv;rw[ae h3]⟩,zd,?_⟩
   (refine br 2 zs rfl ?_ ?_<;>(repeat' (first|exact trivial|exact rfl|exact bR.refl _|exact ck.refl _|exact cg.refl _|refine And.intro ?_ ?_|(simp[az,aK,bN,-List.map_take,-List.map_drop];done))))
   ·exact bM<|Jn hc
   exact GR _ _
  have h3:¬z<0:=sO;refine sL (Ck (k:=z.toNat) zo zo) ?_;have hz:=jL.resolve_left h3;have dO:=(ah.Ag h1 hz).node;have hN:P.nodes.length<=20:=(ky (ah.lY h1).1).1;have e1:tv P.aC z=2^(P.aC.getD z.toNat (0,0,0)).1.toNat:=(by unfold tv;rw[aa h3]);generalize P.aC.getD z.toNat (0,0,0)=s at dO e1;refine⟨zo,?_⟩;rw[PD (k:=s.1.toNat) zo zo,<-e1];refine .inl ⟨by rw[e1];exact XG zo,?_⟩;refine mQ ?_;refine⟨(k+1,c+1,l++[tv P.aC z]),⟨zo,by simp[hc],zo,by rw[eT]⟩,zd,?_⟩
  (refine br 2 zs rfl ?_ ?_<;>(repeat' (first|exact trivial|exact rfl|exact bR.refl _|exact ck.refl _|exact cg.refl _|refine And.intro ?_ ?_|(simp[az,aK,bN,-List.map_take,-List.map_drop];done))))
  ·exact bM<|Jn hc
  exact GR _ _
 have au:k=x.length:=by have:¬k<x.length:=sO
                        omega
 subst au;rw[fF<|aI _] at hl;subst hl;exact .own _ _ _ _ _ _ _ _ rfl (by rw[ft,fF<|by simp;omega];exact fW _)
structure nL(P:ah)(ax loop:af):Prop where
 steps:P.dp=0
 word:ax.length+loop.length<=60000
 some_:1<=loop.length
 go:∀j,j<ax.length+loop.length->P.gL (ax++loop) j=0
theorem nL.all{ax loop:af}(h:nL P ax loop):StepsIn P.aC<|ax++loop:=by
 intro k hk;obtain⟨j,hj,rfl⟩:=ah.SZ hk;have:=h.go j (by simpa using hj);unfold ah.gL at this;by_cases e:(ax++loop).getD j 0=-1
 ·exact .inl zo
 rw[aa e] at this;have:=ah.V5 this;exact .inr zo
theorem nL.ax{P:ah}{ax loop:af}(h:nL P ax loop):StepsIn P.aC ax:=λk hk=>h.all k<|de.2 (.inl hk)
theorem nL.loop{P:ah}{ax loop:af}(h:nL P ax loop):StepsIn P.aC loop:=λk hk=>h.all k<|de.2 (.inr hk)
noncomputable def ah.frm(P:ah)(ax loop:af)(j:Nat):af:=P.gr (ax++loop)<|ax.length+j
theorem nL.mark{ax loop:af}(h:nL P ax loop)(hj:j<loop.length):P.jg (P.frm ax loop j)=0/\P.Mark (P.frm ax loop j)/\(P.frm ax loop j).length<=30:=by
 have hz:∀q,q<ax.length+j->P.gL (ax++loop) q=0:=λq hq=>h.go q zo;have hb:=ah.Ha h.steps _ hz;exact⟨by unfold ah.jg;rw[aa<|by have:=h.steps;omega];exact ae hb,ah.jX hb,ah.LB h.steps hz⟩
theorem nL.at{ax loop:af}(h:nL P ax loop)(hj:j<loop.length){z:Nat}(hz:z=ax.length+j) :
  ((P.nw (ax++loop)<|ax.length+loop.length).map λl=>[aL l])[z]? = some [aL<|P.frm ax loop j]:=by
 rw[me hz<|by rw[ah.Ad];omega,ah.MX _ _ zo];rfl
theorem zwT(P:ah)(hP:P.Fits)(h:Bool)(ax loop:af)(hV:nL P ax loop) :
  ar aj 26 [cH P,jc h ax loop,bW<|P.nw (ax++loop)<|ax.length+loop.length] (aF<|P.tl P.aC loop<|P.frm ax loop):=by
 have hw:=hV.word;have Vc:=λj (hj:j<loop.length)=>hV.mark hj;have yl:=λj (hj:j<loop.length) z hz=>hV.at hj (z:=z) hz;have cJ:=λk hk h1 h2=>ah.zwP (P:=P) (L:=P.aC) (loop:=loop) (fr:=P.frm ax loop) (k:=k) hk h1 h2;have VL:=ah.TN (P:=P) (L:=P.aC) (loop:=loop) (fr:=P.frm ax loop);have ko:=(ah.lY hV.steps).2.2;have zNy:=λi k=>P.OS P.aC (P.frm ax loop) i k;have YE:=λi=>ah.MB (P:=P) (M:=P.frm ax loop i) (L:=P.aC) (g:=P.pR P.aC (P.frm ax loop) i) (l:=P.gE (P.frm ax loop i) P.aC P.aC.length) P.aC.length λj _=>rfl;have dg:=λk (hk:k<P.aC.length) i=>ah.Tc (P:=P) (fr:=P.frm ax loop) hk i;have zbs:∀i k,P.pR P.aC (P.frm ax loop) (i+1) k=P.pR P.aC (P.frm ax loop) i k+if k<P.aC.length/\P.ix (P.frm ax loop i) (P.aC.getD k (0,0,0))=true then 1 else 0:=λi k=>rfl
 have hzero:P.pR P.aC (P.frm ax loop) 0=λ_=>0:=rfl;have ID:∀i,i<loop.length->P.cD (P.frm ax loop i)=P.gE (P.frm ax loop i) P.aC P.aC.length:=λi hi=>by unfold ah.cD;rw[ae (Vc i hi).1]
 have Yd:=vO P hP;generalize P.tl P.aC loop (P.frm ax loop)=res at cJ VL;generalize hLL:P.nw (ax++loop) (ax.length+loop.length)=fr at yl;generalize P.frm ax loop=fm at *;generalize P.pR P.aC fm=bc at *;refine bV ?_;refine sC Yd ?_;rw[Br];refine⟨zo,zo,zo,?_⟩;rw[bS,show List.map D.sc [Value.int .i64 0]=[ab 0] from rfl,A2];refine sW ?_;rw[aS];refine bT [2,3,4,9,27] (λi:Nat=>[(28,ab i)]) (λi=>[(2,.vec true 0 1<|aE<|gl P.aC.length<|bc i)]) (λi=>i<=loop.length) (λi=>loop.length-i) 0 ?_;refine sW ?_;refine⟨zo,by exact sK,by rw[hzero];rfl,?_⟩;rintro i hi;refine bl (λh2=>?_) λh2=>?_
 ·have bu:i<loop.length:=sO;rw[aS];refine sI ?_;refine sL (yl i bu _ zo) ?_;have hE:=LL P hP (fm i) (by have:=(Vc i bu).2.2;omega);rw[ID i bu] at hE;refine sC hE ?_;have Rt:=ah.Ot (P:=P) (M:=fm i) (L:=P.aC) P.aC.length;have hlen:=P.Ke (fm i) P.aC P.aC.length;have ua:=YE i;have hle:=λj k=>N9 (l:=P.gE (fm i) P.aC P.aC.length) (λk=>zNy i k) j k;generalize P.gE (fm i) P.aC P.aC.length=el at Rt hlen ua hle;rw[aS];refine bT [2,3,4,9,27,28,44,45] (λj:Nat=>[(46,ab j)]) (λj=>[(2,.vec true 0 1<|aE<|gl P.aC.length<|ov el (bc i) j)]) (λj=>j<=el.length) (λj=>el.length-j) 0 ?_;refine gp ?_;rintro j hj;refine bl (λh3=>?_) λh3=>?_
  ·have jC:j<el.length:=sO;have hx:=Rt _<|ah.Al jC;have oO:=hle j (el.getD j 0).toNat;have eS:ov el (bc i) (j+1)=kD (ov el (bc i) j) (el.getD j 0).toNat (ov el (bc i) j (el.getD j 0).toNat+1):=rfl;refine sL (eY (k:=j) zo jC) ?_;generalize el.getD j 0=x at hx oO eS;generalize ov el (bc i) j=ga at oO eS;refine sB ?_;refine⟨_,dh x.toNat zo zo,?_⟩;refine bJ ?_;refine sB ?_;refine⟨_,dh x.toNat zo zo,?_⟩;refine bJ ?_;refine⟨j+1,zo,zd,bf (by exact sK) ?_⟩;rw[nA (k:=x.toNat) zo,<-eS];rfl
  have jC:j=el.length:=by have:¬j<el.length:=sO
                          omega
  subst jC;refine sI ?_;have e9:gl P.aC.length (ov el (bc i) el.length)=gl P.aC.length (bc<|i+1):=vW λk hk=>by rw[ua,zbs]
  exact⟨i+1,zo,zd,bf (by exact sK)<|by rw[e9];rfl⟩
 have bu:i=loop.length:=by have:¬i<loop.length:=sO
                           omega
 subst bu;clear h2 hi;refine bT [4,58,59] (λk:Nat=>[(60,ab k)]) (λ_=>[]) (λk=>k<=P.aC.length/\∀j:Nat,j<k->(j:Int)∈loop\/∃i,i<loop.length/\P.ix (fm i) (P.aC.getD j (0,0,0))=false) (λk=>P.aC.length-k) 0 ?_;refine sW ?_;refine⟨⟨zo,λj hj=>zo⟩,by exact sK,rfl,?_⟩;rintro k ⟨hk,tD⟩;refine bl (λh2=>?_) λh2=>?_
 ·have au:k<P.aC.length:=sO;refine sB ?_;refine⟨_,dh k zo au,?_⟩;refine sW ?_;rw[aS];have ha:=dg k au loop.length;have next:((k:Int)∈loop\/∃i,i<loop.length/\P.ix (fm i) (P.aC.getD k (0,0,0))=false)->∀j:Nat,j<k+1->(j:Int)∈loop\/∃i,i<loop.length/\P.ix (fm i) (P.aC.getD j (0,0,0))=false:=λh j hj=>by
   by_cases e:j=k
   ·subst e;exact h
   exact tD j zo
  cases h3:(bc loop.length k==(loop.length:Int))
  ·have h3:bc loop.length k≠loop.length:=sO;refine bJ ?_;refine⟨k+1,⟨zo,next (.inr ?_)⟩,zd,bf (by exact sK) rfl⟩;refine Classical.byContradiction λzIE=>h3 (ha.2 λj hj=>?_)
   cases q:P.ix (fm j)<|P.aC.getD k (0,0,0) with
   |true=>rfl
   |false=>exact absurd ⟨j,hj,q⟩ zIE
  have h3:bc loop.length k=loop.length:=sO;refine sW ?_;refine sC (RF loop zo (k:Int)) ?_;refine sS (λh4=>?_) λh4=>?_
  ·have h4:(k:Int) ∉ loop:=by
    intro q;rw[nb.2 q] at h4;cases h4
   exact bL<|by rw[cJ k au h4<|ha.1 h3]
  have h4:(k:Int)∈loop:=by
   refine Classical.byContradiction λq=>?_;rw[show loop.contains (k:Int)=false from th.2 λh=>q<|nb.1 h] at h4;cases h4
  refine sI ?_;exact⟨k+1,⟨zo,next (.inl h4)⟩,zd,bf (by exact sK) rfl⟩
 have au:k=P.aC.length:=by have:¬k<P.aC.length:=sO
                           omega
 subst au;exact bL<|by rw[VL tD]
end
section
noncomputable def ah.H9(P:ah)(ax loop:af)(t:Tree):Bool:=P.tl P.aC loop (P.frm ax loop)&&!(dU (dd P.aC ax) (dd P.aC loop) t 0)
theorem OZ(h1:P.dp=0)(k:Nat):(P.aC.getD k (0,0,0)).1.toNat<=63:=by
 by_cases hk:k<P.aC.length
 ·have dO:=(ah.Ag h1 hk).node;have hN:P.nodes.length<=20:=(ky (ah.lY h1).1).1;omega
 rw[ay,db zo];decide
theorem nL.of{ax loop:af}(hz:∀j,j<n->P.gL (ax++loop) j=0)(hs:n=ax.length+loop.length\/P.gL (ax++loop) n≠0)(ko:ax.length+loop.length<=60000)(h:P.mS ax loop n=0) :
  nL P ax loop/\P.zV ax loop n=P.nw (ax++loop) (ax.length+loop.length):=by
 have eL:P.zV ax loop n=P.nw (ax++loop) (ax.length+loop.length):=by unfold ah.zV;rw[ae h]
 have eE:P.mS ax loop n=if P.dp≠0 then P.dp else if loop.length=0 then 1 else if 60000<ax.length+loop.length then 2
   else if n≠ax.length+loop.length then P.gL (ax++loop) n
   else if P.gr (ax++loop) ax.length=P.gr (ax++loop) (ax.length+loop.length) then 0 else 9:=rfl
 rw[h] at eE;by_cases q1:P.dp≠0
 ·rw[ae q1] at eE;omega
 rw[aa q1] at eE;by_cases q2:loop.length=0
 ·rw[ae q2] at eE;omega
 rw[aa q2,aa zo] at eE;by_cases q3:n≠ax.length+loop.length
 ·rw[ae q3] at eE;rcases hs with hs|hs
  ·exact absurd hs q3
  omega
 have q3:n=ax.length+loop.length:=Classical.not_not.1 q3;subst q3;exact⟨⟨zo,ko,zo,hz⟩,eL⟩
variable(P:ah)
theorem znl(hP:P.Fits)(h:Bool)(ax loop:af)(ko:ax.length+loop.length<=9000000000)(n:Nat)(hn:n<=ax.length+loop.length)(hz:∀j,j<n->P.gL (ax++loop) j=0)(hs:n=ax.length+loop.length\/P.gL (ax++loop) n≠0)
  (t:Tree) (ht:Small t) (e:Int) (he:e=if P.mS ax loop n≠0 then P.mS ax loop n else aV bD t) (h0:e≠0):ar aj 7 [cH P,jc h ax loop,bn t] (.aJ [aF false,ab e]):=by
 have hF:=PS P hP h ax loop zo zo n hn hz hs;have hC:=uK t ht;generalize P.mS ax loop n=fe at *;generalize P.zV ax loop n=fl at *;generalize aV bD t=c at *;refine bV ?_;refine sC hF ?_;refine sS (λh1=>?_) λh1=>?_
 ·have h1:fe≠0:=sO;rw[ae h1] at he;subst he;exact .refl _
 have h1:fe=0:=sO;rw[aa zo] at he;subst he;refine sC hC ?_;refine sS (λh2=>?_) λh2=>?_
 ·exact .refl _
 exfalso;exact sO
theorem ZK(hP:P.Fits)(h:Bool)(ax loop:af)(ko:ax.length+loop.length<=60000)(n:Nat)(hn:n<=ax.length+loop.length)(hz:∀j,j<n->P.gL (ax++loop) j=0)(hs:n=ax.length+loop.length\/P.gL (ax++loop) n≠0)
  (t:Tree) (ht:Small t) (h0:P.mS ax loop n=0) (h1:aV bD t=0):ar aj 7 [cH P,jc h ax loop,bn t] (.aJ [aF<|P.H9 ax loop t,ab 0]):=by
 have hF:=PS P hP h ax loop zo zo n hn hz hs;have hC:=uK t ht;obtain⟨hV,eL⟩:=nL.of hz hs ko h0;have hw:=hV.some_;have hN:=OZ hV.steps;have L5:=zwT P hP h ax loop hV;have Ff:=TL P hP hV.steps ax zo hV.ax;have EL:=TL P hP hV.steps loop zo hV.loop;have hH:=zuw (dd P.aC ax) (dd P.aC loop) (by simp;omega) (Je hN) (Je hN) t ((qo _ _).1 h1).2.2;have eP:P.H9 ax loop t=(P.tl P.aC loop (P.frm ax loop)&&!(dU (dd P.aC ax) (dd P.aC loop) t 0)):=rfl;have l1:=Mi P.aC ax;have l2:=Mi P.aC loop;rw[h0,eL] at hF;rw[h1] at hC;rw[eP];generalize P.nw (ax++loop) (ax.length+loop.length)=fl at *;generalize P.tl P.aC loop (P.frm ax loop)=fb at *;generalize dU (dd P.aC ax) (dd P.aC loop) t=g at *;generalize dd P.aC ax=a at *;generalize dd P.aC loop=b at *;refine bV ?_;refine sC hF ?_;refine sC hC ?_;refine sC L5 ?_;cases fb
 ·refine sW ?_;exact .refl _
 refine sW ?_;refine sC Ff ?_;refine sC EL ?_;refine sC hH ?_;refine sL (uY (i:=0) zo) ?_;exact .refl _
end
theorem Yz(hl:1<=l.length)(hs:bq s n)(bg:bq l n)(i:Nat):0<=bw s l i/\bw s l i<(n:Int):=by
 unfold bw;split
 ·rename_i q;exact dn hs<|fV q
 exact dn bg<|fV<|Nat.mod_lt _ zo
variable{st:Int}
theorem XZ(hl:1<=l.length)(hs:bq s (cC P tok st).next.length)(bg:bq l (cC P tok st).next.length) :
  wy (cC P tok st) (bw s l)=bw (dd P.aC<|fG P tok st s) (dd P.aC<|fG P tok st l):=funext λi=>by
 obtain⟨h0,h1⟩:=Yz hl hs bg i;unfold dd;rw[Mr<|by rw[wZ];exact hl];unfold fG;rw[Mr hl];have hn:(cC P tok st).next.length=bm (P.bX tok st) (P.bX tok st).length:=Hp _;unfold wy;show((dr (P.bX tok st) (P.bX tok st).length).map λx=>uV P.aC x.1).getD (bw s l i).toNat 0=_;have hk:(bw s l i).toNat<(dr (P.bX tok st) (P.bX tok st).length).length:=by
  show(bw s l i).toNat<bm (P.bX tok st) (P.bX tok st).length;omega
 rw[ay,cy,aG hk,ay,aG hk];rfl
theorem NI{N:List<|List bb}{of:List bb}{k x:Int}:∀{n:Nat},x∈mB N of k n->FK N (of.getD x.toNat (0,0)).2.toNat k=false\/(of.getD x.toNat (0,0)).1=k
 |0,h=>by simp[mB] at h
 |n+1,h=>by
  simp only[mB] at h;split at h
  ·rename_i q;rcases de.1 h with h|h
   ·exact NI h
   rw[cM] at h;subst h;rw[bS];exact q
  exact NI h
theorem WI{P:ah}{M:af}{L:List bQ}{k:Nat}(h:P.ix M<|L.getD k (0,0,0)):∀n,k<n->(k:Int)∈P.gE M L n
 |0,hk=>zo
 |n+1,hk=>by
  simp only[ah.gE];by_cases e:k=n
  ·subst e;rw[ae h];simp
  have:=WI h n zo;split
  ·exact xU _ this
  exact this
theorem zvB(he:P.eZ tok st=0)(hc:l5 (cC P tok st).next<|s++l++[z])(hz:l.head? = some z)(hb:(s++l++[z]).getD 0 0∈(cC P tok st).start)(iz:Jo (cC P tok st)<|bw s l) :
  P.tl P.aC (fG P tok st l) (λj=>P.gr (fG P tok st s++fG P tok st l)<|s.length+j)=true:=by
 have hl:1<=l.length:=by
  cases l with
  |nil=>cases hz
  |cons a b=>simp
 have hF:=oU he;obtain⟨r1,r2⟩:=Vt he;refine ah.TN λk hk=>?_;have hm:mB (P.bX tok st) (dr (P.bX tok st) (P.bX tok st).length) (k:Int) (bm (P.bX tok st) (P.bX tok st).length)∈(cC P tok st).fair:=cU.2 ⟨k,eW.2 hk,rfl⟩;obtain⟨j,j1,j2⟩:=iz.fair _ hm s.length;have hd:(j-s.length)%l.length<l.length:=Nat.mod_lt _ zo;have ej:bw s l j=l.getD ((j-s.length)%l.length) 0:=by unfold bw;rw[aa zo]
 have ep:(s++l++[z]).getD (s.length+(j-s.length)%l.length) 0=bw s l j:=by
  rw[GU zo,ej];exact zwn hd
 rcases NI j2 with q|q
 ·right;refine⟨(j-s.length)%l.length,by rw[wZ];exact hd,?_⟩;obtain⟨w1,w2,w3⟩:=Sy he hc hb (s.length+(j-s.length)%l.length) zo;rw[ep] at w1 w2;rw[w2];have xt:=ah.Ha (l:=fG P tok st s++fG P tok st l) hF.steps (s.length+(j-s.length)%l.length) w3;rw[w2] at xt;obtain⟨m,hm,e2,_⟩:=Xw w1;rw[e2,bS] at q xt⊢;have hR:=(r2 m hm).2;cases zJa:P.ix ((P.exM tok st).getD m []) (P.aC.getD k (0,0,0))
  ·rfl
  exfalso;have bg:=WI zJa P.aC.length hk;have ID:(k:Int)∈P.cD ((P.exM tok st).getD m []):=by
   have zD:P.jg ((P.exM tok st).getD m [])=0:=(by unfold ah.jg;rw[aa<|by have:=hF.steps;omega];exact ae xt);unfold ah.cD;rw[ae zD];exact bg
  rw[<-hR] at ID;obtain⟨e,e1,e3⟩:=cU.1 ID;unfold FK at q;rw[oP] at q;exact q e e1<|by simpa using e3
 left;unfold fG;exact cU.2 ⟨_,fV hd,by rw[<-ej];exact q⟩
structure OD(P:ah)(T:Tree)(s l:af):Prop where
 steps:P.dp=0
 some_:1<=l.length
 fair:P.tl P.aC l (P.frm s l)=true
 not:¬bh (bw (dd P.aC s)<|dd P.aC l) T 0
theorem NA.proof(h:NA P tok st T s l)(hw:T.wf bD):OD P T s l:=by
 obtain⟨⟨h1,h2,h3,h4⟩,s0,l0,rfl,rfl,e⟩:=h;have hW:=Bp h1 h2;have hb:=xq hW.fits hW.aV hW.start hW.rows h3;obtain⟨z,z1,z2,z3⟩:=Ri hb h4 e;obtain⟨i1,i2,_,_⟩:=Oz hb h4 e;obtain⟨r1,r2,r3⟩:=zp4 hW hw h3 h4 e;refine⟨(oU h1).steps,by rw[wZ];exact r3,?_,?_⟩
 ·have:=zvB h1 z1 z2 z3 r1;unfold ah.frm;rw[wZ];exact this
 rw[<-XZ r3 i1 i2];exact r2
variable(P:ah)
theorem UF(h1:P.dp=0)(x:af)(hx:x.length<=60000)(bg:StepsIn P.aC x):ar aj 30 [aL x,.aN [nv P.aC]]<|cY<|dd P.aC x:=by
 refine bV ?_;rw[aS];refine dk (iF 4 1 zs rfl) ?_;refine bT [1,7,8] (λ((k,c,l):Nat×Nat×af)=>[(4,.own 0 c 0 c),(9,ab k)]) (λ(k,c,l)=>[(0,.vec true c 1<|l.map λn=>[D.sc (.int .u64 n)])]) (λ(k,c,l)=>k<=x.length/\c=l.length/\c=k/\l=dd P.aC (x.take k)) (λ(k,c,l)=>x.length-k) (0,0,[]) ?_;refine sW ?_;refine⟨⟨zo,rfl,zo,by simp[dd]⟩,by exact sK,rfl,?_⟩;rintro⟨k,c,l⟩ ⟨hk,hc,m8,hl⟩;refine bl (λh2=>?_) λh2=>?_
 ·have au:k<x.length:=sO;have eT:=WH (L:=P.aC) au;rw[<-hl] at eT;have jL:=bg _<|ah.Al au;refine sL (eY (k:=k) zo au) ?_;generalize x.getD k 0=z at eT jL;refine sS (λh3=>?_) λh3=>?_
  ·have h3:z<0:=sO;refine sJI ?_;refine⟨(k+1,c+1,l++[9223372036854775808]),⟨zo,by simp[hc],zo,by rw[eT];unfold tv;rw[ae h3]⟩,zd,?_⟩
   (refine br 1 zs rfl ?_ ?_<;>(repeat' (first|exact trivial|exact rfl|exact bR.refl _|exact ck.refl _|exact cg.refl _|refine And.intro ?_ ?_|(simp[az,aK,bN,-List.map_take,-List.map_drop];done))))
   ·exact bM<|Jn hc
   exact GR _ _
  have h3:¬z<0:=sO;refine sL (Ck (k:=z.toNat) zo zo) ?_;have hz:=jL.resolve_left h3;have dO:=(ah.Ag h1 hz).node;have hN:P.nodes.length<=20:=(ky (ah.lY h1).1).1;have e1:tv P.aC z=2^(P.aC.getD z.toNat (0,0,0)).1.toNat:=(by unfold tv;rw[aa h3]);generalize P.aC.getD z.toNat (0,0,0)=s at dO e1;refine⟨zo,?_⟩;rw[PD (k:=s.1.toNat) zo zo,<-e1];refine .inl ⟨by rw[e1];exact XG zo,?_⟩;refine mQ ?_;refine⟨(k+1,c+1,l++[tv P.aC z]),⟨zo,by simp[hc],zo,by rw[eT]⟩,zd,?_⟩
  (refine br 1 zs rfl ?_ ?_<;>(repeat' (first|exact trivial|exact rfl|exact bR.refl _|exact ck.refl _|exact cg.refl _|refine And.intro ?_ ?_|(simp[az,aK,bN,-List.map_take,-List.map_drop];done))))
  ·exact bM<|Jn hc
  exact GR _ _
 have au:k=x.length:=by have:¬k<x.length:=sO
                        omega
 subst au;rw[fF<|aI _] at hl;subst hl;exact .own _ _ _ _ _ _ _ _ rfl (by rw[ft,fF<|by simp;omega];exact fW _)
def c8:PC:=SO [Bx 2 0,Bx 3 1,q 4 (.alloc [vN,vN])]<|SO [LA 9 2 2,Ca 10 29 [9],qm 8 10,Xt 11 0 8,Xt 12 1 8,q 5 (.alloc [vN]),So 1 5 11,qm 6 12]<|SO [q 13 (.n4 (.func 30) [] [5]),qm 7 13] (.seq (.stop (.ops [qm 14 7,Fa 15 1 3,Ld 16 15 2,qd 17 (.iB 14 [16]) 7,qm 18 7,Fa 19 2 3,Ld 20 19 32,qd 21 (.iB 18 [20]) 127,qd 22 (.build [vN,vN] [(0,1,17),(1,1,21)]) 255,qk (.store 2 4 22) 511] true)) .ret)
theorem zyf(hP:P.Fits)(h:Bool)(ax loop:af)(hV:nL P ax loop):ar aj 8 [cH P,jc h ax loop]<|kV (dd P.aC ax)<|dd P.aC loop:=by
 have hw:=hV.word;have Ff:=UF P hV.steps ax zo hV.ax;have EL:=UF P hV.steps loop zo hV.loop;refine bz (fJ 23 [.agg 4 2] c8 Tryz.func8) ?_;refine sR ?_;refine sC (vO P hP) ?_
 refine dk (vl (lF 3) (env':=[(7,.fn (.func 30) [] [.aN [nv P.aC]]),(3,.loc 1 0),(4,.loc 2 0)])
  (H':=[.row true P.cells,.row true [aF h,aL ax,aL loop],.row true [bC,bC],.row false [nv P.aC]])
  ⟨?_,?_,?_,trivial⟩ ⟨?_,?_,?_,?_,trivial⟩) ?_
 ·exact .fn _ _ _ _ _ (.refl _) (.cons _ _ _ _ (.loc _ _ _ _ _ rfl rfl (.refl _)) (.refl _))
 ·exact .refl _
 ·exact .refl _
 all_goals try (repeat' (first|exact trivial|exact bR.none _|refine And.intro ?_ ?_|exact Or.inl rfl|exact Or.inr ⟨rfl,rfl⟩|exact λ_=>rfl|exact(λh=>by cases h)|refine bR.loc _ _ _ _ _ rfl rfl ?_|refine bR.own _ _ _ _ _ _ _ _ rfl rfl ?_|refine bR.fn _ _ _ _ _ ?_ ?_|refine bR.agg _ _ ?_|refine bR.aJ _ _ ?_|refine bR.ifc _ _ _ ?_|exact bR.refl _|refine ck.cons _ _ _ _ ?_ ?_|exact ck.refl _|refine cg.cons _ _ _ _ ?_ ?_|exact cg.refl _|exact rfl))
 ((apply yB;focus (repeat' constructor));((conv=>whnf);repeat(refine⟨rfl,?_⟩;conv=>whnf)))
 refine sC Ff ?_;refine sC EL ?_;exact .refl _
theorem zqo(t:Tree)(ht:Small t)(s l:af)(pW:ly s)(oi:ly l)(h1:aV bD t=0)(h2:mV s l=0):ar aj 12 [bn t,kV s l] (.aJ [bI (s.length+l.length)<|dU s l t,ab 0]):=by
 have hC:=uK t ht;have hW:=D3 s l;rw[h1] at hC;rw[h2] at hW;refine bV ?_;refine sC hC ?_;refine sC hW ?_;refine sC (zt1 s l ((yX s l).1 h2) pW oi t ((qo _ _).1 h1).2.2) ?_;exact .refl _
section
variable(w:Nat->Int)(a b:Tree)(n:Int)(i:Nat)
theorem rn:bh w (bd 3 n) i=(nq (w i) n=true):=propext<|Cz rfl
theorem n7:bh w (aW 4 a) i=¬bh w a i:=propext<|BQ rfl rfl
theorem lU:bh w (bE 5 a b) i=(bh w a i/\bh w b i):=propext<|I7 rfl rfl
theorem kz:bh w (bE 6 a b) i=(bh w a i\/bh w b i):=propext<|DF rfl rfl
theorem xB:bh w (aW 7 a) i=bh w a (i+1):=propext<|Hj rfl rfl
theorem pU:bh w (bE 8 a b) i=Unt (bh w a) (bh w b) i:=propext<|yJ rfl rfl
theorem n9:bh w (aW 10 a) i=∃j,i<=j/\bh w a j:=propext<|I9 rfl rfl
theorem om:bh w (aW 11 a) i=∀j,i<=j->bh w a j:=propext<|My rfl rfl
end
def DR(kind count:Int)(P S:aq)(a e:Nat):Prop :=
 if kind=2 then ∀i,a<=i->i<e->P i=true else if kind=3 then ∃i,a<=i/\i<e/\P i=true else if kind=4 then (bc P a e:Int)<=count
 else if kind=5 then ∀i,a<=i->i<e->P i=true->∃j,a<=j/\j<=i/\S j=true else if kind=6 then ∀i,a<=i->i<e->P i=true->∃j,i<=j/\j<e/\S j=true
 else ∀i,a<=i->i<e->¬P i=true
def Ak(kind count:Int)(P S:aq)(a:Nat):Prop :=
 if kind=2 then ∀i,a<=i->P i=true else if kind=3 then ∃i,a<=i/\P i=true else if kind=4 then ∀e,a<=e->(bc P a e:Int)<=count
 else if kind=5 then ∀i,a<=i->P i=true->∃j,a<=j/\j<=i/\S j=true else if kind=6 then ∀i,a<=i->P i=true->∃j,i<=j/\S j=true
 else ∀i,a<=i->¬P i=true
def Fst(R:aq)(a e:Nat):Prop:=a<=e/\R e/\∀k,a<=k->k<e->¬R k=true
variable{R:aq}{a:Nat}
theorem yL(h:a<=j)(hj:R j):∃e,Fst R a e/\e<=j:=by
 induction j using Nat.strongRecOn with
 |ind j ih =>
  by_cases q:∃k,a<=k/\k<j/\R k=true
  ·obtain⟨k,k1,k2,k3⟩:=q;obtain⟨e,e1,e2⟩:=ih k k2 k1 k3;exact⟨e,e1,zo⟩
  exact⟨j,⟨h,hj,λk k1 k2 k3=>q ⟨k,k1,k2,k3⟩⟩,aI _⟩
theorem WB(h:Fst R i e):Unt A (λk=>R k=true) i↔∀k,i<=k->k<e->A k:=by
 obtain⟨h1,h2,h3⟩:=h;constructor
 ·rintro⟨j,j1,j2,j3⟩ k k1 k2;refine j3 k k1 ?_;rcases c7 k j with q|q
  ·exact q
  exact absurd j2<|h3 j j1 zo
 intro h;exact⟨e,h1,h2,h⟩
variable{S:aq}
theorem XW(h:Fst R i e):Unt (λk=>¬R k=true) (λk=>S k=true/\¬R k=true) i↔∃j,i<=j/\j<e/\S j=true:=by
 obtain⟨h1,h2,h3⟩:=h;constructor
 ·rintro⟨j,j1,⟨j2,j3⟩,j4⟩;refine⟨j,j1,?_,j2⟩;rcases ue j e with q|q|q
  ·exact q
  ·subst q;exact absurd h2 j3
  exact absurd h2<|j4 e h1 q
 rintro⟨j,j1,j2,j3⟩;exact⟨j,j1,⟨j3,h3 j j1 j2⟩,λk k1 k2=>h3 k k1 zo⟩
theorem SG(h:∀k,i<=k->¬R k):Unt (λk=>¬R k=true) (λk=>S k=true/\¬R k=true) i↔∃j,i<=j/\S j=true:=by
 constructor
 ·rintro⟨j,j1,⟨j2,_⟩,_⟩;exact⟨j,j1,j2⟩
 rintro⟨j,j1,j2⟩;exact⟨j,j1,⟨j2,h j j1⟩,λk k1 _=>h k k1⟩
variable{P:aq}
theorem rp(h:a<=e)(hn:∀k,a<=k->k<e->¬P k):bc P a e=0:=(vR e h).2 λj j1 j2=>by simpa using hn j j1 j2
theorem yO(h:Fst P a j)(he:j<e):bc P a e=1+bc P (j+1) e:=by
 rw[qq (m:=j+1) (by have:=h.1;omega) e zo,mh h.1,rp h.1 h.2.2,ae h.2.1]
section
variable{x:cc}{w:Nat->Int}{P S Q R:aq}(hp:∀i,nq (w i) x.p=P i)(hs:∀i,nq (w i) x.s=S i)(hq:∀i,nq (w i) x.q=Q i)(hr:∀i,nq (w i) x.r=R i)
variable(weak:Bool)
theorem rP(a b:Tree)(i:Nat):bh w (oQ weak a b) i↔Unt (bh w a) (bh w b) i\/(weak=true/\∀j,i<=j->bh w a j):=by
 unfold oQ;cases weak
 ·rw[aa zc,pU];simp
 rw[ae rfl,kz,pU,om];simp
include hp in
theorem s_p:bh w (bd 3 x.p)=λi=>P i=true:=funext λi=>by rw[rn,hp]
include hp in
theorem ou:bh w (noP x)=λi=>¬P i=true:=funext λi=>by unfold noP;rw[n7,rn,hp]
include hs in
theorem s_s:bh w (bd 3 x.s)=λi=>S i=true:=funext λi=>by rw[rn,hs]
include hr in
theorem s_r:bh w (bd 3 x.r)=λi=>R i=true:=funext λi=>by rw[rn,hr]
include hr in
theorem tC:bh w (noR x)=λi=>¬R i=true:=funext λi=>by unfold noR;rw[n7,rn,hr]
include hp in
theorem Qk(h4:x.kind=4):∀(n i:Nat),bh w (l7 x n) i↔∀e,i<=e->bc P i e<=n
 |0,i=>by
  rw[show l7 x 0=aW 11 (noP x) by simp[l7,td,h4],om,ou hp];constructor
  ·intro h e he;rw[rp he λk k1 _=>h k k1];omega
  intro h j hj hP;have h1:=h (j+1) zo;have:=(re (p:=P)<|show i<=j+1 by omega).2 ⟨j,hj,zo,hP⟩;omega
 |n+1,i=>by
  have ih:=Qk h4 n;rw[show l7 x (n+1)=bE 6 (bE 8 (noP x)<|bE 5 (bd 3 x.p)<|aW 7<|l7 x n) (aW 11<|noP x) by simp[l7,td,h4],kz,pU,om,ou hp];constructor
  ·rintro(⟨j,j1,j2,j3⟩|h) e he
   ·rw[lU,xB,ih,s_p hp] at j2;by_cases q:e<=j
    ·rw[rp he λk k1 k2=>j3 k k1 zo];omega
    rw[yO (j:=j) ⟨j1,j2.1,j3⟩ zo];have:=j2.2 e zo;omega
   rw[rp he λk k1 _=>h k k1];omega
  intro h;by_cases q:∃k,i<=k/\P k=true
  ·obtain⟨k,k1,k2⟩:=q;obtain⟨j,j1,_⟩:=yL k1 k2;refine .inl ⟨j,j1.1,?_,j1.2.2⟩;rw[lU,xB,ih,s_p hp];refine⟨j1.2.1,λe he=>?_⟩;have:=h e (by have:=j1.1;omega);rw[yO j1 zo] at this;omega
  exact .inr λk k1 k2=>q ⟨k,k1,k2⟩
theorem SI(h4:x.kind=4)(weak:Bool)(n:Nat):upT x weak (n+1)=oQ weak (noP x) (xm x<|upT x weak n):=by simp[upT,upN,h4]
include hp hr in
theorem FL(T:Tree)(k:Nat):bh w (xm x T) k↔R k\/((P k=true/\¬R k)/\bh w T (k+1)):=by
 unfold xm;rw[kz,lU,lU,xB,s_r hr,tC hr,s_p hp]
include hp hr in
theorem NQ(h4:x.kind=4)(weak:Bool){e:Nat}:∀(n i:Nat),Fst R i e->(bh w (upT x weak n) i↔bc P i e<=n)
 |0,i,hF=>by
  rw[show upT x weak 0=oQ weak (noP x) (bd 3 x.r) by simp[upT,upN,h4],rP,ou hp,s_r hr,WB hF];have hz:=vR (p:=P) e hF.1;constructor
  ·rintro(h|⟨_,h⟩)
   ·rw[rp hF.1 h];omega
   rw[rp hF.1 λk k1 _=>h k k1];omega
  intro h;exact .inl λk k1 k2=>by simpa using hz.1 zo k k1 k2
 |n+1,i,hF=>by
  rw[SI h4,rP,ou hp];constructor
  ·rintro(⟨j,j1,j2,j3⟩|⟨_,h⟩)
   ·rcases (FL hp hr _ _).1 j2 with q|⟨⟨q1,q2⟩,q3⟩
    ·have:e<=j:=Nat.le_of_not_lt λz=>hF.2.2 j j1 z q;rw[rp hF.1 λk k1 k2=>j3 k k1 zo];omega
    rcases ue j e with z|z|z
    ·have:=(NQ h4 weak n (j+1) ⟨zo,hF.2.1,λk k1 k2=>hF.2.2 k zo k2⟩).1 q3;rw[yO ⟨j1,q1,j3⟩ z];omega
    ·subst z;exact absurd hF.2.1 q2
    rw[rp hF.1 λk k1 k2=>j3 k k1 zo];omega
   rw[rp hF.1 λk k1 _=>h k k1];omega
  intro h;by_cases q:∃k,i<=k/\k<e/\P k=true
  ·obtain⟨k,k1,k2,k3⟩:=q;obtain⟨j,j1,j2⟩:=yL k1 k3;have hz:j<e:=zo;refine .inl ⟨j,j1.1,(FL hp hr _ _).2 (.inr ⟨⟨j1.2.1,hF.2.2 j j1.1 hz⟩,?_⟩),j1.2.2⟩;rw[NQ h4 weak n (j+1) ⟨zo,hF.2.1,λk k1 k2=>hF.2.2 k (by have:=j1.1;omega) k2⟩];rw[yO j1 hz] at h;omega
  exact .inl ⟨e,hF.1,(FL hp hr _ _).2 (.inl hF.2.1),λk k1 k2 k3=>q ⟨k,k1,k2,k3⟩⟩
include hp hr in
theorem Na(h4:x.kind=4):∀(n i:Nat),(∀k,i<=k->¬R k)->(bh w (upT x true n) i↔∀e,i<=e->bc P i e<=n)
 |0,i,hN=>by
  rw[show upT x true 0=oQ true (noP x) (bd 3 x.r) by simp[upT,upN,h4],rP,ou hp,s_r hr];constructor
  ·rintro(⟨j,j1,j2,_⟩|⟨_,h⟩) e he
   ·exact absurd j2<|hN j j1
   rw[rp he λk k1 _=>h k k1];omega
  intro h;refine .inr ⟨rfl,λj hj hP=>?_⟩;have h1:=h (j+1) zo;have:=(re (p:=P)<|show i<=j+1 by omega).2 ⟨j,hj,zo,hP⟩;omega
 |n+1,i,hN=>by
  rw[SI h4,rP,ou hp];constructor
  ·rintro(⟨j,j1,j2,j3⟩|⟨_,h⟩) e he
   ·rcases (FL hp hr _ _).1 j2 with q|⟨⟨q1,q2⟩,q3⟩
    ·exact absurd q<|hN j j1
    by_cases z:e<=j
    ·rw[rp he λk k1 k2=>j3 k k1 zo];omega
    have:=(Na h4 n (j+1) λk k1=>hN k zo).1 q3 e zo;rw[yO ⟨j1,q1,j3⟩ zo];omega
   rw[rp he λk k1 _=>h k k1];omega
  intro h;by_cases q:∃k,i<=k/\P k=true
  ·obtain⟨k,k1,k2⟩:=q;obtain⟨j,j1,_⟩:=yL k1 k2;refine .inl ⟨j,j1.1,(FL hp hr _ _).2 (.inr ⟨⟨j1.2.1,hN j j1.1⟩,(Na h4 n (j+1) λk k1=>hN k<|by have:=j1.1;omega).2 λe he=>?_⟩),j1.2.2⟩;have:=h e (by have:=j1.1;omega);rw[yO j1 zo] at this;omega
  exact .inr ⟨rfl,λk k1 k2=>q ⟨k,k1,k2⟩⟩
theorem NG:(Unt (λk=>¬P k=true) (λk=>S k=true) i\/∀j,i<=j->¬P j=true)↔∀k,i<=k->P k=true->∃j,i<=j/\j<=k/\S j=true:=by
 constructor
 ·rintro(⟨j,j1,j2,j3⟩|h) k k1 k2
  ·exact⟨j,j1,Nat.le_of_not_lt λz=>j3 k k1 z k2,j2⟩
  exact absurd k2<|h k k1
 intro h;by_cases q:∃k,i<=k/\S k=true
 ·obtain⟨k,k1,k2⟩:=q;obtain⟨j,j1,_⟩:=yL k1 k2;refine .inl ⟨j,j1.1,j1.2.1,λk k1 k2 k3=>?_⟩;obtain⟨m,m1,m2,m3⟩:=h k k1 k3;exact j1.2.2 m m1 zo m3
 exact .inr λk k1 k2=>by
  obtain⟨m,m1,_,m3⟩:=h k k1 k2;exact q ⟨m,m1,m3⟩
theorem zxH(hF:Fst R i e){X:Prop}(hX:X->∀j,i<=j->¬P j):(Unt (λk=>¬P k=true) (λk=>S k=true\/R k=true) i\/X)↔∀k,i<=k->k<e->P k=true->∃j,i<=j/\j<=k/\S j=true:=by
 constructor
 ·rintro(⟨j,j1,j2,j3⟩|h) k k1 k2 k3
  ·have E5:j<=k:=Nat.le_of_not_lt λz=>j3 k k1 z k3;rcases j2 with j2|j2
   ·exact⟨j,j1,E5,j2⟩
   exact absurd j2<|hF.2.2 j j1 zo
  exact absurd k3<|hX h k k1
 intro h;left;by_cases q:∃k,i<=k/\k<e/\S k=true
 ·obtain⟨k,k1,k2,k3⟩:=q;obtain⟨j,j1,j2⟩:=yL k1 k3;refine⟨j,j1.1,.inl j1.2.1,λk k1 k2 k3=>?_⟩;obtain⟨m,m1,m2,m3⟩:=h k k1 zo k3;exact j1.2.2 m m1 zo m3
 exact⟨e,hF.1,.inr hF.2.1,λk k1 k2 k3=>by
  obtain⟨m,m1,m2,m3⟩:=h k k1 k2 k3;exact q ⟨m,m1,zo,m3⟩⟩
theorem zpf(h4:x.kind≠4)(n:Nat):l7 x n=td x false (bd 0 0):=by
 cases n<;>simp[l7,td,h4]
theorem Pw(h4:x.kind≠4)(weak:Bool)(n:Nat):upT x weak n=upN x weak false (bd 0 0):=by
 cases n<;>simp[upT,upN,h4]
variable(n:Nat)
include hp hs in
theorem zu2(n i:Nat):bh w (l7 x n) i↔Ak x.kind n P S i:=by
 unfold Ak;by_cases h4:x.kind=4
 ·rw[Qk hp h4,aa zo,aa zo,ae h4];exact⟨λh e he=>by have:=h e he;omega,λh e he=>by have:=h e he;omega⟩
 rw[zpf h4];unfold td;by_cases h2:x.kind=2
 ·rw[ae h2,ae h2,om,s_p hp]
 rw[aa h2,aa h2];by_cases h3:x.kind=3
 ·rw[ae h3,ae h3,n9,s_p hp]
 rw[aa h3,aa h3,aa h4];by_cases h5:x.kind=5
 ·rw[ae h5,ae h5,kz,pU,om,ou hp,s_s hs];exact NG
 rw[aa h5,aa h5];by_cases h6:x.kind=6
 ·rw[ae h6,ae h6,om];refine forall_congr' λj=>forall_congr' λ_=>?_;rw[kz,n9,ou hp,s_s hs];by_cases q:P j=true<;>simp[q]
 rw[aa h6,aa h6,aa λz=>h4 z.1,om,ou hp]
include hp hs hr in
theorem zuP(hF:Fst R i e)(k1:i<=k)(k2:k<e):bh w (yf x) k↔(P k=true->∃j,k<=j/\j<e/\S j):=by
 have hk:Fst R k e:=⟨zo,hF.2.1,λm m1 m2=>hF.2.2 m zo m2⟩;unfold yf;rw[kz,pU,ou hp,tC hr];have:bh w (bE 5 (bd 3 x.s)<|noR x)=λk=>S k=true/\¬R k=true:=funext λm=>by rw[lU,s_s hs,tC hr]
 rw[this,XW hk];by_cases q:P k=true<;>simp[q]
include hp hs hr in
theorem zwW(hN:∀k,i<=k->¬R k)(k1:i<=k):bh w (yf x) k↔(P k=true->∃j,k<=j/\S j):=by
 unfold yf;rw[kz,pU,ou hp,tC hr];have:bh w (bE 5 (bd 3 x.s)<|noR x)=λk=>S k=true/\¬R k=true:=funext λm=>by rw[lU,s_s hs,tC hr]
 rw[this,SG λm m1=>hN m zo];by_cases q:P k=true<;>simp[q]
variable{a:Tree}
theorem Ma(hF:Fst R i e):(Unt (bh w a) (λk=>R k=true) i\/(weak=true/\∀j,i<=j->bh w a j))↔∀k,i<=k->k<e->bh w a k:=by
 rw[WB hF];exact⟨λh k k1 k2=>h.elim (λh=>h k k1 k2) λh=>h.2 k k1,λh=>.inl h⟩
theorem KJ(hN:∀k,i<=k->¬R k):(Unt (bh w a) (λk=>R k=true) i\/(true=true/\∀j,i<=j->bh w a j))↔∀k,i<=k->bh w a k :=
 ⟨λh k k1=>h.elim (λ⟨j,j1,j2,_⟩=>absurd j2<|hN j j1) λh=>h.2 k k1,λh=>.inr ⟨rfl,h⟩⟩
include hp hs hr in
theorem zBa(n:Nat)(hF:Fst R i e):bh w (upT x weak n) i↔DR x.kind n P S i e:=by
 unfold DR;by_cases h4:x.kind=4
 ·rw[NQ hp hr h4 weak n i hF,aa zo,aa zo,ae h4];omega
 rw[Pw h4];unfold upN;by_cases h2:x.kind=2
 ·rw[ae h2,ae h2,rP,s_r hr,Ma weak hF,s_p hp]
 rw[aa h2,aa h2];by_cases h3:x.kind=3
 ·rw[ae h3,ae h3,pU,tC hr];have:bh w (bE 5 (bd 3 x.p)<|noR x)=λk=>P k=true/\¬R k=true:=funext λm=>by rw[lU,s_p hp,tC hr]
  rw[this,XW hF]
 rw[aa h3,aa h3,aa h4];by_cases h5:x.kind=5
 ·rw[ae h5,ae h5,rP,ou hp];have:bh w (bE 6 (bd 3 x.s)<|bd 3 x.r)=λk=>S k=true\/R k=true:=funext λm=>by rw[kz,s_s hs,s_r hr]
  rw[this];exact zxH hF λh=>h.2
 rw[aa h5,aa h5];by_cases h6:x.kind=6
 ·rw[ae h6,ae h6,rP,s_r hr,Ma weak hF];exact forall_congr' λk=>forall_congr' λk1=>forall_congr' λk2=>zuP hp hs hr hF k1 k2
 rw[aa h6,aa h6,aa λz=>h4 z.1,rP,s_r hr,Ma weak hF,ou hp]
include hp hs hr in
theorem zB1(hN:∀k,i<=k->¬R k):bh w (upT x true n) i↔Ak x.kind n P S i:=by
 unfold Ak;by_cases h4:x.kind=4
 ·rw[Na hp hr h4 n i hN,aa zo,aa zo,ae h4];exact⟨λh e he=>by have:=h e he;omega,λh e he=>by have:=h e he;omega⟩
 rw[Pw h4];unfold upN;by_cases h2:x.kind=2
 ·rw[ae h2,ae h2,rP,s_r hr,KJ hN,s_p hp]
 rw[aa h2,aa h2];by_cases h3:x.kind=3
 ·rw[ae h3,ae h3,pU,tC hr];have:bh w (bE 5 (bd 3 x.p)<|noR x)=λk=>P k=true/\¬R k=true:=funext λm=>by rw[lU,s_p hp,tC hr]
  rw[this,SG hN]
 rw[aa h3,aa h3,aa h4];by_cases h5:x.kind=5
 ·rw[ae h5,ae h5,rP,ou hp];have:bh w (bE 6 (bd 3 x.s)<|bd 3 x.r)=λk=>S k=true\/R k=true:=funext λm=>by rw[kz,s_s hs,s_r hr]
  rw[this,<-NG];constructor
  ·rintro(⟨j,j1,j2,j3⟩|h)
   ·exact .inl ⟨j,j1,j2.resolve_right<|hN j j1,j3⟩
   exact .inr h.2
  rintro(⟨j,j1,j2,j3⟩|h)
  ·exact .inl ⟨j,j1,.inl j2,j3⟩
  exact .inr ⟨rfl,h⟩
 rw[aa h5,aa h5];by_cases h6:x.kind=6
 ·rw[ae h6,ae h6,rP,s_r hr,KJ hN];exact forall_congr' λk=>forall_congr' λk1=>zwW hp hs hr hN k1
 rw[aa h6,aa h6,aa λz=>h4 z.1,rP,s_r hr,KJ hN,ou hp]
end
def bG(s l:af)(a:Int)(i:Nat):Bool:=jz (bw s l i) a
theorem HL(s l:af)(a:Int):Prd s.length l.length<|bG s l a:=λi hi=>by
 unfold bG bw;rw[aa zo,aa zo,show i+l.length-s.length=(i-s.length)+l.length by omega,Nat.add_mod_right]
def oA(scope:Int)(Q R:aq)(E:Nat):Nat->List (Nat×Nat)
 |0=>[]
 |k+1=>if Q k=true/\R k=false/\(fst R E (k+1)<E\/scope=5) then oA scope Q R E k++[(k,fst R E<|k+1)] else oA scope Q R E k
def vx(scope:Int)(Q R:aq)(E n:Nat):List (Nat×Nat) :=
 if scope=1 then [(0,E)] else if scope=2 then (if fst R E 0=E then [] else [(0,fst R E 0)]) else if scope=3 then (if fst Q E 0<E then [(fst Q E 0,E)] else []) else oA scope Q R E n
theorem SS(scope:Int)(Q R:aq)(E:Nat):∀k,(oA scope Q R E k).length<=k
 |0=>aI _
 |k+1=>by
  have:=SS scope Q R E k;simp only[oA];split<;>simp<;>omega
theorem Mj{scope:Int}{Q R:aq}{E:Nat}:∀{k:Nat},k<=E->∀o∈oA scope Q R E k,o.1<=o.2/\o.2<=E/\o.1<k
 |0,_,o,h=>by simp[oA] at h
 |k+1,hk,o,h=>by
  simp only[oA] at h;split at h
  ·rcases de.1 h with h|h
   ·have:=Mj zo o h;exact⟨this.1,this.2.1,zo⟩
   rw[cM] at h;subst h;have:=mY (p:=R) (e:=E) (i:=k+1) hk;exact⟨by show k<=_;omega,this.2.1,by show k<k+1;omega⟩
  have:=Mj zo o h;exact⟨this.1,this.2.1,zo⟩
theorem zvD{scope:Int}{Q:aq}{E:Nat}(hn:n<=E):∀o∈vx scope Q R E n,o.1<=o.2/\o.2<=E:=by
 intro o h;have hR:=mY (p:=R) (e:=E) (i:=0) zo;have hQ:=mY (p:=Q) (e:=E) (i:=0) zo;unfold vx at h;split at h
 ·rw[cM] at h;subst h;exact⟨b9 _,aI _⟩
 split at h
 ·split at h
  ·simp at h
  rw[cM] at h;subst h;exact⟨b9 _,hR.2.1⟩
 split at h
 ·split at h
  ·rw[cM] at h;subst h;exact⟨hQ.2.1,aI _⟩
  simp at h
 have:=Mj hn o h;exact⟨this.1,this.2.1⟩
def srw(l:List<|Nat×Nat):fp:=l.map λo=>[ab o.1,ab o.2]
variable(l:List<|Nat×Nat)
@[simp] theorem zzA:(srw l).length=l.length:=by simp[srw]
@[simp] theorem S6:dX<|srw l:=cO _ (λl=>by simp[ao,Pure]) l
@[simp] theorem zAH:bN m (srw l)↔True:=⟨λ_=>trivial,λ_=>bP _<|S6 l⟩
theorem zCb{l:List<|Nat×Nat}{z:Nat}(hz:z=k)(h:k<l.length):(srw l)[z]? = some [.sc (.int .i64 (l.getD k (0,0)).1),.sc (.int .i64 (l.getD k (0,0)).2)]:=by
 subst hz;rw[ay,aG h];simp[srw,h]
theorem Xl{l:List<|Nat×Nat}{c:Nat}{b:Nat}(h:c=l.length):List.drop 0 (List.take c<|srw l)++[[ab a,ab b]]=srw (l++[(a,b)]):=by
 rw[dt<|by simp[h]];simp[srw]
def Hs(l:List<|Nat×Nat):D:=.a8 2<|srw l
@[simp] theorem ztY:Pure<|Hs l:=by simp only[Hs,Pure];exact S6 l
@[simp] theorem zqA(l:af):Pure<|cY l:=by simp only[cY,Pure];exact cO _ (λl=>by simp[ao,Pure]) l
@[simp] theorem zAi(l:af):az m (cY l)↔True:=⟨λ_=>trivial,λ_=>cp _<|zqA l⟩
def qb(x:cc)(s l:af)(E:Nat):aZ:=[ab x.kind,ab x.scope,ab x.p,ab x.s,ab x.q,ab x.r,ab x.count,cY s,cY l,ab E]
variable(x:cc)
@[simp] theorem zAx(s l:af)(E:Nat):ao<|qb x s l E:=by
 have h1:Pure<|cY s:=by simp only[cY,Pure];exact cO _ (λl=>by simp[ao,Pure]) s
 have h2:Pure<|cY l:=by simp only[cY,Pure];exact cO _ (λl=>by simp[ao,Pure]) l
 simp[qb,ao,Pure,h1,h2]
structure PW(x:cc)(s l:af):Prop where
 pat:fo x=0
 word:mV s l=0
 ls:ly s
 ll:ly l
theorem PW.xX{x:cc}{l:af}(h:PW x s l):(1<=x.kind/\x.kind<=6)/\(1<=x.scope/\x.scope<=5)/\(0<=x.p/\x.p<=63)/\(0<=x.s/\x.s<=63)/\(0<=x.q/\x.q<=63)/\(0<=x.r/\x.r<=63)/\0<=x.count/\x.count<=3:=by
 have:=h.pat;unfold fo at this;split at this
 ·cases this
 omega
theorem PW.lens{x:cc}{l:af}(h:PW x s l):s.length+l.length<=60/\1<=l.length:=(yX s l).1 h.word
theorem I2(s l:af)(E:Nat)(h:PW x s l)(i:Nat)(hi:i<=100000)(a:Int)(ha:0<=a):ar aj 70 [.aN<|qb x s l E,ab i,ab a]<|aF<|bG s l a i:=by
 have yl:=Wz s l h.word i zo;have hb:=FQ h.ls h.ll i;refine bz fZ ?_;unfold qb;unfold bG;generalize bw s l i=v at *;refine sR ?_;refine sC yl ?_;refine⟨ha,?_⟩;refine sW ?_;refine bL ?_;have hr:=Fg hb.1 hb.2<|min a.toNat 64;have:=Fh hr.1 hr.2;show aF (gF .and .u64 (v.fdiv<|2^min a.toNat 64) 1==1)=aF (jz v a);rw[this];rfl
theorem OA(s l:af)(E:Nat)(hE:E<=100000)(h:PW x s l)(i:Nat)(hi:i<=E)(a:Int)(ha:0<=a):ar aj 69 [.aN<|qb x s l E,ab i,ab a]<|ab<|fst (bG s l a) E i:=by
 have hH:=λj (hj:j<=100000)=>I2 x s l E h j hj a ha;refine bz fZ ?_;have fin:∀{H:aB} {k:Nat},i<=k->k<=E->(∀j,i<=j->j<k->bG s l a j=false)->(k<E->bG s l a k)->Deep H (ab k) (ab<|fst (bG s l a) E i):=λh1 h2 h3 h4=>by rw[fst_eq h1 h2 h3 h4];exact .refl _
 unfold qb at *;refine sR ?_;refine bT [0,2] (λk:Nat=>[(1,ab k)]) (λ_=>[]) (λk=>i<=k/\k<=E/\∀j,i<=j->j<k->bG s l a j=false) (λk=>E-k) i ?_;refine sW ?_;refine⟨⟨zo,zo,λj h1 h2=>zo⟩,by exact sK,rfl,?_⟩;rintro k ⟨h1,h2,h3⟩;refine bl (λq1=>?_) λq1=>?_
 ·have q1:k<E:=sO;refine sC (hH k zo) ?_;cases q2:bG s l a k
  ·refine bJ ?_;refine⟨k+1,⟨zo,zo,λj g1 g2=>?_⟩,zd,bf (by exact sK) rfl⟩;by_cases e:j=k
   ·subst e;exact q2
   exact h3 j g1 zo
  refine sW ?_;exact fin h1 h2 h3 λ_=>q2
 have q1:¬k<E:=sO;exact fin h1 h2 h3 λq=>absurd q q1
theorem zwf(s l:af)(E:Nat)(hE:E<=100000)(h:PW x s l)(hn:s.length+l.length<=E):ar aj 32 [.aN<|qb x s l E]<|Hs<|vx x.scope (bG s l x.q) (bG s l x.r) E<|s.length+l.length:=by
 have hH:=λj (hj:j<=100000) a ha=>I2 x s l E h j hj a ha;have hF:=λi (hi:i<=E) a ha=>OA x s l E hE h i hi a ha;obtain⟨⟨k1,k2⟩,⟨k3,k4⟩,⟨k5,k6⟩,⟨k7,k8⟩,⟨k9,k10⟩,⟨k11,k12⟩,k13,k14⟩:=h.xX;have hlen:=h.lens;refine bz fZ ?_;have Js:=λa ha=>hF 0 zo a ha;unfold qb at *;unfold vx;refine sR ?_;rw[aS,aS];refine sI ?_;refine sC (Js x.r k11) ?_;refine sS (λq1=>?_) λq1=>?_
 ·have q1:x.scope=1:=sO;rw[ae q1];exact .own _ _ _ _ _ _ _ _ rfl (fW _)
 have q1:¬x.scope=1:=sO;rw[aa q1];refine sS (λq2=>?_) λq2=>?_
 ·have q2:x.scope=2:=sO;rw[ae q2];refine sS (λq3=>?_) λq3=>?_
  ·have q3:fst (bG s l x.r) E 0=E:=sO;rw[ae q3];exact .none _
  have q3:¬fst (bG s l x.r) E 0=E:=sO;rw[aa q3];exact .own _ _ _ _ _ _ _ _ rfl (fW _)
 have q2:¬x.scope=2:=sO;rw[aa q2];refine sS (λq3=>?_) λq3=>?_
 ·have q3:x.scope=3:=sO;rw[ae q3];refine sC (Js x.q k9) ?_;refine sS (λq4=>?_) λq4=>?_
  ·have q4:fst (bG s l x.q) E 0<E:=sO;rw[ae q4];exact .own _ _ _ _ _ _ _ _ rfl (fW _)
  have q4:¬fst (bG s l x.q) E 0<E:=sO;rw[aa q4];exact .none _
 have q3:¬x.scope=3:=sO;rw[aa q3];refine dk (iF 6 2 zs rfl) ?_;refine bT [0,75] (λ((k,c,L):Nat×Nat×List (Nat×Nat))=>[(6,.own 0 c 0 c),(76,ab k)]) (λ(k,c,L)=>[(0,.vec true c 2<|srw L)]) (λ(k,c,L)=>k<=s.length+l.length/\c=L.length/\c<=k/\L=oA x.scope (bG s l x.q) (bG s l x.r) E k) (λ(k,c,L)=>s.length+l.length-k) (0,0,[]) ?_;refine sW ?_;refine⟨⟨zo,rfl,zo,rfl⟩,by exact sK,rfl,?_⟩;rintro⟨k,c,L⟩ ⟨hk,hc,m8,hL⟩;refine bl (λh1=>?_) λh1=>?_
 ·have h1:k<s.length+l.length:=sO;have eT:oA x.scope (bG s l x.q) (bG s l x.r) E (k+1)=if bG s l x.q k=true/\bG s l x.r k=false/\(fst (bG s l x.r) E (k+1)<E\/x.scope=5) then oA x.scope (bG s l x.q) (bG s l x.r) E k++[(k,fst (bG s l x.r) E<|k+1)] else oA x.scope (bG s l x.q) (bG s l x.r) E k:=rfl
  rw[<-hL] at eT;have TA:=hF (k+1) zo x.r k11;refine sC (hH k zo x.q k9) ?_;cases c1:bG s l x.q k
  ·rw[c1,aa λq=>by cases q.1] at eT;refine bJ ?_;exact⟨(k+1,c,L),⟨zo,hc,zo,eT.symm⟩,zd,bf (by exact sK) rfl⟩
  refine sW ?_;refine sC (hH k zo x.r k11) ?_;cases c2:bG s l x.r k
  ·refine bJ ?_;refine sC TA ?_;refine sS (λc3=>?_) λc3=>?_
   ·have c3:fst (bG s l x.r) E (k+1)<E:=sO;rw[ae ⟨c1,c2,.inl c3⟩] at eT;refine sJI ?_;refine⟨(k+1,c+1,L++[(k,fst (bG s l x.r) E<|k+1)]),⟨zo,by simp[hc],zo,eT.symm⟩,zd,?_⟩;refine br 1 zs rfl sQ (sU ?_);exact bM<|Xl hc
   have c3:¬fst (bG s l x.r) E (k+1)<E:=sO;refine sS (λc4=>?_) λc4=>?_
   ·have c4:x.scope=5:=sO;rw[ae ⟨c1,c2,.inr c4⟩] at eT;refine sJI ?_;refine⟨(k+1,c+1,L++[(k,fst (bG s l x.r) E<|k+1)]),⟨zo,by simp[hc],zo,eT.symm⟩,zd,?_⟩;refine br 1 zs rfl sQ (sU ?_);exact bM<|Xl hc
   have c4:¬x.scope=5:=sO;rw[aa λq=>q.2.2.elim c3 c4] at eT;refine sI ?_;exact⟨(k+1,c,L),⟨zo,hc,zo,eT.symm⟩,zd,bf (by exact sK) rfl⟩
  rw[c2,aa λq=>by cases q.2.1] at eT;refine bJ ?_;exact⟨(k+1,c,L),⟨zo,hc,zo,eT.symm⟩,zd,bf (by exact sK) rfl⟩
 have h1:k=s.length+l.length:=by have:¬k<s.length+l.length:=sO
                                 omega
 subst h1;rw[<-hL];refine .own _ _ _ _ _ _ _ _ rfl ?_;rw[dt<|by simp;omega];exact fW _
def Ac(kind:Int)(S:aq)(a d:Nat):Bool:=decide (kind=5)&&decide (0<bc S a (a+d))
def Bu(kind:Int)(P S:aq)(E a e d:Nat):Bool:=(List.range d).all λd=>!P (a+d)||(if kind=5 then decide (0<bc S a (a+d+1)) else if kind=6 then decide (fst S E (a+d)<e) else true)
def Cx(P:aq)(a d:Nat):Bool:=decide (bc P a (a+d)=d)
theorem ztz(kind:Int)(S:aq)(a d:Nat):Ac kind S a (d+1)=(Ac kind S a d||(decide (kind=5)&&S (a+d))):=by
 unfold Ac;rw[<-nT,mh zo];cases S<|a+d
 ·simp
 by_cases q:kind=5<;>simp[q]
theorem Yc(kind:Int)(P S:aq)(E a e d:Nat):Bu kind P S E a e (d+1)=(Bu kind P S E a e d&&(!P (a+d)||(if kind=5 then Ac kind S a<|d+1 else if kind=6 then decide (fst S E (a+d)<e) else true))):=by
 unfold Bu Ac;rw[qa,Dn];by_cases q:kind=5
 ·simp[q,nT]
 simp[q]
variable(P:aq)
theorem ztC(a d:Nat):Cx P a (d+1)=(Cx P a d&&P (a+d)):=by
 unfold Cx;rw[<-nT,mh zo];have:=D5 P a<|a+d-a;change bc P a (a+d)<=a+d-a at this;cases hp:P<|a+d
 ·rw[aa zc,kN,Bool.and_false,gx zo]
 rw[ae rfl,yE,kj,c6,c6];omega
theorem Y6(a d:Nat):(bc P a (a+(d+1)):Int)=if P (a+d)=true then (bc P a (a+d):Int)+1 else (bc P a (a+d):Int):=by
 rw[<-nT,mh zo];split<;>omega
theorem Z6(kind:Int)(P S:aq)(E a e:Nat):Jm kind P S E a e e=Bu kind P S E a e (e-a):=rfl
theorem zxV(s l:af)(E:Nat)(hE:E<=100000)(h:PW x s l)(a e:Nat)(hae:a<=e)(heE:e<=E):ar aj 34 [.aN<|qb x s l E,.agg [ab a,ab e]]
  (aF<|sq x.kind x.count (bG s l x.p) (bG s l x.s) E a e):=by
 have hH:=λj (hj:j<=100000) a ha=>I2 x s l E h j hj a ha;have hF:=λi (hi:i<=E) a ha=>OA x s l E hE h i hi a ha;obtain⟨⟨k1,k2⟩,⟨k3,k4⟩,⟨k5,k6⟩,⟨k7,k8⟩,⟨k9,k10⟩,⟨k11,k12⟩,k13,k14⟩:=h.xX;refine bz fZ ?_;have hP:=λj (hj:j<=100000)=>hH j hj x.p k5;have hS:=λj (hj:j<=100000)=>hH j hj x.s k7;have L8:=λj (hj:j<=E)=>hF j hj x.s k7;clear hH hF;unfold sq;rw[Z6];generalize bG s l x.p=P at *;generalize bG s l x.s=S at *;unfold qb at *;refine sR ?_
 refine bT [0,3] (λ((d,ea,la,un,mn):Nat×Bool×Bool×Bool×Int)=>[(5,ab mn),(6,aF ea),(7,aF la),(8,aF un),(9,ab ((a+d:Nat):Int))]) (λ_=>[])
  (λ(d,ea,la,un,mn)=>d<=e-a/\ea=Ac x.kind S a d/\la=Bu x.kind P S E a e d/\un=Cx P a d/\mn=(bc P a (a+d):Int)) (λ(d,ea,la,un,mn)=>e-a-d) (0,false,true,true,0) ?_
 refine sW ?_;refine⟨⟨zo,by simp[Ac,nr],by simp[Bu],by simp[Cx,nr],by simp[nr]⟩,by exact sK,rfl,?_⟩;rintro⟨d,ea,la,un,mn⟩ ⟨hd,h1,h2,h3,h4⟩;have e1:=ztz x.kind S a d;have e2:=Yc x.kind P S E a e d;have e3:=ztC P a d;have e4:=Y6 P a d;rw[<-h1] at e1;rw[<-h2] at e2;rw[<-h3] at e3;rw[<-h4] at e4;have SF:=D5 P a<|a+d-a;change bc P a (a+d)<=a+d-a at SF;refine bl (λq0=>?_) λq0=>?_
 ·have q0:a+d<e:=sO;have Gi:=hP (a+d) zo;have Z2:=hS (a+d) zo;have Cl:=L8 (a+d) zo;cases ea
  ·refine sWS (λq1=>?_) λq1=>?_
   ·have q1:x.kind=5:=sO;rw[gb q1] at e1;refine sC Z2 ?_;cases q2:S (a+d)
    ·rw[q2,Bool.and_false,uL] at e1;refine sW ?_;refine sC Gi ?_;cases p:P (a+d)
     ·rw[p] at e2 e3 e4;refine bJ ?_;refine⟨(d+1,_,_,_,_),⟨zo,e1.symm,by rw[e2];simp,by rw[e3];simp,by rw[e4];simp⟩,zd,bf ⟨rfl,rfl,rfl,rfl,by show D.sc _=D.sc _;congr 3,by exact sK⟩ rfl⟩
     rw[p] at e2 e3 e4;refine bJ ?_;refine sS (λr1=>?_) λr1=>?_
     ·have r1:x.kind=5:=sO;refine sWS (λr2=>?_) λr2=>?_
      ·exfalso;exact sO
      refine sI ?_;refine⟨(d+1,_,_,_,_),⟨zo,e1.symm,by rw[e2,ae r1,e1];simp,by rw[e3];simp,by rw[e4];simp⟩,zd,bf ⟨rfl,rfl,rfl,rfl,by show D.sc _=D.sc _;congr 3,by exact sK⟩ rfl⟩
     have r1:¬x.kind=5:=sO;refine sS (λr2=>?_) λr2=>?_
     ·have r2:x.kind=6:=sO;refine sC Cl ?_;refine sS (λr3=>?_) λr3=>?_
      ·have r3:¬fst S E (a+d)<e:=sO;refine sI ?_;refine⟨(d+1,_,_,_,_),⟨zo,e1.symm,by rw[e2,aa r1,ae r2,gx r3];simp,by rw[e3];simp,by rw[e4];simp⟩,zd,bf ⟨rfl,rfl,rfl,rfl,by show D.sc _=D.sc _;congr 3,by exact sK⟩ rfl⟩
      have r3:fst S E (a+d)<e:=sO;refine sI ?_;refine⟨(d+1,_,_,_,_),⟨zo,e1.symm,by rw[e2,aa r1,ae r2,gb r3];simp,by rw[e3];simp,by rw[e4];simp⟩,zd,bf ⟨rfl,rfl,rfl,rfl,by show D.sc _=D.sc _;congr 3,by exact sK⟩ rfl⟩
     have r2:¬x.kind=6:=sO;refine sI ?_;refine⟨(d+1,_,_,_,_),⟨zo,e1.symm,by rw[e2,aa r1,aa r2];simp,by rw[e3];simp,by rw[e4];simp⟩,zd,bf ⟨rfl,rfl,rfl,rfl,by show D.sc _=D.sc _;congr 3,by exact sK⟩ rfl⟩
    rw[q2,yE,rK] at e1;refine sW ?_;refine sC Gi ?_;cases p:P<|a+d
    ·rw[p] at e2 e3 e4;refine bJ ?_;refine⟨(d+1,_,_,_,_),⟨zo,e1.symm,by rw[e2];simp,by rw[e3];simp,by rw[e4];simp⟩,zd,bf ⟨rfl,rfl,rfl,rfl,by show D.sc _=D.sc _;congr 3,by exact sK⟩ rfl⟩
    rw[p] at e2 e3 e4;refine bJ ?_;refine sS (λr1=>?_) λr1=>?_
    ·have r1:x.kind=5:=sO;refine sWS (λr2=>?_) λr2=>?_
     ·exfalso;exact sO
     refine sI ?_;refine⟨(d+1,_,_,_,_),⟨zo,e1.symm,by rw[e2,ae r1,e1];simp,by rw[e3];simp,by rw[e4];simp⟩,zd,bf ⟨rfl,rfl,rfl,rfl,by show D.sc _=D.sc _;congr 3,by exact sK⟩ rfl⟩
    have r1:¬x.kind=5:=sO;refine sS (λr2=>?_) λr2=>?_
    ·have r2:x.kind=6:=sO;refine sC Cl ?_;refine sS (λr3=>?_) λr3=>?_
     ·have r3:¬fst S E (a+d)<e:=sO;refine sI ?_;refine⟨(d+1,_,_,_,_),⟨zo,e1.symm,by rw[e2,aa r1,ae r2,gx r3];simp,by rw[e3];simp,by rw[e4];simp⟩,zd,bf ⟨rfl,rfl,rfl,rfl,by show D.sc _=D.sc _;congr 3,by exact sK⟩ rfl⟩
     have r3:fst S E (a+d)<e:=sO;refine sI ?_;refine⟨(d+1,_,_,_,_),⟨zo,e1.symm,by rw[e2,aa r1,ae r2,gb r3];simp,by rw[e3];simp,by rw[e4];simp⟩,zd,bf ⟨rfl,rfl,rfl,rfl,by show D.sc _=D.sc _;congr 3,by exact sK⟩ rfl⟩
    have r2:¬x.kind=6:=sO;refine sI ?_;refine⟨(d+1,_,_,_,_),⟨zo,e1.symm,by rw[e2,aa r1,aa r2];simp,by rw[e3];simp,by rw[e4];simp⟩,zd,bf ⟨rfl,rfl,rfl,rfl,by show D.sc _=D.sc _;congr 3,by exact sK⟩ rfl⟩
   have q1:¬x.kind=5:=sO;rw[gx q1,qG,uL] at e1;refine sC Gi ?_;cases p:P<|a+d
   ·rw[p] at e2 e3 e4;refine bJ ?_;refine⟨(d+1,_,_,_,_),⟨zo,e1.symm,by rw[e2];simp,by rw[e3];simp,by rw[e4];simp⟩,zd,bf ⟨rfl,rfl,rfl,rfl,by show D.sc _=D.sc _;congr 3,by exact sK⟩ rfl⟩
   rw[p] at e2 e3 e4;refine bJ ?_;refine sS (λr1=>?_) λr1=>?_
   ·have r1:x.kind=5:=sO;refine sWS (λr2=>?_) λr2=>?_
    ·exfalso;exact sO
    refine sI ?_;refine⟨(d+1,_,_,_,_),⟨zo,e1.symm,by rw[e2,ae r1,e1];simp,by rw[e3];simp,by rw[e4];simp⟩,zd,bf ⟨rfl,rfl,rfl,rfl,by show D.sc _=D.sc _;congr 3,by exact sK⟩ rfl⟩
   have r1:¬x.kind=5:=sO;refine sS (λr2=>?_) λr2=>?_
   ·have r2:x.kind=6:=sO;refine sC Cl ?_;refine sS (λr3=>?_) λr3=>?_
    ·have r3:¬fst S E (a+d)<e:=sO;refine sI ?_;refine⟨(d+1,_,_,_,_),⟨zo,e1.symm,by rw[e2,aa r1,ae r2,gx r3];simp,by rw[e3];simp,by rw[e4];simp⟩,zd,bf ⟨rfl,rfl,rfl,rfl,by show D.sc _=D.sc _;congr 3,by exact sK⟩ rfl⟩
    have r3:fst S E (a+d)<e:=sO;refine sI ?_;refine⟨(d+1,_,_,_,_),⟨zo,e1.symm,by rw[e2,aa r1,ae r2,gb r3];simp,by rw[e3];simp,by rw[e4];simp⟩,zd,bf ⟨rfl,rfl,rfl,rfl,by show D.sc _=D.sc _;congr 3,by exact sK⟩ rfl⟩
   have r2:¬x.kind=6:=sO;refine sI ?_;refine⟨(d+1,_,_,_,_),⟨zo,e1.symm,by rw[e2,aa r1,aa r2];simp,by rw[e3];simp,by rw[e4];simp⟩,zd,bf ⟨rfl,rfl,rfl,rfl,by show D.sc _=D.sc _;congr 3,by exact sK⟩ rfl⟩
  refine sW ?_;rw[Bool.true_or] at e1;refine sC Gi ?_;cases p:P<|a+d
  ·rw[p] at e2 e3 e4;refine bJ ?_;refine⟨(d+1,_,_,_,_),⟨zo,e1.symm,by rw[e2];simp,by rw[e3];simp,by rw[e4];simp⟩,zd,bf ⟨rfl,rfl,rfl,rfl,by show D.sc _=D.sc _;congr 3,by exact sK⟩ rfl⟩
  rw[p] at e2 e3 e4;refine bJ ?_;refine sS (λr1=>?_) λr1=>?_
  ·have r1:x.kind=5:=sO;refine sWS (λr2=>?_) λr2=>?_
   ·exfalso;exact sO
   refine sI ?_;refine⟨(d+1,_,_,_,_),⟨zo,e1.symm,by rw[e2,ae r1,e1];simp,by rw[e3];simp,by rw[e4];simp⟩,zd,bf ⟨rfl,rfl,rfl,rfl,by show D.sc _=D.sc _;congr 3,by exact sK⟩ rfl⟩
  have r1:¬x.kind=5:=sO;refine sS (λr2=>?_) λr2=>?_
  ·have r2:x.kind=6:=sO;refine sC Cl ?_;refine sS (λr3=>?_) λr3=>?_
   ·have r3:¬fst S E (a+d)<e:=sO;refine sI ?_;refine⟨(d+1,_,_,_,_),⟨zo,e1.symm,by rw[e2,aa r1,ae r2,gx r3];simp,by rw[e3];simp,by rw[e4];simp⟩,zd,bf ⟨rfl,rfl,rfl,rfl,by show D.sc _=D.sc _;congr 3,by exact sK⟩ rfl⟩
   have r3:fst S E (a+d)<e:=sO;refine sI ?_;refine⟨(d+1,_,_,_,_),⟨zo,e1.symm,by rw[e2,aa r1,ae r2,gb r3];simp,by rw[e3];simp,by rw[e4];simp⟩,zd,bf ⟨rfl,rfl,rfl,rfl,by show D.sc _=D.sc _;congr 3,by exact sK⟩ rfl⟩
  have r2:¬x.kind=6:=sO;refine sI ?_;refine⟨(d+1,_,_,_,_),⟨zo,e1.symm,by rw[e2,aa r1,aa r2];simp,by rw[e3];simp,by rw[e4];simp⟩,zd,bf ⟨rfl,rfl,rfl,rfl,by show D.sc _=D.sc _;congr 3,by exact sK⟩ rfl⟩
 have q0:d=e-a:=by have:¬a+d<e:=sO
                   omega
 subst q0;rw[show a+(e-a)=e by omega] at h4;unfold Cx at h3;rw[show a+(e-a)=e by omega] at h3;refine sS (λr1=>?_) λr1=>?_
 ·have r1:x.kind=1:=sO;rw[ae r1];refine bL ?_;rw[h4]
  congr 2
  rw[kj];simp
 have r1:¬x.kind=1:=sO;rw[aa r1];refine sS (λr2=>?_) λr2=>?_
 ·have r2:x.kind=2:=sO;rw[ae r2,<-h3];exact .refl _
 have r2:¬x.kind=2:=sO;rw[aa r2];refine sS (λr3=>?_) λr3=>?_
 ·have r3:x.kind=3:=sO;rw[ae r3];refine bL ?_;rw[h4]
  congr 2
  rw[kj,c6,c6];omega
 have r3:¬x.kind=3:=sO;rw[aa r3];refine sS (λr4=>?_) λr4=>?_
 ·have r4:x.kind=4:=sO;rw[ae r4];refine bL ?_;rw[h4]
 have r4:¬x.kind=4:=sO;rw[aa r4,<-h2];exact .refl _
def xh(P S:aq)(E a d:Nat):Bool:=(List.range d).all λd=>!(P (a+d)&&decide (fst S E (a+d)=E))
theorem UC(P S:aq)(E a d:Nat):xh P S E a (d+1)=(xh P S E a d&&!(P (a+d)&&decide (fst S E (a+d)=E))):=by
 unfold xh;rw[qa,Dn];simp
theorem zoM{P:aq}{E:Nat}:∀{d n:Nat},d<=n->xh P S E a d=false->xh P S E a n=false:=by
 intro d n P2 h;obtain⟨k,rfl⟩:=u6 P2;clear P2
 induction k with
 |zero=>exact h
 |succ k ih=>rw[<-nT,UC,ih];rfl
theorem zl8(s l:af)(E:Nat)(hE:E<=100000)(h:PW x s l)(a e:Nat)(hae:a<=e)(heE:e<=E):ar aj 33 [.aN<|qb x s l E,.agg [ab a,ab e]]
  (aF<|zL (bG s l x.p) (bG s l x.s) E a e):=by
 obtain⟨⟨k1,k2⟩,⟨k3,k4⟩,⟨k5,k6⟩,⟨k7,k8⟩,⟨k9,k10⟩,⟨k11,k12⟩,k13,k14⟩:=h.xX;have hP:=λj (hj:j<=100000)=>I2 x s l E h j hj x.p k5;have L8:=λj (hj:j<=E)=>OA x s l E hE h j hj x.s k7;refine bz fZ ?_;show PWp _ _ _ _ _ _;rw[show zL (bG s l x.p) (bG s l x.s) E a e=xh (bG s l x.p) (bG s l x.s) E a (e-a) from rfl];generalize bG s l x.p=P at *;generalize bG s l x.s=S at *;unfold qb at *;refine sR ?_;refine bT [0,3] (λd:Nat=>[(5,ab ((a+d:Nat):Int))]) (λ_=>[]) (λd=>d<=e-a/\xh P S E a d=true) (λd=>e-a-d) 0 ?_;refine sW ?_;refine⟨⟨zo,by simp[xh]⟩,by exact sK,rfl,?_⟩;rintro d ⟨hd,h1⟩;have e1:=UC P S E a d;rw[h1,jZ] at e1;refine bl (λq0=>?_) λq0=>?_
 ·have q0:a+d<e:=sO;have Cl:=L8 (a+d) zo;refine sC (hP (a+d) zo) ?_;cases p:P (a+d)
  ·rw[p] at e1;refine bJ ?_;exact⟨d+1,⟨zo,e1⟩,zd,bf ⟨by show D.sc _=D.sc _;congr 3,by exact sK⟩ rfl⟩
  rw[p,jZ] at e1;refine sW ?_;refine sC Cl ?_;refine sS (λq1=>?_) λq1=>?_
  ·have q1:fst S E (a+d)=E:=sO;rw[gb q1] at e1;refine bL ?_;rw[zoM (show d+1<=e-a by omega) e1]
  have q1:¬fst S E (a+d)=E:=sO;rw[gx q1] at e1;refine sI ?_;exact⟨d+1,⟨zo,e1⟩,zd,bf ⟨by show D.sc _=D.sc _;congr 3,by exact sK⟩ rfl⟩
 have q0:d=e-a:=by have:¬a+d<e:=sO
                   omega
 subst q0;rw[h1];exact .refl _
@[simp] theorem zB9:az m (Hs l)↔True:=⟨λ_=>trivial,λ_=>cp _<|ztY l⟩
def mf(x:cc)(s l:af)(o:Nat×Nat):Bool :=
 if o.2=s.length+6*l.length/\x.kind=6 then zL (bG s l x.p) (bG s l x.s) (s.length+6*l.length+l.length) o.1 o.2 else sq x.kind x.count (bG s l x.p) (bG s l x.s) (s.length+6*l.length) o.1 o.2
def D7(x:cc)(s l:af):Bool:=(vx x.scope (bG s l x.q) (bG s l x.r) (s.length+6*l.length)<|s.length+l.length).all<|mf x s l
theorem zsc(s l:af)(h:PW x s l):ar aj 10 [iS x,kV s l] (.aJ [aF<|D7 x s l,ab 0]):=by
 have hW:=D3 s l;have hC:=u0 x;have hl:=h.lens;rw[h.pat] at hC;rw[h.word] at hW;have u9:=zwf x s l (s.length+6*l.length) zo h zo;have hK:=λa e (h1:a<=e) (h2:e<=s.length+6*l.length)=>zxV x s l (s.length+6*l.length) zo h a e h1 h2;have hA:=λa e (h1:a<=e) (h2:e<=s.length+6*l.length)=>zl8 x s l (s.length+6*l.length+l.length) zo h a e h1 zo;have bg:=zvD (scope:=x.scope) (Q:=bG s l x.q) (R:=bG s l x.r) (E:=s.length+6*l.length) (n:=s.length+l.length) zo;refine bz fZ ?_;unfold D7;have hlen:(vx x.scope (bG s l x.q) (bG s l x.r) (s.length+6*l.length)<|s.length+l.length).length<=1000:=by
  have:=SS x.scope (bG s l x.q) (bG s l x.r) (s.length+6*l.length)<|s.length+l.length;unfold vx
  (repeat' split)<;>simp<;>omega
 generalize vx x.scope (bG s l x.q) (bG s l x.r) (s.length+6*l.length) (s.length+l.length)=L at *;unfold qb iS cm at *;refine sR ?_;refine sC hC ?_;refine sC hW ?_;rw[aS,aS];refine sI ?_;refine sI ?_;rw[show(s.length:Int)+6*(l.length:Int)=((s.length+6*l.length:Nat):Int) by omega];refine sV u9 ?_;rw[zzA];dsimp only[vU,an.frozen];refine bT [2,3,8,35,36] (λk:Nat=>[(37,ab k)]) (λ_=>[]) (λk=>k<=L.length/\(L.take k).all (mf x s l)=true) (λk=>L.length-k) 0 ?_;refine sW ?_;refine⟨⟨zo,zs⟩,by exact sK,rfl,?_⟩;rintro k ⟨hk,dg⟩;refine bl (λq0=>?_) λq0=>?_
 ·have q0:k<L.length:=sO;have hex:L.getD k (0,0)∈L:=(by rw[ay,aG q0];exact ig q0);have hi:=bg _ hex;have enx:(L.take<|k+1).all (mf x s l)=mf x s l (L.getD k (0,0)):=by
   rw[ld,aG q0,Dn,dg,ay,aG q0];simp
  have efl:mf x s l (L.getD k (0,0))=false->L.all (mf x s l)=false:=λq=>by rw[List.all_eq_false];exact⟨_,hex,by rw[q];decide⟩
  refine sL (zCb (k:=k) zo q0) ?_;generalize L.getD k (0,0)=o at *;refine sS (λc1=>?_) λc1=>?_
  ·have c1:o.2=s.length+6*l.length:=sO;refine sS (λc2=>?_) λc2=>?_
   ·have c2:x.kind=6:=sO;have ek:mf x s l o=zL (bG s l x.p) (bG s l x.s) (s.length+6*l.length+l.length) o.1 o.2:=(by unfold mf;rw[ae ⟨c1,c2⟩]);rw[aS];refine sI ?_;rw[show((s.length+6*l.length:Nat):Int)+(l.length:Int)=((s.length+6*l.length+l.length:Nat):Int) by omega];refine sN (hA o.1 o.2 hi.1 hi.2) ?_;cases r:zL (bG s l x.p) (bG s l x.s) (s.length+6*l.length+l.length) o.1 o.2
    ·refine sW ?_;refine bL ?_;rw[efl<|by rw[ek];exact r]
    refine bJ ?_;refine⟨k+1,⟨zo,by rw[enx,ek];exact r⟩,zd,?_⟩;exact br 3 zs rfl sQ sQ
   have c2:¬x.kind=6:=sO;have ek:mf x s l o=sq x.kind x.count (bG s l x.p) (bG s l x.s) (s.length+6*l.length) o.1 o.2:=(by unfold mf;rw[aa λq=>c2 q.2]);refine sN (hK o.1 o.2 hi.1 hi.2) ?_;cases r:sq x.kind x.count (bG s l x.p) (bG s l x.s) (s.length+6*l.length) o.1 o.2
   ·refine sW ?_;refine bL ?_;rw[efl<|by rw[ek];exact r]
   refine bJ ?_;refine⟨k+1,⟨zo,by rw[enx,ek];exact r⟩,zd,?_⟩;exact br 3 zs rfl sQ sQ
  have c1:¬o.2=s.length+6*l.length:=sO;have ek:mf x s l o=sq x.kind x.count (bG s l x.p) (bG s l x.s) (s.length+6*l.length) o.1 o.2:=(by unfold mf;rw[aa λq=>c1 q.1]);refine sN (hK o.1 o.2 hi.1 hi.2) ?_;cases r:sq x.kind x.count (bG s l x.p) (bG s l x.s) (s.length+6*l.length) o.1 o.2
  ·refine sW ?_;refine bL ?_;rw[efl<|by rw[ek];exact r]
  refine bJ ?_;refine⟨k+1,⟨zo,by rw[enx,ek];exact r⟩,zd,?_⟩;exact br 3 zs rfl sQ sQ
 have q0:k=L.length:=by have:¬k<L.length:=sO
                        omega
 subst q0;rw[gz] at dg;rw[dg];exact .refl _
end Go.Proofs.YtaalipopcddnjaaGreatDoor
