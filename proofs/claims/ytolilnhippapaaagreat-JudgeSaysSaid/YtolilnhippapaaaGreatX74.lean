/-
  Parts of a proof, joined. No statement is proved here.
-/
import Derived.Test.YtolilnhippapaaaGreatX71
import Derived.Test.YtolilnhippapaaaGreatX73
import Derived.Test.YtolilnhippapaaaGreatX72
import Derived.Test.YtolilnhippapaaaGreatProg
import Derived.Shelf.Sort.Plain
import Derived.Test.YtolilnhippapaaaGreatX70
namespace Go.Proofs.YtolilnhippapaaaGreat
set_option linter.unusedSimpArgs false
set_option linter.unusedVariables false
set_option maxRecDepth 100000
set_option linter.unusedSectionVars false
open Go.RowKit
section
def iE:List Pr->List Pr->ah->List Pr×ah
 |[],L,o=>(L,o)
 |p::r,L,o=>iE r (jW L p)<|o++[(gF (jW L p) p:Int)]
theorem ztH(L:List Pr)(p:Pr):∃X,jW L p=L++X:=by
 unfold jW;split
 ·exact⟨[],zs⟩
 exact⟨[p],rfl⟩
variable{L:List Pr}
theorem LW{X:List Pr}{p:Pr}(h:p∈L):gF (L++X) p=gF L p:=by
 unfold gF;rw[List.idxOf_append,ae h]
theorem Ck:∀(ps L:List Pr) (o:ah),∃X,(iE ps L o).1=L++X
 |[],L,o=>⟨[],by simp[iE]⟩
 |p::r,L,o=>by
  obtain⟨X,hX⟩:=ztH L p;obtain⟨Y,hY⟩:=Ck r (jW L p)<|o++[(gF (jW L p) p:Int)];exact⟨X++Y,by rw[iE,hY,hX,gy]⟩
theorem Cu:∀(ps L:List Pr) (o:ah) (q:Pr),q∈(iE ps L o).1↔q∈L\/q∈ps
 |[],L,o,q=>by simp[iE]
 |p::r,L,o,q=>by
  rw[iE,Cu r,NG,dZ];constructor
  ·rintro((h|h)|h)
   ·exact .inl h
   ·exact .inr (.inl h)
   exact .inr (.inr h)
  rintro(h|h|h)
  ·exact .inl (.inl h)
  ·exact .inl (.inr h)
  exact .inr h
theorem HQ:∀(ps:List Pr) {L:List Pr} (o:ah),L.Nodup->(iE ps L o).1.Nodup
 |[],_,_,h=>h
 |p::r,_,_,h=>HQ r _<|PV h p
theorem Mx:∀(ps L:List Pr) (o:ah),(iE ps L o).2=o++ps.map λp=>(gF (iE ps L o).1 p:Int)
 |[],L,o=>by simp[iE]
 |p::r,L,o=>by
  rw[iE,Mx r];obtain⟨X,hX⟩:=Ck r (jW L p)<|o++[(gF (jW L p) p:Int)];have:gF (iE r (jW L p)<|o++[(gF (jW L p) p:Int)]).1 p=gF (jW L p) p:=by
   rw[hX];exact LW<|NG.2 (.inr rfl)
  rw[fi,this,gy];rfl
theorem zuL{ps:List Pr}{o:ah}{i:Nat}(h:i<L.length):(iE ps L o).1.getD i (0,0)=L.getD i (0,0):=by
 obtain⟨X,hX⟩:=Ck ps L o;rw[hX,aE,fv h,<-aE]
theorem zrz(ps L:List Pr)(o:ah):L.length<=(iE ps L o).1.length:=by
 obtain⟨X,hX⟩:=Ck ps L o;rw[hX];simp
def tO(nx:Pr->List Pr):Nat->Nat->List Pr->aj->List Pr×aj
 |0,_,L,T=>(L,T)
 |k+1,n,L,T=>if n<L.length then tO nx k (n+1) (iE (nx<|L.getD n (0,0)) L []).1<|T++[(iE (nx<|L.getD n (0,0)) L []).2] else (L,T)
structure um(start:List Pr)(nx:Pr->List Pr)(n:Nat)(L:List Pr)(T:aj):Prop where
 nd:L.Nodup
 st:∀p∈start,p∈L
 len:T.length=n
 le:n<=L.length
 row:∀i,i<n->T.getD i []=(nx<|L.getD i (0,0)).map λq=>(gF L q:Int)
 cl:∀i,i<n->∀q∈nx (L.getD i (0,0)),q∈L
 fr:∀j,j<L.length->L.getD j (0,0)∈start\/∃i,i<n/\i<j/\L.getD j (0,0)∈nx (L.getD i (0,0))
theorem nT{j:Nat}(h:j<L.length):L.getD j (0,0)∈L:=by
 rw[aE,aJ h];simp
theorem um.begin(start:List Pr)(nx:Pr->List Pr):um start nx 0 (iE start [] []).1 [] where
 nd:=HQ start [] .nil
 st p hp:=(Cu start [] [] p).2 (.inr hp)
 len:=rfl
 le:=jr _
 row i hi:=zo
 cl i hi:=zo
 fr j hj:=.inl<|((Cu start [] [] _).1<|nT hj).resolve_left zs
variable{n:Nat}
theorem um.next{start:List Pr}{nx:Pr->List Pr}{T:aj}(h:um start nx n L T)(hn:n<L.length) :
  um start nx (n+1) (iE (nx<|L.getD n (0,0)) L []).1 (T++[(iE (nx<|L.getD n (0,0)) L []).2]):=by
 generalize hp:L.getD n (0,0)=p;have hm:=Cu (nx p) L [];have ho:=Mx (nx p) L [];have hold:=λi (hi:i<L.length)=>zuL (ps:=nx p) (o:=[]) hi;have zL1:=zrz (nx p) L [];obtain⟨X,hX⟩:=Ck (nx p) L [];refine⟨HQ _ _ h.nd,λq hq=>(hm q).2 (.inl<|h.st q hq),by simp[h.len],zo,λi hi=>?_,λi hi q hq=>?_,λj hj=>?_⟩
 ·by_cases e:i=n
  ·subst e;rw[hold _ hn,hp,aE,gJ<|by rw[h.len];exact aT _,h.len,rm];show(iE (nx p) L []).2=_;rw[ho,lW]
  have hi:i<n:=zo;rw[hold i zo,aE,fv<|by rw[h.len];exact hi,<-aE,h.row i hi,hX];refine qY λq hq=>?_;rw[LW<|h.cl i hi q hq]
 ·by_cases e:i=n
  ·subst e;rw[hold _ hn,hp] at hq;exact(hm q).2 (.inr hq)
  rw[hold i zo] at hq;exact(hm q).2 (.inl<|h.cl i zo q hq)
 by_cases hl:j<L.length
 ·rw[hold j hl];rcases h.fr j hl with k|⟨i,k1,k2,k3⟩
  ·exact .inl k
  exact .inr ⟨i,zo,k2,by rw[hold i zo];exact k3⟩
 refine .inr ⟨n,zo,zo,?_⟩;rw[hold n hn,hp];have hq:(iE (nx p) L []).1.getD j (0,0)∈X:=by
  rw[hX,aE,gJ zo];rw[hX,cq] at hj;rw[aJ zo];simp
 have fm:=HQ (nx p) [] h.nd;rw[hX] at fm;have zHg:¬(iE (nx p) L []).1.getD j (0,0)∈L:=λq=>(yJ.1 fm).2.2 _ q _ hq rfl;exact((hm _).1<|nT hj).resolve_left zHg
structure pK(start:List Pr)(nx:Pr->List Pr)(L:List Pr)(G:aj):Prop where
 nd:L.Nodup
 st:∀p∈start,p∈L
 len:G.length=L.length
 row:∀i,i<L.length->G.getD i []=(nx<|L.getD i (0,0)).map λq=>(gF L q:Int)
 cl:∀i,i<L.length->∀q∈nx (L.getD i (0,0)),q∈L
 fr:∀j,j<L.length->L.getD j (0,0)∈start\/∃i,i<j/\L.getD j (0,0)∈nx (L.getD i (0,0))
theorem um.fin{start:List Pr}{nx:Pr->List Pr}{n:Nat}{L:List Pr}{T:aj}(h:um start nx n L T)(hn:¬n<L.length):pK start nx L T:=by
 have e:n=L.length:=by have:=h.le;omega
 subst e;exact⟨h.nd,h.st,h.len,h.row,h.cl,λj hj=>(h.fr j hj).imp_right λ⟨i,_,k2,k3⟩=>⟨i,k2,k3⟩⟩
theorem zvB(fm:L.Nodup){m:Nat}(h:∀p∈L,(0<=p.1/\p.1<(n:Int))/\0<=p.2/\p.2<(m:Int)):L.length<=n*m:=by
 refine FN (n*m) L.length (λi=>(L.getD i (0,0)).1.toNat * m+(L.getD i (0,0)).2.toNat) (λi hi=>?_) λi j hi hj he=>?_
 ·obtain⟨⟨a,b⟩,c,d⟩:=h _<|nT hi;generalize L.getD i (0,0)=p at *;have:(p.1.toNat+1)*m<=n*m:=tl _ zo;rw[jw,Nat.one_mul] at this;omega
 obtain⟨⟨a,b⟩,c,d⟩:=h _<|nT hi;obtain⟨⟨a',b'⟩,c',d'⟩:=h _<|nT hj;have BV:L.getD i (0,0)=L.getD j (0,0):=by
  generalize L.getD i (0,0)=p at *;generalize L.getD j (0,0)=q at *;have e1:p.2.toNat=q.2.toNat:=by
   have:=bJ (·%m) he;simp only[Nat.mul_add_mod_self_right] at this;rwa [Nat.mod_eq_of_lt zo,Nat.mod_eq_of_lt zo] at this
  have e2:p.1.toNat=q.1.toNat:=by
   rw[e1] at he;exact Nat.eq_of_mul_eq_mul_right zo<|Nat.add_right_cancel he
  exact Prod.ext zo zo
 rw[aE,aE,aJ hi,aJ hj] at BV;simp only[nR] at BV;rcases yR i j with q|q|q
 ·exact absurd BV<|tG.1 fm i j hi hj q
 ·exact q
 exact absurd BV.symm<|tG.1 fm j i hj hi q
theorem A7{q:Pr}(h:q∈L):L.getD (gF L q) (0,0)=q:=by
 have h1:=Dw h;unfold gF at h1⊢;rw[aE,aJ h1,List.getElem_idxOf h1];rfl
section
variable{start:List Pr}{nx:Pr->List Pr}{L:List Pr}{G:aj}
theorem pK.I7(h:pK start nx L G){v:Nat}{x:Int}(hx:x∈G.getD v []):v<L.length/\∃q,q∈nx (L.getD v (0,0))/\q∈L/\x=(gF L q:Int)/\gF L q<L.length:=by
 have hv:v<L.length:=by
  rcases dY v L.length with q|q
  ·exact q
  rw[aE,cY<|by have:=h.len;omega] at hx;cases hx
 rw[h.row v hv] at hx;obtain⟨q,hq,rfl⟩:=dq.1 hx;have:=h.cl v hv q hq;exact⟨hv,q,hq,this,rfl,Dw this⟩
theorem pK.inG(h:pK start nx L G):∀l∈G,bx l G.length:=λl hl=>by
 obtain⟨v,hv,rfl⟩:=jN.1 hl;refine kG λx hx=>?_;obtain⟨_,q,_,_,rfl,k⟩:=h.I7 (v:=v) (x:=x) (by rw[aE,aJ hv];exact hx);have:=h.len;omega
theorem pK.come(h:pK start nx L G):∀j,j<L.length->∃p∈start,To G (gF L p) j:=by
 intro j
 induction j using Nat.strongRecOn with
 |ind j ih =>
  intro hj;have hid:gF L (L.getD j (0,0))=j:=by
   have h1:=Dw<|nT hj;have h2:=A7<|nT hj;have hx:L[gF L<|L.getD j (0,0)]'h1=L[j]:=by
    rw[aE,aJ h1] at h2;simp only[nR] at h2;rw[h2,aE,aJ hj];rfl
   rcases yR (gF L<|L.getD j (0,0)) j with q|q|q
   ·exact absurd hx<|tG.1 h.nd _ _ h1 hj q
   ·exact q
   exact absurd hx.symm<|tG.1 h.nd _ _ hj h1 q
  rcases h.fr j hj with k|⟨i,k2,k3⟩
  ·exact⟨_,k,by rw[hid];exact mN G j⟩
  obtain⟨p,hp,hT⟩:=ih i k2 zo;refine⟨p,hp,m5 hT ?_⟩;have:((j:Nat):Int)∈G.getD i []:=by
   rw[h.row i zo];exact dq.2 ⟨_,k3,by rw[hid]⟩
  have:=rM this;simpa using this
theorem pK.fair(h:pK start nx L G){g':aj}{code:Pr->Nat}(hg:∀p∈L,g'.getD (code p) []=(nx p).map λq=>(code q:Int))(sets:List ay) :
  (∃v,v<G.length/\Fw G (sets.map λS v=>S<|code<|L.getD v (0,0)) v)↔∃p∈start,Fw g' sets<|code p:=by
 have he:∀v x,x∈G.getD v []->∃y,y∈g'.getD (code<|L.getD v (0,0)) []/\y.toNat=code (L.getD x.toNat (0,0)):=λv x hx=>by
  obtain⟨hv,q,q1,q2,rfl,q4⟩:=h.I7 hx;refine⟨(code q:Int),?_,?_⟩
  ·rw[hg _<|nT hv];exact dq.2 ⟨q,q1,rfl⟩
  rw[bQ,bQ,A7 q2]
 have bp:∀v x,x∈G.getD v []->x.toNat<G.length:=λv x hx=>by
  obtain⟨_,q,_,_,rfl,k⟩:=h.I7 hx;have:=h.len;omega
 constructor
 ·rintro⟨v,hv,k⟩;have lH:v<L.length:=(by have:=h.len;omega);obtain⟨p,hp,hT⟩:=h.come v lH;refine⟨p,hp,?_⟩;have:=zzB (h:=λv=>code<|L.getD v (0,0)) he<|Fw.back k hT;rwa [A7<|h.st p hp] at this
 rintro⟨p,hp,k⟩;have jh:=h.st p hp;have hi:gF L p<G.length:=by have:=h.len;have:=Dw jh;omega
 refine⟨gF L p,hi,zww (h:=λv=>code<|L.getD v (0,0)) (λv hv y hy=>?_) bp hi<|by rw[A7 jh];exact k⟩;have lH:v<L.length:=by have:=h.len;omega
 rw[hg _<|nT lH] at hy;obtain⟨q,q1,rfl⟩:=dq.1 hy;have hq:=h.cl v lH q q1;refine⟨(gF L q:Int),by rw[h.row v lH];exact dq.2 ⟨q,q1,rfl⟩,?_⟩;rw[bQ,bQ,A7 hq]
end
end
section
def kp(W:bc)(A:bS)(p:Pr):Bool:=yx A p.2.toNat<|W.label.getD p.1.toNat 0
def xu(W:bc)(A:bS)(n t:Nat)(S:D):bh:=[aO W.start,bY W.next,ix W.label,bY W.fair,aO A.start,bY A.next,ix A.jq,ix A.mi,bY A.fair,.mp 0,.own 2 n 0 n,.own 3 t 0 t,S]
noncomputable def j7(W:bc)(A:bS)(L:List Pr)(S:D)(T:aj):aF :=
 [.eU true<|lK ai 191<|fP L,.row true<|xu W A L.length T.length S,.vec true L.length 2<|rA L,.vec true T.length 1<|gr T]
variable{W:bc}{A:bS}{L:List Pr}{S:D}{T:aj}{m:Nat}
theorem KJ(hS:Pure S)(hm:4<=m):∀o∈j7 W A L S T,o.under m:=by
 have:=bw (m:=m) S hS;have h1:=λl=>bw (m:=m) _<|cG l;have h2:=λl=>bw (m:=m) _<|mj l;have h3:=λl=>bw (m:=m) _<|vT l;intro o ho;simp only[j7,dZ,rH,or_false] at ho;rcases ho with rfl|rfl|rfl|rfl<;>simp[ao.under,xu,au,aq,this,h1,h2,h3]<;>omega
theorem Ox(hS:Pure S)(hm:4<=m):fo m<|j7 W A L S T:=by
 have:=KJ (W:=W) (A:=A) (L:=L) hS (T:=T) hm;unfold j7 at *;exact⟨this _ zs,this _ zs,this _ zs,this _ zs,trivial⟩
theorem zuc:laidOutB ai:=by kernel_rfl
theorem RA:Maps.Keyed ai 191:=Maps.Keyed.of_law<|deep_law_laid zuc (m:=2) zo (qL<|by kernel_rfl) (by kernel_rfl)<|by rw[Tryz.underlying191]
variable{p:Pr}
theorem zlQ(hp:WfP p):∃l,keyOf ai 191 (we p)=some l :=
 YW (qL<|by kernel_rfl) (by kernel_rfl) Tryz.underlying191 rfl rfl rfl rfl zc zc Tryz.underlying3 (by kernel_rfl) (by kernel_rfl) _ _ hp.1 hp.2
structure xH(W:bc)(A:bS):Prop where
 fw:W.Fits
 fa:A.Fits
 cw:W.aS=0
 ca:A.aS=0
def iG(W:bc)(A:bS)(p:Pr):Prop:=(0<=p.1/\p.1<(W.next.length:Int))/\0<=p.2/\p.2<(A.next.length:Int)
theorem tc(W:bc)(h:W.aS=0):W.label.length=W.next.length/\W.next.length<=600/\W.fair.length<=80/\bx W.start W.next.length/\(∀l∈W.next,bx l W.next.length)/\∀l∈W.fair,bx l W.next.length:=by
 unfold bc.aS at h;split at h
 ·exact absurd h zc
 split at h
 ·exact absurd h zc
 split at h
 ·exact absurd h zc
 split at h
 ·exact absurd h zc
 rename_i h1 h2 h3 h4;have El:=not_or.1 h2;refine⟨zo,zo,zo,by simpa using El.2,λl hl=>?_,λl hl=>?_⟩
 ·rw[oL,pd] at h3;have:=h3 l hl;simp only[qX,B9,not_or,Bool.not_eq_false] at this;exact this.2
 rw[oL,pd] at h4;simpa using h4 l hl
theorem iG.wf(h:xH W A)(hp:iG W A p):WfP p:=by
 obtain⟨⟨a,b⟩,c,d⟩:=hp;have:=(tc W h.cw).2.1;have:=(wo A h.ca).2.2.1;exact zyS ⟨a,zo,c,zo⟩
theorem zy2(kc:xH W A)(L:List Pr)(fm:L.Nodup)(hL:L.length<=2000000)(S:D)(hS:Pure S)(T:aj)(p:Pr)(hg:iG W A p) :
  cp ai 218 [.loc 1 0,.agg<|pb p.1 p.2] (j7 W A L S T) (aa<|if kp W A p=true then (gF (jW L p) p:Int) else -1) (j7 W A (if kp W A p=true then jW L p else L) S T):=by
 have hp:=iG.wf kc hg;have lk:=zlQ hp;obtain⟨⟨g1,g2⟩,g3,g4⟩:=hg;obtain⟨Gr,_⟩:=tc W kc.cw;obtain⟨hm,hn,_⟩:=wo A kc.ca;have hF:=zwT A hm hn p.2.toNat zo<|W.label.getD p.1.toNat 0;rw[show((p.2.toNat:Nat):Int)=p.2 by omega] at hF;refine iV fZ zs (by simp[j7]) ?_ (by simp[aq]) (by
  intro x hx;exact KJ hS (by simp[j7]) x hx)
 have ef:kp W A p=yx A p.2.toNat (W.label.getD p.1.toNat 0):=rfl;rw[<-ef] at hF;generalize kp W A p=fit at *;unfold j7 xu pb;unfold lX bS.cells at hF;refine sR ?_;refine sL (zy (l:=W.label) (k:=p.1.toNat) zo zo) ?_;refine sC hF ?_;cases fit
 ·refine sW ?_;simp
 refine sW ?_;refine⟨fP L,rfl,RA,lk,λv hv=>?_,λhv=>?_⟩
 ·by_cases h2:p∈L
  ·have hs:=RN fm h2;have lH:some v=some (Value.int .i64<|gF L p):=hv.symm.trans hs;cases lH;have eA:jW L p=L:=ae h2;have eI:gF (jW L p) p=gF L p:=(by rw[eA]);rw[eI,eA];refine sW ?_;simp
  exfalso;have lH:some v=none:=hv.symm.trans<|ZS h2;cases lH
 have h2:¬p∈L:=λh2=>by
  have lH:(none:Option aP)=some (Value.int .i64<|gF L p):=hv.symm.trans<|RN fm h2;cases lH
 have eA:jW L p=L++[p]:=ab h2;have eI:gF (jW L p) p=L.length:=by rw[ztK,ab h2]
 rw[eI,eA];refine sW ?_;refine⟨fP L,rfl,RA,lk,hv,?_⟩;refine sWJ ?_;refine⟨?_,zs⟩;rw[ae rfl,XH,show(L++[p]).length=L.length+1 by simp,<-X9];rfl
def pg(W:bc)(A:bS)(x:Int)(k:ah):List Pr:=(k.filter λy=>kp W A (x,y)).map λy=>(x,y)
def fW(W:bc)(A:bS)(l k:ah):List Pr:=l.flatMap λx=>pg W A x k
variable(W:bc)
theorem QC(A:bS)(x y:Int)(k:ah):pg W A x (y::k)=if kp W A (x,y)=true then (x,y)::pg W A x k else pg W A x k:=by
 unfold pg;rw[BD];split<;>simp
theorem Yq(A:bS)(x:Int)(k:ah):(pg W A x k).length<=k.length:=by unfold pg;rw[aK];exact Aw _ _
theorem Xw(A:bS)(l k:ah):(fW W A l k).length<=l.length*k.length:=by
 induction l with
 |nil=>simp[fW]
 |cons x r ih =>
  have:=Yq W A x k;simp only[fW,List.flatMap_cons,cq,bH] at ih⊢;rw[jw,Nat.one_mul];omega
variable{W:bc}{l:ah}
theorem Uo{k:ah}(hl:bx l W.next.length)(hk:bx k A.next.length):∀p∈fW W A l k,iG W A p:=by
 intro p hp;obtain⟨x,hx,hp⟩:=List.mem_flatMap.1 hp;obtain⟨y,hy,rfl⟩:=dq.1 hp;exact⟨cZ hl hx,cZ hk (rP.1 hy).1⟩
theorem yY{k:Nat}(h:k<l.length):l.drop k=l.getD k 0::l.drop (k+1):=by
 rw[zZ h,aE,aJ h];rfl
theorem iG.le(kc:xH W A)(fm:L.Nodup)(hg:∀p∈L,iG W A p):L.length<=W.next.length*A.next.length:=zvB fm hg
theorem JG(kc:xH W A):W.next.length*A.next.length<=1228800 :=
 iv (Ak (tc W kc.cw).2.1 (wo A kc.ca).2.2.1) zc
theorem WH(kc:xH W A)(l k:ah)(hl:l.length<=1048576)(hk:k.length<=1048576)(il:bx l W.next.length)(ik:bx k A.next.length)(L:List Pr)(fm:L.Nodup)(u0:∀p∈L,iG W A p)(S:D)(hS:Pure S)(T:aj) :
  cp ai 132 [.loc 1 0,aO l,aO k] (j7 W A L S T) (aO (iE (fW W A l k) L []).2) (j7 W A (iE (fW W A l k) L []).1 S T):=by
 refine sy fZ zs (by simp[j7]) ?_<|bw _<|cG _;have Ky:=λm=>bw (m:=m) S hS;have Nd:=λm l=>bw (m:=m) _<|cG l;have Lj:=λm l=>bw (m:=m) _<|mj l;have OE:=λm l=>bw (m:=m) _<|vT l;have h2:=JG kc;generalize hR:iE (fW W A l k) L []=R;have hlk:l.length*k.length<=1048576*1048576:=Ak hl hk;unfold j7 xu;refine sR ?_;rw[aK];refine b8 (fL 7 1 zs rfl) ?_
 refine cJ [0,2,13,14] (λ((i,M,o):Nat×List Pr×ah)=>[(7,.own 4 o.length 0 o.length),(15,aa i)]) (λ(i,M,o)=>j7 W A M S T++[.vec true o.length 1<|aA o])
  (λ(i,M,o)=>i<=l.length/\M.Nodup/\(∀p∈M,iG W A p)/\o.length<=i*k.length/\iE (fW W A (l.drop i) k) M o=R) (λ(i,M,o)=>l.length-i) (0,L,[]) ?_
 refine sW ?_;refine⟨⟨zo,fm,u0,zs,hR⟩,by exact sK,rfl,?_⟩;rintro⟨i,M,o⟩ ⟨hi,Bu,ma,oT,hF⟩;unfold j7 xu;refine br (λq0=>?_) λq0=>?_
 ·have q0:i<l.length:=sO;have hx:=cZ il<|dP q0;refine⟨zo,_,cA (l:=l) (k:=i) zo q0,?_⟩;rw[yY q0,fW,List.flatMap_cons] at hF;rw[show(l.drop<|i+1).flatMap (λx=>pg W A x k)=fW W A (l.drop<|i+1) k from rfl] at hF;have hik:(i+1)*k.length<=1048576*1048576:=iv (tl _ zo) hlk;have zLO:(i+1)*k.length=i*k.length+k.length:=(by rw[jw,Nat.one_mul]);refine sW ?_;rw[aK];generalize l.getD i 0=x at *
  refine cJ [0,2,9,13,14,15,19,20] (λ((j,M,o):Nat×List Pr×ah)=>[(7,.own 4 o.length 0 o.length),(21,aa j)]) (λ(j,M,o)=>j7 W A M S T++[.vec true o.length 1<|aA o])
   (λ(j,M,o)=>j<=k.length/\M.Nodup/\(∀p∈M,iG W A p)/\o.length<=i*k.length+j/\iE (pg W A x (k.drop j)++fW W A (l.drop<|i+1) k) M o=R) (λ(j,M,o)=>k.length-j) (0,M,o) ?_
  refine sW ?_;refine⟨⟨zo,Bu,ma,zo,hF⟩,by exact sK,rfl,?_⟩;rintro⟨j,M,o⟩ ⟨hj,Bu,ma,oT,hF⟩;unfold j7 xu;refine br (λq1=>?_) λq1=>?_
  ·have q1:j<k.length:=sO;have hy:=cZ ik<|dP q1;refine sL (cA (l:=k) (k:=j) zo q1) ?_;rw[yY q1,QC] at hF;generalize k.getD j 0=y at *;have tB:iG W A (x,y):=⟨hx,hy⟩;have Gf:=iG.le kc Bu ma;have hA:=mS (zy2 kc M Bu zo S hS T (x,y) tB) [.vec true o.length 1<|aA o] (by simp[j7]) (by simp[j7,au,aq,pb])<|Ox hS (by simp[j7]);have tv:=zuD M (x,y);cases r:kp W A (x,y)
   ·rw[r,ab zc,ab zc] at hA;rw[r,ab zc] at hF;unfold j7 xu pb at hA;refine sA hA ?_;refine sI ?_;refine⟨(j+1,M,o),⟨zo,Bu,ma,zo,hF⟩,zd,?_⟩;dsimp only
    (refine aR 5 zs rfl ?_ ?_<;>(repeat' (first|exact trivial|exact rfl|exact .refl _|refine And.intro ?_ ?_|(simp[aq,au,bg,-List.map_take,-List.map_drop];done))))
    all_goals first|exact Ky _|exact Nd _ _|exact Lj _ _|exact OE _ _|skip
   rw[r,ae rfl,ae rfl] at hA;rw[r,ae rfl,ov,iE] at hF;unfold j7 xu pb at hA;refine sA hA ?_;refine fA ?_;refine⟨(j+1,jW M (x,y),o++[(gF (jW M (x,y)) (x,y):Int)]),⟨zo,PV Bu _,λq hq=>(NG.1 hq).elim (ma q) λe=>e▸tB,by simp;omega,hF⟩,zd,?_⟩;dsimp only;rw[show(o++[(gF (jW M (x,y)) (x,y):Int)]).length=o.length+1 by simp]
   (refine aR 5 zs rfl ?_ ?_<;>(repeat' (first|exact trivial|exact rfl|exact .refl _|refine And.intro ?_ ?_|(simp[aq,au,bg,-List.map_take,-List.map_drop];done))))
   all_goals first|exact Ky _|exact Nd _ _|exact Lj _ _|exact OE _ _|exact aZ (kv o _)|skip
  have q1:j=k.length:=by have:¬j<k.length:=sO
                         omega
  subst q1;rw[tf] at hF;refine sI ?_;refine⟨(i+1,M,o),⟨zo,Bu,ma,zo,hF⟩,zd,?_⟩;dsimp only
  (refine aR 5 zs rfl ?_ ?_<;>(repeat' (first|exact trivial|exact rfl|exact .refl _|refine And.intro ?_ ?_|(simp[aq,au,bg,-List.map_take,-List.map_drop];done))))
  all_goals first|exact Ky _|exact Nd _ _|exact Lj _ _|exact OE _ _|skip
 have q0:i=l.length:=by have:¬i<l.length:=sO
                        omega
 subst q0;rw[tf] at hF;have hF:(M,o)=R:=hF;subst hF;exact⟨.own _ _ _ _ _ _ _ _ rfl rfl (aZ<|cx<|by simp[aA]),ln _ [_]<|KJ hS<|aT _⟩
end
section
def jI(W:bc)(A:bS)(L:List Pr)(G:aj)(fr:ah):bh:=[aO W.start,bY W.next,ix W.label,bY W.fair,aO A.start,bY A.next,ix A.jq,ix A.mi,bY A.fair,.dW,yr L,bY G,aO fr]
variable(W:bc)
@[simp] theorem zw(A:bS)(L:List Pr)(G:aj)(fr:ah):an<|jI W A L G fr:=by simp[jI,an,Pure,cG,mj,vT,JV]
@[simp] theorem yO{cs:bh}(h:an cs):Pure (.aB cs):=by simpa only[Pure] using h
theorem vK{g:aj}{L:Nat}(h:∀l∈g,l.length<=L)(k:Nat):(g.getD k []).length<=L:=by
 rw[aE]
 cases e:g[k]? with
 |none=>simp
 |some l=>exact h l<|nB e
def mr(n:Nat)(F:List ay):fE:=F.map λS=>[bD n S]
variable(n:Nat)
@[simp] theorem zz1(F:List ay):(mr n F).length=F.length:=by simp[mr]
@[simp] theorem DQ(F:List ay):fc<|mr n F:=db _ (λS=>by simp[an,jk]) F
@[simp] theorem zv2{m n:Nat}(F:List ay):bg m (mr n F)↔True:=⟨λ_=>trivial,λ_=>aV _<|DQ n F⟩
def vO(L:List Pr)(sel:Pr->Int)(l:ah):Nat->Bool:=λi=>fR l (sel<|L.getD i (0,0)).toNat
variable{k:Nat}
theorem ZQ{l:ah}{n:Nat}(bp:bx l n)(hk:k<l.length)(v:Nat):fR (l.take<|k+1) v=if v=(l.getD k 0).toNat then true else fR (l.take k) v:=by
 have hx:=cZ bp (dP hk);unfold fR;rw[aE,aJ hk] at hx⊢;simp only[nR] at hx⊢;rw[kb,po,lI,aJ hk];split
 ·rename_i q;rw[dt,Bj,cB];exact⟨λ_=>rfl,λ_=>.inr zo⟩
 rename_i q;rw[po,dt,Bj,cB];exact⟨λh=>h.resolve_right zo,.inl⟩
theorem PB(A:bS)(L:List Pr)(G:aj)(fr l:ah)(hl:l.length<=1000000000000)(bp:bx l L.length):ar ai 139 [.aB<|jI W A L G fr,aO l]<|aO<|l.map λn=>(L.getD n.toNat (0,0)).1:=by
 have hp:=zw W A L G fr;refine dC fZ zs (by simp[an,Pure,cG,hp]) ?_<|cG _;unfold jI yr;refine sR ?_;rw[aK];refine b8 (fL 5 1 zs rfl) ?_;refine bt [0,8,9] (λk:Nat=>[(5,.own 0 k 0 k),(10,aa k)]) (λk=>[(0,.vec true k 1<|aA<|(l.take k).map λn=>(L.getD n.toNat (0,0)).1)]) (λk=>k<=l.length) (λk=>l.length-k) 0 ?_;refine eC ?_;rintro k hk;refine br (λq0=>?_) λq0=>?_
 ·have q0:k<l.length:=sO;have hx:=cZ bp<|dP q0;have eS:(l.take<|k+1).map (λn=>(L.getD n.toNat (0,0)).1)=(l.take k).map (λn=>(L.getD n.toNat (0,0)).1)++[(L.getD (l.getD k 0).toNat (0,0)).1]:=by
   rw[lI,aJ q0,aE (l:=l),aJ q0,nZ];rfl
  refine sL (cA (l:=l) (k:=k) zo q0) ?_;generalize l.getD k 0=x at *;refine sL (IH (l:=L) (k:=x.toNat) zo zo) ?_;refine fA ?_;refine⟨k+1,zo,zd,?_⟩;dsimp only;rw[eS];refine aR 1 zs rfl sQ (sU ?_);exact aZ (by
   have:=kv ((l.take k).map λn=>(L.getD n.toNat (0,0)).1) (L.getD x.toNat (0,0)).1;rw[aK,gA,sq hk] at this;exact this)
 have q0:k=l.length:=by have:¬k<l.length:=sO
                        omega
 subst q0;rw[eZ];exact .own _ _ _ _ _ _ _ _ rfl (by rw[cx<|by simp[aA]];exact iX _)
theorem Wl(W:bc)(A:bS)(L:List Pr)(hL:L.length<=2000000)(G:aj)(fr:ah)(g:FuncId)(sel:Pr->Int)(n:Nat)(hn:n<=2048)(Gj:∀p∈L,ar ai g [.agg<|pb p.1 p.2]<|aa<|sel p)(bp:∀p∈L,0<=sel p/\sel p<(n:Int))
  (l:ah) (hl:l.length<=17592186043904) (DS:bx l n) (F:List ay) (hF:F.length<=1000) :
  cp ai 220 [aO l,.fn (.func g) [] [],aa n,.loc 0 0,.loc 1 0] [.row true [.aB<|jI W A L G fr],.row true [.own 2 F.length 0 F.length],.vec true F.length 1<|mr L.length F]
   (.aI []) [.row true [.aB<|jI W A L G fr],.row true [.own 2 (F.length+1) 0<|F.length+1],.vec true (F.length+1) 1<|mr L.length<|F++[vO L sel l]]:=by
 have hp:=zw W A L G fr;have Cj:=λm=>bw (m:=m) _<|yO hp;refine sy fZ zs zs ?_ (by simp[aq,au]);obtain⟨sd,nY⟩:∃sd:D,sd=.aB (jI W A L G fr):=⟨_,rfl⟩;have pV:an [sd]:=by subst nY;exact⟨yO hp,trivial⟩
 rw[<-nY] at Cj⊢;refine sR ?_;refine⟨zo,zo,zo,?_⟩;rw[bQ,show List.map D.sc [Value.bool false]=[aD false] from rfl,lS];refine sW ?_;rw[aK];refine bt [1,3,4,8,16,17] (λk:Nat=>[(18,aa k)]) (λk=>[(3,.vec true 0 1 (bV n (fR (l.take k))))]) (λk=>k<=l.length) (λk=>l.length-k) 0 ?_;refine eC ?_;rintro k hk;refine br (λq0=>?_) λq0=>?_
 ·have q0:k<l.length:=sO;have hx:=cZ DS<|dP q0;have e:=ZQ DS q0;refine sL (cA (l:=l) (k:=k) zo q0) ?_;generalize l.getD k 0=x at *;refine sB ?_;refine⟨_,bj x.toNat zo zo,?_⟩;refine bb ?_;refine⟨k+1,zo,zd,aL (by exact sK) ?_⟩;rw[nV (i:=x.toNat) (f':=fR<|l.take<|k+1) zo λv _=>e v];rfl
 have q0:k=l.length:=by have:¬k<l.length:=sO
                        omega
 subst q0;rw[eZ];subst nY;unfold jI yr;refine sW ?_;rw[HX];refine⟨zo,zo,zo,?_⟩;rw[bQ,show List.map D.sc [Value.bool false]=[aD false] from rfl,lS];refine sW ?_;rw[HX];refine bt [1,4,8,11,35,36] (λk:Nat=>[(37,aa k)]) (λk=>[(4,.vec true 0 1<|bV L.length λv=>decide (v<k)&&vO L sel l v)]) (λk=>k<=L.length) (λk=>L.length-k) 0 ?_;refine sW ?_;refine⟨zo,by exact sK,by rw[show(λv=>decide (v<0)&&vO L sel l v)=λ_=>false from funext λv=>zs];rfl,?_⟩;rintro k hk;refine br (λq0=>?_) λq0=>?_
 ·have q0:k<L.length:=sO;have Mn:=Gj _<|Jh q0;have hii:=bp _<|Jh q0;have eS:vO L sel l k=fR l (sel<|L.getD k (0,0)).toNat:=rfl;refine sL (IH (k:=k) zo q0) ?_;generalize L.getD k (0,0)=p at *;refine sC Mn ?_;generalize sel p=x at *;refine sB ?_;refine⟨_,bj x.toNat zo zo,?_⟩;refine bE ?_;refine⟨_,bj k zo q0,?_⟩;refine bb ?_;refine⟨k+1,zo,zd,?_⟩;rw[nV (i:=k) (f':=λv=>decide (v<k+1)&&vO L sel l v) zo λv _=>by
   by_cases e:v=k
   ·subst e;rw[ae rfl,<-eS];simp
   rw[ab e];by_cases e2:v<k
   ·rw[ia e2,ia<|show v<k+1 by omega]
   rw[gM e2,gM<|show ¬v<k+1 by omega]]
  (refine aR 5 zs rfl ?_ ?_<;>(repeat' (first|exact trivial|exact rfl|exact .refl _|refine And.intro ?_ ?_|(simp[aq,au,bg,-List.map_take,-List.map_drop];done))))
  all_goals first|exact bu _ hp|simp[cG,mj,vT,Z6,znf]|skip
 have q0:k=L.length:=by have:¬k<L.length:=sO
                        omega
 subst q0;refine sJ ?_;refine⟨.refl _,⟨rfl,.refl _,Cj _,trivial⟩,⟨rfl,.refl _,by simp[au,aq]⟩,⟨rfl,rfl,rfl,?_,aV _<|DQ _ _⟩,trivial⟩;rw[show mr L.length (F++[vO L sel l])=mr L.length F++[[bD L.length<|vO L sel l]] by simp[mr]];exact .append _ _ _ _ (aZ<|cx zs) (.cons _ _ _ _ (.cons _ _ _ _ (.own _ _ _ _ _ _ _ _ rfl rfl (aZ<|by rw[cx zs];exact jS λv hv=>by rw[ia hv];simp)) (.refl _)) (.refl _))
variable(p:Pr)
theorem ztT:ar ai 221 [.agg<|pb p.1 p.2]<|aa p.1:=by
 refine dC fZ zs (by simp[an,Pure,pb]) ?_ (by simp[Pure]);unfold pb;refine sR ?_;exact .refl _
theorem zsU:ar ai 222 [.agg<|pb p.1 p.2]<|aa p.2:=by
 refine dC fZ zs (by simp[an,Pure,pb]) ?_ (by simp[Pure]);unfold pb;refine sR ?_;exact .refl _
def mg(L:List Pr)(sel:Pr->Int)(G:aj)(k:Nat):List ay:=(G.take k).map<|vO L sel
variable{L:List Pr}{sel:Pr->Int}{G:aj}
theorem QO(h:k<G.length):mg L sel G (k+1)=mg L sel G k++[vO L sel<|G.getD k []]:=by
 unfold mg;rw[lI,aJ h,nZ,aE,aJ h];rfl
theorem y3(h:k<=G.length):(mg L sel G k).length=k:=by simp[mg];omega
def js(W:bc)(A:bS)(L:List Pr):List ay:=mg L (·.1) W.fair W.fair.length++mg L (·.2) A.fair A.fair.length
theorem zxz{W:bc}{A:bS}(kc:xH W A)(L:List Pr)(hL:L.length<=2000000)(hg:∀p∈L,iG W A p)(G:aj)(fr:ah):ar ai 134 [.aB<|jI W A L G fr]<|rj L.length<|js W A L:=by
 have hp:=zw W A L G fr;obtain⟨w1,w2,w3,w4,w5,w6⟩:=tc W kc.cw;obtain⟨a1,a2,a3,a4,a5,a6,a7⟩:=wo A kc.ca;have iP:=λk (hk:k<W.fair.length) F (hF:F.length<=1000)=>Wl W A L hL G fr 221 (·.1) W.next.length zo (λp _=>ztT p) (λp hp=>(hg p hp).1) (W.fair.getD k []) (vK kc.fw.xR k) (gY w6 k) F hF;have Q':=λk (hk:k<A.fair.length) F (hF:F.length<=1000)=>Wl W A L hL G fr 222 (·.2) A.next.length zo (λp _=>zsU p) (λp hp=>(hg p hp).2) (A.fair.getD k []) (vK kc.fa.xR k) (gY a7 k) F hF;refine dC fZ zs (by simp[an,yO hp]) ?_ (F5 _ _);have Cj:=λm=>bw (m:=m) _ (yO hp);obtain⟨sd,nY⟩:∃sd:bh,sd=jI W A L G fr:=⟨_,rfl⟩;rw[<-nY] at hp Cj iP Q'⊢;refine sR ?_;subst nY;unfold jI;refine sW ?_;rw[aK];refine b8 (iq 1 0 1 zs rfl rfl) ?_;refine cJ [1,3,4,14,15] (λk:Nat=>[(16,aa k)]) (λk=>[.row true [.aB (jI W A L G fr)],.row true [.own 2 (mg L (·.1) W.fair k).length 0 (mg L (·.1) W.fair k).length],.vec true (mg L (·.1) W.fair k).length 1 (mr L.length (mg L (·.1) W.fair k))]) (λk=>k<=W.fair.length) (λk=>W.fair.length-k) 0 ?_;refine eC ?_;rintro k hk;have eL:=y3 (L:=L) (sel:=(·.1)) hk;refine br (λq0=>?_) λq0=>?_
 ·have q0:k<W.fair.length:=sO;have hP:=iP k q0 (mg L (·.1) W.fair k) zo;have eS:=QO (L:=L) (sel:=(·.1)) q0;refine⟨zo,_,iL (g:=W.fair) (k:=k) zo q0,?_⟩;rw[<-eS] at hP;refine sW ?_;rw[aK];unfold jI at hP;refine sA hP ?_;refine sI ?_;refine⟨k+1,zo,zd,?_⟩;have eL2:=y3 (L:=L) (sel:=(·.1)) (k:=k+1) (show k+1<=W.fair.length by omega);dsimp only;rw[eL2,eL]
  (refine aR 3 zs rfl ?_ ?_<;>(repeat' (first|exact trivial|exact rfl|exact .refl _|refine And.intro ?_ ?_|(simp[aq,au,bg,-List.map_take,-List.map_drop];done))))
  all_goals first|exact Cj _|skip
 have q0:k=W.fair.length:=by have:¬k<W.fair.length:=sO
                             omega
 subst q0;generalize Jl:mg L (·.1) W.fair W.fair.length=F0 at *;refine sW ?_;rw[aK];refine cJ [1,3,4,34,35] (λk:Nat=>[(36,aa k)]) (λk=>[.row true [.aB<|jI W A L G fr],.row true [.own 2 (F0++mg L (·.2) A.fair k).length 0 (F0++mg L (·.2) A.fair k).length],.vec true (F0++mg L (·.2) A.fair k).length 1 (mr L.length (F0++mg L (·.2) A.fair k))]) (λk=>k<=A.fair.length) (λk=>A.fair.length-k) 0 ?_;refine sW ?_;refine⟨zo,by exact sK,by simp[mg],?_⟩;rintro k hk;have J9:=y3 (L:=L) (sel:=(·.2)) hk;refine br (λq0=>?_) λq0=>?_
 ·have q0:k<A.fair.length:=sO;have hP:=Q' k q0 (F0++mg L (·.2) A.fair k) (by rw[cq];omega);have eS:=QO (L:=L) (sel:=(·.2)) q0;refine⟨zo,_,iL (g:=A.fair) (k:=k) zo q0,?_⟩;rw[gy,<-eS] at hP;refine sW ?_;rw[aK];unfold jI at hP;refine sA hP ?_;refine sI ?_;refine⟨k+1,zo,zd,?_⟩;have eL2:(F0++mg L (·.2) A.fair (k+1)).length=(F0++mg L (·.2) A.fair k).length+1:=(by rw[cq,cq,y3 zo,J9];rfl);dsimp only;rw[eL2]
  (refine aR 3 zs rfl ?_ ?_<;>(repeat' (first|exact trivial|exact rfl|exact .refl _|refine And.intro ?_ ?_|(simp[aq,au,bg,-List.map_take,-List.map_drop];done))))
  all_goals first|exact Cj _|skip
 have q0:k=A.fair.length:=by have:¬k<A.fair.length:=sO
                             omega
 subst q0;unfold js;rw[Jl];exact .own _ _ _ _ _ _ _ _ rfl (by rw[cx zs];exact iX _)
end
section
noncomputable def nN(g:aj)(F:List ay)(k:Nat):Nat->Bool:=λi=>okT g g.length i&&(F.take k).all λS=>pU g S g.length i
variable{g:aj}{F:List ay}
theorem zon{k:Nat}(h:k<F.length)(i:Nat):nN g F (k+1) i=(nN g F k i&&pU g (F.getD k noT) g.length i):=by
 unfold nN;rw[Tf h noT,Bool.and_assoc]
theorem zrM:nN g F F.length=pj g F:=by
 funext i;unfold nN pj;rw[eZ]
theorem zv8(g:aj)(x:Int)(hx:0<=x/\x<(g.length:Int))(n:Nat)(hn:n<g.length):ar ai 223 [aa x,.aB [aO<|mZ g],.aB [aa n]]<|aD<|bG g x.toNat==bG g n:=by
 refine bK fZ ?_;unfold mZ aO;refine sR ?_;refine sL (cD x.toNat zo zo) ?_;refine sL (cD n zo hn) ?_;exact .refl _
theorem zxG(W:bc)(A:bS)(L:List Pr)(g:aj)(u0:g.length=L.length)(fr:ah)(hn:g.length<=2000000)(iI:∀l∈g,bx l g.length)(hF:jH g)(F:List ay)(rG:F.length<=1000) :
  ar ai 135 [.aB<|jI W A L g fr,aO<|mZ g,rj g.length F] (aa<|ee (λb=>true==b)<|(List.range g.length).map<|pj g F):=by
 have dF:=λk=>gY iI k;have hp:=zw W A L g fr;have hc:=λk (hk:k<g.length)=>mC (λn=>aa n) (λa=>by simp[Pure]) (g.getD k []) (by have:=hF.at k;omega) (λx=>bG g x.toNat==bG g k) 223 [.aB [aO<|mZ g],.aB [aa k]] (by simp[an,Pure,cG]) λa ha=>zv8 g a (cZ (dF k) ha) k hk;have hI:=Ul ((List.range g.length).map<|pj g F) (by simp;omega) true;refine dC fZ zs (by simp[an,Pure,cG,hp,F5]) ?_ (by simp[Pure]);unfold jI yr rj bY;refine sR ?_;rw[HX,<-u0];refine⟨zo,zo,zo,?_⟩;rw[bQ,show List.map D.sc [Value.bool false]=[aD false] from rfl,lS];refine sW ?_;rw[aK];refine bt [0,2,4,7,25,26] (λk:Nat=>[(27,aa k)]) (λk=>[(1,.vec true 0 1<|bV g.length<|okT g k)]) (λk=>k<=g.length) (λk=>g.length-k) 0 ?_;refine eC ?_;rintro k hk;refine br (λq0=>?_) λq0=>?_
 ·have q0:k<g.length:=sO;have jh:=vf q0;have e1:=Tg g k;refine sL (iL (k:=k) zo q0) ?_;refine sN (hc k q0) ?_;rw[show((g.getD k []).any λx=>bG g x.toNat==bG g k)=yl g k from rfl];cases r:yl g k
  ·refine bb ?_;refine⟨k+1,zo,zd,?_⟩
   (refine aR 2 zs rfl ?_ ?_<;>(repeat' (first|exact trivial|exact rfl|exact .refl _|refine And.intro ?_ ?_|(simp[aq,au,bg,-List.map_take,-List.map_drop];done))))
   all_goals first|exact bu _ hp|exact aZ (jS λi _=>by rw[e1,r,Bool.and_false,vV])|skip
  refine sW ?_;refine sL (cD k zo q0) ?_;refine sB ?_;refine⟨_,bj (bG g k).toNat zo zo,?_⟩;refine bb ?_;refine⟨k+1,zo,zd,?_⟩;rw[nV (i:=(bG g k).toNat) (f':=okT g<|k+1) zo λv _=>by
   rw[e1,r,Cw];by_cases e:v=(bG g k).toNat
   ·rw[ae e,show(bG g k==(v:Int))=true by rw[gG];omega,Bool.or_true]
   rw[ab e,show(bG g k==(v:Int))=false by rw[beq_eq_false_iff_ne];omega,vV]]
  (refine aR 2 zs rfl ?_ ?_<;>(repeat' (first|exact trivial|exact rfl|exact .refl _|refine And.intro ?_ ?_|(simp[aq,au,bg,-List.map_take,-List.map_drop];done))))
  all_goals first|exact bu _ hp|skip
 have q0:k=g.length:=by have:¬k<g.length:=sO
                        omega
 subst q0;clear hc;rw[aK];refine bt [0,4,7,42,43] (λk:Nat=>[(44,aa k)]) (λk=>[(1,.vec true 0 1<|bV g.length<|nN g F k)]) (λk=>k<=F.length) (λk=>F.length-k) 0 ?_;refine sW ?_;refine⟨zo,by exact sK,by rw[show nN g F 0=okT g g.length from funext λi=>by simp[nN]];rfl,?_⟩;rintro k hk;refine br (λq0=>?_) λq0=>?_
 ·have q0:k<F.length:=sO;have eG:=λi=>zon (g:=g) q0 i;refine sL (IC (n:=g.length) (F:=F) (k:=k) zo q0) ?_;generalize F.getD k noT=S at *;rw[HX,<-u0];refine⟨zo,zo,zo,?_⟩;rw[bQ,show List.map D.sc [Value.bool false]=[aD false] from rfl,lS];refine sW ?_;rw[NX];refine bt [0,4,7,12,42,43,44,54,55] (λj:Nat=>[(56,aa j)]) (λj=>[(2,.vec true 0 1<|bV g.length<|pU g S j)]) (λj=>j<=g.length) (λj=>g.length-j) 0 ?_;refine sW ?_;refine⟨zo,by exact sK,by rw[show pU g S 0=λ_=>false from funext λi=>rfl];rfl,?_⟩;rintro j hj;refine br (λq2=>?_) λq2=>?_
  ·have q2:j<g.length:=sO;have eH:=λi=>zrd g S j i;have hpj:=vf (g:=g) q2;refine sL (bj j zo q2) ?_;refine sL (cD j zo q2) ?_;refine sL (cD j zo q2) ?_;refine sB ?_;refine⟨_,bj (bG g j).toNat zo zo,?_⟩;refine sW ?_
   have fin:∀v,(v=true↔pU g S j (bG g j).toNat\/S j)->(bV g.length<|pU g S j).set (bG g j).toNat [aD v]=bV g.length (pU g S<|j+1):=λv hv =>
    nV rfl λq _=>by
     rw[eH];by_cases e:q=(bG g j).toNat
     ·subst e;rw[ae rfl,show(bG g j==(((bG g j).toNat:Nat):Int))=true by rw[gG];omega,kP,kb,qX,hv]
     rw[ab e,show(bG g j==(q:Int))=false by rw[beq_eq_false_iff_ne];omega,pt,vV]
   cases r:pU g S j (bG g j).toNat
   ·refine bE ?_;refine⟨_,bj (bG g j).toNat zo zo,?_⟩;refine bb ?_;refine⟨j+1,zo,zd,aL (by exact sK) ?_⟩;have:=fin (S j) (by rw[r];simp);rw[lZ,this];rfl
   refine bE ?_;refine⟨_,bj (bG g j).toNat zo zo,?_⟩;refine bb ?_;refine⟨j+1,zo,zd,aL (by exact sK) ?_⟩;have:=fin true (by rw[r];simp);rw[lZ,this];rfl
  have q2:j=g.length:=by have:¬j<g.length:=sO
                         omega
  rw[q2];clear q2;refine bt [0,4,7,12,42,43,44,79] (λi:Nat=>[(80,aa i)]) (λi=>[(1,.vec true 0 1<|bV g.length λx=>if x<i then nN g F (k+1) x else nN g F k x)]) (λi=>i<=g.length) (λi=>g.length-i) 0 ?_;refine sW ?_;refine⟨zo,by exact sK,by simp;rfl,?_⟩;rintro i hi;refine br (λq3=>?_) λq3=>?_
  ·have q3:i<g.length:=sO
   have fin:(bV g.length λx=>if x<i then nN g F (k+1) x else nN g F k x).set i [aD<|nN g F (k+1) i]=bV g.length λx=>if x<i+1 then nN g F (k+1) x else nN g F k x :=
    nV rfl λq _=>by
     by_cases e:q=i
     ·subst e;rw[ae zo,ae rfl]
     rw[ab e];by_cases e2:q<i
     ·rw[ae e2,ae zo]
     rw[ab e2,ab zo]
   have eGi:=eG i;have gb:(bV g.length λx=>if x<i then nN g F (k+1) x else nN g F k x)[i]? = some [aD<|nN g F k i]:=by
    rw[bj i rfl q3,ab zo]
   refine sB ?_;refine⟨_,by rw[lZ];exact gb,?_⟩;refine sW ?_;cases r:nN g F k i
   ·rw[r,pt] at eGi;rw[eGi] at fin;refine bE ?_;refine⟨_,by rw[lZ];exact gb,?_⟩;refine bb ?_;refine⟨i+1,zo,zd,aL (by exact sK) ?_⟩;rw[lZ,show(i:Int).toNat=i from bQ i,fin];rfl
   rw[r,kP] at eGi;rw[eGi] at fin;refine bE ?_;refine⟨_,bj i zo q3,?_⟩;refine bE ?_;refine⟨_,by rw[lZ];exact gb,?_⟩;refine bb ?_;refine⟨i+1,zo,zd,aL (by exact sK) ?_⟩;rw[lZ,show(i:Int).toNat=i from bQ i,fin];rfl
  have q3:i=g.length:=by have:¬i<g.length:=sO
                         omega
  subst q3;refine sI ?_;refine⟨k+1,zo,zd,?_⟩;dsimp only
  (refine aR 2 zs rfl ?_ ?_<;>(repeat' (first|exact trivial|exact rfl|exact .refl _|refine And.intro ?_ ?_|(simp[aq,au,bg,-List.map_take,-List.map_drop];done))))
  all_goals first|exact bu _ hp|exact aV _ (db _ (λS=>by simp[an,jk]) F)|exact aZ (jS λv hv=>by rw[ae hv])|skip
 have q0:k=F.length:=by have:¬k<F.length:=sO
                        omega
 subst q0;rw[zrM];rw[show((List.range g.length).map<|pj g F).map (λa=>[aD a])=List.drop 0 (List.take g.length<|bV g.length<|pj g F) by rw[Fy,Xx]] at hI;refine sN hI ?_;exact .refl _
end
section
def cQ(M:List Pr):ah:=M.map (·.1)
def m7(ok:ay)(n:Int):ah->List Pr->List Pr
 |[],M=>M
 |k::r,M=>m7 ok n r<|if (cQ M).contains k=false/\ok k.toNat=true then M++[(k,n)] else M
def wSt:ah->List Pr->List Pr
 |[],M=>M
 |k::r,M=>wSt r<|if (cQ M).contains k=false then M++[(k,-1)] else M
def dD(M:List Pr)(h:Nat):Int:=(M.getD h (0,0)).1
def o6(g:aj)(to ok:ay):Nat->Nat->List Pr->Option (List Pr×Nat)
 |0,_,_=>none
 |f+1,h,M=>if h<M.length then (if to (dD M h).toNat=true then some (M,h) else o6 g to ok f (h+1)<|m7 ok (dD M h) (g.getD (dD M h).toNat []) M) else none
def upM(M:List Pr)(n:Int):Int:=((M.find? λp=>p.1==n).map (·.2)).getD (-1)
def lV(M:List Pr):Nat->Int->ah
 |0,_=>[]
 |f+1,n=>if n<0 then [] else n::lV M f (upM M n)
def l8(g:aj)(to ok:ay)(from_:ah):ah :=
 match o6 g to ok (g.length+1) 0 (wSt from_ []) with
 |some (M,h)=>(lV M (M.length+1)<|dD M h).reverse
 |none=>[]
structure j5(g:aj)(ok:ay)(from_:ah)(M:List Pr):Prop where
 nd:(cQ M).Nodup
 rng:∀p∈M,0<=p.1/\p.1<(g.length:Int)
 par:∀j,j<M.length->(M.getD j (0,0)).2=-1\/∃i,i<j/\(M.getD j (0,0)).2=dD M i
 okF:∀p∈M,p.1∈from_\/ok p.1.toNat=true
variable(M:List Pr)
theorem xZ:(cQ M).length=M.length:=by simp[cQ]
theorem AB(p:Pr):cQ (M++[p])=cQ M++[p.1]:=by simp[cQ]
variable{M:List Pr}{i:Nat}
theorem zQ{p:Pr}(h:i<M.length):dD (M++[p]) i=dD M i:=by
 unfold dD;rw[aE,fv h,<-aE]
variable{g:aj}{ok:ay}{from_:ah}
theorem j5.len(h:j5 g ok from_ M):M.length<=g.length:=by
 rw[<-xZ];have fm:=h.nd;refine FN g.length (cQ M).length (λi=>((cQ M).getD i 0).toNat) (λi hi=>?_) λi j hi hj he=>?_
 ·have hm:(cQ M).getD i 0∈cQ M:=(by rw[aE,aJ hi];simp);obtain⟨p,hp,e⟩:=dq.1 hm;have:=h.rng p hp;rw[<-e];omega
 have aW:(cQ M).getD i 0∈cQ M:=by rw[aE,aJ hi];simp
 have jf:(cQ M).getD j 0∈cQ M:=by rw[aE,aJ hj];simp
 obtain⟨p,hp,e1⟩:=dq.1 aW;obtain⟨q,hq,e2⟩:=dq.1 jf;have a:=h.rng p hp;have b:=h.rng q hq;have hx:(cQ M).getD i 0=(cQ M).getD j 0:=by rw[<-e1,<-e2] at he⊢;omega
 rw[aE,aE,aJ hi,aJ hj] at hx;simp only[nR] at hx;rcases yR i j with q|q|q
 ·exact absurd hx<|tG.1 fm i j hi hj q
 ·exact q
 exact absurd hx.symm<|tG.1 fm j i hj hi q
variable{k:Int}
theorem j5.push(h:j5 g ok from_ M){n:Int}(hk:0<=k/\k<(g.length:Int))(hn:¬k∈cQ M)(hp:n=-1\/∃i,i<M.length/\n=dD M i)(hf:k∈from_\/ok k.toNat):j5 g ok from_ (M++[(k,n)]) where
 nd:=by
  rw[AB,yJ];exact⟨h.nd,zs,λa ha b hb=>by rw[cB] at hb;subst hb;exact λe=>hn<|e▸ha⟩
 rng p hp:=by
  rcases dt.1 hp with q|q
  ·exact h.rng p q
  rw[cB] at q;subst q;exact hk
 par j hj:=by
  by_cases e:j<M.length
  ·rw[aE,fv e,<-aE];rcases h.par j e with k1|⟨i,k1,k2⟩
   ·exact .inl k1
   exact .inr ⟨i,k1,by rw[k2,zQ zo]⟩
  have ej:j=M.length:=(by simp at hj;omega);subst ej;rw[aE,gJ<|aT _,rm];show n=-1\/_;rcases hp with k1|⟨i,k1,k2⟩
  ·exact .inl k1
  exact .inr ⟨i,k1,by show n=_;rw[k2,zQ k1]⟩
 okF p hp:=by
  rcases dt.1 hp with q|q
  ·exact h.okF p q
  rw[cB] at q;subst q;exact hf
variable{l:ah}
theorem sz(h:l.contains k=false):¬k∈l:=λq=>by rw[po.2 q] at h;cases h
theorem UA(h:¬l.contains k=false):k∈l:=po.1<|by cases e:l.contains k<;>simp_all
theorem G7{g:aj}{ok:ay}{from_:ah}:∀(r:ah) {M:List Pr},j5 g ok from_ M->(∀x∈r,x∈from_/\0<=x/\x<(g.length:Int)) ->
  j5 g ok from_ (wSt r M)/\(∀x∈r,x∈cQ (wSt r M))/\∃X,wSt r M=M++X
 |[],M,h,_=>⟨h,zs,[],by simp[wSt]⟩
 |k::r,M,h,hr=>by
  rw[wSt];by_cases q:(cQ M).contains k=false
  ·rw[ae q];obtain⟨a,b,X,hX⟩:=G7 r (h.push (hr k zs).2 (sz q) (.inl rfl) (.inl (hr k zs).1)) λx hx=>hr x (by simp[hx]);refine⟨a,λx hx=>?_,(k,-1)::X,by rw[hX];simp⟩;rcases dZ.1 hx with rfl|hx
   ·rw[hX];simp[cQ]
   exact b x hx
  rw[ab q];obtain⟨a,b,X,hX⟩:=G7 r h λx hx=>hr x (by simp[hx]);refine⟨a,λx hx=>?_,X,hX⟩;rcases dZ.1 hx with rfl|hx
  ·have:=UA q;rw[hX];unfold cQ at this⊢;rw[nZ];exact dt.2 (.inl this)
  exact b x hx
theorem Hn{g:aj}{ok:ay}{from_:ah}{n:Int}{i0:Nat}:∀(r:ah) {M:List Pr},j5 g ok from_ M->i0<M.length->n=dD M i0->(∀x∈r,0<=x/\x<(g.length:Int)) ->
  j5 g ok from_ (m7 ok n r M)/\(∀x∈r,ok x.toNat->x∈cQ (m7 ok n r M))/\∃X,m7 ok n r M=M++X
 |[],M,h,_,_,_=>⟨h,zs,[],by simp[m7]⟩
 |k::r,M,h,hi,hn,hr=>by
  rw[m7];by_cases q:(cQ M).contains k=false/\ok k.toNat=true
  ·rw[ae q];obtain⟨a,b,X,hX⟩:=Hn (n:=n) (i0:=i0) r (h.push (hr k zs) (sz q.1) (.inr ⟨i0,hi,hn⟩) (.inr q.2)) (by rw[cq];omega) (by rw[zQ hi];exact hn) λx hx=>hr x (by simp[hx]);refine⟨a,λx hx sZ=>?_,(k,n)::X,by rw[hX];simp⟩;rcases dZ.1 hx with rfl|hx
   ·rw[hX];simp[cQ]
   exact b x hx sZ
  rw[ab q];obtain⟨a,b,X,hX⟩:=Hn (i0:=i0) r h hi hn λx hx=>hr x (by simp[hx]);refine⟨a,λx hx sZ=>?_,X,hX⟩;rcases dZ.1 hx with rfl|hx
  ·have:=UA λz=>q ⟨z,sZ⟩;rw[hX];unfold cQ at this⊢;rw[nZ];exact dt.2 (.inl this)
  exact b x hx sZ
theorem j5.none(g:aj)(ok:ay)(from_:ah):j5 g ok from_ [] where
 nd:=.nil
 rng p hp:=by cases hp
 par j hj:=by cases hj
 okF p hp:=by cases hp
theorem zrq(fm:(cQ M).Nodup)(hi:i<M.length):M.find? (λp=>p.1==dD M i)=some (M.getD i (0,0)):=by
 have:M.getD i (0,0)=M[i]:=by rw[aE,aJ hi];rfl
 rw[this,List.find?_eq_some_iff_getElem];unfold dD;rw[this];refine⟨zs,i,hi,rfl,λj hj=>?_⟩;have:=tG.1 fm j i (by simp[cQ];omega) (by simp[cQ];omega) hj;simp only[cQ,D0] at this;simpa using this
theorem zxk(fm:(cQ M).Nodup)(hi:i<M.length):upM M (dD M i)=(M.getD i (0,0)).2:=by
 unfold upM;rw[zrq fm hi];rfl
def ft(M:List Pr)(t:Nat):Int:=if t=0 then -1 else dD M<|t-1
theorem j5.up(h:j5 g ok from_ M){t:Nat}(ht:0<t)(hl:t<=M.length):∃t',t'<t/\upM M (ft M t)=ft M t'/\(M.getD (t-1) (0,0)).2=ft M t'/\0<=ft M t/\ft M t<(g.length:Int):=by
 have e:ft M t=dD M (t-1):=by unfold ft;rw[ab zo]
 rw[e,zxk h.nd zo];have hr:=h.rng _<|nT (show t-1<M.length by omega);rcases h.par (t-1) zo with k|⟨i,k1,k2⟩
 ·exact⟨0,ht,by rw[k];rfl,by rw[k];rfl,hr⟩
 refine⟨i+1,zo,?_,?_,hr⟩
 ·rw[k2];unfold ft;rw[ab zo];rfl
 rw[k2];unfold ft;rw[ab zo];rfl
theorem j5.back{g:aj}{ok:ay}{from_:ah}{M:List Pr}(h:j5 g ok from_ M):∀(f t:Nat),t<=M.length->(∀x∈lV M f (ft M t),0<=x/\x<(g.length:Int))/\(lV M f<|ft M t).length<=t
 |0,t,_=>by simp[lV]
 |f+1,t,ht=>by
  rw[lV];by_cases h0:t=0
  ·subst h0;rw[ae<|by simp[ft]];simp
  obtain⟨t',k1,k2,_,k3,k4⟩:=h.up (t:=t) zo ht;rw[ab zo,k2];obtain⟨a,b⟩:=h.back f t' zo;refine⟨λx hx=>?_,by simp;omega⟩;rcases dZ.1 hx with rfl|hx
  ·exact⟨k3,k4⟩
  exact a x hx
def zB(g:aj)(ok:ay):aj:=g.map λl=>l.filter λx=>ok x.toNat
theorem NJ{v:Nat}{x:Int}:x∈(zB g ok).getD v []↔x∈g.getD v []/\ok x.toNat:=by
 unfold zB;rw[aE,aE,cU]
 cases g[v]? with
 |none=>simp
 |some l=>simp
theorem Mc{g:aj}(bp:∀l∈g,bx l g.length){to ok:ay}{from_:ah}:∀(f h:Nat) (M:List Pr),j5 g ok from_ M->h<=M.length->g.length+1<=f+h->(∀x∈from_,x∈cQ M)->(∀i,i<h->to (dD M i).toNat=false/\∀y∈g.getD (dD M i).toNat [],ok y.toNat->y∈cQ M) ->
  match o6 g to ok f h M with
  |some (M',h')=>j5 g ok from_ M'/\h'<M'.length/\to (dD M' h').toNat=true
  |none=>∀x∈from_,∀v,To (zB g ok) x.toNat v->to v=false
 |0,h,M,hI,hh,hf,_,_=>by have:=hI.len;omega
 |f+1,h,M,hI,hh,hf,cE,gw=>by
  rw[o6];by_cases q:h<M.length
  ·rw[ae q];by_cases q2:to (dD M h).toNat=true
   ·rw[ae q2];exact⟨hI,q,q2⟩
   rw[ab q2];obtain⟨a,b,X,hX⟩:=Hn (n:=dD M h) (g.getD (dD M h).toNat []) hI q rfl λx hx=>cZ (gY bp _) hx;have zR:∀x,x∈cQ M->x∈cQ (m7 ok (dD M h) (g.getD (dD M h).toNat []) M):=λx hx=>by
    rw[hX];unfold cQ at hx⊢;rw[nZ];exact dt.2 (.inl hx)
   have AX:∀i,i<M.length->dD (m7 ok (dD M h) (g.getD (dD M h).toNat []) M) i=dD M i:=λi hi=>by
    rw[hX];unfold dD;rw[aE,fv hi,<-aE]
   have hlen:M.length<=(m7 ok (dD M h) (g.getD (dD M h).toNat []) M).length:=(by rw[hX];simp);refine Mc bp f (h+1) _ a zo zo (λx hx=>zR x<|cE x hx) λi hi=>?_;by_cases e:i=h
   ·subst e;rw[AX i q];exact⟨by simpa using q2,b⟩
   rw[AX i zo];obtain⟨c,d⟩:=gw i zo;exact⟨c,λy hy Ef=>zR y<|d y hy Ef⟩
  rw[ab q];intro x hx v hv;have eh:h=M.length:=zo;subst eh;have key:((v:Nat):Int)∈cQ M:=DX (g:=zB g ok) (s:=λv=>((v:Nat):Int)∈cQ M) (λu hu y hy=>by
   obtain⟨y1,y2⟩:=NJ.1 hy;have yT:=cZ (gY bp u) y1;obtain⟨p,hp,ep⟩:=dq.1 hu;obtain⟨i,hi,rfl⟩:=jN.1 hp;have en:dD M i=(u:Int):=(by unfold dD;rw[aE,aJ hi];exact ep);have:=(gw i hi).2 y (by rw[en];exact y1) y2;rwa [show((y.toNat:Nat):Int)=y by omega]) hv (by
   have h1:=cE x hx;obtain⟨p,hp,ep⟩:=dq.1 h1;have:=hI.rng p hp;have ep:p.1=x:=ep;rwa [show((x.toNat:Nat):Int)=x by omega])
  obtain⟨p,hp,ep⟩:=dq.1 key;obtain⟨i,hi,rfl⟩:=jN.1 hp;have en:dD M i=(v:Int):=(by unfold dD;rw[aE,aJ hi];exact ep);have:=(gw i hi).1;rw[en] at this;simpa using this
theorem JI(bp:∀l∈g,bx l g.length)(to ok:ay)(hf:bx from_ g.length):bx (l8 g to ok from_) g.length/\(l8 g to ok from_).length<=g.length /\
  ((∃x∈from_,∃v,To (zB g ok) x.toNat v/\to v)->∃init last,l8 g to ok from_=init++[last]/\to last.toNat/\(last∈from_\/ok last.toNat)):=by
 obtain⟨a,b,_⟩:=G7 (ok:=ok) (from_:=from_) from_ (j5.none g ok from_) λx hx=>⟨hx,cZ hf hx⟩;have hR:=Mc bp (to:=to) (ok:=ok) (g.length+1) 0 (wSt from_ []) a (jr _) zo b λi hi=>zo;unfold l8
 cases e:o6 g to ok (g.length+1) 0<|wSt from_ [] with
 |none =>
  rw[e] at hR;refine⟨rfl,zs,λ⟨x,hx,v,h1,h2⟩=>?_⟩;have:=hR x hx v h1;rw[h2] at this;cases this
 |some q =>
  obtain⟨M,h⟩:=q;rw[e] at hR;obtain⟨hI,hh,ht⟩:=hR;have en:dD M h=ft M (h+1):=(by unfold ft;rw[ab zo];rfl);obtain⟨c,d⟩:=hI.back (M.length+1) (h+1) zo;have hl:=hI.len;dsimp only;rw[en];refine⟨kG λx hx=>c x<|List.mem_reverse.1 hx,by rw[List.length_reverse];omega,λ_=>?_⟩;have hr:=hI.rng _<|nT hh;rw[lV,ab (by rw[<-en];unfold dD;omega),<-en];exact⟨_,_,by rw[List.reverse_cons],ht,hI.okF _<|nT hh⟩
end
section
noncomputable def fIa(f:aP->Option aP)(M:List Pr):aP->Option aP:=M.foldl (λf p=>pO f (.int .i64 p.1) (.int .i64 p.2)) f
noncomputable def fI(M:List Pr):aP->Option aP:=fIa (λ_=>none) M
theorem CW(M:List Pr)(p:Pr):fI (M++[p])=pO (fI M) (.int .i64 p.1) (.int .i64 p.2):=by
 unfold fI fIa;rw[List.foldl_append];rfl
theorem J5{n:Int}:∀(M:List Pr) (f:aP->Option aP),¬n∈cQ M->fIa f M (.int .i64 n)=f (.int .i64 n)
 |[],f,_=>rfl
 |p::r,f,h=>by
  have h1:p.1≠n:=λe=>h (by simp[cQ,e]);show fIa _ r _=_;rw[J5 r _ λq=>h (by simp only[cQ,fi,dZ] at q⊢;exact .inr q)];unfold pO;dsimp only;rw[ab λe=>h1 (by injection e with _ e;exact e.symm)]
variable{M:List Pr}{n:Int}
theorem Hc(h:¬n∈cQ M):fI M (.int .i64 n)=none:=J5 M _ h
theorem UQ:∀(M:List Pr) (f:aP->Option aP),(cQ M).Nodup->∀j,j<M.length->fIa f M (.int .i64<|dD M j)=some (.int .i64 (M.getD j (0,0)).2)
 |[],_,_,j,hj=>by cases hj
 |p::r,f,fm,j,hj=>by
  have h1:=List.nodup_cons.1<|show(p.1::cQ r).Nodup from fm
  cases j with
  |zero =>
   show fIa _ r (.int .i64 p.1)=_;rw[J5 r _ h1.1];unfold pO;dsimp only;rw[ae rfl];rfl
  |succ j =>
   show fIa _ r (.int .i64<|dD r j)=_;rw[UQ r _ h1.2 j<|by simpa using hj];rfl
theorem Lq(fm:(cQ M).Nodup){j:Nat}(hj:j<M.length):fI M (.int .i64<|dD M j)=some (.int .i64 (M.getD j (0,0)).2):=UQ M _ fm j hj
theorem GZ(fm:(cQ M).Nodup)(h:n∈cQ M):∃v,fI M (.int .i64 n)=some v:=by
 obtain⟨p,hp,rfl⟩:=dq.1 h;obtain⟨i,hi,rfl⟩:=jN.1 hp;have:=Lq fm hi;rw[show dD M i=M[i].1 by unfold dD;rw[aE,aJ hi];rfl] at this;exact⟨_,this⟩
variable{P:bI}{k:bl}
theorem Sw{q:IntKind}(hu:P.underlying k=some (.int q)):Maps.Keyed P k:=Maps.int_keyed hu
theorem O6(hu:P.underlying k=some (.int .i64))(hn:(Lit.int .i64 n).wf):∃l,keyOf P k (.int .i64 n)=some l:=by
 unfold keyOf;rw[hu];simp only[mapKey,hu];rw[ae ⟨trivial,hn⟩];exact⟨_,rfl⟩
theorem Pc(h:0<=n/\n<=1000000000000):(Lit.int .i64 n).wf:=by
 have h1:IntKind.min .i64=-9223372036854775808:=zc;have h2:IntKind.max .i64=9223372036854775807:=zc;simp only[Lit.wf,fY,ja];omega
theorem zn{ρ:Nat->Nat}(l:ah):lz ρ (aA l)=aA l:=kQ _<|db _ (λ_=>by simp[an,Pure]) l
noncomputable def fB(g:aj)(only:Int):Nat->Bool:=λk=>decide (only<0)||bG g k==only
theorem Se(W:bc)(A:bS)(L:List Pr)(g:aj)(fr:ah)(hn:g.length<=2000000)(iI:∀l∈g,bx l g.length)(hF:jH g)(to:ay)(cl:FuncId)(caps:bh)(kT:an caps)
  (gw:∀x:Int,0<=x->x<(g.length:Int)->ar ai cl (aa x::caps) (aD<|to x.toNat)) (from_:ah) (yB:from_.length<=17592186043904) (hf:bx from_ g.length) (only:Int) :
  ar ai 136 [.aB<|jI W A L g fr,aO from_,.fn (.func cl) [] caps,aO<|mZ g,aa only] (aO<|l8 g to (fB g only) from_):=by
 have hp:=zw W A L g fr;have rO:=Sw (P:=ai) Tryz.underlying3;have lk:=λx (h:0<=x/\x<(g.length:Int))=>O6 (P:=ai) Tryz.underlying3 (n:=x)<|Pc ⟨h.1,zo⟩;refine dC fZ zs (by simp[an,Pure,cG,hp,kT]) ?_<|cG _;have xa:l8 g to (fB g only) from_=match o6 g to (fB g only) (g.length+1) 0 (wSt from_ []) with|some (M,h)=>(lV M (M.length+1)<|dD M h).reverse|none=>[]:=rfl
 obtain⟨sd,nY⟩:∃sd:D,sd=.aB (jI W A L g fr):=⟨_,rfl⟩;have pV:an [sd]:=by subst nY;exact⟨yO hp,trivial⟩
 rw[<-nY];refine sR ?_;rw[aK];refine b8 (fL 12 1 zs rfl) ?_
 refine cJ [0,2,3,4,11,24,25] (λ((k,M):Nat×List Pr)=>[(12,.own 1 M.length 0 M.length),(26,aa k)]) (λ(k,M)=>[.eU true<|lK ai 3<|fI M,.vec true M.length 1<|aA<|cQ M])
  (λ(k,M)=>k<=from_.length/\j5 g (fB g only) from_ M/\wSt (from_.drop k) M=wSt from_ []) (λ(k,M)=>from_.length-k) (0,[]) ?_
 refine sW ?_;refine⟨⟨zo,j5.none _ _ _,rfl⟩,by exact sK,rfl,?_⟩;rintro⟨k,M⟩ ⟨hk,hI,hS⟩;have Gf:=hI.len;have EE:=xZ M;refine br (λq0=>?_) λq0=>?_
 ·have q0:k<from_.length:=sO;have hx:=cZ hf<|dP q0;have m3:=dP q0;refine sL (cA (l:=from_) (k:=k) zo q0) ?_;rw[yY q0,wSt] at hS;generalize from_.getD k 0=x at *;refine⟨fI M,rfl,rO,lk x hx,λv hv=>?_,λhv=>?_⟩
  ·have hc:¬(cQ M).contains x=false:=λe=>by
    have:=(Hc<|sz e).symm.trans hv;cases this
   rw[ab hc] at hS;refine bb ?_;refine⟨(k+1,M),⟨zo,hI,hS⟩,zd,?_⟩;exact aL (by exact sK) rfl
  have hc:(cQ M).contains x=false:=by
   cases e:(cQ M).contains x
   ·rfl
   obtain⟨v,h⟩:=GZ hI.nd<|po.1 e;have:=hv.symm.trans h;cases this
  rw[ae hc] at hS;have lO:=hI.push hx (sz hc) (.inl rfl) (.inl m3);refine sW ?_;refine⟨fI M,rfl,rO,lk x hx,hv,?_⟩;refine lh ?_;refine⟨(k+1,M++[(x,-1)]),⟨zo,lO,hS⟩,zd,?_⟩;dsimp only;rw[CW,show(M++[(x,(-1:Int))]).length=M.length+1 by simp]
  (refine aR 2 zs rfl ?_ ?_<;>(repeat' (first|exact trivial|exact rfl|exact .refl _|refine And.intro ?_ ?_|(simp[aq,au,bg,-List.map_take,-List.map_drop];done))))
  all_goals first|exact bw _ pV.1|exact bu _ kT|exact bu _ kT|exact aZ (by rw[AB,<-kv,xZ])|skip
 have q0:k=from_.length:=by have:¬k<from_.length:=sO
                            omega
 subst q0;rw[tf] at hS;have hS:M=wSt from_ []:=hS;rw[<-hS] at xa;generalize Ki:o6 g to (fB g only) (g.length+1) 0 M=R at xa
 refine cJ [0,2,3,4,11] (λ((h,M,Z,lo,hi,aw):Nat×List Pr×ah×Nat×Nat×Nat)=>[(12,.own 1 aw lo hi)]) (λ(h,M,Z,lo,hi,aw)=>[.eU true<|lK ai 3<|fI M,.vec true aw 1<|aA Z])
  (λ(h,M,Z,lo,hi,aw)=>j5 g (fB g only) from_ M/\h<=M.length/\lo<=hi/\hi<=Z.length/\(Z.take hi).drop lo=(cQ M).drop h/\o6 g to (fB g only) (g.length+1-h) h M=R) (λ(h,M,Z,lo,hi,aw)=>g.length+1-h) (0,M,cQ M,0,M.length,M.length) ?_
 refine sW ?_;refine⟨⟨hI,zo,zo,zo,by rw[jd zo],Ki⟩,by exact sK,rfl,?_⟩;rintro⟨h,M,Z,lo,hi,aw⟩ ⟨hI,hh,Hm,oG,hZ,hR⟩;have Gf:=hI.len;have EE:=xZ M;have Nj:hi-lo=M.length-h:=by
  have:=bJ List.length hZ;rw[lL,lL,gA] at this;omega
 rw[show g.length+1-h=(g.length-h)+1 by omega,o6] at hR;refine br (λq1=>?_) λq1=>?_
 ·have q1:lo<hi:=sO;have sb:h<M.length:=zo;rw[ae sb] at hR;have hx:=hI.rng _<|nT sb;have eN:(M.getD h (0,0)).1=dD M h:=rfl;rw[eN] at hx;have hd:(cQ M).drop h=dD M h::(cQ M).drop (h+1):=by
   rw[zZ zo];unfold dD cQ;rw[D0,aE,aJ sb];rfl
  rw[Fs q1 oG,hd] at hZ;obtain⟨pR,Ms⟩:=List.cons.inj hZ;refine sB ?_;refine⟨_,cA (l:=Z) (k:=lo) zo zo,?_⟩;refine sW ?_;rw[pR];refine⟨zo,zo,zo,?_⟩;refine sW ?_;rw[show lo+(hi-lo)=hi by omega];have MT:=gw (dD M h) hx.1 hx.2;have en1:dD M h=ft M (h+1):=(by unfold ft;rw[ab zo];rfl);generalize mq:dD M h=x at *;refine sC MT ?_;cases j6:to x.toNat
  ·rw[j6,ab zc] at hR;refine sW ?_;subst nY;unfold jI bY;refine sW ?_;refine sL (iL (g:=g) (k:=x.toNat) zo zo) ?_;rw[aK];have dF:=λy hy=>cZ (gY iI x.toNat) (x:=y) hy;have uT:=hF.at x.toNat;generalize g.getD x.toNat []=row at *
   refine cJ [0,2,3,4,11,17,74,75] (λ((k,M',Z',cR,aW,cf):Nat×List Pr×ah×Nat×Nat×Nat)=>[(12,.own 1 cf cR aW),(76,aa k)]) (λ(k,M',Z',cR,aW,cf)=>[.eU true<|lK ai 3<|fI M',.vec true cf 1<|aA Z'])
    (λ(k,M',Z',cR,aW,cf)=>k<=row.length/\j5 g (fB g only) from_ M'/\h<M'.length/\dD M' h=x/\cR<=aW/\aW<=Z'.length/\(Z'.take aW).drop cR=(cQ M').drop (h+1)/\m7 (fB g only) x (row.drop k) M'=m7 (fB g only) x row M) (λ(k,M',Z',cR,aW,cf)=>row.length-k) (0,M,Z,lo+1,hi,aw) ?_
   refine sW ?_;refine⟨⟨zo,hI,sb,mq,zo,oG,Ms,rfl⟩,by exact sK,rfl,?_⟩;rintro⟨k,M',Z',cR,aW,cf⟩ ⟨hk,mb,sn,lj,nW,nL,ru,kD⟩;have zES:=mb.len;have zFF:=xZ M';have zBR:aW-cR=M'.length-(h+1):=by
    have:=bJ List.length ru;rw[lL,lL,gA] at this;omega
   refine br (λq2=>?_) λq2=>?_
   ·have q2:k<row.length:=sO;have hy:=dF _<|dP q2;refine sL (cA (l:=row) (k:=k) zo q2) ?_;rw[yY q2,m7] at kD;generalize row.getD k 0=y at *;refine⟨fI M',rfl,rO,lk y hy,λv hv=>?_,λhv=>?_⟩
    ·have hc:¬(cQ M').contains y=false:=λe=>by
      have:=(Hc<|sz e).symm.trans hv;cases this
     rw[ab λq=>hc q.1] at kD;refine bb ?_;refine⟨(k+1,M',Z',cR,aW,cf),⟨zo,mb,sn,lj,nW,nL,ru,kD⟩,zd,?_⟩;exact aL (by exact sK) rfl
    have hc:(cQ M').contains y=false:=by
     cases e:(cQ M').contains y
     ·rfl
     obtain⟨v,h⟩:=GZ mb.nd<|po.1 e;have:=hv.symm.trans h;cases this
    have eok:fB g only y.toNat=(decide (only<0)||bG g y.toNat==only):=rfl;refine sWS (λr=>?_) λr=>?_
    ·rw[r,zj] at eok;rw[ae ⟨hc,eok⟩] at kD;have lO:=mb.push hy (sz hc) (.inr ⟨h,sn,lj.symm⟩) (.inr eok);refine⟨fI M',rfl,rO,lk y hy,hv,?_⟩;refine lh ?_;refine⟨(k+1,M'++[(y,x)],(Z'.take aW).drop cR++[y],0,aW-cR+1,cf+1),⟨zo,lO,by simp;omega,by rw[zQ sn];exact lj,zo,by simp;omega,?_,kD⟩,zd,?_⟩
     ·rw[fQ,jd<|by simp;omega,ru,AB,N9 zo]
     dsimp only;rw[CW]
     (refine aR 2 zs rfl ?_ ?_<;>(repeat' (first|exact trivial|exact rfl|exact .refl _|refine And.intro ?_ ?_|(simp[aq,au,bg,-List.map_take,-List.map_drop];done))))
     all_goals first|exact aZ Ah|exact bu _ hp|exact bu _ kT|(simp;done)|skip
    refine sL (cD y.toNat zo zo) ?_;rw[r,uW] at eok;refine sS (λr2=>?_) λr2=>?_
    ·have r2:(bG g y.toNat==only):=r2;rw[r2] at eok;rw[ae ⟨hc,eok⟩] at kD;have lO:=mb.push hy (sz hc) (.inr ⟨h,sn,lj.symm⟩) (.inr eok);refine⟨fI M',rfl,rO,lk y hy,hv,?_⟩;refine lh ?_;refine⟨(k+1,M'++[(y,x)],(Z'.take aW).drop cR++[y],0,aW-cR+1,cf+1),⟨zo,lO,by simp;omega,by rw[zQ sn];exact lj,zo,by simp;omega,?_,kD⟩,zd,?_⟩
     ·rw[fQ,jd<|by simp;omega,ru,AB,N9 zo]
     dsimp only;rw[CW]
     (refine aR 2 zs rfl ?_ ?_<;>(repeat' (first|exact trivial|exact rfl|exact .refl _|refine And.intro ?_ ?_|(simp[aq,au,bg,-List.map_take,-List.map_drop];done))))
     all_goals first|exact aZ Ah|exact bu _ hp|exact bu _ kT|(simp;done)|skip
    have r2:(bG g y.toNat==only)=false:=r2;rw[r2] at eok;rw[ab λq=>by rw[eok] at q;cases q.2] at kD;refine sI ?_;refine⟨(k+1,M',Z',cR,aW,cf),⟨zo,mb,sn,lj,nW,nL,ru,kD⟩,zd,?_⟩;exact aL (by exact sK) rfl
   have q2:k=row.length:=by have:¬k<row.length:=sO
                            omega
   subst q2;rw[tf] at kD;have kD:M'=m7 (fB g only) x row M:=kD;rw[<-kD] at hR;refine⟨(h+1,M',Z',cR,aW,cf),⟨mb,zo,nW,nL,ru,by rw[show g.length+1-(h+1)=g.length-h by omega];exact hR⟩,zd,?_⟩;exact aL (by exact sK) rfl
  rw[j6,ae rfl] at hR;subst hR;refine sW ?_;generalize Ew:lV M (M.length+1) x=B;refine b8 (fL 18 1 zs rfl) ?_
  refine cJ [11] (λ((f,t,o):Nat×Nat×ah)=>[(17,aa<|ft M t),(18,.own 2 o.length 0 o.length)]) (λ(f,t,o)=>[.eU true<|lK ai 3<|fI M,.vec true aw 1<|aA Z,.vec true o.length 1<|aA o])
   (λ(f,t,o)=>t<=f/\t<=M.length/\o.length+t<=M.length+1/\o++lV M f (ft M t)=B) (λ(f,t,o)=>t) (M.length+1,h+1,[]) ?_
  refine sW ?_;refine⟨⟨zo,zo,by simp;omega,by rw[<-en1];exact Ew⟩,⟨by show aa x=_;rw[en1],by exact sK⟩,rfl,?_⟩;rintro⟨f,t,o⟩ ⟨hf1,ht,ho,hB⟩;refine br (λq2=>?_) λq2=>?_
  ·have t0:0<t:=by
    rcases xp t with e|e
    ·subst e;simp[ft] at q2
    exact e
   obtain⟨t',k1,k2,k3,k4,k5⟩:=hI.up t0 ht;have eA:ft M t=dD M (t-1):=(by unfold ft;rw[ab zo]);obtain⟨f',rfl⟩:∃f',f=f'+1:=⟨f-1,zo⟩;rw[lV,ab zo,k2] at hB;have Nb:fI M (.int .i64<|ft M t)=some (.int .i64<|ft M t'):=(by rw[eA,Lq hI.nd zo,k3]);refine sJ ?_;refine⟨fI M,rfl,rO,lk _ ⟨k4,k5⟩,_,Nb,?_⟩;refine sW ?_;refine⟨(f',t',o++[ft M t]),⟨zo,zo,by simp;omega,by rw[gy];exact hB⟩,zd,?_⟩;dsimp only;rw[show(o++[ft M t]).length=o.length+1 by simp]
   (refine aR 3 zs rfl ?_ ?_<;>(repeat' (first|exact trivial|exact rfl|exact .refl _|refine And.intro ?_ ?_|(simp[aq,au,bg,-List.map_take,-List.map_drop];done))))
   all_goals first|exact aZ (kv o _)|skip
  have t0:t=0:=by
   rcases xp t with e|e
   ·exact e
   obtain⟨t',k1,k2,k3,k4,k5⟩:=hI.up e ht;exfalso;simp at q2;omega
  subst t0;have hB:o=B:=by
   rw[<-hB];cases f<;>simp[lV,ft]
  subst hB;refine sA (r9 (PO o zo o.length) [.eU true<|lK ai 3<|fI M,.vec true aw 1<|aA Z] [] rfl (by simp[au,aq]) (by simp[fo,ao.under]) (by simp only[bP,D.aQ];rfl) rfl (by simp only[fi,gm,ao.aQ,zn];rfl) (by simp only[fi,gm,ao.aQ,zn];rfl)) ?_;have LS:l8 g to (fB g only) from_=o.reverse:=by
   rw[xa];show(lV M (M.length+1)<|dD M h).reverse=_;rw[mq,Ew]
  rw[LS];exact .own _ _ _ _ _ _ _ _ rfl (by rw[fQ,jd<|by simp[aA]];exact iX _)
 have h0:hi=lo:=sO;have sb:¬h<M.length:=zo;rw[ab sb] at hR;subst hR;rw[xa];exact sP
theorem YO(W:bc)(A:bS)(L:List Pr)(g:aj)(fr:ah)(hn:g.length<=2000000)(iI:∀l∈g,bx l g.length)(hF:jH g)(to:ay)(cl:FuncId)
  (gw:∀x:Int,0<=x->x<(g.length:Int)->ar ai cl [aa x,.aB [bD g.length to]] (aD<|to x.toNat)) (Z0:ah) (v0:Nat) (hz0:0<Z0.length) (pR:Z0.length<=1000000000000) (from_:ah) (iY:from_=[Z0.getD (Z0.length-1) 0]) (hf:bx from_ g.length) (only:Int) :
  cp ai 136 [.aB<|jI W A L g fr,.own 0 v0 (Z0.length-1) Z0.length,.fn (.func cl) [] [.loc 1 0],aO<|mZ g,aa only] [.vec true v0 1<|aA Z0,.row true [bD g.length to]] (aO<|l8 g to (fB g only) from_) [.vec true v0 1<|aA Z0,.row true [bD g.length to]]:=by
 have hp:=zw W A L g fr;have yB:from_.length<=17592186043904:=by rw[iY];simp
 have rO:=Sw (P:=ai) Tryz.underlying3;have lk:=λx (h:0<=x/\x<(g.length:Int))=>O6 (P:=ai) Tryz.underlying3 (n:=x)<|Pc ⟨h.1,zo⟩;have WM:∀o∈[ao.vec true v0 1<|aA Z0,ao.row true [bD g.length to]],o.under 2:=by
  intro o ho;simp only[dZ,rH,or_false] at ho;rcases ho with rfl|rfl
  ·exact aV _<|db _ (λ_=>by simp[an,Pure]) _
  exact bu _ ⟨jk _ _,trivial⟩
 refine sy fZ zs zs ?_<|bw _<|cG _;have xa:l8 g to (fB g only) from_=match o6 g to (fB g only) (g.length+1) 0 (wSt from_ []) with|some (M,h)=>(lV M (M.length+1)<|dD M h).reverse|none=>[]:=rfl
 obtain⟨sd,nY⟩:∃sd:D,sd=.aB (jI W A L g fr):=⟨_,rfl⟩;have pV:an [sd]:=by subst nY;exact⟨yO hp,trivial⟩
 rw[<-nY];refine sR ?_;rw[show Z0.length-(Z0.length-1)=from_.length by rw[iY];simp;omega];refine b8 (fL 12 1 zs rfl) ?_
 refine cJ [0,2,3,4,11,24,25] (λ((k,M):Nat×List Pr)=>[(12,.own 3 M.length 0 M.length),(26,aa k)]) (λ(k,M)=>[.vec true v0 1<|aA Z0,.row true [bD g.length to],.eU true<|lK ai 3<|fI M,.vec true M.length 1<|aA<|cQ M])
  (λ(k,M)=>k<=from_.length/\j5 g (fB g only) from_ M/\wSt (from_.drop k) M=wSt from_ []) (λ(k,M)=>from_.length-k) (0,[]) ?_
 refine sW ?_;refine⟨⟨zo,j5.none _ _ _,rfl⟩,by exact sK,rfl,?_⟩;rintro⟨k,M⟩ ⟨hk,hI,hS⟩;have Gf:=hI.len;have EE:=xZ M;refine br (λq0=>?_) λq0=>?_
 ·have q0:k<from_.length:=sO;have hx:=cZ hf<|dP q0;have m3:=dP q0;have tL:k=0:=by
   have h1:from_.length=1:=(by rw[iY];rfl);omega
  refine sB ?_;refine⟨_,cA (l:=Z0) (k:=Z0.length-1) zo zo,?_⟩;refine sW ?_;rw[show Z0.getD (Z0.length-1) 0=from_.getD k 0 by rw[iY,tL];rfl];rw[yY q0,wSt] at hS;generalize from_.getD k 0=x at *;refine⟨fI M,rfl,rO,lk x hx,λv hv=>?_,λhv=>?_⟩
  ·have hc:¬(cQ M).contains x=false:=λe=>by
    have:=(Hc<|sz e).symm.trans hv;cases this
   rw[ab hc] at hS;refine bb ?_;refine⟨(k+1,M),⟨zo,hI,hS⟩,zd,?_⟩;exact aL (by exact sK) rfl
  have hc:(cQ M).contains x=false:=by
   cases e:(cQ M).contains x
   ·rfl
   obtain⟨v,h⟩:=GZ hI.nd<|po.1 e;have:=hv.symm.trans h;cases this
  rw[ae hc] at hS;have lO:=hI.push hx (sz hc) (.inl rfl) (.inl m3);refine sW ?_;refine⟨fI M,rfl,rO,lk x hx,hv,?_⟩;refine lh ?_;refine⟨(k+1,M++[(x,-1)]),⟨zo,lO,hS⟩,zd,?_⟩;dsimp only;rw[CW,show(M++[(x,(-1:Int))]).length=M.length+1 by simp]
  (refine aR 4 zs rfl ?_ ?_<;>(repeat' (first|exact trivial|exact rfl|exact .refl _|refine And.intro ?_ ?_|(simp[aq,au,bg,-List.map_take,-List.map_drop];done))))
  all_goals first|exact bw _ pV.1|(simp;done)|(simp;done)|exact aZ (by rw[AB,<-kv,xZ])|skip
 have q0:k=from_.length:=by have:¬k<from_.length:=sO
                            omega
 subst q0;rw[tf] at hS;have hS:M=wSt from_ []:=hS;rw[<-hS] at xa;generalize Ki:o6 g to (fB g only) (g.length+1) 0 M=R at xa
 refine cJ [0,2,3,4,11] (λ((h,M,Z,lo,hi,aw):Nat×List Pr×ah×Nat×Nat×Nat)=>[(12,.own 3 aw lo hi)]) (λ(h,M,Z,lo,hi,aw)=>[.vec true v0 1<|aA Z0,.row true [bD g.length to],.eU true<|lK ai 3<|fI M,.vec true aw 1<|aA Z])
  (λ(h,M,Z,lo,hi,aw)=>j5 g (fB g only) from_ M/\h<=M.length/\lo<=hi/\hi<=Z.length/\(Z.take hi).drop lo=(cQ M).drop h/\o6 g to (fB g only) (g.length+1-h) h M=R) (λ(h,M,Z,lo,hi,aw)=>g.length+1-h) (0,M,cQ M,0,M.length,M.length) ?_
 refine sW ?_;refine⟨⟨hI,zo,zo,zo,by rw[jd zo],Ki⟩,by exact sK,rfl,?_⟩;rintro⟨h,M,Z,lo,hi,aw⟩ ⟨hI,hh,Hm,oG,hZ,hR⟩;have Gf:=hI.len;have EE:=xZ M;have Nj:hi-lo=M.length-h:=by
  have:=bJ List.length hZ;rw[lL,lL,gA] at this;omega
 rw[show g.length+1-h=(g.length-h)+1 by omega,o6] at hR;refine br (λq1=>?_) λq1=>?_
 ·have q1:lo<hi:=sO;have sb:h<M.length:=zo;rw[ae sb] at hR;have hx:=hI.rng _<|nT sb;have eN:(M.getD h (0,0)).1=dD M h:=rfl;rw[eN] at hx;have hd:(cQ M).drop h=dD M h::(cQ M).drop (h+1):=by
   rw[zZ zo];unfold dD cQ;rw[D0,aE,aJ sb];rfl
  rw[Fs q1 oG,hd] at hZ;obtain⟨pR,Ms⟩:=List.cons.inj hZ;refine sB ?_;refine⟨_,cA (l:=Z) (k:=lo) zo zo,?_⟩;refine sW ?_;rw[pR];refine⟨zo,zo,zo,?_⟩;refine sW ?_;rw[show lo+(hi-lo)=hi by omega];have MT:=gw (dD M h) hx.1 hx.2;have en1:dD M h=ft M (h+1):=(by unfold ft;rw[ab zo];rfl);generalize mq:dD M h=x at *;refine sN MT ?_;cases j6:to x.toNat
  ·rw[j6,ab zc] at hR;refine sW ?_;subst nY;unfold jI bY;refine sW ?_;refine sL (iL (g:=g) (k:=x.toNat) zo zo) ?_;rw[aK];have dF:=λy hy=>cZ (gY iI x.toNat) (x:=y) hy;have uT:=hF.at x.toNat;generalize g.getD x.toNat []=row at *
   refine cJ [0,2,3,4,11,17,74,75] (λ((k,M',Z',cR,aW,cf):Nat×List Pr×ah×Nat×Nat×Nat)=>[(12,.own 3 cf cR aW),(76,aa k)]) (λ(k,M',Z',cR,aW,cf)=>[.vec true v0 1<|aA Z0,.row true [bD g.length to],.eU true<|lK ai 3<|fI M',.vec true cf 1<|aA Z'])
    (λ(k,M',Z',cR,aW,cf)=>k<=row.length/\j5 g (fB g only) from_ M'/\h<M'.length/\dD M' h=x/\cR<=aW/\aW<=Z'.length/\(Z'.take aW).drop cR=(cQ M').drop (h+1)/\m7 (fB g only) x (row.drop k) M'=m7 (fB g only) x row M) (λ(k,M',Z',cR,aW,cf)=>row.length-k) (0,M,Z,lo+1,hi,aw) ?_
   refine sW ?_;refine⟨⟨zo,hI,sb,mq,zo,oG,Ms,rfl⟩,by exact sK,rfl,?_⟩;rintro⟨k,M',Z',cR,aW,cf⟩ ⟨hk,mb,sn,lj,nW,nL,ru,kD⟩;have zES:=mb.len;have zFF:=xZ M';have zBR:aW-cR=M'.length-(h+1):=by
    have:=bJ List.length ru;rw[lL,lL,gA] at this;omega
   refine br (λq2=>?_) λq2=>?_
   ·have q2:k<row.length:=sO;have hy:=dF _<|dP q2;refine sL (cA (l:=row) (k:=k) zo q2) ?_;rw[yY q2,m7] at kD;generalize row.getD k 0=y at *;refine⟨fI M',rfl,rO,lk y hy,λv hv=>?_,λhv=>?_⟩
    ·have hc:¬(cQ M').contains y=false:=λe=>by
      have:=(Hc<|sz e).symm.trans hv;cases this
     rw[ab λq=>hc q.1] at kD;refine bb ?_;refine⟨(k+1,M',Z',cR,aW,cf),⟨zo,mb,sn,lj,nW,nL,ru,kD⟩,zd,?_⟩;exact aL (by exact sK) rfl
    have hc:(cQ M').contains y=false:=by
     cases e:(cQ M').contains y
     ·rfl
     obtain⟨v,h⟩:=GZ mb.nd<|po.1 e;have:=hv.symm.trans h;cases this
    have eok:fB g only y.toNat=(decide (only<0)||bG g y.toNat==only):=rfl;refine sWS (λr=>?_) λr=>?_
    ·rw[r,zj] at eok;rw[ae ⟨hc,eok⟩] at kD;have lO:=mb.push hy (sz hc) (.inr ⟨h,sn,lj.symm⟩) (.inr eok);refine⟨fI M',rfl,rO,lk y hy,hv,?_⟩;refine lh ?_;refine⟨(k+1,M'++[(y,x)],(Z'.take aW).drop cR++[y],0,aW-cR+1,cf+1),⟨zo,lO,by simp;omega,by rw[zQ sn];exact lj,zo,by simp;omega,?_,kD⟩,zd,?_⟩
     ·rw[fQ,jd<|by simp;omega,ru,AB,N9 zo]
     dsimp only;rw[CW]
     (refine aR 4 zs rfl ?_ ?_<;>(repeat' (first|exact trivial|exact rfl|exact .refl _|refine And.intro ?_ ?_|(simp[aq,au,bg,-List.map_take,-List.map_drop];done))))
     all_goals first|exact aZ Ah|exact bu _ hp|exact bu _ kT|(simp;done)|skip
    refine sL (cD y.toNat zo zo) ?_;rw[r,uW] at eok;refine sS (λr2=>?_) λr2=>?_
    ·have r2:(bG g y.toNat==only):=r2;rw[r2] at eok;rw[ae ⟨hc,eok⟩] at kD;have lO:=mb.push hy (sz hc) (.inr ⟨h,sn,lj.symm⟩) (.inr eok);refine⟨fI M',rfl,rO,lk y hy,hv,?_⟩;refine lh ?_;refine⟨(k+1,M'++[(y,x)],(Z'.take aW).drop cR++[y],0,aW-cR+1,cf+1),⟨zo,lO,by simp;omega,by rw[zQ sn];exact lj,zo,by simp;omega,?_,kD⟩,zd,?_⟩
     ·rw[fQ,jd<|by simp;omega,ru,AB,N9 zo]
     dsimp only;rw[CW]
     (refine aR 4 zs rfl ?_ ?_<;>(repeat' (first|exact trivial|exact rfl|exact .refl _|refine And.intro ?_ ?_|(simp[aq,au,bg,-List.map_take,-List.map_drop];done))))
     all_goals first|exact aZ Ah|exact bu _ hp|exact bu _ kT|(simp;done)|skip
    have r2:(bG g y.toNat==only)=false:=r2;rw[r2] at eok;rw[ab λq=>by rw[eok] at q;cases q.2] at kD;refine sI ?_;refine⟨(k+1,M',Z',cR,aW,cf),⟨zo,mb,sn,lj,nW,nL,ru,kD⟩,zd,?_⟩;exact aL (by exact sK) rfl
   have q2:k=row.length:=by have:¬k<row.length:=sO
                            omega
   subst q2;rw[tf] at kD;have kD:M'=m7 (fB g only) x row M:=kD;rw[<-kD] at hR;refine⟨(h+1,M',Z',cR,aW,cf),⟨mb,zo,nW,nL,ru,by rw[show g.length+1-(h+1)=g.length-h by omega];exact hR⟩,zd,?_⟩;exact aL (by exact sK) rfl
  rw[j6,ae rfl] at hR;subst hR;refine sW ?_;generalize Ew:lV M (M.length+1) x=B;refine b8 (fL 18 1 zs rfl) ?_
  refine cJ [11] (λ((f,t,o):Nat×Nat×ah)=>[(17,aa<|ft M t),(18,.own 4 o.length 0 o.length)]) (λ(f,t,o)=>[.vec true v0 1<|aA Z0,.row true [bD g.length to],.eU true<|lK ai 3<|fI M,.vec true aw 1<|aA Z,.vec true o.length 1<|aA o])
   (λ(f,t,o)=>t<=f/\t<=M.length/\o.length+t<=M.length+1/\o++lV M f (ft M t)=B) (λ(f,t,o)=>t) (M.length+1,h+1,[]) ?_
  refine sW ?_;refine⟨⟨zo,zo,by simp;omega,by rw[<-en1];exact Ew⟩,⟨by show aa x=_;rw[en1],by exact sK⟩,rfl,?_⟩;rintro⟨f,t,o⟩ ⟨hf1,ht,ho,hB⟩;refine br (λq2=>?_) λq2=>?_
  ·have t0:0<t:=by
    rcases xp t with e|e
    ·subst e;simp[ft] at q2
    exact e
   obtain⟨t',k1,k2,k3,k4,k5⟩:=hI.up t0 ht;have eA:ft M t=dD M (t-1):=(by unfold ft;rw[ab zo]);obtain⟨f',rfl⟩:∃f',f=f'+1:=⟨f-1,zo⟩;rw[lV,ab zo,k2] at hB;have Nb:fI M (.int .i64<|ft M t)=some (.int .i64<|ft M t'):=(by rw[eA,Lq hI.nd zo,k3]);refine sJ ?_;refine⟨fI M,rfl,rO,lk _ ⟨k4,k5⟩,_,Nb,?_⟩;refine sW ?_;refine⟨(f',t',o++[ft M t]),⟨zo,zo,by simp;omega,by rw[gy];exact hB⟩,zd,?_⟩;dsimp only;rw[show(o++[ft M t]).length=o.length+1 by simp]
   (refine aR 5 zs rfl ?_ ?_<;>(repeat' (first|exact trivial|exact rfl|exact .refl _|refine And.intro ?_ ?_|(simp[aq,au,bg,-List.map_take,-List.map_drop];done))))
   all_goals first|exact aZ (kv o _)|skip
  have t0:t=0:=by
   rcases xp t with e|e
   ·exact e
   obtain⟨t',k1,k2,k3,k4,k5⟩:=hI.up e ht;exfalso;simp at q2;omega
  subst t0;have hB:o=B:=by
   rw[<-hB];cases f<;>simp[lV,ft]
  subst hB;refine sA (r9 (PO o zo o.length) [.vec true v0 1<|aA Z0,.row true [bD g.length to],.eU true<|lK ai 3<|fI M,.vec true aw 1<|aA Z] [] rfl (by simp[au,aq]) (by simp[fo,ao.under]) (by simp only[bP,D.aQ];rfl) rfl (by simp only[fi,gm,ao.aQ,zn];rfl) (by simp only[fi,gm,ao.aQ,zn];rfl)) ?_;have LS:l8 g to (fB g only) from_=o.reverse:=by
   rw[xa];show(lV M (M.length+1)<|dD M h).reverse=_;rw[mq,Ew]
  rw[LS];exact⟨.own _ _ _ _ _ _ _ _ rfl rfl (aZ<|by rw[fQ,jd<|by simp[aA]];rfl),ln _ [_,_,_] WM⟩
 have h0:hi=lo:=sO;have sb:¬h<M.length:=zo;rw[ab sb] at hR;subst hR;rw[xa];exact⟨.none _,ln _ [_,_] WM⟩
end
section
def dT(l:ah):Int:=l.getD (l.length-1) 0
theorem H3(l:ah)(x:Int):dT (l++[x])=x:=by
 unfold dT;rw[cq,jA,Nat.add_sub_cancel,aE,gJ<|aT _,rm];rfl
variable{l:ah}
theorem KX(h:l≠[]):dT l∈l:=by
 have:=Fk.2 h;unfold dT;rw[aE,aJ zo];simp
noncomputable def gK(g:aj)(F:List ay)(e:Nat):Nat->ah
 |0=>[(e:Int)]
 |k+1=>if (gK g F e k).any (λx=>(F.getD k noT) x.toNat)=true then gK g F e k else gK g F e k++(l8 g (F.getD k noT) (fB g<|bG g e) [dT<|gK g F e k]).drop 1
def toE(e:Nat):Nat->Bool:=λk=>((k:Nat):Int)==(e:Int)
noncomputable def tH(g:aj)(o:ah)(e:Nat)(k:Nat):ah:=((g.getD (dT o).toNat []).take k).filter λx=>bG g x.toNat==bG g e
noncomputable def uR(g:aj)(o:ah)(e:Nat):ah:=l8 g (toE e) (fB g<|bG g e)<|tH g o e (g.getD (dT o).toNat []).length
noncomputable def lu(g:aj)(F:List ay)(e:Nat):ah :=
 gK g F e F.length++(uR g (gK g F e F.length) e).take ((uR g (gK g F e F.length) e).length-1)
structure RH(g:aj)(F:List ay)(e:Nat):Prop where
 he:e<g.length
 bp:∀l∈g,bx l g.length=true
 nt:zm g e
 has:∀S∈F,∃d,d<g.length/\S d/\bG g d=bG g e
variable{g:aj}{e:Nat}
theorem Ph{v:Nat}(he:e<g.length):fB g (bG g e) v↔bG g v=bG g e:=by
 have:=(vf he).1;unfold fB;rw[gM<|show ¬bG g e<0 by omega,uW,gG]
theorem F4(bp:∀l∈g,bx l g.length)(v:Nat)(x:Int)(hx:x∈g.getD v []):0<=x/\x.toNat<g.length:=by
 have:=cZ (gY bp v) hx;omega
theorem zyB(bp:∀l∈g,bx l g.length){u v:Nat}(hu:u<g.length)(h:To g u v):v<g.length:=FB (λv x hx=>(F4 bp v x hx).2) hu h
theorem SF(bp:∀l∈g,bx l g.length){a b:Nat}(he:e<g.length)(ha:a<g.length)(hb:b<g.length)(h1:bG g a=bG g e)(h2:bG g b=bG g e):To (zB g<|fB g<|bG g e) a b:=by
 obtain⟨m1,m2⟩:=mP.1<|(parts_eq ha hb).1<|h1.trans h2.symm;have key:∀v,To g a v->To g v a->To (zB g<|fB g<|bG g e) a v:=by
  intro v hv
  induction hv with
  |base m=>intro _;exact .base m
  |step k hx ih =>
   rename_i u x;intro TY;have hu:=ih<|m5 (rM hx) TY;refine .step hu<|NJ.2 ⟨hx,(Ph he).2 ?_⟩;have hul:=zyB bp ha k;have Dh:=(F4 bp u x hx).2;rw[(parts_eq Dh ha).2<|mP.2 ⟨TY,.step k hx⟩,h1]
 exact key b m1 m2
structure y7(g:aj)(e:Nat)(o:ah):Prop where
 ne:o≠[]
 rng:bx o g.length=true
 last:bG g (dT o).toNat=bG g e
variable{o:ah}
theorem y7.lt(h:y7 g e o):0<=dT o/\dT o<(g.length:Int):=cZ h.rng<|KX h.ne
theorem PJ{m:ah}{n:Nat}(h:bx l n)(k:bx m n):bx (l++m) n:=kG λx hx=>(dt.1 hx).elim (cZ h)<|cZ k
variable{F:List ay}
theorem y7.way(H:RH g F e)(h:y7 g e o){S:ay}(hS:S∈F) :
  y7 g e (o++(l8 g S (fB g<|bG g e) [dT o]).drop 1)/\(l8 g S (fB g<|bG g e) [dT o])≠[]/\(l8 g S (fB g<|bG g e) [dT o]).length<=g.length:=by
 have hl:=h.lt;obtain⟨w1,w2,w3⟩:=JI H.bp S (fB g<|bG g e) (from_:=[dT o]) (kG λx hx=>by rw[cB] at hx;subst hx;exact hl);obtain⟨d,d1,d2,d3⟩:=H.has S hS;obtain⟨init,last,e1,e2,e3⟩:=w3 ⟨dT o,zs,d,SF H.bp H.he zo d1 h.last d3,d2⟩;refine⟨⟨by simp[h.ne],PJ h.rng<|kG λx hx=>cZ w1<|List.mem_of_mem_drop hx,?_⟩,by rw[e1];simp,w2⟩
 cases init with
 |nil=>rw[e1];simp[h.last]
 |cons a r =>
  rw[e1,ov,Eg,fQ,<-gy,H3];rcases e3 with q|q
  ·rw[cB] at q;rw[q];exact h.last
  exact(Ph H.he).1 q
theorem EK{g:aj}{F:List ay}{e:Nat}(H:RH g F e):∀k,k<=F.length->y7 g e (gK g F e k)/\(gK g F e k).length<=1+k*g.length
 |0,_=>by
  have:=H.he;exact⟨⟨by simp[gK],kG λx hx=>by simp[gK] at hx;omega,by simp[gK,dT]⟩,by simp[gK]⟩
 |k+1,hk=>by
  obtain⟨h1,h2⟩:=EK H k zo;rw[gK];have:(k+1)*g.length=k*g.length+g.length:=by rw[jw,Nat.one_mul]
  split
  ·exact⟨h1,zo⟩
  have hS:F.getD k noT∈F:=(by rw[aE,aJ<|show k<F.length by omega];simp);obtain⟨a,b,c⟩:=h1.way H hS;refine⟨a,?_⟩;rw[cq,lL];omega
theorem y7.home(H:RH g F e)(h:y7 g e o):bx (tH g o e (g.getD (dT o).toNat []).length) g.length/\uR g o e≠[]/\bx (uR g o e) g.length/\(uR g o e).length<=g.length:=by
 have hl:=h.lt;have hT:bx (tH g o e (g.getD (dT o).toNat []).length) g.length:=kG λx hx=>cZ (gY H.bp _)<|AP (rP.1 hx).1;obtain⟨w1,w2,w3⟩:=JI H.bp (toE e) (fB g<|bG g e) hT;have ck:(dT o).toNat<g.length:=zo;obtain⟨m1,m2⟩:=mP.1<|(parts_eq ck H.he).1 h.last;obtain⟨x,x1,x2⟩:=Hs H.nt m2 m1;have hx:=F4 H.bp _ x x1;have R9:bG g x.toNat=bG g e:=by rw[(parts_eq hx.2 ck).2<|mP.2 ⟨x2,rM x1⟩,h.last]
 obtain⟨init,last,e1,_,_⟩:=w3 ⟨x,rP.2 ⟨by rw[eZ];exact x1,by rw[R9];simp⟩,e,SF H.bp H.he hx.2 H.he R9 rfl,by simp[toE]⟩;exact⟨hT,by unfold uR;rw[e1];simp,w1,w2⟩
theorem TX(H:RH g F e):bx (lu g F e) g.length/\(lu g F e).length<=1+F.length*g.length+g.length:=by
 obtain⟨h1,h2⟩:=EK H F.length<|aT _;obtain⟨_,_,h4,h5⟩:=h1.home H;refine⟨PJ h1.rng<|kG λx hx=>cZ h4<|AP hx,?_⟩;unfold lu;rw[cq,gA];omega
end
section
variable(l:ah)
theorem Qh(o l:ah)(a b:Nat):List.drop 0 (List.take o.length<|aA o)++List.drop a (List.take b<|aA l)=aA (o++(l.take b).drop a):=by
 rw[cx<|by simp[aA]];simp[aA,List.map_drop,List.map_take]
@[simp] theorem B6:fc<|aA l:=db _ (λ_=>by simp[an,Pure]) l
variable(n:Nat)
theorem Zr(S:ay)(x:Int)(h0:0<=x)(hx:x<(n:Int)):ar ai 226 [aa x,.aB [bD n S]]<|aD<|S x.toNat:=by
 refine bK fZ ?_;unfold bD;refine sR ?_;refine sL (bj x.toNat zo zo) ?_;exact .refl _
theorem Z5(S:ay)(x:Int)(h0:0<=x)(hx:x<(n:Int)):ar ai 227 [aa x,.aB [bD n S]]<|aD<|S x.toNat:=by
 refine bK fZ ?_;unfold bD;refine sR ?_;refine sL (bj x.toNat zo zo) ?_;exact .refl _
theorem zwv(e:Nat)(x:Int)(h0:0<=x):ar ai 228 [aa x,.aB [aa e]]<|aD<|toE e x.toNat:=by
 refine bL ?_;exact cd<|by unfold toE;rw[ui h0]
variable(g:aj)
theorem zrU(p:Int)(x:Int)(h0:0<=x)(hx:x<(g.length:Int)):ar ai 137 [aa x,.aB [aO<|mZ g],.aB [aa p]]<|aD<|bG g x.toNat==p:=by
 refine bK fZ ?_;unfold mZ aO;refine sR ?_;refine sL (cD x.toNat zo zo) ?_;exact .refl _
theorem XM{g:aj}{o:ah}{e k:Nat}(h:k<(g.getD (dT o).toNat []).length):tH g o e (k+1)=if (bG g ((g.getD (dT o).toNat []).getD k 0).toNat==bG g e)=true then tH g o e k++[(g.getD (dT o).toNat []).getD k 0] else tH g o e k:=by
 unfold tH;rw[lI,aJ h,Fh,aE (l:=g.getD (dT o).toNat []),aJ h];simp only[Bj,nR,BD,List.filter_nil];split<;>simp
theorem zr1(o:ah)(e k:Nat):(tH g o e k).length<=k:=iv (Aw _ _)<|by simp;omega
theorem zub(W:bc)(A:bS)(L:List Pr)(g:aj)(fr:ah)(hn:g.length<=2000000)(hF:jH g)(F:List ay)(rG:F.length<=1000)(e:Nat)(H:RH g F e) :
  ar ai 138 [.aB<|jI W A L g fr,aa e,aO<|mZ g,rj g.length F] (aO<|lu g F e):=by
 have hp:=zw W A L g fr;have he:=H.he;have hpe:=vf he;refine dC fZ zs (by simp[an,Pure,cG,hp,F5]) ?_<|cG _;obtain⟨sd,nY⟩:∃sd:D,sd=.aB (jI W A L g fr):=⟨_,rfl⟩;have pV:an [sd]:=by subst nY;exact⟨yO hp,trivial⟩
 have hsr:∀ρ,D.aQ ρ sd=sd:=λρ=>iT _ pV.1;rw[<-nY];unfold rj;refine sR ?_;refine sL (cD e zo he) ?_;rw[aK];refine cJ [0,2,5,9,24,25] (λ((k,aw):Nat×Nat)=>[(10,.own 1 aw 0 (gK g F e k).length),(26,aa k)]) (λ(k,aw)=>[.row true [aa e],.vec true aw 1<|aA<|gK g F e k]) (λ(k,aw)=>k<=F.length) (λ(k,aw)=>F.length-k) (0,0) ?_;refine eC ?_;rintro⟨k,aw⟩ hk;obtain⟨hO,It⟩:=EK H k hk;have zML:(gK g F e k).length<=4000000000:=by
  have:=Ak (show k<=1000 by omega) hn;omega
 have hOn:=Fk.2 hO.ne;have eR:gK g F e (k+1)=if (gK g F e k).any (λx=>(F.getD k noT) x.toNat)=true then gK g F e k else gK g F e k++(l8 g (F.getD k noT) (fB g<|bG g e) [dT<|gK g F e k]).drop 1:=rfl
 refine br (λq0=>?_) λq0=>?_
 ·have q0:k<F.length:=sO;have hS:F.getD k noT∈F:=(by rw[aE,aJ q0];simp);refine⟨zo,_,IC (n:=g.length) (F:=F) (k:=k) zo q0,?_⟩;obtain⟨_,hw2,hw3⟩:=hO.way H hS;generalize F.getD k noT=S at *;refine sW ?_;generalize Um:gK g F e k=o at *;have hC:=mC (λn=>aa n) (λa=>by simp[Pure]) o zo (λx=>S x.toNat) 226 [.aB [bD g.length S]] (by simp[an,Pure,jk]) λa ha=>Zr g.length S a (cZ hO.rng ha).1 (cZ hO.rng ha).2;rw[show(o.map λn=>[aa n])=List.drop 0 (List.take o.length<|aA o) from(cx<|by simp[aA]).symm] at hC;refine sN hC ?_;cases r:o.any (λx=>S x.toNat)
  ·rw[r,ab zc] at eR;refine bb ?_;refine⟨zo,zo,zo,?_⟩;refine sW ?_;have x':=YO W A L g fr hn H.bp hF S 227 (λx h1 h2=>Z5 g.length S x h1 h2) o aw hOn zo [dT o] rfl (kG λx hx=>by rw[cB] at hx;subst hx;exact hO.lt) (bG g e);rw[<-nY] at x';generalize l8 g S (fB g<|bG g e) [dT o]=l at *;have T4:=Fk.2 hw2;rw[show 0+(((o.length-0:Nat):Int)-1).toNat=o.length-1 by omega,show 0+(o.length-0)=o.length by omega];refine sA (r9 x' [.row true [aa e]] [] rfl (by simp[au,aq,bw _ pV.1]) ⟨aV _<|B6 _,bu _ ⟨jk _ _,trivial⟩,trivial⟩ (by simp only[bP,D.aQ,hsr,tp];rfl) (tp _) (by simp only[fi,gm,ao.aQ,zn,bP,iT _<|jk _ _];rfl) (by simp only[fi,gm,ao.aQ,zn,bP,iT _<|jk _ _];rfl)) ?_;rw[aK];refine⟨zo,zo,zo,?_⟩;refine lh ?_;refine⟨(k+1,aw+1),zo,zd,?_⟩;dsimp only;rw[eR];have hle:(o++l.drop 1).length=o.length+(l.length-1):=(by rw[cq,lL]);rw[hle,show(List.drop (Int.toNat 1)<|List.take l.length<|List.map (λn=>[aa n]) l).length=l.length-1 by simp]
   (refine aR 2 zs rfl ?_ ?_<;>(repeat' (first|exact trivial|exact rfl|exact .refl _|refine And.intro ?_ ?_|(simp[aq,au,bg,-List.map_take,-List.map_drop];done))))
   all_goals first|exact bw _ pV.1|exact aV _ (db _ (λS=>by simp[an,jk]) F)|exact aZ (by have:=Qh o l 1 l.length;rw[eZ] at this;exact this)|skip
  rw[r,ae rfl] at eR;refine bb ?_;refine⟨(k+1,aw),zo,zd,?_⟩;dsimp only;rw[eR]
  (refine aR 2 zs rfl ?_ ?_<;>(repeat' (first|exact trivial|exact rfl|exact .refl _|refine And.intro ?_ ?_|(simp[aq,au,bg,-List.map_take,-List.map_drop];done))))
  all_goals first|exact bw _ pV.1|exact aV _ (db _ (λS=>by simp[an,jk]) F)|skip
 have q0:k=F.length:=by have:¬k<F.length:=sO
                        omega
 subst q0;have eE:lu g F e=gK g F e F.length++(uR g (gK g F e F.length) e).take ((uR g (gK g F e F.length) e).length-1):=rfl;subst nY;unfold jI bY;refine sW ?_;obtain⟨ht1,hh1,hh2,hh3⟩:=hO.home H;have ck:=hO.lt;refine sIB ?_;generalize Um:gK g F e F.length=o at *;refine⟨_,cA (l:=o) (k:=o.length-1) zo zo,?_⟩;refine sW ?_;rw[show o.getD (o.length-1) 0=dT o from rfl];refine sL (iL (g:=g) (k:=(dT o).toNat) zo zo) ?_;rw[aK];have uT:=hF.at (dT o).toNat;have eT:=λk hk=>XM (g:=g) (o:=o) (e:=e) (k:=k) hk;have WI:=λk=>zr1 g o e k;have dF:=λy hy=>cZ (gY H.bp (dT o).toNat) (x:=y) hy;have hhE:uR g o e=l8 g (toE e) (fB g<|bG g e) (tH g o e (g.getD (dT o).toNat []).length):=rfl;have Tp:tH g o e 0=[]:=by simp[tH]
 generalize g.getD (dT o).toNat []=row at *;generalize tH g o e=T at *;refine b8 (fL 14 1 zs rfl) ?_;refine cJ [0,2,5,9,10,59,60] (λ((k,c):Nat×Nat)=>[(14,.own 2 c 0 c),(61,aa k)]) (λ(k,c)=>[.row true [aa e],.vec true aw 1<|aA o,.vec true c 1<|aA<|T k]) (λ(k,c)=>k<=row.length/\(T k).length=c) (λ(k,c)=>row.length-k) (0,0) ?_;refine sW ?_;refine⟨⟨zo,by rw[Tp];rfl⟩,by exact sK,by dsimp only;rw[Tp,<-Um];rfl,?_⟩;rintro⟨k,c⟩ ⟨hk,hc⟩;have hTk:=WI k;refine br (λq1=>?_) λq1=>?_
 ·have q1:k<row.length:=sO;have hy:=dF _<|dP q1;have eS:=eT k q1;refine sL (cA (l:=row) (k:=k) zo q1) ?_;generalize row.getD k 0=y at *;refine sL (cD y.toNat zo zo) ?_;refine sS (λr2=>?_) λr2=>?_
  ·have r2:(bG g y.toNat==bG g e):=r2;rw[r2,ae rfl] at eS;refine fA ?_;refine⟨(k+1,c+1),⟨zo,by rw[eS,cq,hc];rfl⟩,zd,?_⟩;dsimp only;rw[eS]
   (refine aR 3 zs rfl ?_ ?_<;>(repeat' (first|exact trivial|exact rfl|exact .refl _|refine And.intro ?_ ?_|(simp[aq,au,bg,-List.map_take,-List.map_drop];done))))
   all_goals first|exact bu _ hp|exact aZ (by rw[<-hc,kv])|skip
  have r2:(bG g y.toNat==bG g e)=false:=r2;rw[r2,ab zc] at eS;refine sI ?_;refine⟨(k+1,c),⟨zo,by rw[eS];exact hc⟩,zd,aL (by exact sK) ?_⟩;dsimp only;rw[eS]
 have q1:k=row.length:=by have:¬k<row.length:=sO
                          omega
 subst q1;have x':=Se W A L g fr hn H.bp hF (toE e) 228 [.aB [aa e]] (by simp[an,Pure]) (λx h1 _=>zwv e x h1) (T row.length) zo ht1<|bG g e;rw[<-hhE] at x';generalize uR g o e=l at *;have T4:=Fk.2 hh1
 refine sE (G6 (args0:=[.aB<|jI W A L g fr,.own 1 c 0 c,.fn (.func 228) [] [.loc 0 0],aO<|mZ g,aa<|bG g e]) (H0:=[.row true [aa e],.vec true c 1<|aA<|T row.length])
  (.cons _ _ _ _ (.refl _) (.cons _ _ _ _ (.own _ _ _ _ _ _ _ _ rfl (by rw[cx<|by simp[aA];omega];exact iX _)) (.cons _ _ _ _ (.fn _ _ _ _ _ .nil (.cons _ _ _ _ (.loc _ _ _ _ _ rfl (oN _)) .nil)) (.cons _ _ _ _ (.refl _) (.cons _ _ _ _ (.refl _) .nil))))) x' (cG _) [0,2] rfl zc (by simp[au,aq,bu _ hp]) ⟨bu _<|by simp[an,Pure],aV _<|B6 _,trivial⟩ (by simp only[bP,D.aQ,tp,mo _ hp];rfl) (λi o ho=>by
   rcases i with _|_|i
   ·simp at ho;subst ho;rfl
   ·simp at ho;subst ho;simp only[ao.aQ,zn];rfl
   simp at ho)) ?_
 rw[aK];refine sI ?_;refine⟨zo,zo,zs,?_⟩;refine sWJ ?_;rw[eE];refine .own _ _ _ _ _ _ _ _ rfl ?_;rw[show(((l.length:Nat):Int)-1).toNat=l.length-1 by omega];have hh:=Qh o l 0<|l.length-1;rw[fQ] at hh;rw[show List.drop 0 (List.take o.length<|aA o)++List.drop 0 (List.take (l.length-1)<|List.map (λn=>[aa n]) l)=aA (o++l.take (l.length-1)) from hh];rw[cx<|by simp[aA]];exact iX _
end
section
def nxE(W:bc)(A:bS)(p:Pr):List Pr:=fW W A (W.next.getD p.1.toNat [])<|A.next.getD p.2.toNat []
structure mY(W:bc)(A:bS):Prop where
 two:xH W A
 sw:W.start.length<=1048576
 sa:A.start.length<=1048576
 rw_:∀l∈W.next,l.length<=1048576
 ra:∀l∈A.next,l.length<=1048576
theorem mY.next{W:bc}{A:bS}(h:mY W A)(p:Pr):(∀q∈nxE W A p,iG W A q)/\(nxE W A p).length<=1099511627776:=by
 obtain⟨_,_,_,_,w5,_⟩:=tc W h.two.cw;obtain⟨_,_,_,_,_,a6,_⟩:=wo A h.two.ca;refine⟨Uo (gY w5 _)<|gY a6 _,?_⟩;have h1:=Xw W A (W.next.getD p.1.toNat [])<|A.next.getD p.2.toNat [];have h2:=Ak (vK h.rw_ p.1.toNat)<|vK h.ra p.2.toNat;unfold nxE;omega
variable{W:bc}{A:bS}
theorem mY.begin(h:mY W A):(∀q∈fW W A W.start A.start,iG W A q)/\(fW W A W.start A.start).length<=1099511627776:=by
 obtain⟨_,_,_,w4,_,_⟩:=tc W h.two.cw;obtain⟨_,_,_,_,a5,_,_⟩:=wo A h.two.ca;refine⟨Uo w4 a5,?_⟩;have h1:=Xw W A W.start A.start;have h2:=Ak h.sw h.sa;omega
variable{L:List Pr}
theorem HG{Q:Pr->Prop}{ps:List Pr}{o:ah}(h:∀p∈L,Q p)(k:∀p∈ps,Q p):∀p∈(iE ps L o).1,Q p:=λp hp=>((Cu ps L o p).1 hp).elim (h p)<|k p
theorem Us{W:bc}{A:bS}(h:mY W A){start:List Pr}:∀(f n:Nat) (L:List Pr) (T:aj),um start (nxE W A) n L T->(∀p∈L,iG W A p)->W.next.length*A.next.length+2<=f+n ->
  pK start (nxE W A) (tO (nxE W A) f n L T).1 (tO (nxE W A) f n L T).2/\∀p∈(tO (nxE W A) f n L T).1,iG W A p
 |0,n,L,T,hI,hg,hf=>by have:=hI.le;have:=iG.le h.two hI.nd hg;omega
 |f+1,n,L,T,hI,hg,hf=>by
  rw[tO];split
  ·rename_i q;exact Us h f (n+1) _ _ (hI.next q) (HG hg (h.next _).1) zo
  rename_i q;exact⟨hI.fin q,hg⟩
def iu(W:bc)(A:bS):List Pr×ah:=iE (fW W A W.start A.start) [] []
def b9(W:bc)(A:bS):List Pr×aj:=tO (nxE W A) (W.next.length*A.next.length+2) 0 (iu W A).1 []
theorem vv(h:mY W A):pK (fW W A W.start A.start) (nxE W A) (b9 W A).1 (b9 W A).2/\∀p∈(b9 W A).1,iG W A p :=
 Us h _ 0 _ [] (um.begin _ _) (HG zs h.begin.1) zo
theorem Uv(nx:Pr->List Pr):∀(f n:Nat) (L:List Pr) (T:aj),∃X,(tO nx f n L T).1=L++X
 |0,n,L,T=>⟨[],by simp[tO]⟩
 |f+1,n,L,T=>by
  rw[tO];split
  ·obtain⟨X,hX⟩:=Ck (nx<|L.getD n (0,0)) L [];obtain⟨Y,hY⟩:=Uv nx f (n+1) (iE (nx<|L.getD n (0,0)) L []).1<|T++[(iE (nx<|L.getD n (0,0)) L []).2];exact⟨X++Y,by rw[hY,hX,gy]⟩
  exact⟨[],zs⟩
theorem Ma:(iu W A).2=(fW W A W.start A.start).map λp=>(gF (b9 W A).1 p:Int):=by
 obtain⟨X,hX⟩:=Uv (nxE W A) (W.next.length*A.next.length+2) 0 (iu W A).1 [];have hX':(b9 W A).1=(iu W A).1++X:=hX;rw[hX'];unfold iu;rw[Mx,lW];refine qY λp hp=>?_;rw[LW<|(Cu _ [] [] p).2 (.inr hp)]
theorem pK.fits(h:mY W A){start:List Pr}{G:aj}(hN:pK start (nxE W A) L G)(hg:∀p∈L,iG W A p):G.length<=1228800/\jH G:=by
 have h1:=iG.le h.two hN.nd hg;have h2:=JG h.two;have h3:=hN.len;refine⟨zo,zo,λl hl=>?_⟩;obtain⟨i,hi,rfl⟩:=jN.1 hl;have:=hN.row i zo;rw[aE,aJ hi] at this;simp only[nR] at this;rw[this,aK];have:=(h.next<|L.getD i (0,0)).2;omega
theorem O5(h:mY W A):bx (iu W A).2 (b9 W A).2.length/\(iu W A).2.length<=1099511627776:=by
 obtain⟨hN,hg⟩:=vv h;rw[Ma];refine⟨kG λx hx=>?_,by rw[aK];exact h.begin.2⟩;obtain⟨p,hp,rfl⟩:=dq.1 hx;have:=Dw<|hN.st p hp;have:=hN.len;omega
variable{g:aj}
theorem zul{ok:ay}(h:∀v,ok v){u v:Nat}(k:To g u v):To (zB g ok) u v:=by
 unfold To at k
 induction k with
 |base m=>exact .base m
 |step k hx ih=>exact .step ih<|NJ.2 ⟨hx,h _⟩
variable{F:List ay}
theorem Vz(bp:∀l∈g,bx l g.length){i:Nat}(h:pj g F i):(∃v,v<g.length/\bG g v=(i:Int))/\∀e,e<g.length->bG g e=(i:Int)->RH g F e:=by
 unfold pj at h;rw[fY,ki] at h;obtain⟨h1,h2⟩:=h;unfold okT at h1;obtain⟨v,hv,h3⟩:=kJ.1 h1;rw[fY,gG] at h3;have hv:=fX.1 hv;refine⟨⟨v,hv,h3.1⟩,λe he hp=>⟨he,bp,?_,λS hS=>?_⟩⟩
 ·have hn:=(EU (λv x hx=>(F4 bp v x hx).2) hv).1 h3.2;obtain⟨m1,m2⟩:=mP.1<|(parts_eq hv he).1<|h3.1.trans hp.symm;exact Hs hn m1 m2
 have:=h2 S hS;unfold pU at this;obtain⟨d,hd,h4⟩:=kJ.1 this;rw[fY,gG] at h4;exact⟨d,fX.1 hd,h4.2,h4.1.trans hp.symm⟩
noncomputable def pE(g:aj)(F:List ay):Int:=ee (λb=>true==b)<|(List.range g.length).map<|pj g F
noncomputable def fC(g:aj)(F:List ay)(fr:ah):ah:=l8 g (λk=>bG g k==pE g F) (fB g (-1)) fr
def oV(L:List Pr)(l:ah):ah:=l.map λn=>(L.getD n.toNat (0,0)).1
noncomputable def sh(W:bc)(A:bS)(L:List Pr)(g:aj)(fr:ah):D :=
 if pE g (js W A L)<0 then .aI [.agg [aO [],aO []],aD false,aa 0] else
  .aI [.agg [aO<|oV L<|(fC g (js W A L) fr).take<|(fC g (js W A L) fr).length-1,aO<|oV L<|lu g (js W A L) (dT<|fC g (js W A L) fr).toNat],aD true,aa 0]
theorem Sb(h:¬pE g F<0):∃i:Nat,pE g F=(i:Int)/\pj g F i:=by
 obtain⟨k,h1,hk,h2,_⟩:=Gb (show 0<=ee (λb=>true==b) ((List.range g.length).map<|pj g F) from by unfold pE at h;omega);refine⟨k,h1,?_⟩;simpa using h2
theorem zzC(bp:∀l∈g,bx l g.length):(¬pE g F<0)↔∃v,v<g.length/\Fw g F v:=by
 rw[<-Yy (λv x hx=>(F4 bp v x hx).2) F];have h1:=rW (λb=>true==b)<|(List.range g.length).map<|pj g F;have h2:(¬pE g F<0)↔decide (pE g F>=0)=true:=by rw[decide_eq_true_iff];omega
 rw[h2,pE,h1,kJ];constructor
 ·rintro⟨b,hb,FC⟩;obtain⟨i,hi,rfl⟩:=dq.1 hb;exact⟨i,fX.1 hi,by simpa using FC⟩
 rintro⟨i,hi,h⟩;exact⟨_,dq.2 ⟨i,fX.2 hi,rfl⟩,by simpa using h⟩
theorem Ow(h:mY W A)(hp:¬pE (b9 W A).2 F<0) :
  bx (fC (b9 W A).2 F (iu W A).2) (b9 W A).2.length=true/\(fC (b9 W A).2 F (iu W A).2).length<=(b9 W A).2.length/\fC (b9 W A).2 F (iu W A).2≠[]/\RH (b9 W A).2 F (dT<|fC (b9 W A).2 F (iu W A).2).toNat:=by
 obtain⟨hN,hg⟩:=vv h;obtain⟨i,e1,hG⟩:=Sb hp;obtain⟨⟨v,hv,MR⟩,hR⟩:=Vz hN.inG hG;obtain⟨b1,_⟩:=O5 h;obtain⟨w1,w2,w3⟩:=JI hN.inG (λk=>bG (b9 W A).2 k==pE (b9 W A).2 F) (fB (b9 W A).2 (-1)) b1;obtain⟨q,hq,hT⟩:=hN.come v (by have:=hN.len;omega);obtain⟨init,last,s1,s2,_⟩:=w3 ⟨(gF (b9 W A).1 q:Int),by rw[Ma];exact dq.2 ⟨q,hq,rfl⟩,v,by
  rw[bQ];exact zul (λv=>by unfold fB;rw[ia (by omega:(-1:Int)<0)];rfl) hT,by rw[MR,e1];simp⟩
 refine⟨w1,w2,by unfold fC;rw[s1];simp,?_⟩;have hl:dT (fC (b9 W A).2 F (iu W A).2)=last:=by unfold fC;rw[s1,H3]
 have hr:=cZ w1 (x:=last) (by rw[s1];simp);rw[hl];exact hR last.toNat zo<|by rw[gG] at s2;rw[s2,e1]
def CD(d:Nat)(W:bc)(A:bS)(n t:Nat)(S:D):bh:=[aO W.start,bY W.next,ix W.label,bY W.fair,aO A.start,bY A.next,ix A.jq,ix A.mi,bY A.fair,.mp d,.own (d+2) n 0 n,.own (d+3) t 0 t,S]
noncomputable def Ek(d:Nat)(W:bc)(A:bS)(L:List Pr)(S:D)(T:aj):aF :=
 [.eU true<|lK ai 191<|fP L,.row true<|CD d W A L.length T.length S,.vec true L.length 2<|rA L,.vec true T.length 1<|gr T]
theorem V3{ρ:Nat->Nat}(l:ah):D.aQ ρ (ix l)=ix l:=iT _<|vT l
theorem I5{S:D}(hS:Pure S){T:aj}:(j7 W A L S T).map (ao.aQ λi=>3+i)=Ek 3 W A L S T:=by
 simp only[j7,Ek,xu,CD,fi,gm,ao.aQ,bP,D.aQ,kQ _<|KA L,kQ _<|mX T,iT _ hS,tp,Sx,V3]
def zAZ:PC:=.seq (SO [qm 42 10,qm 43 9,q 44 (.jR 43),Fa 45 10 44,Lo 46 45,Ln 47 46,Bi 48 .lss 42 47]<|CX 48 0) (.seq (.block 1 (.ops [qm 51 9,qm 52 9,qd 53 (.jR 52) 2,Fd 54 11 53 6,Ld 55 54 14,qm 56 9,Fa 57 1 2,Ld 58 57 64,qm 59 9,qd 60 (.jR 59) 256,Fd 61 10 60 768,Ld 62 61 1792,qm 63 10,Ja 64 2 62 63 7936,Fd 65 0 64 16128,Ld 66 65 32512,Ja 67 1 58 66 65472,Ld 68 67 131008,Fa 69 1 3,Ld 70 69 262144,qm 71 9,qd 72 (.jR 71) 1048576,Fd 73 10 72 3145728,Ld 74 73 7340032,qm 75 10,Ja 76 2 74 75 32505856,Fd 77 1 76 66060288,Ld 78 77 133169152,Ja 79 1 70 78 268173312,Ld 80 79 536608768,Cd 81 132 [56,68,80] 1073741792,qd 82 (.oP 1 1 [81]) 2147483616,qd 83 (.append 1 24 55 82) 4294967294,qd 84 (.jR 51) 8589934591,Fd 85 11 84 17179869183,qk (.store 1 85 83) 34359738367] true))<|OP [qm 49 10,Bi 50 .add 49 K1,qm 10 50])
def c46:PC:=SO [Bx 2 0,Bx 3 1,q 4 (.alloc [vN,vN]),Mv 5 cF,Mv 6 K0] (.seq (SO [LA 16 4 2,Ca 17 44 [16],qm 7 17]<|SO [qm 18 7,Bi 19 .neq 18 K0]<|If 19<|SO [q 20 (.build [vN,vN] []),qm 21 7,So 2 4 20,Mv 5 cF,qm 6 21] .ret) (.seq (SO [LA 22 5 3,Ca 23 131 [22],qm 8 23]<|SO [qm 24 8,Bi 25 .neq 24 K0]<|If 25<|SO [q 26 (.build [vN,vN] []),qm 27 8,So 2 4 26,Mv 5 cF,qm 6 27] .ret)<|SO [LA 28 4 2,LA 29 5 3,q 30 (.FH 191),q 31 (.build [vN,vN,vN,vN,vN,vN,vN,vN,vN,(.map none),vN,vN,vN] [(0,4,28),(4,5,29),(9,1,30)]),Bx 32 31,qm 9 32] (.seq (.stop<|OP [qm 33 9,qm 34 9,Fa 35 0 2,Lo 36 35,Fa 37 0 3,Lo 38 37,Ca 39 132 [34,36,38],q 40 (.jR 33),Fa 41 12 40,So 1 41 39]) (.seq (SO [Mv 10 K0]<|BL 0 zAZ) (.seq (.stop<|OP [qm 86 9,q 87 (.jR 86),Fa 88 11 87,Lo 89 88,Ca 90 133 [89],q 11 (.alloc [vN]),So 1 11 90])<|SO [qm 91 9,Ca 92 134 [91],qm 12 92]<|SO [qm 93 9,Lo 94 11,qm 95 12,Ca 96 135 [93,94,95],q 13 (.alloc [v0]),So 1 13 96] (.seq (SO [Lo 97 13,Bi 98 .lss 97 K0]<|If 98<|SO [q 99 (.build [vN,vN] []),So 2 4 99,Mv 5 cF,Mv 6 K0] .ret) (.seq (.ops [qm 100 9,qm 101 9,qd 102 (.jR 101) 2,Fd 103 12 102 6,Ld 104 103 14,q 105 (.jD (.func 137) [] [11,13]),Lo 106 11,Cd 107 136 [100,104,105,106,(cI (-1))] 127,qw 14 107 255] true) (.seq (.ops [qm 108 9,qm 109 14,qm 110 14,qd 111 (.len 110) 4,Bd 112 .sub 111 K1 12,Ja 113 1 109 112 30,Ld 114 113 62,Lo 115 11,qm 116 12,Cd 117 138 [108,114,115,116] 511,qw 15 117 1023] true)<|SO [qm 118 9,qm 119 14,qm 120 14,Ln 121 120,Bi 122 .sub 121 K1,q 123 (.slc 1 119 none (some 122) none),Ca 124 139 [118,123],qm 125 9,qm 126 15,Ca 127 139 [125,126],q 128 (.build [vN,vN] [(0,1,124),(1,1,127)]),So 2 4 128,Mv 5 cT,Mv 6 K0] .ret))))))))
theorem zw1(h:mY W A):ar ai 46 [gu W,lX A]<|sh W A (b9 W A).1 (b9 W A).2 (iu W A).2:=by
 obtain⟨w1,w2,w3,w4,w5,w6⟩:=tc W h.two.cw;obtain⟨a1,a2,a3,a4,a5,a6,a7⟩:=wo A h.two.ca;have Wu:=JG h.two;have PS:=Jg W h.two.fw;rw[h.two.cw] at PS;have PD:=YZ A h.two.fa;rw[h.two.ca] at PD;have hX:=λL fm u0 S hS T=>WH h.two W.start A.start h.sw h.sa w4 a5 L fm u0 S hS T;have hX2:=λ(p:Pr) L fm u0 S hS T=>WH h.two (W.next.getD p.1.toNat []) (A.next.getD p.2.toNat []) (vK h.rw_ p.1.toNat) (vK h.ra p.2.toNat) (gY w5 p.1.toNat) (gY a6 p.2.toNat) L fm u0 S hS T;have EV:=vj W;have Fv:=F3 A;refine dC (fJ 129 [.agg 4 2,.tmp 5,.tmp 6] c46 Tryz.func46) zs (by simp[an,MV,Db]) ?_ (by unfold sh;split<;>simp[Pure,an,cG]);have zIZ:b9 W A=tO (nxE W A) (W.next.length*A.next.length+2) 0 (iu W A).1 []:=rfl;unfold gu lX at *;unfold bc.cells bS.cells at *;refine sR ?_;refine sC PS ?_;refine sC PD ?_;refine b8 (kS (iq 4 10 2 zs rfl rfl)<|iq 4 11 1 zs rfl rfl) ?_;refine sR ?_;have Ju:Pure uN:=trivial;have Py:=hX [] .nil zs uN Ju [];rw[show iE (fW W A W.start A.start) [] []=iu W A from rfl] at Py;have Ib:=um.begin (fW W A W.start A.start)<|nxE W A;rw[show iE (fW W A W.start A.start) [] []=iu W A from rfl] at Ib;have YR:∀p∈(iu W A).1,iG W A p:=HG zs h.begin.1;have ZD:∀L G,b9 W A=(L,G)->pK (fW W A W.start A.start) (nxE W A) L G/\(∀p∈L,iG W A p)/\bx (iu W A).2 G.length=true/\(iu W A).2.length<=1099511627776/\∀F,¬pE G F<0->bx (fC G F (iu W A).2) G.length=true/\(fC G F (iu W A).2).length<=G.length/\fC G F (iu W A).2≠[]/\RH G F (dT<|fC G F (iu W A).2).toNat:=λL G e=>by
  have k1:=vv h;have k2:=O5 h;have k3:=λF hp=>Ow h (F:=F) hp;rw[e] at k1 k2 k3;exact⟨k1.1,k1.2,k2.1,k2.2,k3⟩
 generalize iu W A=B at *;obtain⟨L0,fr⟩:=B;dsimp only at *;have H5:=cG fr;refine sA (r9 Py [.row true [aO W.start,bY W.next,ix W.label,bY W.fair],.row true [aO A.start,bY A.next,ix A.jq,ix A.mi,bY A.fair],.row true [uN,uN]] [] rfl (by simp[j7,au,aq]) (Ox Ju<|by simp[j7]) (by simp only[bP,D.aQ,tp];rfl) (tp _) (bJ (_++·)<|(kM _).trans<|I5 Ju) (bJ (_++·)<|(kM _).trans<|I5 Ju)) ?_
 refine cJ [2,3,4,9] (λ((n,M,T):Nat×List Pr×aj)=>[(10,aa n)]) (λ(n,M,T)=>[.row true [aO W.start,bY W.next,ix W.label,bY W.fair],.row true [aO A.start,bY A.next,ix A.jq,ix A.mi,bY A.fair],.row true [uN,uN]]++Ek 3 W A M (aO fr) T)
  (λ(n,M,T)=>um (fW W A W.start A.start) (nxE W A) n M T/\(∀p∈M,iG W A p)/\tO (nxE W A) (W.next.length*A.next.length+2-n) n M T=b9 W A) (λ(n,M,T)=>W.next.length*A.next.length+2-n) (0,L0,[]) ?_
 refine sW ?_;refine⟨⟨Ib,YR,zIZ.symm⟩,by exact sK,rfl,?_⟩;rintro⟨n,M,T⟩ ⟨hI,ma,hF⟩;have Gf:=iG.le h.two hI.nd ma;have hIl:=hI.le;have WI:=hI.len;rw[show W.next.length*A.next.length+2-n=(W.next.length*A.next.length+1-n)+1 by omega,tO] at hF;unfold Ek CD;refine br (λq0=>?_) λq0=>?_
 ·have q0:n<M.length:=sO;rw[ae q0] at hF;have tB:=ma _<|Jh q0;obtain⟨⟨g1,g2⟩,g3,g4⟩:=tB;have Jf:=hI.next q0;have iD:=h.next<|M.getD n (0,0);have hC:=r9 (hX2 (M.getD n (0,0)) M hI.nd ma (aO fr) H5 T) [.row true [aO W.start,bY W.next,ix W.label,bY W.fair],.row true [aO A.start,bY A.next,ix A.jq,ix A.mi,bY A.fair],.row true [uN,uN]] [] rfl (by simp[j7,au,aq]) (Ox H5<|by simp[j7]) (by simp only[bP,D.aQ,tp];rfl) (tp _) (bJ (_++·)<|(kM _).trans<|I5 H5) (bJ (_++·)<|(kM _).trans<|I5 H5);rw[show fW W A (W.next.getD (M.getD n (0,0)).1.toNat []) (A.next.getD (M.getD n (0,0)).2.toNat [])=nxE W A (M.getD n (0,0)) from rfl] at hC;refine sB ?_;refine⟨_,IH (l:=M) (k:=n) zo q0,?_⟩;refine sW ?_;refine sL (iL (g:=W.next) (k:=(M.getD n (0,0)).1.toNat) zo zo) ?_;refine sB ?_;refine⟨_,IH (l:=M) (k:=n) zo q0,?_⟩;refine sW ?_;refine sL (iL (g:=A.next) (k:=(M.getD n (0,0)).2.toNat) zo zo) ?_;unfold Ek CD at hC;have hgd:=HG (o:=[]) ma iD.1;generalize nxE W A (M.getD n (0,0))=ps at *;generalize iE ps M []=Q at *;obtain⟨M',o⟩:=Q;dsimp only at *
  (refine .inr (.inr (.inr (.inl ⟨_,_,by simp[au,bg,fo,ao.under,aq],by simp[au,bg,fo,ao.under,aq],hC,?_⟩)));((conv=>whnf);repeat(refine⟨rfl,?_⟩;conv=>whnf)))
  refine fA ?_;refine⟨(n+1,M',T++[o]),⟨Jf,hgd,by rw[show W.next.length*A.next.length+2-(n+1)=W.next.length*A.next.length+1-n by omega];exact hF⟩,zd,?_⟩;dsimp only;rw[show(T++[o]).length=T.length+1 by simp]
  (refine aR 7 zs rfl ?_ ?_<;>(repeat' (first|exact trivial|exact rfl|exact .refl _|refine And.intro ?_ ?_|(simp[aq,au,bg,-List.map_take,-List.map_drop];done))))
  all_goals first|exact bu _ EV|exact bu _ Fv|exact aZ (zm5 rfl)|(simp[bw _<|vT _];done)|skip
 have q0:¬n<M.length:=sO;rw[ab q0] at hF;obtain⟨Ll,UC,hfi,yB,cE⟩:=ZD M T hF.symm;obtain⟨ZI,G5⟩:=Ll.fits h UC;have bp:=Ll.inG;rw[<-hF];have Hp:=Ll.len;have w9:=zxz h.two M zo UC T fr;rw[<-Hp] at w9;have rG:(js W A M).length<=1000:=by unfold js;rw[cq,y3<|aT _,y3<|aT _];omega
 have iY:sh W A M T fr=if pE T (js W A M)<0 then .aI [.agg [aO [],aO []],aD false,aa 0] else
   .aI [.agg [aO<|oV M<|(fC T (js W A M) fr).take<|(fC T (js W A M) fr).length-1,aO<|oV M<|lu T (js W A M) (dT<|fC T (js W A M) fr).toNat],aD true,aa 0]:=rfl
 have rR:=zw W A M T fr;generalize js W A M=F at *;have MJ:=zxG W A M T Hp fr zo bp G5 F rG;rw[show ee (λb=>true==b) ((List.range T.length).map<|pj T F)=pE T F from rfl] at MJ;have cE:=cE F
 refine b8 (rZ (λi=>i==4||i==5||i==6) (env':=[(4,.loc 2 0),(9,.aB<|jI W A M T fr)]) (H':=[.row true [aO W.start,bY W.next,ix W.label,bY W.fair],.row true [aO A.start,bY A.next,ix A.jq,ix A.mi,bY A.fair],.row true [uN,uN],.eU true<|lK ai 191<|fP M,.row false<|CD 3 W A M.length T.length<|aO fr,.vec false M.length 2<|rA M,.vec false T.length 1<|gr T])
  ⟨.refl _,.loc _ _ _ _ _ rfl rfl (.cons _ _ _ _ (.refl _) (.cons _ _ _ _ (.refl _) (.cons _ _ _ _ (.refl _) (.cons _ _ _ _ (.refl _) (.cons _ _ _ _ (.refl _) (.cons _ _ _ _ (.refl _) (.cons _ _ _ _ (.refl _) (.cons _ _ _ _ (.refl _) (.cons _ _ _ _ (.refl _) (.cons _ _ _ _ (.dW _) (.cons _ _ _ _ (.own _ _ _ _ _ _ _ _ rfl rfl (aZ<|cx zs)) (.cons _ _ _ _ (.own _ _ _ _ _ _ _ _ rfl rfl (aZ<|cx zs)) (.refl _))))))))))))),trivial⟩
  ⟨⟨.inl rfl,λh=>absurd h zc,.refl _⟩,⟨.inl rfl,λh=>absurd h zc,.refl _⟩,⟨.inl rfl,λh=>absurd h zc,.refl _⟩,⟨.inl rfl,λh=>absurd h zc,rfl⟩,⟨.inr ⟨rfl,rfl⟩,λ_=>rfl,.refl _⟩,⟨.inr ⟨rfl,rfl⟩,λ_=>rfl,rfl,rfl,.refl _⟩,⟨.inr ⟨rfl,rfl⟩,λ_=>rfl,rfl,rfl,.refl _⟩,trivial⟩) ?_
 have wh:=Q0 T zo bp G5;unfold jI at w9 MJ;unfold jI CD;refine sR ?_;refine sC wh ?_;refine sC w9 ?_;refine sC MJ ?_;rw[iY];refine sS (λp0=>?_) λp0=>?_
 ·have p0:pE T F<0:=qL p0;rw[ae p0];exact .aI _ _ (.cons _ _ _ _ (.agg _ _ (.cons _ _ _ _ (.none _) (.cons _ _ _ _ (.none _) .nil))) (.cons _ _ _ _ (.refl _) (.cons _ _ _ _ (.refl _) .nil)))
 have p0:¬pE T F<0:=of_decide_eq_false p0;rw[ab p0];obtain⟨s1,s2,s3,s4⟩:=cE p0;have hsn:=Fk.2 s3;have hlE:=cZ s1<|KX s3;have x':=Se W A M T fr zo bp G5 (λk=>bG T k==pE T F) 137 [.aB [aO<|mZ T],.aB [aa<|pE T F]] (by simp[an,Pure,cG]) (λx h1 h2=>zrU T (pE T F) x h1 h2) fr zo hfi (-1);rw[show l8 T (λk=>bG T k==pE T F) (fB T (-1)) fr=fC T F fr from rfl] at x';have OC:=zub W A M T fr zo G5 F rG (dT<|fC T F fr).toNat s4;rw[show(((dT<|fC T F fr).toNat:Nat):Int)=dT (fC T F fr) by omega] at OC;obtain⟨r1,r2⟩:=TX s4;have N4:=PB W A M T fr ((fC T F fr).take<|(fC T F fr).length-1) (by rw[gA];omega) (by rw[<-Hp];exact kG λx hx=>cZ s1<|AP hx);have uT:(lu T F (dT<|fC T F fr).toNat).length<=1000000000000:=by
  have:=Ak rG ZI;omega
 have Cy:=PB W A M T fr (lu T F (dT<|fC T F fr).toNat) uT (by rw[<-Hp];exact r1);rw[show((fC T F fr).take<|(fC T F fr).length-1).map (λn=>(M.getD n.toNat (0,0)).1)=oV M ((fC T F fr).take<|(fC T F fr).length-1) from rfl] at N4;rw[show(lu T F (dT<|fC T F fr).toNat).map (λn=>(M.getD n.toNat (0,0)).1)=oV M (lu T F (dT<|fC T F fr).toNat) from rfl] at Cy;generalize lu T F (dT<|fC T F fr).toNat=rnd at *;generalize fC T F fr=st at *;generalize pE T F=p at *;unfold jI at x' OC N4 Cy rR;refine sW ?_
 refine sE (G6 (args0:=[.aB [aO W.start,bY W.next,ix W.label,bY W.fair,aO A.start,bY A.next,ix A.jq,ix A.mi,bY A.fair,.dW,yr M,bY T,aO fr],aO fr,.fn (.func 137) [] [.loc 0 0,.loc 1 0],aO<|mZ T,aa (-1)]) (H0:=[.row true [aO<|mZ T],.row true [aa p]])
  (.cons _ _ _ _ (.refl _) (.cons _ _ _ _ (.refl _) (.cons _ _ _ _ (.fn _ _ _ _ _ .nil (.cons _ _ _ _ (.loc _ _ _ _ _ rfl (oN _)) (.cons _ _ _ _ (.loc _ _ _ _ _ rfl (oN _)) .nil))) (.cons _ _ _ _ (.refl _) (.cons _ _ _ _ (.refl _) .nil))))) x' (cG _) [7,8] rfl zc ⟨bw _<|yO rR,bw _<|cG _,by simp[au,aq],bw _<|cG _,trivial,trivial⟩ ⟨bu _ ⟨cG _,trivial⟩,bu _ ⟨trivial,trivial⟩,trivial⟩ (by simp only[bP,D.aQ,tp,Sx,V3,iT _<|JV _];rfl) (λi o ho=>by
   rcases i with _|_|i
   ·simp at ho;subst ho;simp only[ao.aQ,bP,tp];rfl
   ·simp at ho;subst ho;rfl
   simp at ho)) ?_
 rw[aK];refine sI ?_;refine sL (cA (l:=st) (k:=st.length-1) zo zo) ?_;rw[show st.getD (st.length-1) 0=dT st from rfl,show D.aQ (λi=>[7,8].getD i 0) (aO<|mZ T)=aO (mZ T) from tp _];refine sC OC ?_;rw[aK];refine sI ?_;refine⟨zo,zo,zs,?_⟩;refine sW ?_;rw[show(D.aM 1<|List.drop 0<|List.take (((st.length:Nat):Int)-1).toNat<|List.map (λn=>[aa n]) st)=aO (st.take<|st.length-1) by
  rw[show(((st.length:Nat):Int)-1).toNat=st.length-1 by omega,fQ,<-List.map_take];rfl]
 refine sC N4 ?_;refine sC Cy ?_;exact .refl _
end
def zzl:PC:=SO [Bi 15 .lss 14 13] (.seq (CX 15 0) (.seq (.block 1<|SO [Ia 16 3 12 14,LA 17 3 16,q 5 (.alloc [v0,v0,vN]),So 3 5 17] (.ops [Fa 18 2 3,Ld 19 18 1,LA 20 3 5,Cd 21 209 [20] 4,qd 22 (.oP 3 1 [21]) 12,qd 23 (.append 3 40 19 22) 31,Fd 24 2 3 63,qk (.store 1 24 23) 127] true))<|OP [Bi 25 .add 14 K1,qm 14 25]))
def c209:PC:=SO [Bx 1 0,q 2 (.alloc [v0,v0,vN])]<|SO [Fa 6 0 1,Lo 7 6,Fa 8 1 1,Lo 9 8,q 10 (.build [v0,v0,vN] [(0,1,7),(1,1,9)]),q 3 (.alloc [v0,v0,vN]),So 3 3 10] (.seq (SO [Fa 11 2 1,Lo 12 11,Ln 13 12,Mv 14 K0]<|BL 0 zzl) (.seq (.seq (.stop<|OP [Fa 26 0 1,Lo 27 26]) (.block 2<|SO [Bi 29 .eql 27<|cI 10,qm 28 29] (.cond 28 (.seq (.ops [Ca 30 265 [K1],Fa 31 2 3,Ld 32 31 2,Ja 33 3 32 K0 6,qd 34 (.mF 3 33) 14,Cd 35 264 [K8,30,34] 31,qk (.store 3 2 35) 63] true) .ret)<|SO [Bi 37 .eql 27<|cI 11,qm 36 37]<|If 36 (.seq (.ops [Ca 38 265 [K2],Fa 39 2 3,Ld 40 39 2,Ja 41 3 40 K0 6,qd 42 (.mF 3 41) 14,Cd 43 264 [K9,38,42] 31,qk (.store 3 2 43) 63] true) .ret))))<|SO [LA 44 3 3,So 3 2 44] .ret))
mutual
def de:Tree->Tree
 | .node k n ks=>if k=10 then cX 8 (cv 1 0)<|Sy ks else if k=11 then cX 9 (cv 2 0)<|Sy ks else .node k n<|Gk ks
def Sy:List Tree->Tree
 |[]=>default
 |t::_=>de t
def Gk:List Tree->List Tree
 |[]=>[]
 |t::r=>de t::Gk r
end
theorem VL:∀l,Gk l=l.map de
 |[]=>by simp only[Gk,gm]
 |t::r=>by simp only[Gk,fi,VL r]
theorem Hd(t:Tree)(hw:t.kind=10\/t.kind=11->0<t.width):de t=if t.kind=10 then cX 8 (cv 1 0)<|de<|t.az 0 else if t.kind=11 then cX 9 (cv 2 0)<|de<|t.az 0 else .node t.kind t.num<|t.kids.map de:=by
 cases t with
 |node k n ks =>
  rw[de,VL];rw[show(Tree.node k n ks).kind=k from rfl] at hw⊢;by_cases h:k=10
  ·rw[ae h,ae h]
   cases ks with
   |nil=>exact absurd (hw (.inl h))<|by simp[Tree.width,Tree.kids]
   |cons a r=>rfl
  rw[ab h,ab h];by_cases h':k=11
  ·rw[ae h',ae h']
   cases ks with
   |nil=>exact absurd (hw (.inr h'))<|by simp[Tree.width,Tree.kids]
   |cons a r=>rfl
  rw[ab h',ab h'];rfl
variable{k n:Int}{ks:List Tree}
theorem NT(h:¬fq bz (.node k n ks))(hk:∀u∈ks,u.wf bz):(Tree.node k n ks).wf bz:=(jG _ _).2 ⟨h,hk⟩
variable{t:Tree}
theorem zzi{f:Tree->Tree}(hw:t.wf bz)(hk:bz k=bz t.kind)(h3:k≠3->n=0)(hn:0<=n/\n<=63)(hf:∀j,j<t.width->(f<|t.az j).wf bz):(Tree.node k n<|t.kids.map f).wf bz:=by
 have h0:=((jG _ _).1 hw).1;refine NT ?_ λu hu=>?_
 ·unfold fq at *;have e1:(Tree.node k n<|t.kids.map f).kind=k:=rfl;have e2:(Tree.node k n<|t.kids.map f).num=n:=rfl;have e3:(Tree.node k n<|t.kids.map f).width=t.width:=(by simp[Tree.width,Tree.kids]);rw[e1,e2,e3,hk];omega
 obtain⟨v,hv,rfl⟩:=dq.1 hu;obtain⟨i,hi,rfl⟩:=jN.1 hv;have:=hf i hi;rwa [Tree.om hi] at this
theorem Kl(hw:t.wf bz):0<=t.num/\t.num<=63/\(t.kind≠3->t.num=0):=by
 have h0:=((jG _ _).1 hw).1;unfold fq at h0;omega
theorem RZ(h:k=1\/k=2\/k=3)(hn:0<=n/\n<=63)(h3:k≠3->n=0):(cv k n).wf bz:=NT (by
 unfold fq;have e1:(Tree.node k n []).kind=k:=rfl;have e2:(Tree.node k n []).num=n:=rfl;have e3:(Tree.node k n []).width=0:=rfl;rw[e1,e2,e3];rcases h with rfl|rfl|rfl<;>simp[bz]<;>omega) zs
theorem Wa{a b:Tree}(h:k=5\/k=6\/k=8\/k=9)(ha:a.wf bz)(hb:b.wf bz):(cX k a b).wf bz:=NT (by
 unfold fq;have e1:(Tree.node k 0 [a,b]).kind=k:=rfl;have e2:(Tree.node k 0 [a,b]).num=0:=rfl;have e3:(Tree.node k 0 [a,b]).width=2:=rfl;rw[e1,e2,e3];rcases h with rfl|rfl|rfl|rfl<;>simp[bz]) (by simpa using ⟨ha,hb⟩)
theorem pZ(hw:t.wf bz)(h:t.kind=4\/t.kind=7\/t.kind=10\/t.kind=11):0<t.width:=by
 have:=tR ((jG _ _).1 hw).1;omega
theorem Xn:∀(t:Tree),t.wf bz->(de t).wf bz:=by
 intro t
 induction t using Tree.ind with
 |h t ih =>
  intro hw;have hn:=Kl hw;rw[Hd t λh=>pZ hw zo];by_cases fh:t.kind=10
  ·rw[ae fh];have h0:=pZ hw zo;exact Wa zo (RZ zo zo zo)<|ih 0 h0<|gD hw h0
  rw[ab fh];by_cases jY:t.kind=11
  ·rw[ae jY];have h0:=pZ hw zo;exact Wa zo (RZ zo zo zo)<|ih 0 h0<|gD hw h0
  rw[ab jY];exact zzi hw rfl zo zo λj hj=>ih j hj<|gD hw hj
theorem YS:∀t:Tree,t.wf bz->ar ai 209 [aY t] (aY<|de t):=by
 intro t
 induction t using Tree.ind with
 |h t ih =>
  intro cu;have hs:=uw t cu;have fT:=hs.width;have tE:=tR ((jG _ _).1 cu).1;refine bK (fJ 45 [.agg 2 3] c209 Tryz.func209) ?_;have hE:=Hd t λh=>pZ cu zo;refine sR ?_
  refine wA (λk:Nat=>[(1,.loc 0 0),(2,.loc 1 0),(3,.loc 2 0),(12,.aM 3<|t.kids.map gO),(13,.sc (.int .i64 (t.kids.map gO).length)),(14,aa k)])
   (λk=>[.row true<|aN t,.row true [aa 0,aa 0,ax],.row true [aa t.kind,aa t.num,.own 3 k 0 k],.vec true k 3<|(t.kids.take k).map λu=>aN<|de u])
   (λk=>k<=t.width) (λk=>t.width-k) 0 zo (kS (iq 2 2 3 zs rfl rfl)<|o5 ⟨rfl,rfl,rfl,rfl,rfl,rfl,trivial⟩) ?_
  rintro k hk;refine sRS (λh1=>?_) λh1=>?_
  ·have al:k<t.width:=(by simpa [Tree.width] using h1);refine sL (dk al) ?_;refine sC (ih k al<|gD cu al) ?_;refine⟨by unfold je;simp only[fQ,u4,r7,bH,bU];omega,?_⟩;refine sW ?_;refine .inl ⟨by unfold dQ;rw[gf];unfold Tree.width at *;omega,?_⟩;refine sW ?_
   refine⟨k+1,zo,zd,aR 4 zs rfl ⟨.refl _,by simp[aq],.refl _,by simp[aq],.refl _,by simp[aq],.refl _,by simp only[aq];exact aV _<|lr t,.refl _,by simp[aq],.refl _,by simp[aq],trivial⟩
    ⟨⟨rfl,.refl _,bu _<|cM t⟩,⟨rfl,.refl _,by simp[au,aq]⟩,⟨rfl,.refl _,by simp[au,aq]⟩,⟨rfl,rfl,rfl,aZ<|Mf _<|kid_get? al,aV _<|db _ (λu=>cM _) _⟩,trivial⟩⟩
  have al:k=t.width:=by have:¬k<t.width:=by simpa [Tree.width] using h1
                        omega
  subst al
  refine b8 (rZ (nK 3) (env':=[(1,.loc 0 0),(2,.loc 1 0),(3,.loc 2 0)]) (H':=[.row true<|aN t,.row true [aa 0,aa 0,ax],.row true [aa t.kind,aa t.num,.aM 3<|(t.kids.map de).map gO],.vec false t.width 3<|(t.kids.take t.width).map λu=>aN<|de u])
   ⟨.refl _,.refl _,.refl _,trivial⟩ ⟨⟨.inl rfl,(λh=>by cases h),.refl _⟩,⟨.inl rfl,(λh=>by cases h),.refl _⟩,⟨.inl rfl,(λh=>by cases h),.cons _ _ _ _ (.refl _) (.cons _ _ _ _ (.refl _) (.cons _ _ _ _ (.own 3 _ _ _ _ _ _ _ rfl rfl (aZ<|by rw[fQ,jd<|by simp[Tree.width],Tree.width,eZ,wJ];exact qY λu _=>(vR _).symm)) (.refl _)))⟩,⟨.inr ⟨rfl,rfl⟩,λ_=>rfl,rfl,rfl,.refl _⟩,trivial⟩) ?_
  have k0:0<t.width->((t.kids.map de).map gO)[0]? = some (aN<|de<|t.az 0):=λh=>by
   rw[cU,cU,kid_get? h];simp[vR]
  refine sRS (λfh=>?_) λfh=>?_
  ·have fh:t.kind=10:=(by simpa using fh);rw[ae fh] at hE;refine sC (Xo 1) ?_;refine sL (k0<|pZ cu zo) ?_;refine sC (V2 8 (cv 1 0)<|de<|t.az 0) ?_;exact mM hE (.refl _)
  have fh:¬t.kind=10:=(by simpa using fh);rw[ab fh] at hE;refine sS (λjY=>?_) λjY=>?_
  ·have jY:t.kind=11:=(by simpa using jY);rw[ae jY] at hE;refine sC (Xo 2) ?_;refine sL (k0<|pZ cu zo) ?_;refine sC (V2 9 (cv 2 0)<|de<|t.az 0) ?_;exact mM hE (.refl _)
  have jY:¬t.kind=11:=(by simpa using jY);rw[ab jY] at hE;exact mM hE (.refl _)
variable(t:Tree)
theorem zrl(hs:Small t):ar ai 208 [aY t]<|if aS bz t=0 then .aI [aY t,aa 0] else .aI [aY<|cv 0 0,aa<|aS bz t]:=by
 refine dC fZ zs (by simp[an,c7]) ?_ (by split<;>simp[Pure,an,c7]);refine sR ?_;refine sC (Ad t hs) ?_;refine sS (λh=>?_) λh=>?_
 ·have h':aS bz t≠0:=(by simpa using h);rw[ab h'];exact sP
 have h':aS bz t=0:=by simpa using h
 rw[ae h'];exact sP
noncomputable def nS(t u:Tree):Tree×Int:=if aS bz t=0 then if aS bz u=0 then (u,0) else (cv 0 0,aS bz u) else (cv 0 0,aS bz t)
theorem zov(hs:Small t):ar ai 122 [aY t] (.aI [aY (nS t<|de t).1,.sc (.int .i64 (nS t<|de t).2)]):=by
 refine bL ?_;refine sC (Ad t hs) ?_;refine sS (λh=>?_) λh=>?_
 ·have h':aS bz t≠0:=(by simpa using h);rw[show nS t (de t)=(cv 0 0,aS bz t) by rw[nS,ab h']];exact sP
 have h':aS bz t=0:=by simpa using h
 have cu:=((qM _ _).1 h').2.2;refine sC (YS t cu) ?_;have hT:=zrl (de t)<|uw _<|Xn t cu;by_cases h2:aS bz (de t)=0
 ·rw[ae h2] at hT;rw[show nS t (de t)=(de t,0) by rw[nS,ae h',ae h2]];refine sC hT ?_;exact sP
 rw[ab h2] at hT;rw[show nS t (de t)=(cv 0 0,aS bz<|de t) by rw[nS,ae h',ab h2]];refine sC hT ?_;exact sP
mutual
def cP:Tree->ah
 | .node k n ks=>(if k=3 then [n] else [])++bM ks
def bM:List Tree->ah
 |[]=>[]
 |t::r=>cP t++bM r
end
mutual
def partsOf:Tree->List Tree
 | .node k n ks=>(if k=7\/k=8\/k=9 then [.node k n ks] else [])++bA ks
def bA:List Tree->List Tree
 |[]=>[]
 |t::r=>partsOf t++bA r
end
theorem GK:cP t=(if t.kind=3 then [t.num] else [])++bM t.kids:=by cases t;rw[cP];rfl
theorem HJ:partsOf t=(if t.kind=7\/t.kind=8\/t.kind=9 then [t] else [])++bA t.kids:=by cases t;rw[partsOf];rfl
theorem Cp:∀l,bM l=l.flatMap cP
 |[]=>rfl
 |t::r=>by rw[bM,Cp r,List.flatMap_cons]
theorem De:∀l,bA l=l.flatMap partsOf
 |[]=>rfl
 |t::r=>by rw[bA,De r,List.flatMap_cons]
variable{t:Tree}{k:Nat}
theorem Rh(h:k<t.width):t.kids.take (k+1)=t.kids.take k++[t.az k]:=by
 rw[lI,kid_get? h];rfl
theorem oi(h:k<t.width):bM (t.kids.take<|k+1)=bM (t.kids.take k)++cP (t.az k):=by
 rw[Rh h,Cp,Cp,List.flatMap_append];simp
theorem oq(h:k<t.width):bA (t.kids.take<|k+1)=bA (t.kids.take k)++partsOf (t.az k):=by
 rw[Rh h,De,De,List.flatMap_append];simp
def gQ(A:ah)(xs:ah):ah:=xs.foldl (λA x=>if A.contains x=true then A else A++[x]) A
noncomputable def bX(P:List Tree)(xs:List Tree):List Tree:=xs.foldl (λP f=>if P.any (dR f)=true then P else P++[f]) P
variable(A:ah)
theorem qA(A x y:ah):gQ A (x++y)=gQ (gQ A x) y:=List.foldl_append
variable(P:List Tree)
theorem jF(P x y:List Tree):bX P (x++y)=bX (bX P x) y:=List.foldl_append
theorem Gn(x:Int):gQ A [x]=if A.contains x=true then A else A++[x]:=rfl
theorem rp(x:Tree):bX P [x]=if P.any (dR x)=true then P else P++[x]:=rfl
variable(xs:ah)
theorem uD:∀A,(gQ A xs).length<=A.length+xs.length:=by
 induction xs with
 |nil=>intro A;simp[gQ]
 |cons x r ih =>
  intro A;rw[show x::r=[x]++r from rfl,qA,Gn];split
  ·have:=ih A;simp only[cq,jA];omega
  have:=ih<|A++[x];simp only[cq,jA] at *;omega
theorem m9(xs:List Tree):∀A,(bX A xs).length<=A.length+xs.length:=by
 induction xs with
 |nil=>intro A;simp[bX]
 |cons x r ih =>
  intro A;rw[show x::r=[x]++r from rfl,jF,rp];split
  ·have:=ih A;simp only[cq,jA];omega
  have:=ih<|A++[x];simp only[cq,jA] at *;omega
variable{P:List Tree}
theorem Ws{x:Tree}:P.any (dR x)↔x∈P:=by
 rw[kJ];constructor
 ·rintro⟨y,hy,h⟩;rw[AA] at h;exact h▸hy
 exact λh=>⟨x,h,AA.2 rfl⟩
variable{x:Int}
theorem XE:∀A,x∈gQ A xs↔x∈A\/x∈xs:=by
 induction xs with
 |nil=>intro A;simp[gQ]
 |cons y r ih =>
  intro A;rw[show y::r=[y]++r from rfl,qA,Gn,ih];split
  ·rename_i h;rw[po] at h;simp only[dt,cB];constructor
   ·rintro(a|a)<;>simp[a]
   rintro(a|rfl|a)
   ·exact .inl a
   ·exact .inl h
   exact .inr a
  simp only[dt,cB];constructor
  ·rintro((a|a)|a)<;>simp[a]
  rintro(a|a|a)<;>simp[a]
theorem MB{x:Tree}(xs:List Tree):∀A,x∈bX A xs↔x∈A\/x∈xs:=by
 induction xs with
 |nil=>intro A;simp[bX]
 |cons y r ih =>
  intro A;rw[show y::r=[y]++r from rfl,jF,rp,ih];split
  ·rename_i h;rw[Ws] at h;simp only[dt,cB];constructor
   ·rintro(a|a)<;>simp[a]
   rintro(a|rfl|a)
   ·exact .inl a
   ·exact .inl h
   exact .inr a
  simp only[dt,cB];constructor
  ·rintro((a|a)|a)<;>simp[a]
  rintro(a|a|a)<;>simp[a]
theorem zpA:∀A,A.Nodup->(gQ A xs).Nodup:=by
 induction xs with
 |nil=>intro A h;exact h
 |cons y r ih =>
  intro A h;rw[show y::r=[y]++r from rfl,qA,Gn];split
  ·exact ih A h
  rename_i q;rw[po] at q;refine ih _<|yJ.2 ⟨h,zs,λa ha b hb=>?_⟩;rw[cB] at hb;subst hb;exact λe=>q<|e▸ha
mutual
theorem KZ:∀t:Tree,(cP t).length<=t.size
 | .node k n ks=>by
  rw[cP,Tree.size,cq];have:=WN ks;split<;>simp<;>omega
theorem WN:∀l:List Tree,(bM l).length<=Tree.nQ l
 |[]=>by simp[bM]
 |t::r=>by
  rw[bM,Tree.nQ,cq];have:=KZ t;have:=WN r;omega
end
mutual
theorem IV:∀t:Tree,(partsOf t).length<=t.size
 | .node k n ks=>by
  rw[partsOf,Tree.size,cq];have:=Tm ks;split<;>simp<;>omega
theorem Tm:∀l:List Tree,(bA l).length<=Tree.nQ l
 |[]=>by simp[bA]
 |t::r=>by
  rw[bA,Tree.nQ,cq];have:=IV t;have:=Tm r;omega
end
def lY(k:Int):Int:=if k=10\/k=11 then -1 else bz k
theorem vq:t.wf lY->t.wf bz:=by
 induction t using Tree.ind with
 |h t ih =>
  intro h;rw[jG] at h⊢;refine⟨?_,λu hu=>?_⟩
  ·have h1:=h.1;unfold fq lY at h1;unfold fq;by_cases q:t.kind=10\/t.kind=11
   ·rw[ae q] at h1;omega
   rw[ab q] at h1;exact h1
  obtain⟨j,hj,rfl⟩:=jN.1 hu;rw[<-Tree.om hj] at *;exact ih j hj<|h.2 _<|by rw[Tree.om hj];exact ib hj
theorem FR(h:t.wf lY):(t.kind=1\/t.kind=2\/t.kind=3)/\t.width=0\/(t.kind=4\/t.kind=7)/\t.width=1\/(t.kind=5\/t.kind=6\/t.kind=8\/t.kind=9)/\t.width=2:=by
 have h1:=((jG _ _).1 h).1;have h2:=tR ((jG _ _).1<|vq h).1;have h3:¬(t.kind=10\/t.kind=11):=λq=>by
  unfold fq lY at h1;rw[ae q] at h1;omega
 omega
theorem Hz{k:Int}(h:¬fq lY (.node k n ks))(hk:∀u∈ks,u.wf lY):(Tree.node k n ks).wf lY:=(jG _ _).2 ⟨h,hk⟩
theorem RW:∀(t:Tree),t.wf bz->(de t).wf lY:=by
 intro t
 induction t using Tree.ind with
 |h t ih =>
  intro hw;have hn:=Kl hw;have tE:=tR ((jG _ _).1 hw).1;have m2:∀{k c:Int} {b:Tree},k=8\/k=9->c=1\/c=2->b.wf lY->(cX k (cv c 0) b).wf lY:=λ{k c b} hk hc hb=>Hz (by
   unfold fq;have e1:(Tree.node k 0 [cv c 0,b]).kind=k:=rfl;have e2:(Tree.node k 0 [cv c 0,b]).num=0:=rfl;have e3:(Tree.node k 0 [cv c 0,b]).width=2:=rfl;rw[e1,e2,e3];rcases hk with rfl|rfl<;>simp[lY,bz]) (by
   intro u hu;rw[dZ,cB] at hu;rcases hu with rfl|rfl
   ·refine Hz ?_ zs;unfold fq;have e1:(Tree.node c 0 []).kind=c:=rfl;have e2:(Tree.node c 0 []).num=0:=rfl;have e3:(Tree.node c 0 []).width=0:=rfl;rw[e1,e2,e3];rcases hc with rfl|rfl<;>simp[lY,bz]
   exact hb)
  rw[Hd t λh=>pZ hw zo];by_cases fh:t.kind=10
  ·rw[ae fh];have h0:=pZ hw zo;exact m2 zo zo<|ih 0 h0<|gD hw h0
  rw[ab fh];by_cases jY:t.kind=11
  ·rw[ae jY];have h0:=pZ hw zo;exact m2 zo zo<|ih 0 h0<|gD hw h0
  rw[ab jY];refine Hz ?_ λu hu=>?_
  ·unfold fq lY;have e1:(Tree.node t.kind t.num<|t.kids.map de).kind=t.kind:=rfl;have e2:(Tree.node t.kind t.num<|t.kids.map de).num=t.num:=rfl;have e3:(Tree.node t.kind t.num<|t.kids.map de).width=t.width:=aK ..;rw[e1,e2,e3,ab zo];exact((jG _ _).1 hw).1
  obtain⟨v,hv,rfl⟩:=dq.1 hu;obtain⟨j,hj,rfl⟩:=jN.1 hv;rw[<-Tree.om hj];exact ih j hj<|gD hw hj
def ti(k:Int)(c:Bool)(h:List Bool):Bool :=
 if k=1 then true else if k=2 then false else if k=4 then !(h.getD 0 false) else if k=5 then h.getD 0 false&&h.getD 1 false else if k=6 then h.getD 0 false||h.getD 1 false
 else if k=8 then h.getD 1 false||(h.getD 0 false&&c) else if k=9 then h.getD 1 false&&(h.getD 0 false||c) else c
mutual
def eu(c:Tree->Bool):Tree->Bool
 | .node k n ks=>ti k (c (.node k n ks))<|H8 c ks
def H8(c:Tree->Bool):List Tree->List Bool
 |[]=>[]
 |t::r=>eu c t::H8 c r
end
theorem Rs(c:Tree->Bool):∀l,H8 c l=l.map (eu c)
 |[]=>rfl
 |t::r=>by rw[H8,Rs c r,fi]
variable(c:Tree->Bool)
theorem Vq(t:Tree):eu c t=ti t.kind (c t) (t.kids.map<|eu c):=by cases t;rw[eu,Rs];rfl
variable{j:Nat}
theorem TH(h:j<t.width):(t.kids.map<|eu c).getD j false=eu c (t.az j):=by
 rw[aE,cU,kid_get? h];rfl
noncomputable def uu(A:ah)(P:List Tree)(g:Tree):Nat:=if g.kind=3 then (ee (λa=>g.num==a) A).toNat else A.length+(ee (dR g) P).toNat
noncomputable def dJ(A:ah)(P:List Tree)(s:Nat)(g:Tree):Bool:=s.testBit<|uu A P g
def Told(A:ah)(P:List Tree)(t:Tree):Prop:=(∀x∈cP t,x∈A)/\∀f∈partsOf t,f∈P
variable{l:List Tree}
theorem zoh(h:t∈l)(hx:x∈cP t):x∈bM l:=by
 rw[Cp];exact List.mem_flatMap.2 ⟨t,h,hx⟩
theorem Y2{x:Tree}(h:t∈l)(hx:x∈partsOf t):x∈bA l:=by
 rw[De];exact List.mem_flatMap.2 ⟨t,h,hx⟩
theorem SS(h:j<t.width):t.az j∈t.kids:=by rw[Tree.om h];exact ib h
theorem Told.az{A:ah}{P:List Tree}{t:Tree}(h:Told A P t){j:Nat}(hj:j<t.width):Told A P (t.az j) :=
 ⟨λx hx=>h.1 x<|by rw[GK];exact yN _<|zoh (SS hj) hx,λx hx=>h.2 x<|by rw[HJ];exact yN _<|Y2 (SS hj) hx⟩
theorem Told.atom{A:ah}(h:Told A P t)(h3:t.kind=3):t.num∈A:=h.1 _<|by rw[GK,ae h3];simp
theorem Told.part{A:ah}(h:Told A P t)(h3:t.kind=7\/t.kind=8\/t.kind=9):t∈P:=h.2 _<|by rw[HJ,ae h3];simp
mutual
theorem Td:∀(t:Tree),∀f∈partsOf t,(∀x∈cP f,x∈cP t)/\(∀g∈partsOf f,g∈partsOf t)
 | .node k n ks=>λf hf=>by
  rw[partsOf,dt] at hf;rcases hf with hf|hf
  ·split at hf
   ·rw[cB] at hf;subst hf;exact⟨λx h=>h,λx h=>h⟩
   cases hf
  obtain⟨h1,h2⟩:=QL ks f hf;exact⟨λx hx=>by rw[cP];exact yN _<|h1 x hx,λx hx=>by rw[partsOf];exact yN _<|h2 x hx⟩
theorem QL:∀(l:List Tree),∀f∈bA l,(∀x∈cP f,x∈bM l)/\(∀g∈partsOf f,g∈bA l)
 |[]=>λf hf=>by cases hf
 |t::r=>λf hf=>by
  rw[bA,dt] at hf;rcases hf with hf|hf
  ·obtain⟨h1,h2⟩:=Td t f hf;exact⟨λx hx=>by rw[bM];exact Ep _<|h1 x hx,λx hx=>by rw[bA];exact Ep _<|h2 x hx⟩
  obtain⟨h1,h2⟩:=QL r f hf;exact⟨λx hx=>by rw[bM];exact yN _<|h1 x hx,λx hx=>by rw[bA];exact yN _<|h2 x hx⟩
end
mutual
theorem V5(kd:Int->Int):∀(t:Tree),t.wf kd->∀f∈partsOf t,f.wf kd/\(f.kind=7\/f.kind=8\/f.kind=9)
 | .node k n ks=>λhw f hf=>by
  rw[partsOf,dt] at hf;rcases hf with hf|hf
  ·split at hf
   ·rename_i h;rw[cB] at hf;subst hf;exact⟨hw,h⟩
   cases hf
  exact Pu kd ks (λu hu=>((jG _ _).1 hw).2 u hu) f hf
theorem Pu(kd:Int->Int):∀(l:List Tree),(∀u∈l,u.wf kd)->∀f∈bA l,f.wf kd/\(f.kind=7\/f.kind=8\/f.kind=9)
 |[]=>λ_ f hf=>by cases hf
 |t::r=>λhw f hf=>by
  rw[bA,dt] at hf;rcases hf with hf|hf
  ·exact V5 kd t (hw t zs) f hf
  exact Pu kd r (λu hu=>hw u<|by simp[hu]) f hf
end
mutual
theorem Fm:∀(t:Tree),t.wf bz->∀x∈cP t,0<=x/\x<=63
 | .node k n ks=>λhw x hx=>by
  rw[cP,dt] at hx;rcases hx with hx|hx
  ·split at hx
   ·rw[cB] at hx;subst hx;have:=Kl hw;exact⟨this.1,this.2.1⟩
   cases hx
  exact Ud ks (λu hu=>((jG _ _).1 hw).2 u hu) x hx
theorem Ud:∀(l:List Tree),(∀u∈l,u.wf bz)->∀x∈bM l,0<=x/\x<=63
 |[]=>λ_ f hf=>by cases hf
 |t::r=>λhw f hf=>by
  rw[bM,dt] at hf;rcases hf with hf|hf
  ·exact Fm t (hw t zs) f hf
  exact Ud r (λu hu=>hw u<|by simp[hu]) f hf
end
variable(s:Nat)
theorem O0(s k:Nat)(hk:k<=63):(s:Int).fdiv (2^min ((k:Int)).toNat 64)=((s/2^k:Nat):Int):=by
 rw[bQ,sq zo,Int.fdiv_eq_ediv_of_nonneg _<|by exact Int.le_of_lt<|Int.pow_pos zc];rw[Int.natCast_ediv];simp
theorem zvH(n:Nat):jv .and .i64 (n:Int) 1=((n%2:Nat):Int):=by
 have e:(BitVec.ofInt 64 (n:Int) &&& BitVec.ofInt 64 1).toNat=n%2:=by
  rw[BitVec.toNat_and];have e1:(BitVec.ofInt 64 (n:Int)).toNat=n%18446744073709551616:=(by rw[BitVec.toNat_ofInt];omega);have e2:(BitVec.ofInt 64 1).toNat=1:=zc;rw[e1,e2,Nat.and_one_is_mod];omega
 show IntKind.i64.wrap ((BitVec.ofInt 64 (n:Int) &&& BitVec.ofInt 64 1).toNat:Int)=_;rw[e,gf];omega
theorem Sd(s k:Nat):s.testBit k=(((s/2^k%2:Nat):Int)==1):=by
 rw[Nat.testBit_eq_decide_div_mod_eq,kb,ja,gG];omega
theorem Ol(s k:Nat)(hk:k<=63):(jv .and .i64 ((s:Int).fdiv<|2^min ((k:Int)).toNat 64) 1==1)=s.testBit k:=by
 rw[O0 s k hk,zvH,Sd]
theorem Ex(s k:Nat)(hk:k<=63):(((s:Int).fdiv<|2^min ((k:Int)).toNat 64).tmod 2==1)=s.testBit k:=by
 rw[O0 s k hk,Sd]
 congr 1
theorem zy4(a i:Nat)(h:a<2^i)(hi:i<=40):jv .or .i64 (a:Int) ((2^i:Nat):Int)=((a+2^i:Nat):Int):=by
 have hp:2^i<=2^40:=Ae zo hi;have h40:(2:Nat)^40=1099511627776:=zc;have e:(BitVec.ofInt 64 (a:Int) ||| BitVec.ofInt 64 ((2^i:Nat):Int)).toNat=a+2^i:=by
  rw[BitVec.toNat_or];have e1:(BitVec.ofInt 64 (a:Int)).toNat=a:=(by rw[BitVec.toNat_ofInt];omega);have e2:(BitVec.ofInt 64 ((2^i:Nat):Int)).toNat=2^i:=by
   generalize 2^i=z at *;rw[BitVec.toNat_ofInt];omega
  have:=Nat.two_pow_add_eq_or_of_lt h 1;rw[Nat.mul_one] at this;rw[e1,e2,Nat.or_comm,<-this,Nat.add_comm]
 show IntKind.i64.wrap ((BitVec.ofInt 64 (a:Int) ||| BitVec.ofInt 64 ((2^i:Nat):Int)).toNat:Int)=_;rw[e,gf];omega
def qt(h:ay):Nat->Nat
 |0=>0
 |i+1=>if h i=true then qt h i+2^i else qt h i
theorem D2(h:ay):∀n,qt h n<2^n
 |0=>by rw[qt];exact Nat.one_pos
 |n+1=>by
  have:=D2 h n;rw[qt,Nat.pow_succ];split<;>omega
theorem OU(h:ay):∀n i,i<n->(qt h n).testBit i=h i
 |0,i,hi=>zo
 |n+1,i,hi=>by
  have hl:=D2 h n;rw[qt];by_cases e:i=n
  ·subst e;cases q:h i
   ·rw[ab zc];exact Nat.testBit_lt_two_pow hl
   rw[ae rfl,Nat.add_comm];rw[Nat.testBit_two_pow_add_eq,Nat.testBit_lt_two_pow hl];rfl
  have:=OU h n i zo;split
  ·rw[Nat.add_comm,Nat.testBit_two_pow_add_gt zo];exact this
  exact this
def s8(g:Tree):Tree:=if g.kind=7 then g.az 0 else g
noncomputable def hK(A:ah)(P:List Tree)(s i:Nat):Bool:=eu (dJ A P s)<|s8<|P.getD i default
noncomputable def qV(A:ah)(P:List Tree)(s:Nat):Nat:=qt (hK A P s) P.length
theorem zuv(P:List Tree)(s t:Nat)(hs:s<2^(A.length+P.length)):(qV A P t==s/2^A.length)=(List.range P.length).all λi=>hK A P t i==s.testBit (A.length+i):=by
 rw[kb,gG,ki];have hd:s/2^A.length<2^P.length:=by
  rw[Nat.div_lt_iff_lt_mul<|Nat.two_pow_pos _,Bc,<-Nat.pow_add];exact hs
 constructor
 ·intro h i hi;have hi:=fX.1 hi;rw[gG,<-OU (hK A P t) P.length i hi];have:qt (hK A P t) P.length=s/2^A.length:=h;rw[this,Nat.testBit_div_two_pow,Nat.add_comm]
 intro h;apply Nat.eq_of_testBit_eq;intro i;by_cases hi:i<P.length
 ·have:=h i<|fX.2 hi;rw[gG] at this;rw[show(qV A P t).testBit i=hK A P t i from OU _ _ i hi,this,Nat.testBit_div_two_pow,Nat.add_comm]
 have hle:2^P.length<=2^i:=Ae zo zo;exact(Nat.testBit_lt_two_pow<|vh (D2 (hK A P t) P.length) hle).trans (Nat.testBit_lt_two_pow<|vh hd hle).symm
def kN(A:ah)(s:Nat)(is:Bool):Nat->Int
 |0=>0
 |i+1=>if (s.testBit i==is)=true then jv .or .u64 (kN A s is i)<|2^(A.getD i 0).toNat else kN A s is i
def fu(p:ay)(k:Nat):ah:=((List.range k).filter p).map λi:Nat=>(i:Int)
variable(p:ay)
theorem zC(k:Nat):fu p (k+1)=if p k=true then fu p k++[(k:Int)] else fu p k:=by
 unfold fu;rw[qy,Fh,nZ];simp only[BD,List.filter_nil];split<;>simp
theorem rS(k:Nat):(fu p k).length<=k:=by
 unfold fu;rw[aK];exact iv (Aw _ _) zs
noncomputable def gX(A:ah)(P:List Tree)(g:Tree)(s:Nat):Bool :=
 if g.kind=8 then !(eu (dJ A P s) g)||eu (dJ A P s) (g.az 1) else eu (dJ A P s) g||!(eu (dJ A P s)<|g.az 1)
noncomputable def yi(A:ah)(P:List Tree)(n:Nat)(g:Tree):ah:=fu (gX A P g)<|2^n
noncomputable def nF(A:ah)(P:List Tree)(n k:Nat):aj:=((P.take k).filter λg=>g.kind != 7).map<|yi A P n
theorem Va(P:List Tree)(n:Nat)(h:k<P.length):nF A P n (k+1)=if (P.getD k default).kind=7 then nF A P n k else nF A P n k++[yi A P n<|P.getD k default]:=by
 unfold nF;rw[lI,aJ h,Bj,Fh,nZ,aE,aJ h];simp only[BD,List.filter_nil,nR];by_cases q:P[k].kind=7
 ·simp[q]
 simp[q]
theorem HM(P:List Tree)(n k:Nat):(nF A P n k).length<=k:=by
 unfold nF;rw[aK];exact iv (Aw _ _)<|by simp;omega
noncomputable def vJ(A:ah)(P:List Tree)(n s:Nat):ah:=fu (λt=>qV A P t==s/2^A.length)<|2^n
noncomputable def mK(A:ah)(P:List Tree)(f:Tree):bS :=
 ⟨fu (λs=>eu (dJ A P s) f)<|2^(A.length+P.length),(List.range<|2^(A.length+P.length)).map<|vJ A P<|A.length+P.length,
  (List.range<|2^(A.length+P.length)).map λs=>kN A s true A.length,(List.range<|2^(A.length+P.length)).map λs=>kN A s false A.length,nF A P (A.length+P.length) P.length⟩
def m6(xs:ah):ah:=fu (λn=>xs.contains (n:Int)) 64
noncomputable def yE(f:Tree):D :=
 let A:=m6<|cP f
 let P:=bX []<|partsOf f
 if 10<A.length+P.length then .aI [lX ⟨[],[],[],[],[]⟩,aa 2] else .aI [lX<|mK A P f,aa 0]
theorem Ou{xs:ah}(h:∀x∈xs,0<=x/\x<=63):x∈m6 xs↔x∈xs:=by
 unfold m6 fu;simp only[dq,rP,fX,po];constructor
 ·rintro⟨n,⟨_,h2⟩,rfl⟩;exact h2
 intro hx;have:=h x hx;exact⟨x.toNat,⟨zo,by rw[show((x.toNat:Nat):Int)=x by omega];exact hx⟩,zo⟩
variable{f:Tree}
theorem KF(hw:f.wf bz):Told (m6<|cP f) (bX []<|partsOf f) f :=
 ⟨λx hx=>(Ou<|Fm f hw).2 hx,λx hx=>(MB _ _).2 (.inr hx)⟩
variable{g:Tree}
theorem zsl(hw:f.wf bz)(hg:g∈bX [] (partsOf f)):Told (m6<|cP f) (bX []<|partsOf f) g:=by
 have hg:g∈partsOf f:=((MB _ _).1 hg).resolve_left zs;obtain⟨h1,h2⟩:=Td f g hg;have h:=KF hw;exact⟨λx hx=>h.1 x<|h1 x hx,λx hx=>h.2 x<|h2 x hx⟩
theorem zsg:∀a b:Tree,Small a->ar ai 268 [aY a,aY b] (aD<|dR a b):=by
 intro a
 induction a using Tree.ind with
 |h a ih =>
  intro b hs;refine bL ?_;have no:a.kind≠b.kind\/a.num≠b.num\/a.kids.length≠b.kids.length->false=dR a b:=λh=>Dp (by rintro rfl;simp at h);refine sS (λh1=>?_) λh1=>?_
  ·exact cd<|bJ (λx=>aD x)<|no (.inl<|by simpa using h1)
  refine sS (λh2=>?_) λh2=>?_
  ·exact cd<|bJ (λx=>aD x)<|no (.inr (.inl<|by simpa using h2))
  refine sS (λh3=>?_) λh3=>?_
  ·exact cd<|bJ (λx=>aD x)<|no (.inr (.inr<|by simp at h3;omega))
  simp at h1 h2 h3;have fT:=hs.width
  refine Bo (λk:Nat=>[(2,.loc 0 0),(3,.loc 1 0),(29,.sc (.int .i64 (a.kids.map gO).length)),(30,aa k)]) (λ_=>[.row true<|aN a,.row true<|aN b])
   (λk=>k<=a.width/\∀j,j<k->a.az j=b.az j) (λk=>a.width-k) 0 ⟨zo,λj h=>zo⟩ (rh ⟨rfl,rfl,rfl,rfl,trivial⟩) ?_
  rintro k ⟨hk,bR⟩;refine sRS (λh4=>?_) λh4=>?_
  ·have al:k<a.width:=(by simpa [Tree.width] using h4);refine sL (dk al) ?_;refine sL (dk (t:=b)<|by unfold Tree.width at *;omega) ?_;refine sC (ih k al (b.az k)<|hs.az al) ?_;refine sS (λh5=>?_) λh5=>?_
   ·exact cd<|bJ (λx=>aD x)<|Dp<|by rintro rfl;simp[dR] at h5
   simp[AA] at h5;refine .inl ⟨by unfold dQ;rw[gf];unfold Tree.width at *;omega,?_⟩;refine sW ?_;refine⟨k+1,⟨zo,λj hj=>?_⟩,zd,rh ⟨rfl,rfl,rfl,rfl,trivial⟩⟩;by_cases e:j=k
   ·subst e;exact h5
   exact bR j zo
  have al:¬k<a.width:=(by simpa [Tree.width] using h4);exact cd<|bJ (λx=>aD x)<|N3<|Tree.Mj h1 h2 (by unfold Tree.width;omega) λj hj=>bR j zo
variable{n:Nat}{H:aF}
theorem u5{l:fE}(h:l.length<=n):n4 H (List.drop 0<|List.take n l) l:=by rw[cx h];exact iX _
def b6(P:List Tree):fE:=P.map aN
variable(P:List Tree)
@[simp] theorem qW:(b6 P).length=P.length:=aK ..
@[simp] theorem dX:fc<|b6 P:=db _ (λt=>cM t) _
variable{m:Nat}
@[simp] theorem zvU:bg m (b6 P)↔True:=⟨λ_=>trivial,λ_=>aV _<|dX P⟩
theorem yF{P:List Tree}{z:Nat}(hz:z=k)(h:k<P.length):(b6 P)[z]? = some (aN<|P.getD k default):=by
 subst hz;unfold b6;rw[cU,aJ h,aE,aJ h];rfl
theorem Bw(z:bh):(List.drop 0 (List.take P.length<|b6 P)++List.drop 0 (List.take 1 [z]))[0+((P.length-0:Nat):Int).toNat]? = some z:=by
 rw[cx zs,gJ zs];simp
theorem zX(t:Tree)(z:bh):(List.drop 0 (List.take P.length<|b6 P)++List.drop 0 (List.take 1 [z])).set (0+((P.length-0:Nat):Int).toNat) [aa t.kind,aa t.num,.aM 3<|t.kids.map gO]=b6 (P++[t]):=by
 rw[cx zs,List.set_append_right _ _ zs];simp[b6,aN]
def mD(A:ah)(P:List Tree):D:=.aB [aO A,.aM 3<|b6 P]
@[simp] theorem ZB(P:List Tree):Pure<|mD A P:=by simp[mD,Pure,an,cG,dX]
def dj(A:ah)(P:List Tree):aF:=[.row true [.own 1 A.length 0 A.length,.own 2 P.length 0 P.length],.vec true A.length 1<|aA A,.vec true P.length 3<|b6 P]
variable{P:List Tree}
theorem v7{A:ah}(hm:3<=m):∀o∈dj A P,o.under m:=by
 intro o ho;simp only[dj,dZ,rH,or_false] at ho;rcases ho with rfl|rfl|rfl<;>simp[ao.under,au,aq]<;>omega
theorem wH{A:ah}(hm:3<=m):fo m<|dj A P:=by
 have:=v7 (A:=A) (P:=P) hm;unfold dj at *;exact⟨this _ zs,this _ zs,this _ zs,trivial⟩
variable(l:List Tree)
theorem NC(hl:l.length<=9223372036854775807)(p:Tree->Bool)(cl:FuncId)(cap:bh)(hp:an cap)(hc:∀a∈l,ar ai cl (aY a::cap)<|aD<|p a) :
  ar ai 154 [.aM 3<|b6 l,.fn (.func cl) [] cap] (aa<|ee p l):=by
 refine dC fZ zs (by simp[an,Pure,hp,dX]) ?_ (by simp[Pure]);refine sR ?_;rw[qW];have fin:∀{z:Int},z=ee p l->Deep [] (aa z) (aa<|ee p l):=λh=>h▸.refl _;refine bt [0,1,7] (λk:Nat=>[(8,aa k)]) (λ_=>[]) (λk=>k<=l.length/\∀j (hj:j<k) (hl:j<l.length),p l[j]=false) (λk=>l.length-k) 0 ?_;refine sW ?_;refine⟨⟨zo,λj hj=>zo⟩,by exact sK,rfl,?_⟩;rintro k ⟨hk,da⟩;refine br (λh=>?_) λh=>?_
 ·have al:k<l.length:=sO;refine⟨zo,aN l[k],by unfold b6;rw[cU,bQ,aJ al];rfl,?_⟩;refine sW ?_;refine sC (hc _<|ib al) ?_;refine sS (λh2=>?_) λh2=>?_
  ·exact fin (wK al h2 λj hj=>da j hj zo).symm
  refine sI ?_;refine⟨k+1,⟨zo,λj hj hl=>?_⟩,zd,aL (by exact sK) rfl⟩;by_cases e:j=k
  ·subst e;exact h2
  exact da j zo hl
 have al:¬k<l.length:=sO;exact fin (AT λj hj=>da j zo hj).symm
theorem JF(hl:l.length<=9223372036854775807)(p:Tree->Bool)(cl:FuncId)(cap:bh)(hp:an cap)(hc:∀a∈l,ar ai cl (aY a::cap)<|aD<|p a) :
  ar ai 237 [.aM 3<|b6 l,.fn (.func cl) [] cap] (aD<|l.any p):=by
 refine dC fZ zs (by simp[an,Pure,hp,dX]) ?_ (by simp[Pure]);refine sR ?_;refine sC (NC l hl p cl cap hp hc) ?_;rw[rW];exact .refl _
theorem YA(f:Tree)(hf:Small f)(g:Tree):ar ai 267 [aY g,.aB<|aN f]<|aD<|dR f g:=by
 refine bL ?_;refine sC (zsg f g hf) ?_;exact .refl _
theorem ID(P:List Tree)(hP:P.length<=1000000)(f:Tree)(hf:Small f):ar ai 211 [mD A P,aY f]<|aa<|ee (dR f) P:=by
 refine bK fZ ?_;unfold mD;refine sR ?_;refine sN (NC P zo (dR f) 267 [.aB<|aN f] (by simp[an,Pure,cM]) λa _=>YA f hf a) ?_;exact .refl _
theorem oH(h:k<t.width):(bM<|t.kids.take k).length+(cP<|t.az k).length<=(bM t.kids).length:=by
 rw[<-cq,<-oi h]
 conv=>rhs;rw[<-List.take_append_drop (k+1) t.kids,Cp,List.flatMap_append,<-Cp]
 simp
theorem oU(h:k<t.width):(bA<|t.kids.take k).length+(partsOf<|t.az k).length<=(bA t.kids).length:=by
 rw[<-cq,<-oq h]
 conv=>rhs;rw[<-List.take_append_drop (k+1) t.kids,De,List.flatMap_append,<-De]
 simp
def YX(t:Tree):Prop:=∀(A:ah) (P:List Tree),A.length+(cP t).length<=1000->P.length+(partsOf t).length<=1000 ->
  cp ai 123 [.loc 0 0,aY t] (dj A P) (.aI []) (dj (gQ A<|cP t)<|bX P<|partsOf t)
theorem zr4:∀t:Tree,t.wf bz->YX t:=by
 intro t
 induction t using Tree.ind with
 |h t ih =>
  intro cu A P hA hP;have hs:=uw t cu;have fT:=hs.width;have tE:=tR ((jG _ _).1 cu).1;refine sy fZ zs (by simp[dj]) ?_ trivial;have eA:=GK t;have eP:=HJ t;have FZ:=uD (cP t) A;unfold dj;refine sRS (λk3=>?_) λk3=>?_
  ·have k3:t.kind=3:=(by simpa using k3);rw[ae k3] at eA;rw[ab zo] at eP;rw[eA,cq,jA] at hA;refine sN (zku A zo t.num) ?_;cases r:A.contains t.num
   ·have CI:gQ A [t.num]=A++[t.num]:=(by rw[Gn,ab<|by rw[r];decide]);refine sWJ ?_;refine b8 (aR 5 (env':=[(0,.loc 0 0),(49,.aM 3<|t.kids.map gO),(50,.sc (.int .i64 (t.kids.map gO).length)),(51,aa 0)]) (H':=[.row true [.own 1 (A.length+1) 0<|A.length+1,.own 2 P.length 0 P.length],.vec true (A.length+1) 1<|aA<|A++[t.num],.vec true P.length 3<|b6 P,.row true<|aN t,.vec true 0 1 [[aa t.num]]]) zs rfl ?_ ?_) ?_
    ·(repeat' (first|exact trivial|exact rfl|exact .refl _|refine And.intro ?_ ?_|(simp[aq,au,bg,-List.map_take,-List.map_drop];done)))
     all_goals first|exact aV _ (lr t)|skip
    ·(repeat' (first|exact trivial|exact rfl|exact .refl _|refine And.intro ?_ ?_|(simp[aq,au,bg,-List.map_take,-List.map_drop];done)))
     all_goals first|exact bu _ (cM _)|exact aZ (kv _ _)|skip
    rw[show A.length+1=(A++[t.num]).length by simp,<-CI];have iP:P=bX P []:=rfl;have lA1:(gQ A [t.num]).length<=A.length+1:=(by rw[CI];simp);have lP1:P.length<=P.length:=aT _;have lA:A.length+1+(bM t.kids).length<=1000:=zo;have lP:P.length+(bA t.kids).length<=1000:=(by rw[eP,lW] at hP;exact hP);rw[eA,eP,qA,lW];generalize gQ A [t.num]=A1 at *;refine cJ [0,49,50] (λk:Nat=>[(51,aa k)]) (λk=>dj (gQ A1<|bM<|t.kids.take k) (bX P<|bA<|t.kids.take k)++[.row true<|aN t,.vec true 0 1 [[aa t.num]]]) (λk=>k<=t.width) (λk=>t.width-k) 0 ?_;refine eC ?_;rintro k hk;have lak:=uD (bM<|t.kids.take k) A1;have lpk:=m9 (bA<|t.kids.take k) P;unfold dj;refine br (λq0=>?_) λq0=>?_
    ·have q0:k<t.width:=(by simpa [Tree.width] using q0);refine sL (dk q0) ?_;have eA2:=oi q0;have eP2:=oq q0;have tA:(bM<|t.kids.take k).length+(cP<|t.az k).length<=(bM t.kids).length:=oH q0;have tP:(bA<|t.kids.take k).length+(partsOf<|t.az k).length<=(bA t.kids).length:=oU q0;have hG:=mS (ih k q0 (gD cu q0) (gQ A1<|bM<|t.kids.take k) (bX P<|bA<|t.kids.take k) zo zo) [.row true<|aN t,.vec true 0 1 [[aa t.num]],.row true<|aN<|t.az k] (by simp[dj]) (by simp[dj,au,aq,bw _<|c7 _])<|wH (by simp[dj]);rw[<-qA,<-jF,<-eA2,<-eP2] at hG;unfold dj at hG;refine sA hG ?_;refine sI ?_;refine⟨k+1,zo,zd,?_⟩;dsimp only
     (refine aR 5 zs rfl ?_ ?_<;>(repeat' (first|exact trivial|exact rfl|exact .refl _|refine And.intro ?_ ?_|(simp[aq,au,bg,-List.map_take,-List.map_drop];done))))
     all_goals first|exact bu _ (cM _)|exact aV _ (lr t)|skip
    have q0:k=t.width:=by have:¬k<t.width:=by simpa [Tree.width] using q0
                          omega
    subst q0;rw[show t.kids.take t.width=t.kids from eZ];exact⟨.refl _,ln _ _<|v7<|aT _⟩
   have CI:gQ A [t.num]=A:=(by rw[Gn,ae r]);refine sW ?_;have lA1:A.length<=A.length:=aT _;have lP1:P.length<=P.length:=aT _;have lA:A.length+(bM t.kids).length<=1000:=zo;have lP:P.length+(bA t.kids).length<=1000:=(by rw[eP,lW] at hP;exact hP);rw[eA,eP,qA,lW,CI];refine cJ [0,49,50] (λk:Nat=>[(51,aa k)]) (λk=>dj (gQ A<|bM<|t.kids.take k) (bX P<|bA<|t.kids.take k)++[.row true<|aN t]) (λk=>k<=t.width) (λk=>t.width-k) 0 ?_;refine eC ?_;rintro k hk;have lak:=uD (bM<|t.kids.take k) A;have lpk:=m9 (bA<|t.kids.take k) P;unfold dj;refine br (λq0=>?_) λq0=>?_
   ·have q0:k<t.width:=(by simpa [Tree.width] using q0);refine sL (dk q0) ?_;have eA2:=oi q0;have eP2:=oq q0;have tA:(bM<|t.kids.take k).length+(cP<|t.az k).length<=(bM t.kids).length:=oH q0;have tP:(bA<|t.kids.take k).length+(partsOf<|t.az k).length<=(bA t.kids).length:=oU q0;have hG:=mS (ih k q0 (gD cu q0) (gQ A<|bM<|t.kids.take k) (bX P<|bA<|t.kids.take k) zo zo) [.row true<|aN t,.row true<|aN<|t.az k] (by simp[dj]) (by simp[dj,au,aq,bw _<|c7 _])<|wH (by simp[dj]);rw[<-qA,<-jF,<-eA2,<-eP2] at hG;unfold dj at hG;refine sA hG ?_;refine sI ?_;refine⟨k+1,zo,zd,?_⟩;dsimp only
    (refine aR 4 zs rfl ?_ ?_<;>(repeat' (first|exact trivial|exact rfl|exact .refl _|refine And.intro ?_ ?_|(simp[aq,au,bg,-List.map_take,-List.map_drop];done))))
    all_goals first|exact bu _ (cM _)|exact aV _ (lr t)|skip
   have q0:k=t.width:=by have:¬k<t.width:=by simpa [Tree.width] using q0
                         omega
   subst q0;rw[show t.kids.take t.width=t.kids from eZ];exact⟨.refl _,ln _ _<|v7<|aT _⟩
  have k3:¬t.kind=3:=(by simpa using k3);rw[ab k3,lW] at eA;rw[eA] at hA;have arm:(t.kind=7\/t.kind=8\/t.kind=9)->t.kind=7\/t.kind=8\/t.kind=9:=id;have lA1:A.length<=A.length:=aT _;have lP1:P.length<=P.length:=aT _;refine sS (λk7=>?_) λk7=>?_
  ·have k7:t.kind=7\/t.kind=8\/t.kind=9:=.inl (by simpa using k7);rw[ae k7] at eP;rw[eP,cq,jA] at hP;refine sN (ID A P zo t hs) ?_;have vG:=rW (dR t) P;cases r:P.any (dR t)
   ·have ck:(ee (dR t) P<0):=(by rw[r,zf] at vG;omega);have iP:bX P [t]=P++[t]:=(by rw[rp,ab<|by rw[r];decide]);rw[ia ck];refine sWJ ?_;refine sB ?_;refine⟨_,Bw P _,?_⟩;refine sW ?_;refine b8 (aR 5 (env':=[(0,.loc 0 0),(49,.aM 3<|t.kids.map gO),(50,.sc (.int .i64 (t.kids.map gO).length)),(51,aa 0)]) (H':=[.row true [.own 1 A.length 0 A.length,.own 2 (P.length+1) 0<|P.length+1],.vec true A.length 1<|aA A,.vec true (P.length+1) 3<|b6<|P++[t],.row true<|aN t,.vec true 0 3 [[aa 0,aa 0,ax]]]) zs rfl ?_ ?_) ?_
    ·(repeat' (first|exact trivial|exact rfl|exact .refl _|refine And.intro ?_ ?_|(simp[aq,au,bg,-List.map_take,-List.map_drop];done)))
     all_goals first|exact aV _ (lr t)|skip
    ·(repeat' (first|exact trivial|exact rfl|exact .refl _|refine And.intro ?_ ?_|(simp[aq,au,bg,-List.map_take,-List.map_drop];done)))
     all_goals first|exact bu _ (cM _)|exact aZ (zX P t _)|skip
    rw[show P.length+1=(P++[t]).length by simp,<-iP];have TW:(bX P [t]).length<=P.length+1:=(by rw[iP];simp);have lA:A.length+(bM t.kids).length<=1000:=hA;have lP:P.length+1+(bA t.kids).length<=1000:=zo;rw[eA,eP,jF];generalize bX P [t]=P1 at *;refine cJ [0,49,50] (λk:Nat=>[(51,aa k)]) (λk=>dj (gQ A<|bM<|t.kids.take k) (bX P1<|bA<|t.kids.take k)++[.row true<|aN t,.vec true 0 3 [[aa 0,aa 0,ax]]]) (λk=>k<=t.width) (λk=>t.width-k) 0 ?_;refine eC ?_;rintro k hk;have lak:=uD (bM<|t.kids.take k) A;have lpk:=m9 (bA<|t.kids.take k) P1;unfold dj;refine br (λq0=>?_) λq0=>?_
    ·have q0:k<t.width:=(by simpa [Tree.width] using q0);refine sL (dk q0) ?_;have eA2:=oi q0;have eP2:=oq q0;have tA:(bM<|t.kids.take k).length+(cP<|t.az k).length<=(bM t.kids).length:=oH q0;have tP:(bA<|t.kids.take k).length+(partsOf<|t.az k).length<=(bA t.kids).length:=oU q0;have hG:=mS (ih k q0 (gD cu q0) (gQ A<|bM<|t.kids.take k) (bX P1<|bA<|t.kids.take k) zo zo) [.row true<|aN t,.vec true 0 3 [[aa 0,aa 0,ax]],.row true<|aN<|t.az k] (by simp[dj]) (by simp[dj,au,aq,bw _<|c7 _])<|wH (by simp[dj]);rw[<-qA,<-jF,<-eA2,<-eP2] at hG;unfold dj at hG;refine sA hG ?_;refine sI ?_;refine⟨k+1,zo,zd,?_⟩;dsimp only
     (refine aR 5 zs rfl ?_ ?_<;>(repeat' (first|exact trivial|exact rfl|exact .refl _|refine And.intro ?_ ?_|(simp[aq,au,bg,-List.map_take,-List.map_drop];done))))
     all_goals first|exact bu _ (cM _)|exact aV _ (lr t)|skip
    have q0:k=t.width:=by have:¬k<t.width:=by simpa [Tree.width] using q0
                          omega
    subst q0;rw[show t.kids.take t.width=t.kids from eZ];exact⟨.refl _,ln _ _<|v7<|aT _⟩
   have ck:¬(ee (dR t) P<0):=(by rw[r,ja] at vG;omega);have iP:bX P [t]=P:=(by rw[rp,ae r]);rw[gM ck];refine sW ?_;have lA:A.length+(bM t.kids).length<=1000:=hA;have lP:P.length+(bA t.kids).length<=1000:=zo;rw[eA,eP,jF,iP];refine cJ [0,49,50] (λk:Nat=>[(51,aa k)]) (λk=>dj (gQ A<|bM<|t.kids.take k) (bX P<|bA<|t.kids.take k)++[.row true<|aN t]) (λk=>k<=t.width) (λk=>t.width-k) 0 ?_;refine eC ?_;rintro k hk;have lak:=uD (bM<|t.kids.take k) A;have lpk:=m9 (bA<|t.kids.take k) P;unfold dj;refine br (λq0=>?_) λq0=>?_
   ·have q0:k<t.width:=(by simpa [Tree.width] using q0);refine sL (dk q0) ?_;have eA2:=oi q0;have eP2:=oq q0;have tA:(bM<|t.kids.take k).length+(cP<|t.az k).length<=(bM t.kids).length:=oH q0;have tP:(bA<|t.kids.take k).length+(partsOf<|t.az k).length<=(bA t.kids).length:=oU q0;have hG:=mS (ih k q0 (gD cu q0) (gQ A<|bM<|t.kids.take k) (bX P<|bA<|t.kids.take k) zo zo) [.row true<|aN t,.row true<|aN<|t.az k] (by simp[dj]) (by simp[dj,au,aq,bw _<|c7 _])<|wH (by simp[dj]);rw[<-qA,<-jF,<-eA2,<-eP2] at hG;unfold dj at hG;refine sA hG ?_;refine sI ?_;refine⟨k+1,zo,zd,?_⟩;dsimp only
    (refine aR 4 zs rfl ?_ ?_<;>(repeat' (first|exact trivial|exact rfl|exact .refl _|refine And.intro ?_ ?_|(simp[aq,au,bg,-List.map_take,-List.map_drop];done))))
    all_goals first|exact bu _ (cM _)|exact aV _ (lr t)|skip
   have q0:k=t.width:=by have:¬k<t.width:=by simpa [Tree.width] using q0
                         omega
   subst q0;rw[show t.kids.take t.width=t.kids from eZ];exact⟨.refl _,ln _ _<|v7<|aT _⟩
  refine sS (λk8=>?_) λk8=>?_
  ·have k7:t.kind=7\/t.kind=8\/t.kind=9:=.inr (.inl<|by simpa using k8);rw[ae k7] at eP;rw[eP,cq,jA] at hP;refine sN (ID A P zo t hs) ?_;have vG:=rW (dR t) P;cases r:P.any (dR t)
   ·have ck:(ee (dR t) P<0):=(by rw[r,zf] at vG;omega);have iP:bX P [t]=P++[t]:=(by rw[rp,ab<|by rw[r];decide]);rw[ia ck];refine sWJ ?_;refine sB ?_;refine⟨_,Bw P _,?_⟩;refine sW ?_;refine b8 (aR 5 (env':=[(0,.loc 0 0),(49,.aM 3<|t.kids.map gO),(50,.sc (.int .i64 (t.kids.map gO).length)),(51,aa 0)]) (H':=[.row true [.own 1 A.length 0 A.length,.own 2 (P.length+1) 0<|P.length+1],.vec true A.length 1<|aA A,.vec true (P.length+1) 3<|b6<|P++[t],.row true<|aN t,.vec true 0 3 [[aa 0,aa 0,ax]]]) zs rfl ?_ ?_) ?_
    ·(repeat' (first|exact trivial|exact rfl|exact .refl _|refine And.intro ?_ ?_|(simp[aq,au,bg,-List.map_take,-List.map_drop];done)))
     all_goals first|exact aV _ (lr t)|skip
    ·(repeat' (first|exact trivial|exact rfl|exact .refl _|refine And.intro ?_ ?_|(simp[aq,au,bg,-List.map_take,-List.map_drop];done)))
     all_goals first|exact bu _ (cM _)|exact aZ (zX P t _)|skip
    rw[show P.length+1=(P++[t]).length by simp,<-iP];have TW:(bX P [t]).length<=P.length+1:=(by rw[iP];simp);have lA:A.length+(bM t.kids).length<=1000:=hA;have lP:P.length+1+(bA t.kids).length<=1000:=zo;rw[eA,eP,jF];generalize bX P [t]=P1 at *;refine cJ [0,49,50] (λk:Nat=>[(51,aa k)]) (λk=>dj (gQ A<|bM<|t.kids.take k) (bX P1<|bA<|t.kids.take k)++[.row true<|aN t,.vec true 0 3 [[aa 0,aa 0,ax]]]) (λk=>k<=t.width) (λk=>t.width-k) 0 ?_;refine eC ?_;rintro k hk;have lak:=uD (bM<|t.kids.take k) A;have lpk:=m9 (bA<|t.kids.take k) P1;unfold dj;refine br (λq0=>?_) λq0=>?_
    ·have q0:k<t.width:=(by simpa [Tree.width] using q0);refine sL (dk q0) ?_;have eA2:=oi q0;have eP2:=oq q0;have tA:(bM<|t.kids.take k).length+(cP<|t.az k).length<=(bM t.kids).length:=oH q0;have tP:(bA<|t.kids.take k).length+(partsOf<|t.az k).length<=(bA t.kids).length:=oU q0;have hG:=mS (ih k q0 (gD cu q0) (gQ A<|bM<|t.kids.take k) (bX P1<|bA<|t.kids.take k) zo zo) [.row true<|aN t,.vec true 0 3 [[aa 0,aa 0,ax]],.row true<|aN<|t.az k] (by simp[dj]) (by simp[dj,au,aq,bw _<|c7 _])<|wH (by simp[dj]);rw[<-qA,<-jF,<-eA2,<-eP2] at hG;unfold dj at hG;refine sA hG ?_;refine sI ?_;refine⟨k+1,zo,zd,?_⟩;dsimp only
     (refine aR 5 zs rfl ?_ ?_<;>(repeat' (first|exact trivial|exact rfl|exact .refl _|refine And.intro ?_ ?_|(simp[aq,au,bg,-List.map_take,-List.map_drop];done))))
     all_goals first|exact bu _ (cM _)|exact aV _ (lr t)|skip
    have q0:k=t.width:=by have:¬k<t.width:=by simpa [Tree.width] using q0
                          omega
    subst q0;rw[show t.kids.take t.width=t.kids from eZ];exact⟨.refl _,ln _ _<|v7<|aT _⟩
   have ck:¬(ee (dR t) P<0):=(by rw[r,ja] at vG;omega);have iP:bX P [t]=P:=(by rw[rp,ae r]);rw[gM ck];refine sW ?_;have lA:A.length+(bM t.kids).length<=1000:=hA;have lP:P.length+(bA t.kids).length<=1000:=zo;rw[eA,eP,jF,iP];refine cJ [0,49,50] (λk:Nat=>[(51,aa k)]) (λk=>dj (gQ A<|bM<|t.kids.take k) (bX P<|bA<|t.kids.take k)++[.row true<|aN t]) (λk=>k<=t.width) (λk=>t.width-k) 0 ?_;refine eC ?_;rintro k hk;have lak:=uD (bM<|t.kids.take k) A;have lpk:=m9 (bA<|t.kids.take k) P;unfold dj;refine br (λq0=>?_) λq0=>?_
   ·have q0:k<t.width:=(by simpa [Tree.width] using q0);refine sL (dk q0) ?_;have eA2:=oi q0;have eP2:=oq q0;have tA:(bM<|t.kids.take k).length+(cP<|t.az k).length<=(bM t.kids).length:=oH q0;have tP:(bA<|t.kids.take k).length+(partsOf<|t.az k).length<=(bA t.kids).length:=oU q0;have hG:=mS (ih k q0 (gD cu q0) (gQ A<|bM<|t.kids.take k) (bX P<|bA<|t.kids.take k) zo zo) [.row true<|aN t,.row true<|aN<|t.az k] (by simp[dj]) (by simp[dj,au,aq,bw _<|c7 _])<|wH (by simp[dj]);rw[<-qA,<-jF,<-eA2,<-eP2] at hG;unfold dj at hG;refine sA hG ?_;refine sI ?_;refine⟨k+1,zo,zd,?_⟩;dsimp only
    (refine aR 4 zs rfl ?_ ?_<;>(repeat' (first|exact trivial|exact rfl|exact .refl _|refine And.intro ?_ ?_|(simp[aq,au,bg,-List.map_take,-List.map_drop];done))))
    all_goals first|exact bu _ (cM _)|exact aV _ (lr t)|skip
   have q0:k=t.width:=by have:¬k<t.width:=by simpa [Tree.width] using q0
                         omega
   subst q0;rw[show t.kids.take t.width=t.kids from eZ];exact⟨.refl _,ln _ _<|v7<|aT _⟩
  refine sS (λk9=>?_) λk9=>?_
  ·have k7:t.kind=7\/t.kind=8\/t.kind=9:=.inr (.inr<|by simpa using k9);rw[ae k7] at eP;rw[eP,cq,jA] at hP;refine sN (ID A P zo t hs) ?_;have vG:=rW (dR t) P;cases r:P.any (dR t)
   ·have ck:(ee (dR t) P<0):=(by rw[r,zf] at vG;omega);have iP:bX P [t]=P++[t]:=(by rw[rp,ab<|by rw[r];decide]);rw[ia ck];refine sWJ ?_;refine sB ?_;refine⟨_,Bw P _,?_⟩;refine sW ?_;refine b8 (aR 5 (env':=[(0,.loc 0 0),(49,.aM 3<|t.kids.map gO),(50,.sc (.int .i64 (t.kids.map gO).length)),(51,aa 0)]) (H':=[.row true [.own 1 A.length 0 A.length,.own 2 (P.length+1) 0<|P.length+1],.vec true A.length 1<|aA A,.vec true (P.length+1) 3<|b6<|P++[t],.row true<|aN t,.vec true 0 3 [[aa 0,aa 0,ax]]]) zs rfl ?_ ?_) ?_
    ·(repeat' (first|exact trivial|exact rfl|exact .refl _|refine And.intro ?_ ?_|(simp[aq,au,bg,-List.map_take,-List.map_drop];done)))
     all_goals first|exact aV _ (lr t)|skip
    ·(repeat' (first|exact trivial|exact rfl|exact .refl _|refine And.intro ?_ ?_|(simp[aq,au,bg,-List.map_take,-List.map_drop];done)))
     all_goals first|exact bu _ (cM _)|exact aZ (zX P t _)|skip
    rw[show P.length+1=(P++[t]).length by simp,<-iP];have TW:(bX P [t]).length<=P.length+1:=(by rw[iP];simp);have lA:A.length+(bM t.kids).length<=1000:=hA;have lP:P.length+1+(bA t.kids).length<=1000:=zo;rw[eA,eP,jF];generalize bX P [t]=P1 at *;refine cJ [0,49,50] (λk:Nat=>[(51,aa k)]) (λk=>dj (gQ A<|bM<|t.kids.take k) (bX P1<|bA<|t.kids.take k)++[.row true<|aN t,.vec true 0 3 [[aa 0,aa 0,ax]]]) (λk=>k<=t.width) (λk=>t.width-k) 0 ?_;refine eC ?_;rintro k hk;have lak:=uD (bM<|t.kids.take k) A;have lpk:=m9 (bA<|t.kids.take k) P1;unfold dj;refine br (λq0=>?_) λq0=>?_
    ·have q0:k<t.width:=(by simpa [Tree.width] using q0);refine sL (dk q0) ?_;have eA2:=oi q0;have eP2:=oq q0;have tA:(bM<|t.kids.take k).length+(cP<|t.az k).length<=(bM t.kids).length:=oH q0;have tP:(bA<|t.kids.take k).length+(partsOf<|t.az k).length<=(bA t.kids).length:=oU q0;have hG:=mS (ih k q0 (gD cu q0) (gQ A<|bM<|t.kids.take k) (bX P1<|bA<|t.kids.take k) zo zo) [.row true<|aN t,.vec true 0 3 [[aa 0,aa 0,ax]],.row true<|aN<|t.az k] (by simp[dj]) (by simp[dj,au,aq,bw _<|c7 _])<|wH (by simp[dj]);rw[<-qA,<-jF,<-eA2,<-eP2] at hG;unfold dj at hG;refine sA hG ?_;refine sI ?_;refine⟨k+1,zo,zd,?_⟩;dsimp only
     (refine aR 5 zs rfl ?_ ?_<;>(repeat' (first|exact trivial|exact rfl|exact .refl _|refine And.intro ?_ ?_|(simp[aq,au,bg,-List.map_take,-List.map_drop];done))))
     all_goals first|exact bu _ (cM _)|exact aV _ (lr t)|skip
    have q0:k=t.width:=by have:¬k<t.width:=by simpa [Tree.width] using q0
                          omega
    subst q0;rw[show t.kids.take t.width=t.kids from eZ];exact⟨.refl _,ln _ _<|v7<|aT _⟩
   have ck:¬(ee (dR t) P<0):=(by rw[r,ja] at vG;omega);have iP:bX P [t]=P:=(by rw[rp,ae r]);rw[gM ck];refine sW ?_;have lA:A.length+(bM t.kids).length<=1000:=hA;have lP:P.length+(bA t.kids).length<=1000:=zo;rw[eA,eP,jF,iP];refine cJ [0,49,50] (λk:Nat=>[(51,aa k)]) (λk=>dj (gQ A<|bM<|t.kids.take k) (bX P<|bA<|t.kids.take k)++[.row true<|aN t]) (λk=>k<=t.width) (λk=>t.width-k) 0 ?_;refine eC ?_;rintro k hk;have lak:=uD (bM<|t.kids.take k) A;have lpk:=m9 (bA<|t.kids.take k) P;unfold dj;refine br (λq0=>?_) λq0=>?_
   ·have q0:k<t.width:=(by simpa [Tree.width] using q0);refine sL (dk q0) ?_;have eA2:=oi q0;have eP2:=oq q0;have tA:(bM<|t.kids.take k).length+(cP<|t.az k).length<=(bM t.kids).length:=oH q0;have tP:(bA<|t.kids.take k).length+(partsOf<|t.az k).length<=(bA t.kids).length:=oU q0;have hG:=mS (ih k q0 (gD cu q0) (gQ A<|bM<|t.kids.take k) (bX P<|bA<|t.kids.take k) zo zo) [.row true<|aN t,.row true<|aN<|t.az k] (by simp[dj]) (by simp[dj,au,aq,bw _<|c7 _])<|wH (by simp[dj]);rw[<-qA,<-jF,<-eA2,<-eP2] at hG;unfold dj at hG;refine sA hG ?_;refine sI ?_;refine⟨k+1,zo,zd,?_⟩;dsimp only
    (refine aR 4 zs rfl ?_ ?_<;>(repeat' (first|exact trivial|exact rfl|exact .refl _|refine And.intro ?_ ?_|(simp[aq,au,bg,-List.map_take,-List.map_drop];done))))
    all_goals first|exact bu _ (cM _)|exact aV _ (lr t)|skip
   have q0:k=t.width:=by have:¬k<t.width:=by simpa [Tree.width] using q0
                         omega
   subst q0;rw[show t.kids.take t.width=t.kids from eZ];exact⟨.refl _,ln _ _<|v7<|aT _⟩
  have k7:¬(t.kind=7\/t.kind=8\/t.kind=9):=by
   simp only[beq_eq_false_iff_ne] at k7 k8 k9;omega
  rw[ab k7,lW] at eP;rw[eP] at hP;rw[eA,eP];have lA:A.length+(bM t.kids).length<=1000:=hA;have lP:P.length+(bA t.kids).length<=1000:=hP;refine cJ [0,49,50] (λk:Nat=>[(51,aa k)]) (λk=>dj (gQ A<|bM<|t.kids.take k) (bX P<|bA<|t.kids.take k)++[.row true<|aN t]) (λk=>k<=t.width) (λk=>t.width-k) 0 ?_;refine eC ?_;rintro k hk;have lak:=uD (bM<|t.kids.take k) A;have lpk:=m9 (bA<|t.kids.take k) P;unfold dj;refine br (λq0=>?_) λq0=>?_
  ·have q0:k<t.width:=(by simpa [Tree.width] using q0);refine sL (dk q0) ?_;have eA2:=oi q0;have eP2:=oq q0;have tA:(bM<|t.kids.take k).length+(cP<|t.az k).length<=(bM t.kids).length:=oH q0;have tP:(bA<|t.kids.take k).length+(partsOf<|t.az k).length<=(bA t.kids).length:=oU q0;have hG:=mS (ih k q0 (gD cu q0) (gQ A<|bM<|t.kids.take k) (bX P<|bA<|t.kids.take k) zo zo) [.row true<|aN t,.row true<|aN<|t.az k] (by simp[dj]) (by simp[dj,au,aq,bw _<|c7 _])<|wH (by simp[dj]);rw[<-qA,<-jF,<-eA2,<-eP2] at hG;unfold dj at hG;refine sA hG ?_;refine sI ?_;refine⟨k+1,zo,zd,?_⟩;dsimp only
   (refine aR 4 zs rfl ?_ ?_<;>(repeat' (first|exact trivial|exact rfl|exact .refl _|refine And.intro ?_ ?_|(simp[aq,au,bg,-List.map_take,-List.map_drop];done))))
   all_goals first|exact bu _ (cM _)|exact aV _ (lr t)|skip
  have q0:k=t.width:=by have:¬k<t.width:=by simpa [Tree.width] using q0
                        omega
  subst q0;rw[show t.kids.take t.width=t.kids from eZ];exact⟨.refl _,ln _ _<|v7<|aT _⟩
theorem O9{A:ah}(h:x∈A):∃k:Nat,k<A.length/\ee (λa=>x==a) A=(k:Int):=by
 have h1:0<=ee (λa=>x==a) A:=by
  have:=rW (λa=>x==a) A;rw[show A.any (λa=>x==a)=true from kJ.2 ⟨x,h,zs⟩] at this;simpa using this
 obtain⟨k,e,hk,_⟩:=Gb h1;exact⟨k,hk,e⟩
theorem Uc{x:Tree}(h:x∈P):∃k:Nat,k<P.length/\ee (dR x) P=(k:Int):=by
 have h1:0<=ee (dR x) P:=by
  have:=rW (dR x) P;rw[Ws.2 h] at this;simpa using this
 obtain⟨k,e,hk,_⟩:=Gb h1;exact⟨k,hk,e⟩
structure xD(A:ah)(P:List Tree):Prop where
 few:A.length+P.length<=10
 atoms:∀x∈A,0<=x/\x<=63
 told:∀g∈P,Told A P g
 wf:∀g∈P,g.wf lY/\(g.kind=7\/g.kind=8\/g.kind=9)
theorem AJ(h:n<=10):2^n<=1024:=iv (Ae zo h) zc
theorem Gx(n:Nat):(2:Int)^n=((2^n:Nat):Int):=zs
theorem NB(k:Nat)(hk:k<=10):(1:Int)*2^min ((k:Int)).toNat 64=((2^k:Nat):Int):=by
 rw[bQ,sq zo,Int.one_mul,Gx]
theorem zrT(P:List Tree)(hI:xD A P)(f:Tree)(hs:Small f)(hT:Told A P f)(hk:f.kind=3\/f.kind=7\/f.kind=8\/f.kind=9)(s:Nat) :
  ar ai 214 [mD A P,aY f,aa s] (aD<|dJ A P s f):=by
 have hf:=hI.few;refine bK fZ ?_;unfold mD;refine sRS (λk3=>?_) λk3=>?_
 ·have k3:f.kind=3:=(by simpa using k3);obtain⟨k,h1,h2⟩:=O9<|hT.atom k3;have e:dJ A P s f=s.testBit k:=(by unfold dJ uu;rw[ae k3,h2];rfl);have hi:=Up A zo f.num;rw[h2] at hi;rw[e,<-Ol s k zo];refine sN hi ?_;refine⟨zo,?_⟩;refine sW ?_;exact .refl _
 have k3:¬f.kind=3:=by simpa using k3
 obtain⟨k,h1,h2⟩:=Uc<|hT.part zo;have e:dJ A P s f=s.testBit (A.length+k):=by unfold dJ uu;rw[ab k3,h2];rfl
 have hi:=ID A P zo f hs;rw[h2] at hi;unfold mD at hi;rw[e,<-Ol s (A.length+k) zo];refine sN hi ?_;rw[aK];refine sI ?_;refine⟨zo,?_⟩;refine sW ?_;exact .refl _
theorem Iu(P:List Tree)(hI:xD A P)(s:Nat):∀f:Tree,f.wf lY->Told A P f ->
  ar ai 126 [mD A P,aY f,aa s] (aD<|eu (dJ A P s) f):=by
 intro f
 induction f using Tree.ind with
 |h f ih =>
  intro cu hT;have hs:=uw f<|vq cu;have fT:=hs.width;have hK:=FR cu;have hE:=Vq (dJ A P s) f;have Bl:=λhk=>zrT A P hI f hs hT hk s;refine bK fZ ?_;have fin:∀{H:aF} {b:Bool},b=ti f.kind (dJ A P s f) (f.kids.map<|eu<|dJ A P s)->Deep H (aD b) (aD<|eu (dJ A P s) f):=λh=>by rw[hE,h];exact .refl _
  have ha:∀j,j<f.width->(f.kids.map<|eu<|dJ A P s).getD j false=eu (dJ A P s) (f.az j):=λj hj=>TH _ hj;have lO:∀j,(hj:j<f.width)->ar ai 126 [mD A P,aY<|f.az j,aa s] (aD<|eu (dJ A P s)<|f.az j):=λj hj=>ih j hj (gD cu hj)<|hT.az hj;unfold mD at *;refine sRS (λh1=>?_) λh1=>?_
  ·have h1:f.kind=1:=(by simpa using h1);refine fin ?_;rw[h1];rfl
  refine sS (λh2=>?_) λh2=>?_
  ·have h2:f.kind=2:=(by simpa using h2);refine fin ?_;rw[h2];rfl
  refine sS (λh4=>?_) λh4=>?_
  ·have h4:f.kind=4:=(by simpa using h4);have w0:0<f.width:=zo;have e0:=ha 0 w0;refine⟨zo,_,dk w0,?_⟩;refine sW ?_;refine sC (lO 0 w0) ?_;refine fin ?_;rw[h4,<-e0];rfl
  refine sS (λh5=>?_) λh5=>?_
  ·have h5:f.kind=5:=(by simpa using h5);have w0:0<f.width:=zo;have w1:1<f.width:=zo;have e0:=ha 0 w0;have e1:=ha 1 w1;refine⟨zo,_,dk w0,?_⟩;refine sW ?_;refine sC (lO 0 w0) ?_;rw[h5] at fin;unfold ti at fin;rw[<-e0];refine sS (λq0=>?_) λq0=>?_
   ·refine⟨zo,_,dk w1,?_⟩;refine sW ?_;refine sC (lO 1 w1) ?_;refine fin ?_;(try simp only[<-e1,q0]);simp
   refine fin ?_;(try simp only[q0]);simp
  refine sS (λh6=>?_) λh6=>?_
  ·have h6:f.kind=6:=(by simpa using h6);have w0:0<f.width:=zo;have w1:1<f.width:=zo;have e0:=ha 0 w0;have e1:=ha 1 w1;refine⟨zo,_,dk w0,?_⟩;refine sW ?_;refine sC (lO 0 w0) ?_;rw[h6] at fin;unfold ti at fin;rw[<-e0];refine sS (λq0=>?_) λq0=>?_
   ·refine fin ?_;(try simp only[q0]);simp
   refine⟨zo,_,dk w1,?_⟩;refine sW ?_;refine sC (lO 1 w1) ?_;refine fin ?_;(try simp only[<-e1,q0]);simp
  refine sS (λh8=>?_) λh8=>?_
  ·have h8:f.kind=8:=(by simpa using h8);have w0:0<f.width:=zo;have w1:1<f.width:=zo;have e0:=ha 0 w0;have e1:=ha 1 w1;refine⟨zo,_,dk w1,?_⟩;refine sW ?_;refine sC (lO 1 w1) ?_;rw[h8] at fin;unfold ti at fin;rw[<-e1];refine sS (λq1=>?_) λq1=>?_
   ·refine fin ?_;(try simp only[q1]);simp
   refine⟨zo,_,dk w0,?_⟩;refine sW ?_;refine sC (lO 0 w0) ?_;rw[<-e0];refine sS (λq0=>?_) λq0=>?_
   ·refine sC (Bl zo) ?_;refine fin ?_;(try simp only[q0,q1]);simp
   refine fin ?_;(try simp only[q0,q1]);simp
  refine sS (λh9=>?_) λh9=>?_
  ·have h9:f.kind=9:=(by simpa using h9);have w0:0<f.width:=zo;have w1:1<f.width:=zo;have e0:=ha 0 w0;have e1:=ha 1 w1;refine⟨zo,_,dk w1,?_⟩;refine sW ?_;refine sC (lO 1 w1) ?_;rw[h9] at fin;unfold ti at fin;rw[<-e1];refine sS (λq1=>?_) λq1=>?_
   ·refine⟨zo,_,dk w0,?_⟩;refine sW ?_;refine sC (lO 0 w0) ?_;rw[<-e0];refine sS (λq0=>?_) λq0=>?_
    ·refine fin ?_;(try simp only[q0,q1]);simp
    refine sC (Bl zo) ?_;refine fin ?_;(try simp only[q0,q1]);simp
   refine fin ?_;(try simp only[q1]);simp
  have h3:f.kind=3\/f.kind=7:=by
   simp only[beq_eq_false_iff_ne] at h1 h2 h4 h5 h6 h8 h9;omega
  refine sC (Bl zo) ?_;refine fin ?_;rcases h3 with h3|h3<;>rw[h3]<;>rfl
theorem X3(P:List Tree)(hA:A.length<=60)(s:Nat):ar ai 128 [mD A P,aa s]<|aa ((s/2^A.length:Nat):Int):=by
 refine bK fZ ?_;unfold mD;refine sR ?_;rw[aK];refine⟨zo,?_⟩;refine sW ?_;exact cd<|bJ (λx=>aa x)<|O0 s A.length zo
theorem Qs{A:ah}(hI:xD A P)(hg:g∈P):(s8 g).wf lY/\Told A P (s8 g):=by
 obtain⟨h1,h2⟩:=hI.wf g hg;have hT:=hI.told g hg;unfold s8;split
 ·have w0:0<g.width:=pZ (vq h1) zo;exact⟨gD h1 w0,hT.az w0⟩
 exact⟨h1,hT⟩
theorem Mb(h:k<P.length):P.getD k default∈P:=by
 rw[aE,aJ h];simp
theorem zxg(P:List Tree)(hI:xD A P)(s:Nat):ar ai 125 [mD A P,aa s]<|aa<|qV A P s:=by
 have hf:=hI.few;refine bK fZ ?_;have hH:=λg (hg:g∈P)=>Iu A P hI s (s8 g) (Qs hI hg).1 (Qs hI hg).2;unfold mD at *;refine sR ?_;rw[qW];refine bt [0,1,12,13] (λk:Nat=>[(5,aa<|qt (hK A P s) k),(14,aa k)]) (λ_=>[]) (λk=>k<=P.length) (λk=>P.length-k) 0 ?_;refine eC ?_;rintro k hk;refine br (λq0=>?_) λq0=>?_
 ·have q0:k<P.length:=sO;refine sL (yF (k:=k) zo q0) ?_;have hg:=Mb q0;obtain⟨hw,ZX⟩:=hI.wf _ hg;have hB:=hH _ hg;have hb:hK A P s k=eu (dJ A P s) (s8<|P.getD k default):=rfl;have hS:qt (hK A P s) (k+1)=if hK A P s k=true then qt (hK A P s) k+2^k else qt (hK A P s) k:=rfl
  have ck:=D2 (hK A P s) k;have zL7:=AJ (n:=k) zo;have e1:(1:Int)*2^min ((k:Int)).toNat IntKind.i64.bits=((2^k:Nat):Int):=NB k zo;have e2:=zy4 (qt (hK A P s) k) k ck zo;rw[<-hb] at hB;generalize hK A P s k=b at *;generalize P.getD k default=g at *;refine sS (λg7=>?_) λg7=>?_
  ·have g7:g.kind=7:=(by simpa using g7);have w0:0<g.width:=pZ (vq hw) zo;rw[show s8 g=g.az 0 from ae g7] at hB;refine sL (dk w0) ?_;refine sC hB ?_;cases b
   ·rw[ab zc] at hS;refine bb ?_;refine⟨k+1,zo,zd,?_⟩;dsimp only;rw[hS]
    (refine aR 0 zs rfl ?_ ?_<;>(repeat' (first|exact trivial|exact rfl|exact .refl _|refine And.intro ?_ ?_|(simp[aq,au,bg,-List.map_take,-List.map_drop];done))))
    all_goals first|exact aV _ (dX _)|exact bw _ (cG _)|skip
   rw[ae rfl] at hS;refine sW ?_;refine⟨zo,?_⟩;rw[e1];generalize 2^k=z at *;refine sI ?_;rw[e2];refine sI ?_;refine⟨k+1,zo,zd,?_⟩;dsimp only;rw[hS]
   (refine aR 0 zs rfl ?_ ?_<;>(repeat' (first|exact trivial|exact rfl|exact .refl _|refine And.intro ?_ ?_|(simp[aq,au,bg,-List.map_take,-List.map_drop];done))))
   all_goals first|exact aV _ (dX _)|exact bw _ (cG _)|skip
  have g7:¬g.kind=7:=(by simpa using g7);rw[show s8 g=g from ab g7] at hB;refine sC hB ?_;cases b
  ·rw[ab zc] at hS;refine bb ?_;refine⟨k+1,zo,zd,?_⟩;dsimp only;rw[hS]
   (refine aR 0 zs rfl ?_ ?_<;>(repeat' (first|exact trivial|exact rfl|exact .refl _|refine And.intro ?_ ?_|(simp[aq,au,bg,-List.map_take,-List.map_drop];done))))
   all_goals first|exact aV _ (dX _)|exact bw _ (cG _)|skip
  rw[ae rfl] at hS;refine sW ?_;refine⟨zo,?_⟩;rw[e1];generalize 2^k=z at *;refine sI ?_;rw[e2];refine sI ?_;refine⟨k+1,zo,zd,?_⟩;dsimp only;rw[hS]
  (refine aR 0 zs rfl ?_ ?_<;>(repeat' (first|exact trivial|exact rfl|exact .refl _|refine And.intro ?_ ?_|(simp[aq,au,bg,-List.map_take,-List.map_drop];done))))
  all_goals first|exact aV _ (dX _)|exact bw _ (cG _)|skip
 have q0:k=P.length:=by have:¬k<P.length:=sO
                        omega
 subst q0;exact .refl _
theorem TT(P:List Tree)(hA:A.length<=60)(hr:∀x∈A,0<=x/\x<=63)(s:Nat)(is:Bool):ar ai 129 [mD A P,aa s,aD is] (.sc (.int .u64<|kN A s is A.length)):=by
 refine bK fZ ?_;unfold mD;refine sR ?_;rw[aK];refine bt [1,2,13,14] (λk:Nat=>[(7,.sc (.int .u64<|kN A s is k)),(15,aa k)]) (λ_=>[]) (λk=>k<=A.length) (λk=>A.length-k) 0 ?_;refine eC ?_;rintro k hk;refine br (λq0=>?_) λq0=>?_
 ·have q0:k<A.length:=sO;refine sL (cA (l:=A) (k:=k) zo q0) ?_;have hx:=hr _<|dP q0;have hS:kN A s is (k+1)=if (s.testBit k==is)=true then jv .or .u64 (kN A s is k)<|2^(A.getD k 0).toNat else kN A s is k:=rfl
  generalize A.getD k 0=x at *;refine⟨zo,?_⟩;refine sW ?_;have eb:(jv .and .i64 ((s:Int).fdiv<|2^min ((k:Int)).toNat IntKind.i64.bits) 1==1)=s.testBit k:=Ol s k zo;have e1:(1:Int)*2^min x.toNat IntKind.u64.bits=2^x.toNat:=by
   rw[show IntKind.u64.bits=64 from rfl,sq zo,Int.one_mul]
  have FC:(0:Int)<=2^x.toNat/\(2:Int)^x.toNat<18446744073709551616:=by
   have h1:2^x.toNat<=2^63:=Ae zo zo;have h2:(2:Nat)^63=9223372036854775808:=zc;rw[Gx];generalize 2^x.toNat=z at *;omega
  rw[eb];cases r:(s.testBit k==is)
  ·rw[r,ab zc] at hS;refine bb ?_;refine⟨k+1,zo,zd,?_⟩;dsimp only;rw[hS];exact aL (by exact sK) rfl
  rw[r,ae rfl] at hS;refine sW ?_;refine⟨zo,?_⟩;rw[e1];refine .inl ⟨by unfold dQ;rw[IntKind.wrap_u64];omega,?_⟩;refine bb ?_;refine⟨k+1,zo,zd,?_⟩;dsimp only;rw[hS];exact aL (by exact sK) rfl
 have q0:k=A.length:=by have:¬k<A.length:=sO
                        omega
 subst q0;exact .refl _
theorem zwp(P:List Tree)(hI:xD A P)(s:Nat)(g:Tree)(hw:g.wf lY)(hT:Told A P g)(hk:g.kind=8\/g.kind=9):ar ai 130 [mD A P,aY g,aa s]<|aD<|gX A P g s:=by
 have hf:=hI.few;have w1:1<g.width:=by have:=FR hw;omega
 have h0:=Iu A P hI s g hw hT;have h1:=Iu A P hI s (g.az 1) (gD hw w1)<|hT.az w1;have hE:gX A P g s=if g.kind=8 then !(eu (dJ A P s) g)||eu (dJ A P s) (g.az 1) else eu (dJ A P s) g||!(eu (dJ A P s)<|g.az 1):=rfl
 refine bK fZ ?_;generalize eu (dJ A P s) g=b0 at *;generalize eu (dJ A P s) (g.az 1)=b1 at *;rw[hE];unfold mD at *;refine sRS (λg8=>?_) λg8=>?_
 ·have g8:g.kind=8:=(by simpa using g8);rw[ae g8];refine sC h0 ?_;cases b0
  ·refine sW ?_;exact .refl _
  refine sW ?_;refine sL (dk w1) ?_;refine sC h1 ?_;exact .refl _
 have g8:¬g.kind=8:=by simpa using g8
 rw[ab g8];refine sC h0 ?_;cases b0
 ·refine sW ?_;refine sL (dk w1) ?_;refine sC h1 ?_;exact .refl _
 refine sW ?_;exact .refl _
section
open Go.RowKit Go.Shelf Go.Sort
def ZU:Go.Shelf.Ren:=⟨λ| 189=>124|125=>213|257=>212|128=>278|129=>279|294=>269|295=>270|296=>271|297=>272|298=>273|299=>274|216=>275|300=>276|301=>277|328=>292|329=>293|330=>294|331=>295|332=>296|215=>297|343=>301|n=>n,λ| 28=>38|3=>3|46=>241|0=>0|51=>278|53=>99|4=>4|183=>271|182=>270|131=>249|5=>5|9=>9|218=>286|222=>170|228=>292|229=>293|n=>n,λ| n=>n⟩
theorem Wt:Go.Proofs.Lays.n189 ai ZU:={
 mixed:=by kernel_rfl,
 f125:=Tryz.func213.trans<|bJ some<|by kernel_rfl,
 f128:=Tryz.func278.trans<|bJ some<|by kernel_rfl,
 f129:=Tryz.func279.trans<|bJ some<|by kernel_rfl,
 f189:=Tryz.func124.trans<|bJ some<|by kernel_rfl,
 f215:=Tryz.func297.trans<|bJ some<|by kernel_rfl,
 f216:=Tryz.func275.trans<|bJ some<|by kernel_rfl,
 f257:=Tryz.func212.trans<|bJ some<|by kernel_rfl,
 f294:=Tryz.func269.trans<|bJ some<|by kernel_rfl,
 f295:=Tryz.func270.trans<|bJ some<|by kernel_rfl,
 f296:=Tryz.func271.trans<|bJ some<|by kernel_rfl,
 f297:=Tryz.func272.trans<|bJ some<|by kernel_rfl,
 f298:=Tryz.func273.trans<|bJ some<|by kernel_rfl,
 f299:=Tryz.func274.trans<|bJ some<|by kernel_rfl,
 f300:=Tryz.func276.trans<|bJ some<|by kernel_rfl,
 f301:=Tryz.func277.trans<|bJ some<|by kernel_rfl,
 f328:=Tryz.func292.trans<|bJ some<|by kernel_rfl,
 f329:=Tryz.func293.trans<|bJ some<|by kernel_rfl,
 f330:=Tryz.func294.trans<|bJ some<|by kernel_rfl,
 f331:=Tryz.func295.trans<|bJ some<|by kernel_rfl,
 f332:=Tryz.func296.trans<|bJ some<|by kernel_rfl,
 f343:=Tryz.func301.trans<|bJ some<|by kernel_rfl,
 t0:=Tryz.underlying0,
 a0:=Tryz.isAgg0,
 z0:=Tryz.sizeOf0,
 v0:=Tryz.zeroValue0,
 t3:=Tryz.underlying3,
 a3:=Tryz.isAgg3,
 z3:=Tryz.sizeOf3,
 v3:=Tryz.zeroValue3,
 t4:=Tryz.underlying4,
 a4:=Tryz.isAgg4,
 z4:=Tryz.sizeOf4,
 v4:=Tryz.zeroValue4,
 t5:=Tryz.underlying5,
 a5:=Tryz.isAgg5,
 z5:=Tryz.sizeOf5,
 v5:=Tryz.zeroValue5,
 t9:=Tryz.underlying9,
 a9:=Tryz.isAgg9,
 z9:=Tryz.sizeOf9,
 v9:=Tryz.zeroValue9,
 t28:=Tryz.underlying38,
 a28:=Tryz.isAgg38,
 z28:=Tryz.sizeOf38,
 v28:=Tryz.zeroValue38,
 t46:=Tryz.underlying241,
 a46:=Tryz.isAgg241,
 z46:=Tryz.sizeOf241,
 v46:=Tryz.zeroValue241,
 t51:=Tryz.underlying278,
 a51:=Tryz.isAgg278,
 z51:=Tryz.sizeOf278,
 v51:=Tryz.zeroValue278,
 t53:=Tryz.underlying99,
 a53:=Tryz.isAgg99,
 z53:=Tryz.sizeOf99,
 v53:=Tryz.zeroValue99,
 t131:=Tryz.underlying249,
 a131:=Tryz.isAgg249,
 z131:=Tryz.sizeOf249,
 v131:=Tryz.zeroValue249,
 t182:=Tryz.underlying270,
 a182:=Tryz.isAgg270,
 z182:=Tryz.sizeOf270,
 v182:=Tryz.zeroValue270,
 t183:=Tryz.underlying271,
 a183:=Tryz.isAgg271,
 z183:=Tryz.sizeOf271,
 v183:=Tryz.zeroValue271,
 t218:=Tryz.underlying286,
 a218:=Tryz.isAgg286,
 z218:=Tryz.sizeOf286,
 v218:=Tryz.zeroValue286,
 t222:=Tryz.underlying170,
 a222:=Tryz.isAgg170,
 z222:=Tryz.sizeOf170,
 v222:=Tryz.zeroValue170,
 t228:=Tryz.underlying292,
 a228:=Tryz.isAgg292,
 z228:=Tryz.sizeOf292,
 v228:=Tryz.zeroValue292,
 t229:=Tryz.underlying293,
 a229:=Tryz.isAgg293,
 z229:=Tryz.sizeOf293,
 v229:=Tryz.zeroValue293 }
def rf(l:ah):ah:=l.mergeSort λx y=>decide (x<=y)
@[simp] theorem zsV(l:ah):(rf l).length=l.length:=by unfold rf;exact List.length_mergeSort _
variable{w:ba}
theorem zuI{b o:Nat}{vals:Array aP}{te:bl}{fr:Nat×Nat}{n:Nat}{os:Array Obj}(d:Array Int)(hb:w.heap[b]? = some (.cells vals te fr)) :
  (grow (putRow (Value.int .i64) (Sort.ahead w n) b o d) os).heap[b]? = some (.cells (putCells (Value.int .i64) o d vals) te fr):=by
 have hg:b<w.heap.size:=(Array.getElem?_eq_some_iff.1 hb).1;rw[heap_grow_old _ _<|by simpa using hg];simp[putRow,mapBlock,Sort.ahead,Array.getElem?_modify,hb,onCells]
theorem zpB{b o:Nat}{os:Array Obj}(d:Array Int)(hk:k<w.heap.size)(bT:k≠b):(grow (putRow (Value.int .i64) (Sort.ahead w n) b o d) os).heap[k]? = w.heap[k]?:=by
 rw[heap_grow_old _ _<|by simpa using hk];have:b≠k:=λe=>bT e.symm;simp[putRow,mapBlock,Sort.ahead,Array.getElem?_modify,this]
theorem Y9(aw:Nat)(l:ah)(h0:0<l.length)(hl:l.length<4611686018427387904) :
  cp ai 124 [.own 0 aw 0 l.length] [.vec true aw 1<|aA l] (.aI []) [.vec true aw 1<|aA<|rf l] where
 ok:=⟨_,Tryz.func124,by kernel_rfl,by kernel_rfl⟩
 len:=zs
 run J F w vs cE kA hR:=by
  simp only[bB,rep] at hR;obtain⟨v,us,rfl,⟨s,A,n,c,hJ,rfl,_,hq⟩,rfl⟩:=hR;obtain⟨ob,ho,hO⟩:=cE.obj 0 s hJ;have ho:ao.vec true aw 1 (aA l)=ob:=tK ho;subst ho;simp only[oW] at hO;obtain⟨dF,B5,VO,hlen,Eb,j8⟩:=hO;obtain⟨_,_,oG,hn,hc,hA⟩:=hq B5.symm;have pV:s.len=l.length:=(by rw[hlen];simp[aA]);have F9:¬s.cap=0:=zo;obtain⟨b,o,Ay,Rl⟩:=hA.resolve_left F9;obtain⟨b',o',vals,te,Su,hb,fT,Zs,_⟩:=j8.resolve_left F9;rw[Ay] at Su;obtain⟨rfl,rfl⟩:b=b'/\o=o':=by
   have:=tK Su;injection this with h1 h2 h3
   exact⟨h1,h2⟩
  rw[Nat.zero_mul,uL] at Rl;subst Rl;have CC:n=l.length:=zo;subst CC;have rr:b<w.heap.size:=(Array.getElem?_eq_some_iff.1 hb).1;have hH:Holds (Value.int .i64) w b o l.toArray:=λj hj=>by
   have jf:j<l.length:=(by simpa using hj);obtain⟨_,Nv⟩:=vm (aA l) o j [.sc (.int .i64 l[j])] (by simp[aA,jf]) Zs;simp only[eY,rep] at Nv;obtain⟨⟨u,hu,_,rfl⟩,_⟩:=Nv;rw[Nat.mul_one] at hu;refine⟨by rw[hu];simp[jf],by simp[World.frozen?,hb]⟩
  have kE:s.c9=some b:=(by unfold Site.c9;rw[ab<|by simp[F9],Ay];rfl);have mU:¬F b:=cE.apart 0 s b _ hJ kE rfl rfl;refine(Any.slices_Sort_int Wt b o c l w hH rr hl).mono λe w' ⟨he,nd,os,Cs⟩=>?_;have U9:w'.heap[b]? = some (.cells (putCells (Value.int .i64) o (rf l).toArray vals) te (0,0)):=(by rw[Cs];exact zuI _ hb);have Mz:∀k,k<w.heap.size->k≠b->w'.heap[k]? = w.heap[k]?:=λk h1 h2=>by rw[Cs];exact zpB _ h1 h2
  have WU:w.heap.size<=w'.heap.size:=(by rw[Cs];simp[Sort.ahead]);have iY:∀k,F k->w'.heap[k]? = w.heap[k]?:=λk hk=>Mz k (cE.lt k hk) λe=>mU<|e▸hk;have u7:w'.os=w.os/\w'.tape=w.tape/\w'.output=w.output:=(by rw[Cs];exact⟨rfl,rfl,rfl⟩);refine⟨_,J,F,he,?_,kA,by simp[rep,bB],?_⟩
  ·refine cE.update 0 s (.vec true aw 1<|aA<|rf l) (λi=>?_) (λi=>?_) (bf.le_refl J) iY WU ?_ (λb2 h2=>.inr ⟨s,hJ,h2⟩) (λi s2 b2 h1 h2=>cE.jy h1 h2) ?_ ?_
   ·by_cases e:i=0
    ·subst e;rw[ae rfl,hJ]
    rw[ab e]
   ·by_cases e:i=0
    ·subst e;rfl
    rw[ab e]
    cases i with
    |zero=>exact absurd rfl e
    |succ i=>rfl
   ·intro i s2 b2 hi h1 h2;refine Mz b2 (cE.jy h1 h2) λe=>hi ?_;subst e;exact cE.one i 0 s2 s b2 h1 hJ h2 kE
   ·intro b2 h1 _;rw[kE] at h1;cases h1;exact mU
   simp only[oW];refine⟨dF,B5,VO,by rw[hlen];simp[aA],Eb,.inr ⟨b,o,_,te,Ay,U9,by simp[putCells];omega,?_,λh=>by cases h⟩⟩;refine vg _ _ λj x hx=>?_;have hj:j<(rf l).length:=by
    have:=(List.getElem?_eq_some_iff.1 hx).1;simpa [aA] using this
   have lj:x=[.sc (.int .i64 (rf l)[j])]:=by
    have:(aA<|rf l)[j]? = some [.sc (.int .i64 (rf l)[j])]:=by simp[aA,hj]
    rw[hx] at this;exact tK this
   subst lj;refine⟨rfl,?_⟩;simp only[eY,rep];refine⟨⟨_,?_,rfl,rfl⟩,trivial⟩;have XT:o+j<vals.size:=by
    rw[zsV] at hj;rw[Nat.mul_one] at fT;omega
   simp only[World.cell?,U9,Nat.mul_one];simp only[Option.isSome_none,xA,if_false];have uI:j<l.length:=(by simpa using hj);simp[putCells,XT,uI,aJ hj]
  exact⟨u7.1,u7.2.1,u7.2.2,WU,λk hk ho=>Mz k hk λe=>ho ⟨0,s,hJ,e▸kE⟩,iY,bf.le_refl J,λ_ h=>h,λ_ h=>.inl h,λ_ h=>.inl h⟩
theorem zoI:ar ai 213 [.sc (.int .u64 0)] (aa 0) where
 ok:=⟨_,Tryz.func213,by kernel_rfl,by kernel_rfl⟩
 run J F w vs hF hR:=by
  simp only[bB,rep] at hR;obtain⟨v,us,rfl,rfl,rfl⟩:=hR;refine(calls_of_every_depth λD=>AnyS.bits_LenIn { Wt with } D 0 w zo zo).mono λe w' ⟨he,hw⟩=>?_;subst hw;exact⟨_,F,he,hF.lt,rfl,Ext.refl _ _ _⟩
theorem znI:ar ai 269 [.aM 1 [],aa 0,aa 0] (.aI []):=by
 refine dC fZ zs (by simp[an,Pure,fc]) ?_ (by simp[Pure,an]);refine sR ?_;refine sI ?_;refine bt [0,1,2] (λ_:Nat=>[(6,aa 1)]) (λ_=>[]) (λ_=>True) (λ_=>0) 0 ?_;refine sW ?_;refine⟨trivial,by exact sK,rfl,?_⟩;rintro k -
 refine c6 ?_;exact .refl _
theorem zsr(n:Int):ar ai 212 [.aM 1 [],aa 0,aa 0,aa n] (.aI []):=by
 refine dC fZ zs (by simp[an,Pure,fc]) ?_ (by simp[Pure,an]);refine sR ?_;refine bt [0] (λ_:Nat=>[(1,aa 0),(2,aa 0),(3,aa n),(8,aD true),(9,aD true)]) (λ_=>[]) (λ_=>True) (λ_=>0) 0 ?_;refine sW ?_;refine⟨trivial,by exact sK,rfl,?_⟩;rintro k -
 refine c6 ?_;refine sI ?_;refine sC znI ?_;exact .refl _
theorem Pw:ar ai 124 [.aM 1 []] (.aI []):=by
 refine dC fZ zs (by simp[an,Pure,fc]) ?_ (by simp[Pure,an]);refine sR ?_;rw[show(([]:fE).length:Int)=0 from rfl];refine .inl ⟨by unfold dQ;rw[IntKind.wrap_u64];omega,?_⟩;refine sW ?_;refine sC zoI ?_;refine sC (zsr 0) ?_;exact .refl _
theorem zvn(aw:Nat)(l:ah)(hl:l.length<4611686018427387904) :
  cp ai 124 [.own 0 aw 0 l.length] [.vec true aw 1<|aA l] (.aI []) [.vec true aw 1<|aA<|rf l]:=by
 rcases xp l.length with h0|h0
 ·have h0:=n8.1 h0;subst h0;refine⟨Pw.1,zs,λJ F w vs cE kA hR=>?_⟩;simp only[bB,rep] at hR;obtain⟨v,us,rfl,⟨s,A,n,c,hJ,rfl,_,hq⟩,rfl⟩:=hR;obtain⟨ob,ho,hO⟩:=cE.obj 0 s hJ;have ho:ao.vec true aw 1 (aA [])=ob:=tK ho;subst ho;simp only[oW] at hO;obtain⟨dF,B5,VO,hlen,Eb,j8⟩:=hO;obtain⟨_,_,oG,hn,hc,hA⟩:=hq B5.symm;have qz:n=0:=(by simpa using hn);subst qz;refine(Pw.run J F w [.slice A 0 c] cE.lt<|by simp only[bB,rep];exact⟨_,_,rfl,⟨_,_,_,rfl,rfl,zo,.inl rfl⟩,rfl⟩).mono λe w' ⟨v,F',he,h1,h2,h3⟩=>?_;refine⟨v,J,F',he,?_,kA,kq (HN J) (λ_ h=>h) (λ_ _=>rfl) _ _ h2,Ext.Wr cE h3⟩;rw[show rf []=[] by simp[rf]];exact cE.wS (λb hb=>h3.block b hb<|p' b) h3.size h3.grow (λb hb=>(h3.pc b hb).imp_right λq=>q.resolve_left<|p' b) h1
 exact Y9 aw l h0 hl
end
theorem TK:∀(a b:ah),a.Pairwise (·<·)->b.Pairwise (·<·)->(∀x,x∈a↔x∈b)->a=b
 |[],[],_,_,_=>rfl
 |[],y::b,_,_,h=>by have:=(h y).2 zs;cases this
 |x::a,[],_,_,h=>by have:=(h x).1 zs;cases this
 |x::a,y::b,ha,hb,h=>by
  rw[List.pairwise_cons] at ha hb;have BV:x=y:=by
   have h1:=(h x).1 zs;have h2:=(h y).2 zs;rcases dZ.1 h1 with e|e
   ·exact e
   rcases dZ.1 h2 with e2|e2
   ·exact e2.symm
   have:=ha.1 y e2;have:=hb.1 x e;omega
  subst BV;refine bJ _<|TK a b ha.2 hb.2 λz=>⟨λhz=>?_,λhz=>?_⟩
  ·have:=ha.1 z hz;rcases dZ.1<|(h z).1 (by simp[hz]) with e|e
   ·omega
   exact e
  have:=hb.1 z hz;rcases dZ.1<|(h z).2 (by simp[hz]) with e|e
  ·omega
  exact e
theorem X2(k:Nat):(fu p k).Pairwise (·<·):=by
 unfold fu;rw[List.pairwise_map];refine List.Pairwise.imp (R:=λa b:Nat=>a<b) (λh=>zo) ?_;exact List.Pairwise.filter _<|List.pairwise_lt_range ..
theorem ZM{l:ah}(h:l.Pairwise λa b=>a<=b)(hn:l.Nodup):l.Pairwise (·<·):=by
 have:=List.Pairwise.and h hn;exact this.imp λ⟨h1,h2⟩=>zo
theorem Vw(hw:f.wf bz):rf (gQ []<|cP f)=m6 (cP f):=by
 have hp:(rf<|gQ []<|cP f).Perm<|gQ []<|cP f:=List.mergeSort_perm _ _;refine TK _ _ (ZM ?_<|hp.nodup_iff.2<|zpA _ _ zs) (X2 _ _) λx=>?_
 ·have:=List.pairwise_mergeSort (le:=λx y:Int=>decide (x<=y)) (λa b c h1 h2=>by simp only[ja] at *;omega) (λa b=>by simp only[qX,ja];omega)<|gQ []<|cP f;exact this.imp λh=>by simpa using h
 rw[hp.mem_iff,XE,Ou<|Fm f hw];simp
theorem QX(hw:f.wf lY)(fh:(m6<|cP f).length+(bX []<|partsOf f).length<=10):xD (m6<|cP f) (bX []<|partsOf f) where
 few:=fh
 atoms x hx:=Fm f (vq hw) x<|(Ou<|Fm f<|vq hw).1 hx
 told g hg:=zsl (vq hw) hg
 wf g hg:=V5 lY f hw g<|((MB _ _).1 hg).resolve_left zs
noncomputable def zr(A:ah)(P:List Tree)(k r:Nat):ah:=fu (λt=>qV A P t==r) k
noncomputable def lC(A:ah)(P:List Tree)(k:Nat):aj:=(List.range<|2^P.length).map<|zr A P k
@[simp] theorem zrR(P:List Tree)(k:Nat):(lC A P k).length=2^P.length:=by simp[lC]
theorem HA{A:ah}{r:Nat}(h:r<2^P.length):(lC A P k).getD r []=zr A P k r:=by
 unfold lC;rw[aE,cU,qI h];rfl
theorem zrt(P:List Tree)(k r:Nat):(zr A P k r).length<=k:=rS _ _
theorem zoC(P:List Tree):lC A P 0=List.replicate (2^P.length) []:=by
 unfold lC;rw[List.eq_replicate_iff];refine⟨zs,λb hb=>?_⟩;obtain⟨r,_,rfl⟩:=dq.1 hb;rfl
theorem P4(P:List Tree)(s:Nat):qV A P s<2^P.length:=D2 _ _
theorem zre(P:List Tree)(k:Nat):(lC A P k).set (qV A P k) (zr A P k (qV A P k)++[(k:Int)])=lC A P (k+1):=by
 apply qC;intro j;rw[vo];by_cases hj:j<2^P.length
 ·rw[By (L:=lC A P<|k+1)<|by simpa using hj,HA hj];have hS:zr A P (k+1) j=if (qV A P k==j)=true then zr A P k j++[(k:Int)] else zr A P k j:=zC _ _
  rw[hS];by_cases e:qV A P k=j
  ·rw[ae e,e,ae<|by simpa using hj,ae zs]
  rw[ab e,By (L:=lC A P k)<|by simpa using hj,HA hj,ab<|by simpa using e]
 rw[cY<|by simpa using hj,ab λe:qV A P k=j=>hj<|e▸P4 A P k,cY<|by simpa using hj]
variable{s:Nat}
theorem VA{a p:Nat}(h:s<2^(a+p)):s/2^a<2^p:=by
 rw[Nat.div_lt_iff_lt_mul<|Nat.two_pow_pos _,Bc,<-Nat.pow_add];exact h
theorem YP{A:ah}(h:s<2^(A.length+P.length)):(lC A P<|2^(A.length+P.length)).getD (s/2^A.length) []=vJ A P (A.length+P.length) s:=HA<|VA h
noncomputable def cL(A:ah)(P:List Tree)(f:Tree)(k:Nat):ah:=fu (λs=>eu (dJ A P s) f) k
noncomputable def mn(A:ah)(P:List Tree)(k:Nat):aj:=(List.range k).map<|vJ A P<|A.length+P.length
noncomputable def gR(A:ah)(is:Bool)(k:Nat):ah:=(List.range k).map λs=>kN A s is A.length
theorem R7(P:List Tree)(f:Tree)(k:Nat):cL A P f (k+1)=if eu (dJ A P k) f=true then cL A P f k++[(k:Int)] else cL A P f k:=zC _ _
theorem RK(P:List Tree)(k:Nat):mn A P (k+1)=mn A P k++[vJ A P (A.length+P.length) k]:=by simp[mn,qy]
theorem JN(is:Bool)(k:Nat):gR A is (k+1)=gR A is k++[kN A k is A.length]:=by simp[gR,qy]
@[simp] theorem zA0(P:List Tree)(k:Nat):(mn A P k).length=k:=by simp[mn]
@[simp] theorem zBh(is:Bool)(k:Nat):(gR A is k).length=k:=by simp[gR]
theorem WC(P:List Tree)(f:Tree)(k:Nat):(cL A P f k).length<=k:=rS _ _
theorem V9(P:List Tree)(f:Tree):mK A P f=⟨cL A P f<|2^(A.length+P.length),mn A P<|2^(A.length+P.length),gR A true<|2^(A.length+P.length),gR A false<|2^(A.length+P.length),nF A P (A.length+P.length) P.length⟩:=rfl
variable{R:ah}
theorem QS{A:ah}{z i:Nat}(hz:z=i)(hi:i<2^P.length)(hR:(lC A P k).getD i []=R):((lC A P k).map λl=>[aO l])[z]? = some [aO R]:=by
 subst hz;rw[cU,By (L:=lC A P k)<|by simpa using hi,hR];rfl
theorem MO{S:ay}{H:aF}{x y:bh}(h:kZ S H x y):∀a:fE,jJ S H (a++[x]) (a++[y])
 |[]=>.cons _ _ _ _ h (.refl _)
 |z::a=>.cons _ _ _ _ (.refl _)<|MO h a
variable{c id:Nat}
theorem n6{S:ay}{L:aj}{aw:Nat}{m:Bool}(hc:c=L.length)(hn:n=R.length)(hS:S id)(hH:H[id]? = some (.vec m aw 1<|aA R)) :
  jJ S H (List.drop 0 (List.take c<|gr L)++List.drop 0 (List.take 1 [[D.own id aw 0 n]])) (gr<|L++[R]):=by
 subst hc hn;rw[cx zs,show gr (L++[R])=gr L++[[aO R]] by simp[gr]];exact MO (.cons _ _ _ _ (.own _ _ _ _ _ _ _ _ hS hH<|aZ<|cx<|by simp[aA]) (.refl _)) _
variable(ρ:Nat->Nat)
theorem Nx(l:ah):lz ρ (aA l)=aA l:=kQ _<|db _ (λl=>by simp[an,Pure]) l
theorem Ri(l:List Tree):lz ρ (b6 l)=b6 l:=kQ _<|dX l
def ir(l:ah):fE:=l.map λn=>[.sc (.int .u64 n)]
variable(l:ah)
@[simp] theorem zAX:(ir l).length=l.length:=aK ..
@[simp] theorem nX:fc<|ir l:=db _ (λl=>by simp[an,Pure]) l
@[simp] theorem zwE:bg m (ir l)↔True:=⟨λ_=>trivial,λ_=>aV _<|nX l⟩
theorem oB{l:ah}(h:c=l.length):List.drop 0 (List.take c<|ir l)++[[.sc (.int .u64 x)]]=ir (l++[x]):=by
 subst h;rw[cx zs];simp[ir]
noncomputable def Ar(t:Tree):D :=
 if (nS t<|de t).2=0 then yE<|de t else .aI [lX Lg,.sc (.int .i64 (nS t<|de t).2)]
theorem zoR(h:(nS t<|de t).2=0):(nS t<|de t).1=de t/\aS bz t=0/\aS bz (de t)=0:=by
 unfold nS at *;split at h
 ·rename_i h1;split at h
  ·rename_i h2;rw[ae h1,ae h2];exact⟨rfl,h1,h2⟩
  rename_i h2;exact absurd h h2
 rename_i h1;exact absurd h h1
def zAN:PC:=SO [Bi 59 .lss 58 57] (.seq (CX 59 0) (.seq (.block 1<|SO [qm 60 58,qm 9 60]<|SO [qm 61 5,qm 62 9,Ca 63 125 [61,62],qm 10 63]<|OP [qm 64 8,qm 65 10,qm 66 8,qm 67 10,Ia 68 1 66 67,Lo 69 68,qm 70 9,Bs 71 1 1 [70],Ap 72 1 8 69 71,Ia 73 1 64 65,So 1 73 72])<|OP [Bi 74 .add 58 K1,qm 58 74]))
def zAd:PC:=SO [Bi 78 .lss 77 76] (.seq (CX 78 2) (.seq (.block 3<|SO [qm 79 77,qm 11 79] (.seq (SO [qm 80 5,LA 81 3 1,qm 82 11,Ca 83 126 [80,81,82]]<|If 83<|OP [Fa 84 0 7,Lo 85 84,qm 86 11,Bs 87 1 1 [86],Ap 88 1 8 85 87,Fa 89 0 7,So 1 89 88]) (.seq (.ops [Fa 90 1 7,Ld 91 90 1,qm 92 8,qm 93 5,qm 94 11,Cd 95 128 [93,94] 24,Ja 96 1 92 95 60,Ld 97 96 124,Cd 98 127 [97] 252,qd 99 (.oP 1 1 [98]) 508,qd 100 (.append 1 24 91 99) 1023,Fd 101 1 7 2047,qk (.store 1 101 100) 4095] true) (.seq (.ops [Fa 102 2 7,Ld 103 102 1,qm 104 5,qm 105 11,Cd 106 129 [104,105,cT] 12,qd 107 (.oP 1 1 [106]) 28,qd 108 (.append 1 8 103 107) 63,Fd 109 2 7 127,qk (.store 1 109 108) 255] true) (.ops [Fa 110 3 7,Ld 111 110 1,qm 112 5,qm 113 11,Cd 114 129 [112,113,cF] 12,qd 115 (.oP 1 1 [114]) 28,qd 116 (.append 1 8 111 115) 63,Fd 117 3 7 127,qk (.store 1 117 116) 255] true)))))<|OP [Bi 118 .add 77 K1,qm 77 118]))
def Yl:PC:=SO [Bi 134 .lss 133 132] (.seq (CX 134 6) (.seq (.block 7<|SO [qm 135 133,qm 15 135]<|SO [qm 136 5,LA 137 3 13,qm 138 15,Ca 139 130 [136,137,138]]<|If 139<|OP [qm 140 14,qm 141 15,Bs 142 1 1 [141],Ap 143 1 8 140 142,qm 14 143])<|OP [Bi 144 .add 133 K1,qm 133 144]))
def Y4:PC:=SO [Bi 125 .lss 124 123] (.seq (CX 125 4) (.seq (.block 5<|SO [Ia 126 3 122 124,LA 127 3 126,q 13 (.alloc [v0,v0,vN]),So 3 13 127] (.seq (SO [Fa 128 0 13,Lo 129 128,Bi 130 .eql 129 K7]<|If 130 (.exit 5))<|SO [Mv 14 cN] (.seq (SO [qm 131 6,Bi 132 .shl K1 131,Mv 133 K0]<|BL 6 Yl)<|OP [Fa 145 4 7,Lo 146 145,qm 147 14,Bs 148 1 1 [147],Ap 149 1 24 146 148,Fa 150 4 7,So 1 150 149])))<|OP [Bi 151 .add 124 K1,qm 124 151]))
def c45:PC:=SO [Bx 1 0,q 2 (.alloc [vN,vN,vN,vN,vN]),Mv 3 K0]<|SO [LA 17 3 1,Ca 18 122 [17],qm 16 18,Xt 19 0 16,Xt 20 1 16,So 3 1 19,qm 4 20] (.seq (SO [qm 21 4,Bi 22 .neq 21 K0]<|If 22<|SO [q 23 (.build [vN,vN,vN,vN,vN] []),qm 24 4,So 5 2 23,qm 3 24] .ret)<|SO [q 25 (.build [vN,vN] []),Bx 26 25,qm 5 26] (.seq (.stop<|OP [qm 27 5,LA 28 3 1,Ca 29 123 [27,28]])<|SO [qm 30 5,q 31 (.jR 30),Fa 32 0 31,Lo 33 32,Ca 34 124 [33]] (.seq (.stop (.ops [qm 35 5,qd 36 (.jR 35) 1,Fd 37 0 36 3,Ld 38 37 7,qd 39 (.len 38) 15,qm 40 5,qd 41 (.jR 40) 32,Fd 42 1 41 96,Ld 43 42 224,qd 44 (.len 43) 480,Bd 45 .add 39 44 1023,qw 6 45 2047] true)) (.seq (SO [qm 46 6,Bi 47 .gtr 46<|cI 10]<|If 47<|SO [q 48 (.build [vN,vN,vN,vN,vN] []),So 5 2 48,Mv 3 K2] .ret)<|SO [q 7 (.alloc [vN,vN,vN,vN,vN])]<|SO [qm 49 5,q 50 (.jR 49),Fa 51 1 50,Lo 52 51,Ln 53 52,Bi 54 .shl K1 53,q 55 (.sM 1 24 [vN] 54 54),qm 8 55] (.seq (SO [qm 56 6,Bi 57 .shl K1 56,Mv 58 K0] (.stop<|BL 0 zAN)) (.seq (SO [qm 75 6,Bi 76 .shl K1 75,Mv 77 K0] (.stop<|BL 2 zAd)) (.seq (SO [qm 119 5,q 120 (.jR 119),Fa 121 1 120,Lo 122 121,Ln 123 122,Mv 124 K0] (.stop<|BL 4 Y4))<|SO [LA 152 5 7,So 5 2 152,Mv 3 K0] .ret)))))))
theorem zw9(t:Tree)(hs:Small t):ar ai 45 [aY t]<|Ar t:=by
 have hP:=zov t hs;have Fj:Pure<|Ar t:=by
  unfold Ar yE;split
  ·dsimp only;split<;>simp[Pure,an,Db]
  simp[Pure,an,Db]
 refine dC (fJ 153 [.agg 2 5,.tmp 3] c45 Tryz.func45) zs (by simp[an,c7]) ?_ Fj;refine sR ?_;refine sC hP ?_;unfold Ar;refine sS (λh0=>?_) λh0=>?_
 ·have h0:¬(nS t<|de t).2=0:=(by simpa using h0);rw[ab h0];exact sP
 have h0:(nS t<|de t).2=0:=by simpa using h0
 obtain⟨e1,hc,w8⟩:=zoR h0;rw[ae h0,e1];have xB:=((qM _ _).1 w8).2.2;have fT:=((qM _ _).1 w8).1;have D7:=RW t ((qM _ _).1 hc).2.2;clear hP Fj h0 e1 hc w8;generalize de t=f at *;have V0:=KZ f;have rq:=IV f;have hG:=zr4 f xB [] [] (by simp;omega) (by simp;omega);have FZ:=uD (cP f) [];have BZ:=m9 (partsOf f) [];have Lb:=zvn (gQ []<|cP f).length (gQ []<|cP f) (by simp at *;omega);rw[Vw xB] at Lb;have uG:(m6<|cP f).length=(gQ []<|cP f).length:=by rw[<-Vw xB];simp
 have hT:=QX D7;have Ov:=KF xB;unfold yE;dsimp only;generalize JS:gQ [] (cP f)=A0 at *;generalize CI:m6 (cP f)=A at *;generalize iP:bX [] (partsOf f)=P at *;obtain⟨N5,LV⟩:∃N5:bh,N5=[ax,ax,ax,ax,ax]:=⟨_,rfl⟩;refine b8 (aR 3 (env':=[(1,.loc 0 0),(2,.loc 1 0),(3,aa 0),(5,.loc 2 0)]) (H':=[.row true<|aN f,.row true N5,.row true [ax,ax]]) zs rfl (by exact sQ) ⟨⟨rfl,.refl _,bu _<|cM _⟩,⟨rfl,by rw[LV];exact .refl _,by rw[LV];simp[au,aq]⟩,⟨rfl,.refl _,by simp[au,aq]⟩,trivial⟩) ?_;refine b8 (kS (iq 2 0 1 zs rfl rfl)<|iq 2 1 3 zs rfl rfl) ?_;refine sR ?_
 have Xk:cp ai 123 [.loc 2 0,aY f] [.row true<|aN f,.row true N5,.row true [.own 3 0 0 0,.own 4 0 0 0],.vec true 0 1 [],.vec true 0 3 []] (.aI [])
   [.row true<|aN f,.row true N5,.row true [.own 3 A0.length 0 A0.length,.own 4 P.length 0 P.length],.vec true A0.length 1<|aA A0,.vec true P.length 3<|b6 P]:=by
  refine r9 hG [.row true<|aN f,.row true N5] [] rfl (by simp[dj,au,aq,bw _<|c7 _]) (wH<|by simp[dj]) (by simp[bP,D.aQ]) (by simp[D.aQ,bP]) ?_ ?_
  ·simp[dj,ao.aQ,bP,D.aQ,lz,aA,b6]
  simp only[dj,fi,gm,ao.aQ,bP,D.aQ,bH,bU,Nx,Ri];rfl
 refine sA Xk ?_
 have Cy:cp ai 124 [.own 3 A0.length 0 A0.length] [.row true<|aN f,.row true N5,.row true [.own 3 A0.length 0 A0.length,.own 4 P.length 0 P.length],.vec true A0.length 1<|aA A0,.vec true P.length 3<|b6 P] (.aI [])
   [.row true<|aN f,.row true N5,.row true [.own 3 A0.length 0 A0.length,.own 4 P.length 0 P.length],.vec true A0.length 1<|aA A,.vec true P.length 3<|b6 P]:=by
  refine r9 Lb [.row true<|aN f,.row true N5,.row true [.own 3 A0.length 0 A0.length,.own 4 P.length 0 P.length]] [.vec true P.length 3<|b6 P] rfl (by simp[au,aq]) ⟨aV _<|db _ (λl=>by simp[an,Pure]) A0,trivial⟩ (by simp[bP,D.aQ]) (by simp[D.aQ,bP]) ?_ ?_
  ·simp only[fi,gm,ao.aQ,Nx];rfl
  simp only[fi,gm,ao.aQ,Nx];rfl
 refine sA Cy ?_;have FY:=ZB A P;refine b8 (rZ (nK 2) (env':=[(1,.loc 0 0),(2,.loc 1 0),(3,aa 0),(5,mD A P)]) (H':=[.row true<|aN f,.row true N5,.row false [aO A,.aM 3<|b6 P],.vec false A0.length 1<|aA A,.vec false P.length 3<|b6 P]) ?_ ?_) ?_
 ·refine⟨.refl _,.refl _,.refl _,gS.loc _ _ _ _ _ rfl rfl (.cons _ _ _ _ (.own _ _ _ _ _ _ _ _ rfl rfl ?_) (.cons _ _ _ _ (.own _ _ _ _ _ _ _ _ rfl rfl ?_) (.refl _))),trivial⟩
  ·rw[<-uG];exact aZ<|cx<|by simp[aA]
  exact aZ<|cx zs
 ·refine⟨⟨.inl rfl,(λh=>by cases h),.refl _⟩,⟨.inl rfl,(λh=>by cases h),.refl _⟩,⟨.inr ⟨rfl,rfl⟩,λ_=>rfl,.cons _ _ _ _ (.own _ _ _ _ _ _ _ _ rfl rfl ?_) (.cons _ _ _ _ (.own _ _ _ _ _ _ _ _ rfl rfl ?_) (.refl _))⟩,⟨.inr ⟨rfl,rfl⟩,λ_=>rfl,rfl,rfl,.refl _⟩,⟨.inr ⟨rfl,rfl⟩,λ_=>rfl,rfl,rfl,.refl _⟩,trivial⟩
  ·rw[<-uG];exact aZ<|cx<|by simp[aA]
  exact aZ<|cx zs
 have Nl:A.length<=60:=by simp at FZ;omega
 have zM2:P.length<=60:=by simp at BZ;omega
 subst LV;clear hG Lb Xk Cy FZ BZ JS uG;unfold mD;refine sR ?_;rw[aK,qW];refine sI ?_;refine sS (λfh=>?_) λfh=>?_
 ·have fh:10<A.length+P.length:=sO;rw[ae fh];exact sP
 have fh:¬10<A.length+P.length:=sO;rw[ab fh];have hI:=hT zo;have hp2:=AJ (n:=P.length) zo;have zG:=AJ (n:=A.length+P.length) zo;have s1:(1:Int)*2^min ((P.length:Nat):Int).toNat IntKind.i64.bits=((2^P.length:Nat):Int):=NB P.length zo;have s2:(1:Int)*2^min ((A.length+P.length:Nat):Int).toNat IntKind.i64.bits=((2^(A.length+P.length):Nat):Int):=NB _ zo;rw[qW];refine⟨zo,?_⟩;rw[s1];generalize DZ:2^P.length=NP at *;generalize uY:2^(A.length+P.length)=N at *;refine sI ?_;refine⟨zo,zo,zo,?_⟩;rw[bQ];refine sW ?_;rw[<-Int.natCast_add];simp only[xG];refine⟨zo,?_⟩;rw[s2];refine sI ?_;have hK:=zxg A P hI;have zLv:D.aB [aO A,.aM 3<|b6 P]=mD A P:=rfl;have MS:∀k,(lC A P k).length=NP:=λk=>by rw[zrR,DZ]
 refine px (λ_:Unit=>[(1,.loc 0 0),(2,.loc 1 0),(5,mD A P),(6,aa ((A.length+P.length:Nat):Int)),(7,.loc 5 0),(8,.own 6 0 0 NP)])
  (λ_=>[.row true<|aN f,.row true [ax,ax,ax,ax,ax],.row false [aO A,.aM 3<|b6 P],.vec false A0.length 1<|aA A,.vec false P.length 3<|b6 P,.row true [ax,ax,ax,ax,ax],.vec true 0 1<|(lC A P N).map λl=>[aO l]]) (λ_=>True) ?_ ?_
 ·refine sR ?_;refine b8 (Bp 6 1 NP 0 zs rfl) ?_;refine cJ [1,2,5,6,7,8,57] (λk:Nat=>[(58,aa k)]) (λk=>.row true (aN f)::.row true [ax,ax,ax,ax,ax]::.row false [aO A,.aM 3<|b6 P]::.vec false A0.length 1 (aA A)::.vec false P.length 3 (b6 P)::.row true [ax,ax,ax,ax,ax]::.vec true 0 1 (jZ 7<|lC A P k)::fO 1 l6 (lC A P k)) (λk=>k<=N) (λk=>N-k) 0 ?_;refine sW ?_;refine⟨zo,by exact sK,?_,?_⟩
  ·rw[zoC,DZ];show _::_::_::_::_::_::_::_=_::_::_::_::_::_::_::_;rw[A9 1 _ l6];exact bJ (λx=>_::_::_::_::_::_::ao.vec true 0 1 x::_)<|Bn (α:=Int) 7 _
  rintro k hk;refine br (λq0=>?_) λq0=>?_
  ·have q0:k<N:=sO;have Mm:=P4 A P k;have hlen:=MS k;have lJ:=zre A P k;have gb:=HA (A:=A) (P:=P) (k:=k) Mm;have uT:=zrt A P k<|qV A P k;rw[DZ] at Mm;refine sC (hK k) ?_;generalize qV A P k=v at *;generalize zr A P k v=C at *;generalize RX:lC A P (k+1)=R2 at *;generalize lC A P k=R at *;refine sB ?_;refine⟨_,mh (i:=v) zo zo,?_⟩;refine sW ?_;refine yq ?_;refine sW ?_
   (repeat (first|(refine gL 0 rfl ?_;((conv=>whnf);repeat(refine⟨rfl,?_⟩;conv=>whnf)))|(refine gN 0 rfl ?_;((conv=>whnf);repeat(refine⟨rfl,?_⟩;conv=>whnf)))|(refine gL 1 rfl ?_;((conv=>whnf);repeat(refine⟨rfl,?_⟩;conv=>whnf)))|(refine gN 1 rfl ?_;((conv=>whnf);repeat(refine⟨rfl,?_⟩;conv=>whnf)))))
   refine wN zo ?_;refine sW ?_;rw[gb];refine⟨by unfold je;simp only[lL,gA,bH,bU];omega,?_⟩;refine sW ?_;refine yp (C++[(k:Int)]) zo ?_ ?_
   ·exact x9
   refine bE ?_;refine⟨_,mh (i:=v) zo zo,?_⟩;refine bb ?_;refine⟨k+1,zo,zd,?_⟩;dsimp only;rw[RX];have yP:R2.length=NP:=(by rw[<-lJ,tD,hlen]);refine aR (NP+7) zs (by simp[yP]) (by exact sQ) ⟨⟨rfl,.refl _,bu _<|cM _⟩,⟨rfl,.refl _,by simp[au,aq]⟩,⟨rfl,.refl _,by simp[au,bw _<|cG A,aq,aV _<|dX P]⟩,⟨rfl,rfl,rfl,.refl _,aV _<|db _ (λl=>by simp[an,Pure]) A⟩,⟨rfl,rfl,rfl,.refl _,aV _<|dX P⟩,⟨rfl,.refl _,by simp[au,aq]⟩,⟨rfl,rfl,rfl,aZ ?_,xz<|by rw[<-lJ,tD];omega⟩,by rw[<-lJ];exact wL GN⟩;rw[<-lJ];exact(xr zo zo (C++[(k:Int)]) zs)
  have q0:k=N:=by have:¬k<N:=sO
                  omega
  subst q0;refine⟨(),trivial,aR 7 zs rfl (by exact sQ) ⟨⟨rfl,.refl _,bu _<|cM _⟩,⟨rfl,.refl _,by simp[au,aq]⟩,⟨rfl,.refl _,by simp[au,bw _<|cG A,aq,aV _<|dX P]⟩,⟨rfl,rfl,rfl,.refl _,aV _<|db _ (λl=>by simp[an,Pure]) A⟩,⟨rfl,rfl,rfl,.refl _,aV _<|dX P⟩,⟨rfl,.refl _,by simp[au,aq]⟩,⟨rfl,rfl,rfl,CP (c:=l6) (λi hi=>by simp[nK]) λi hi=>?_,aV _<|tV _⟩,BW _⟩⟩;show(fO 1 l6<|lC A P k)[i]? = _;exact xv hi
 intro _ _;refine sW ?_;refine⟨zo,?_⟩;rw[s2];refine sI ?_;refine sR ?_;refine b8 (kS (iq 5 0 1 zs rfl rfl)<|kS (iq 5 1 1 zs rfl rfl)<|kS (iq 5 2 1 zs rfl rfl)<|iq 5 3 1 zs rfl rfl) ?_;refine cJ [1,2,5,6,7,8,76] (λk:Nat=>[(77,aa k)]) (λk=>[.row true<|aN f,.row true [ax,ax,ax,ax,ax],.row false [aO A,.aM 3<|b6 P],.vec false A0.length 1<|aA A,.vec false P.length 3<|b6 P,.row true [.own 7 (cL A P f k).length 0 (cL A P f k).length,.own 8 k 0 k,.own 9 k 0 k,.own 10 k 0 k,ax],.vec true 0 1<|(lC A P N).map λl=>[aO l],.vec true (cL A P f k).length 1<|aA<|cL A P f k,.vec true k 1<|gr<|mn A P k,.vec true k 1<|ir<|gR A true k,.vec true k 1<|ir<|gR A false k]) (λk=>k<=N) (λk=>N-k) 0 ?_;refine eC ?_;rintro k hk;have pV:=WC A P f k;refine br (λq0=>?_) λq0=>?_
 ·have q0:k<N:=sO;have hH:=Iu A P hI k f D7 Ov;have eS:=R7 A P f k;have hO:=X3 A P Nl k;have It:k/2^A.length<NP:=(by rw[<-DZ];exact VA<|by rw[uY];exact q0);have dF:=YP (A:=A) (P:=P) (s:=k) (by rw[uY];exact q0);rw[uY] at dF;have eN:=RK A P k;rw[<-DZ] at It;have eT:=JN A true k;have eF:=JN A false k;have Ry:=TT A P Nl hI.atoms k true;have VU:=TT A P Nl hI.atoms k false;have CC:(vJ A P (A.length+P.length) k).length<=1024:=(by have h:(vJ A P (A.length+P.length) k).length<=2^(A.length+P.length):=rS _ _;rw[uY] at h;exact iv h zG);generalize vJ A P (A.length+P.length) k=R at *;generalize kN A k true A.length=xT at *;generalize kN A k false A.length=xF at *;generalize k/2^A.length=v at *;have Pq:=MC R zo;refine sC hH ?_;cases r:eu (dJ A P k) f
  ·rw[r,ab zc] at eS;refine sW ?_;refine sC hO ?_;refine sB ?_;refine⟨_,QS (i:=v) zo (by simpa using It) dF,?_⟩;refine sW ?_;refine sE (ri Pq (by simp[an,Pure,cG]) (d:=.own 11 1 0 R.length) [11] rfl rfl (by simp[ao.aQ,bP,D.aQ];rfl)) ?_;refine sJ ?_;refine sC Ry ?_;refine sJ ?_;refine sC VU ?_;refine fA ?_;refine⟨k+1,zo,zd,?_⟩;dsimp only;rw[eS,eN,eT,eF];try rw[show(cL A P f k++[(k:Int)]).length=(cL A P f k).length+1 by simp]
   (refine aR 11 zs rfl ?_ ?_<;>(repeat' (first|exact trivial|exact rfl|exact .refl _|refine And.intro ?_ ?_|(simp[aq,au,bg,-List.map_take,-List.map_drop];done))))
   all_goals
    first|exact bu _ (cM _)|exact bw _ (cG _)|exact bw _ FY|exact aV _ (tV _)|exact aV _ (nX _)|exact aV _ (mX _)|exact aV _ (db _ (λl=>by simp[an,Pure]) _)|exact aZ (oB zs)|exact n6 zs rfl rfl rfl|exact aZ (kv _ _)|skip
  rw[r,ae rfl] at eS;refine sWJ ?_;refine sC hO ?_;refine sB ?_;refine⟨_,QS (i:=v) zo (by simpa using It) dF,?_⟩;refine sW ?_;refine sE (ri Pq (by simp[an,Pure,cG]) (d:=.own 12 1 0 R.length) [12] rfl rfl (by simp[ao.aQ,bP,D.aQ];rfl)) ?_;refine sJ ?_;refine sC Ry ?_;refine sJ ?_;refine sC VU ?_;refine fA ?_;refine⟨k+1,zo,zd,?_⟩;dsimp only;rw[eS,eN,eT,eF];try rw[show(cL A P f k++[(k:Int)]).length=(cL A P f k).length+1 by simp]
  (refine aR 11 zs rfl ?_ ?_<;>(repeat' (first|exact trivial|exact rfl|exact .refl _|refine And.intro ?_ ?_|(simp[aq,au,bg,-List.map_take,-List.map_drop];done))))
  all_goals
   first|exact bu _ (cM _)|exact bw _ (cG _)|exact bw _ FY|exact aV _ (tV _)|exact aV _ (nX _)|exact aV _ (mX _)|exact aV _ (db _ (λl=>by simp[an,Pure]) _)|exact aZ (oB zs)|exact n6 zs rfl rfl rfl|exact aZ (kv _ _)|skip
 have q0:k=N:=by have:¬k<N:=sO
                 omega
 obtain rfl:N=k:=q0.symm;refine sR ?_;refine b8 (iq 5 4 1 zs rfl rfl) ?_;refine cJ [2,5,6,7,122,123] (λk:Nat=>[(124,aa k)]) (λk=>[.row true<|aN f,.row true [ax,ax,ax,ax,ax],.row false [aO A,.aM 3<|b6 P],.vec false A0.length 1<|aA A,.vec false P.length 3<|b6 P,.row true [.own 7 (cL A P f N).length 0 (cL A P f N).length,.own 8 N 0 N,.own 9 N 0 N,.own 10 N 0 N,.own 11 (nF A P (A.length+P.length) k).length 0 (nF A P (A.length+P.length) k).length],.vec true 0 1<|(lC A P N).map λl=>[aO l],.vec true (cL A P f N).length 1<|aA<|cL A P f N,.vec true N 1<|gr<|mn A P N,.vec true N 1<|ir<|gR A true N,.vec true N 1<|ir<|gR A false N,.vec true (nF A P (A.length+P.length) k).length 1<|gr<|nF A P (A.length+P.length) k]) (λk=>k<=P.length) (λk=>P.length-k) 0 ?_;refine sW ?_;rw[qW];refine⟨zo,by exact sK,rfl,?_⟩;rintro k hk;have yB:=HM A P (A.length+P.length) k;refine br (λq0=>?_) λq0=>?_
 ·have q0:k<P.length:=sO;have hg:=Mb q0;obtain⟨hw,ZX⟩:=hI.wf _ hg;have hTg:=hI.told _ hg;have eFa:=Va A P (A.length+P.length) q0;have hsE:yi A P (A.length+P.length) (P.getD k default)=fu (gX A P<|P.getD k default) N:=(by unfold yi;rw[uY]);refine sL (yF (k:=k) zo q0) ?_;generalize P.getD k default=g at *;refine sS (λg7=>?_) λg7=>?_
  ·have g7:g.kind=7:=(by simpa using g7);rw[ae g7] at eFa;refine bb ?_;refine⟨k+1,zo,zd,?_⟩;dsimp only;rw[eFa]
   (refine aR 12 zs rfl ?_ ?_<;>(repeat' (first|exact trivial|exact rfl|exact .refl _|refine And.intro ?_ ?_|(simp[aq,au,bg,-List.map_take,-List.map_drop];done))))
   all_goals
    first|exact bu _ (cM _)|exact bw _ (cG _)|exact bw _ FY|exact aV _ (tV _)|exact aV _ (nX _)|exact aV _ (mX _)|exact aV _ (db _ (λl=>by simp[an,Pure]) _)|exact aZ (oB zs)|exact n6 zs rfl rfl rfl|exact aZ (kv _ _)|skip
  have g7:¬g.kind=7:=(by simpa using g7);rw[ab g7,hsE] at eFa;have DM:=λs=>zwp A P hI s g hw hTg zo;refine⟨zo,?_⟩;rw[s2];refine sI ?_;refine b8 (fL 14 1 zs rfl) ?_;refine cJ [2,5,6,7,13,122,123,124,132] (λs:Nat=>[(14,.own 13 (fu (gX A P g) s).length 0 (fu (gX A P g) s).length),(133,aa s)]) (λs=>[.row true<|aN f,.row true [ax,ax,ax,ax,ax],.row false [aO A,.aM 3<|b6 P],.vec false A0.length 1<|aA A,.vec false P.length 3<|b6 P,.row true [.own 7 (cL A P f N).length 0 (cL A P f N).length,.own 8 N 0 N,.own 9 N 0 N,.own 10 N 0 N,.own 11 (nF A P (A.length+P.length) k).length 0 (nF A P (A.length+P.length) k).length],.vec true 0 1<|(lC A P N).map λl=>[aO l],.vec true (cL A P f N).length 1<|aA<|cL A P f N,.vec true N 1<|gr<|mn A P N,.vec true N 1<|ir<|gR A true N,.vec true N 1<|ir<|gR A false N,.vec true (nF A P (A.length+P.length) k).length 1<|gr<|nF A P (A.length+P.length) k,.row true<|aN g,.vec true (fu (gX A P g) s).length 1<|aA<|fu (gX A P g) s]) (λs=>s<=N) (λs=>N-s) 0 ?_;refine eC ?_;rintro s hs;have zG1:=rS (gX A P g) s;refine br (λq1=>?_) λq1=>?_
  ·have q1:s<N:=sO;have eG:=zC (gX A P g) s;refine sC (DM s) ?_;cases r:gX A P g s
   ·rw[r,ab zc] at eG;refine bb ?_;refine⟨s+1,zo,zd,?_⟩;dsimp only;rw[eG];exact aL (by exact sK) rfl
   rw[r,ae rfl] at eG;refine lh ?_;refine⟨s+1,zo,zd,?_⟩;dsimp only;rw[eG];rw[show(fu (gX A P g) s++[(s:Int)]).length=(fu (gX A P g) s).length+1 by simp]
   (refine aR 14 zs rfl ?_ ?_<;>(repeat' (first|exact trivial|exact rfl|exact .refl _|refine And.intro ?_ ?_|(simp[aq,au,bg,-List.map_take,-List.map_drop];done))))
   all_goals
    first|exact bu _ (cM _)|exact bw _ (cG _)|exact bw _ FY|exact aV _ (tV _)|exact aV _ (nX _)|exact aV _ (mX _)|exact aV _ (db _ (λl=>by simp[an,Pure]) _)|exact aZ (oB zs)|exact n6 zs rfl rfl rfl|exact aZ (kv _ _)|skip
  have q1:s=N:=by have:¬s<N:=sO
                  omega
  obtain rfl:N=s:=q1.symm;refine fA ?_;refine⟨k+1,zo,zd,?_⟩;dsimp only;rw[eFa];rw[show(nF A P (A.length+P.length) k++[fu (gX A P g) N]).length=(nF A P (A.length+P.length) k).length+1 by simp]
  (refine aR 12 zs rfl ?_ ?_<;>(repeat' (first|exact trivial|exact rfl|exact .refl _|refine And.intro ?_ ?_|(simp[aq,au,bg,-List.map_take,-List.map_drop];done))))
  all_goals
   first|exact bu _ (cM _)|exact bw _ (cG _)|exact bw _ FY|exact aV _ (tV _)|exact aV _ (nX _)|exact aV _ (mX _)|exact aV _ (db _ (λl=>by simp[an,Pure]) _)|exact aZ (oB zs)|exact n6 zs rfl rfl rfl|exact aZ (kv _ _)|skip
 have q0:k=P.length:=by have:¬k<P.length:=sO
                        omega
 subst q0;have hE:=V9 A P f;rw[uY] at hE;rw[hE];refine .aI _ _ (.cons _ _ _ _ (.agg _ _ (.cons _ _ _ _ (.own _ _ _ _ _ _ _ _ rfl ?_) (.cons _ _ _ _ (.own _ _ _ _ _ _ _ _ rfl ?_) (.cons _ _ _ _ (.own _ _ _ _ _ _ _ _ rfl ?_) (.cons _ _ _ _ (.own _ _ _ _ _ _ _ _ rfl ?_) (.cons _ _ _ _ (.own _ _ _ _ _ _ _ _ rfl ?_) .nil)))))) (.cons _ _ _ _ (.refl _) .nil))
 ·exact u5<|by simp[aA]
 ·exact u5 zs
 ·exact u5 zs
 ·exact u5 zs
 exact u5 zs
theorem Mw{p:ay}:bx (fu p n) n:=kG λx hx=>by
 obtain⟨k,hk,rfl⟩:=dq.1 hx;have:=fX.1 (rP.1 hk).1;omega
theorem L5(P:List Tree)(f:Tree):(mK A P f).next.length=2^(A.length+P.length):=by simp[mK]
theorem zt7{A:ah}(h:A.length+P.length<=10)(f:Tree):(mK A P f).aS=0:=by
 have h2:=AJ h;have hn:=L5 A P f;have hf:(mK A P f).fair.length<=P.length:=HM _ _ _ _;unfold bS.aS;rw[ab zo,ab ?_,ab ?_,ab ?_]
 ·rw[oL,pd];intro l hl;obtain⟨g,_,rfl⟩:=dq.1 hl;rw[hn,show bx (yi A P (A.length+P.length) g) (2^(A.length+P.length))=true from Mw];decide
 ·rw[oL,pd];intro l hl;obtain⟨s,_,rfl⟩:=dq.1 hl;rw[hn,show bx (vJ A P (A.length+P.length) s) (2^(A.length+P.length))=true from Mw];decide
 rw[hn];simp only[mK,aK,List.length_range,ne_eq,not_true_eq_false,false_or];rw[Mw];decide
theorem Vi(A:ah)(s:Nat)(is:Bool):∀k,0<=kN A s is k/\kN A s is k<18446744073709551616
 |0=>by simp[kN]
 |k+1=>by
  rw[kN];split
  ·have e:jv .or .u64 (kN A s is k) (2^(A.getD k 0).toNat)=(((BitVec.ofInt 64 (kN A s is k) ||| BitVec.ofInt 64 (2^(A.getD k 0).toNat)).toNat:Nat):Int):=Mg _;rw[e];have:=(BitVec.ofInt 64 (kN A s is k) ||| BitVec.ofInt 64 (2^(A.getD k 0).toNat)).isLt;omega
  exact Vi A s is k
theorem zq7(P:List Tree)(f:Tree):sT (mK A P f).jq:=by
 intro x hx;obtain⟨s,_,rfl⟩:=dq.1 hx;exact Vi A s true A.length
theorem zse{A:ah}(h:A.length+P.length<=10)(f:Tree):(mK A P f).Fits/\(mK A P f).start.length<=1048576/\∀l∈(mK A P f).next,l.length<=1048576:=by
 have h2:=AJ h;have s1:(mK A P f).start.length<=2^(A.length+P.length):=rS _ _;have s2:∀l∈(mK A P f).next,l.length<=2^(A.length+P.length):=λl hl=>by
  obtain⟨s,_,rfl⟩:=dq.1 hl;exact rS _ _
 have s3:∀l∈(mK A P f).fair,l.length<=2^(A.length+P.length):=λl hl=>by
  obtain⟨s,_,rfl⟩:=dq.1 hl;exact rS _ _
 have hf:(mK A P f).fair.length<=P.length:=HM _ _ _ _;have hn:=L5 A P f;have hm:(mK A P f).jq.length=2^(A.length+P.length):=by simp[mK]
 have hm2:(mK A P f).mi.length=2^(A.length+P.length):=by simp[mK]
 exact⟨⟨zo,zo,zo,zo,zo,λl hl=>by have:=s2 l hl;omega,λl hl=>by have:=s3 l hl;omega⟩,zo,λl hl=>by have:=s2 l hl;omega⟩
noncomputable def ig(t:Tree):Int:=if (nS (bO 4 t)<|de<|bO 4 t).2=0 then if 10<(m6<|cP<|de<|bO 4 t).length+(bX []<|partsOf<|de<|bO 4 t).length then 2 else 0 else (nS (bO 4 t)<|de<|bO 4 t).2
noncomputable def fg(t:Tree):bS:=if ig t=0 then mK (m6<|cP<|de<|bO 4 t) (bX []<|partsOf<|de<|bO 4 t)<|de<|bO 4 t else Lg
theorem W8(t:Tree):Ar (bO 4 t)=.aI [lX<|fg t,aa<|ig t]:=by
 unfold Ar fg ig yE;by_cases h:(nS (bO 4 t)<|de<|bO 4 t).2=0
 ·simp only[ae h];by_cases q:10<(m6<|cP<|de<|bO 4 t).length+(bX []<|partsOf<|de<|bO 4 t).length
  ·simp only[ae q];rw[ab zc];rfl
  simp only[ab q];rfl
 simp only[ab h]
theorem zvc(h:ig t=0):(m6<|cP<|de<|bO 4 t).length+(bX []<|partsOf<|de<|bO 4 t).length<=10:=by
 unfold ig at h;split at h
 ·split at h
  ·exact absurd h zc
  omega
 rename_i q;exact absurd h q
theorem KG(h:ig t=0):fg t=mK (m6<|cP<|de<|bO 4 t) (bX []<|partsOf<|de<|bO 4 t) (de<|bO 4 t):=ae h
variable{W:bc}
theorem FV(hW:W.Fits)(hc:W.aS=0)(s1:W.start.length<=1048576)(r1:∀l∈W.next,l.length<=1048576)(h:ig t=0):mY W<|fg t:=by
 have hf:=zvc h;rw[KG h];obtain⟨h1,h2,h3⟩:=zse hf<|de<|bO 4 t;exact⟨⟨hW,h1,hc,zt7 hf _⟩,s1,h2,r1,h3⟩
open Classical in
noncomputable def gz(W:bc)(A:bS):Bool:=decide (∃v,v<(b9 W A).2.length/\Fw (b9 W A).2 (js W A (b9 W A).1) v)
variable{A:bS}
theorem zuH(hb:mY W A):∃s l,sh W A (b9 W A).1 (b9 W A).2 (iu W A).2=.aI [.agg [aO s,aO l],aD<|gz W A,aa 0]/\(gz W A=false->s=[]/\l=[]):=by
 obtain⟨hN,hg⟩:=vv hb;have hp:=zzC (F:=js W A (b9 W A).1) hN.inG;have hA:gz W A↔∃v,v<(b9 W A).2.length/\Fw (b9 W A).2 (js W A (b9 W A).1) v:=by unfold gz;simp only[ja]
 rw[<-hA] at hp;unfold sh;by_cases h:pE (b9 W A).2 (js W A (b9 W A).1)<0
 ·rw[ae h];have:gz W A=false:=by
   cases e:gz W A
   ·rfl
   exact absurd h<|hp.2 e
  exact⟨[],[],by rw[this],λ_=>⟨rfl,rfl⟩⟩
 rw[ab h,hp.1 h];exact⟨_,_,rfl,λq=>by cases q⟩
theorem T7{P:bI}{f:FuncId}{d:D}{k:Int}(h:ar P f [aY<|bO k t] d)(hp:Pure d)(hid:H[id]? = some (.vec true 0 3 [[aa t.kind,aa t.num,.aM 3<|t.kids.map gO]])) :
  pJ P f [.agg [aa k,aa 0,.own id 0 0 1]] H d (H.set id (.vec false 0 3 [[aa t.kind,aa t.num,.aM 3<|t.kids.map gO]])) [id]:=by
 have hx:fc [[aa t.kind,aa t.num,.aM 3<|t.kids.map gO]]:=by
  have:=cM t;exact⟨this,trivial⟩
 have:=G6 (args0:=[.agg [aa k,aa 0,.own 0 0 0 1]]) (args':=[aY<|bO k t]) (H0:=[.vec true 0 3 [[aa t.kind,aa t.num,.aM 3<|t.kids.map gO]]]) (H:=H) (args:=[.agg [aa k,aa 0,.own id 0 0 1]])
  (.cons _ _ _ _ (.agg _ _ (.cons _ _ _ _ (.refl _) (.cons _ _ _ _ (.refl _) (.cons _ _ _ _ (.own _ _ _ _ _ _ _ _ rfl (.cons _ _ _ _ (by rw[vR];exact oN _) .nil)) .nil)))) .nil) h hp [id] rfl zs (by simp[au,aq]) ⟨aV _ hx,trivial⟩ (by simp[bP,D.aQ]) (λi o ho=>by
   cases i with
   |zero =>
    simp at ho;subst ho;show H[id]? = _;rw[hid];simp only[ao.aQ,kQ _ hx]
   |succ i=>simp at ho)
 simpa [yH,ao.frozen,ao.aQ,kQ _ hx,mJ] using this
variable(W:bc)
theorem zvA(hW:W.Fits)(s1:W.start.length<=1048576)(r1:∀l∈W.next,l.length<=1048576)(t:Tree)(hs:Small t) :
  ∃s l,ar ai 12 [gu W,aY t] (.aI [.agg [aO s,aO l],aD<|decide (W.aS=0/\aS bz t=0/\ig t=0)&&!(gz W<|fg t),aa<|if W.aS≠0 then W.aS else if aS bz t≠0 then aS bz t else ig t]) /\
   (W.aS=0->aS bz t=0->ig t=0->sh W (fg t) (b9 W<|fg t).1 (b9 W<|fg t).2 (iu W<|fg t).2=.aI [.agg [aO s,aO l],aD<|gz W<|fg t,aa 0])/\(¬(W.aS=0/\aS bz t=0/\ig t=0/\gz W (fg t))->s=[]/\l=[]):=by
 have hC:=Jg W hW;have hL:=Ad t hs;have hM:=zw9 (bO 4 t)<|tX hs;rw[W8] at hM;by_cases h1:W.aS=0
 ·by_cases h2:aS bz t=0
  ·by_cases h3:ig t=0
   ·have hb:=FV hW h1 s1 r1 h3;have hF:=zw1 hb;obtain⟨s,l,e1,e2⟩:=zuH hb;rw[e1] at hF;refine⟨s,l,?_,λ_ _ _=>e1,λh=>e2 (by cases e:gz W (fg t);rfl;exact absurd ⟨h1,h2,h3,e⟩ h)⟩;rw[ab (by simpa using h1),ab (by simpa using h2),ia ⟨h1,h2,h3⟩,kP];rw[h1] at hC;rw[h2] at hL;rw[h3] at hM⊢;generalize gz W (fg t)=b at *;refine bK fZ ?_;unfold gu at *;refine sR ?_;refine sC hC ?_;refine sC hL ?_;refine sE (T7 hM (by simp[Pure,an,Db]) rfl) ?_;refine sC hF ?_;cases b
    ·refine sW ?_;exact sP
    refine sW ?_;exact sP
   refine⟨[],[],?_,λ_ _ h=>absurd h h3,λ_=>⟨rfl,rfl⟩⟩;rw[ab<|by simpa using h1,ab<|by simpa using h2,gM λh=>h3 h.2.2,pt];rw[h1] at hC;rw[h2] at hL;generalize ig t=c at *;refine bK fZ ?_;unfold gu at *;refine sR ?_;refine sC hC ?_;refine sC hL ?_;refine sE (T7 hM (by simp[Pure,an,Db]) rfl) ?_;refine sS (λg=>?_) λg=>?_
   ·unfold aO;exact sP
   exact absurd (sO) h3
  refine⟨[],[],?_,λ_ h=>absurd h h2,λ_=>⟨rfl,rfl⟩⟩;rw[ab<|by simpa using h1,ae h2,gM λh=>h2 h.2.1,pt];rw[h1] at hC;generalize aS bz t=c at *;refine bK fZ ?_;unfold gu at *;refine sR ?_;refine sC hC ?_;refine sC hL ?_;refine sS (λg=>?_) λg=>?_
  ·unfold aO;exact sP
  exact absurd (sO) h2
 refine⟨[],[],?_,λh=>absurd h h1,λ_=>⟨rfl,rfl⟩⟩;rw[ae h1,gM λh=>h1 h.1,pt];generalize W.aS=c at *;refine bK fZ ?_;unfold gu at *;refine sR ?_;refine sC hC ?_;refine sS (λg=>?_) λg=>?_
 ·unfold aO;exact sP
 exact absurd (sO) h1
theorem zxv(hW:W.Fits)(hc:W.aS=0):ar ai 104 [gu W] (.aI [bD W.next.length<|fwB (gi W.next iM)<|W.fair.map fR,aa 0]):=by
 obtain⟨_,qs,vy,_,iD,iY⟩:=qj W hc;have hC:=Jg W hW;rw[hc] at hC;have TI:=TE W hW hc iM;refine bK fZ ?_;unfold gu at *;refine sR ?_;refine sC hC ?_;rw[aK];refine⟨zo,zo,zo,?_⟩;rw[bQ,show List.map D.sc [Value.bool false]=[aD false] from rfl,lS];refine sW ?_;refine bt [1,5,17] (λk:Nat=>[(18,aa k)]) (λk=>[(1,.vec true 0 1<|bV W.next.length λi=>decide (i<k))]) (λk=>k<=W.next.length) (λk=>W.next.length-k) 0 ?_;refine sW ?_;refine⟨zo,by exact sK,by simp;rfl,?_⟩;rintro k hk;refine br (λq0=>?_) λq0=>?_
 ·have q0:k<W.next.length:=sO;refine sB ?_;refine⟨_,bj k zo q0,?_⟩;refine bb ?_;refine⟨k+1,zo,zd,aL (by exact sK) ?_⟩;rw[nV (i:=k) (f':=λi=>decide (i<k+1)) zo λv _=>by
   by_cases e:v=k
   ·rw[ae e];simp;omega
   rw[ab e,kb];simp;omega]
  rfl
 have q0:k=W.next.length:=by have:¬k<W.next.length:=sO
                             omega
 subst q0;rw[jS (g':=iM) λi hi=>by simp[hi,iM]];rw[show bD W.next.length iM=D.aM 1 (List.drop 0<|List.take W.next.length<|bV W.next.length iM) from by rw[Fy];rfl] at TI;refine sE (Ax (pre:=[_]) (post:=[]) TI (jk _ _) ⟨by simp only[Pure];exact vj W,trivial⟩ trivial (tW _ _) rfl) ?_;exact .refl _
theorem SI(n:Nat)(hn:n<=1000000)(hl:l.length<=17592186043904)(hi:bx l n):ar ai 84 [aO l,aa n]<|bD n<|fR l:=by
 refine bL ?_;refine⟨zo,zo,zo,?_⟩;rw[bQ,show List.map D.sc [Value.bool false]=[aD false] from rfl,lS];refine sW ?_;refine bt [0,5] (λk:Nat=>[(6,aa k)]) (λk=>[(0,.vec true 0 1<|bV n<|fR<|l.take k)]) (λk=>k<=l.length) (λk=>l.length-k) 0 ?_;refine eC ?_;rintro k hk;refine c6 ?_;rw[aK];refine sS (λq0=>?_) λq0=>?_
 ·have q0:k<l.length:=sO;have hx:=cZ hi<|dP q0;have eS:∀v,fR (l.take<|k+1) v=(fR (l.take k) v||(l.getD k 0==(v:Int))):=λv=>by
   unfold fR;rw[lI,aJ q0,aE,aJ q0];rw[kb,qX,po,po,dt,gG];simp only[Bj,cB,nR];exact or_congr_right eq_comm
  refine sL (cA (l:=l) (k:=k) zo q0) ?_;generalize l.getD k 0=x at *;refine sB ?_;refine⟨_,bj x.toNat zo zo,?_⟩;refine bb ?_;refine⟨k+1,zo,zd,aL (by exact sK) ?_⟩;rw[nV (i:=x.toNat) (f':=fR<|l.take<|k+1) zo λv _=>by
   rw[eS];by_cases e:v=x.toNat
   ·rw[ae e,show(x==(v:Int))=true by rw[gG];omega,Bool.or_true]
   rw[ab e,show(x==(v:Int))=false by rw[beq_eq_false_iff_ne];omega,vV]]
  rfl
 have q0:k=l.length:=by have:¬k<l.length:=sO
                        omega
 subst q0;rw[eZ];exact s5 rfl
theorem zq8(n:Nat)(hn:n<=1000000):ar ai 64 [aa n]<|bD n iM:=by
 refine bL ?_;refine⟨zo,zo,zo,?_⟩;rw[bQ,show List.map D.sc [Value.bool false]=[aD false] from rfl,lS];refine sW ?_;refine bt [0,3] (λk:Nat=>[(4,aa k)]) (λk=>[(0,.vec true 0 1<|bV n λi=>decide (i<k))]) (λk=>k<=n) (λk=>n-k) 0 ?_;refine sW ?_;refine⟨zo,by exact sK,by simp;rfl,?_⟩;rintro k hk;refine br (λq0=>?_) λq0=>?_
 ·have q0:k<n:=sO;refine sB ?_;refine⟨_,bj k zo q0,?_⟩;refine bb ?_;refine⟨k+1,zo,zd,aL (by exact sK) ?_⟩;rw[nV (i:=k) (f':=λi=>decide (i<k+1)) zo λv _=>by
   by_cases e:v=k
   ·rw[ae e];simp;omega
   rw[ab e,kb];simp;omega]
  rfl
 have q0:k=n:=by have:¬k<n:=sO
                 omega
 subst q0;rw[jS (g':=iM) λi hi=>by simp[hi,iM]];exact s5 rfl
def wk(n:Nat)(F:aj):fE:=F.map λl=>[bD n<|fR l]
@[simp] theorem zpw(n:Nat)(F:aj):fc<|wk n F:=db _ (λl=>by simp[an,jk]) F
@[simp] theorem zvQ(F:aj):bg m (wk n F)↔True:=⟨λ_=>trivial,λ_=>aV _<|zpw n F⟩
@[simp] theorem zzT(n:Nat)(F:aj):(wk n F).length=F.length:=by simp[wk]
theorem Ye{F:aj}(h:k<F.length):List.drop 0 (List.take k<|wk n<|F.take k)++[[bD n<|fR<|F.getD k []]]=wk n (F.take<|k+1):=by
 rw[cx<|by simp;omega];unfold wk;rw[lI,aJ h,nZ,aE,aJ h];rfl
theorem ztR(hW:W.Fits)(hc:W.aS=0):ar ai 145 [gu W]<|rj W.next.length<|W.fair.map fR:=by
 obtain⟨_,qs,vy,_,iD,iY⟩:=qj W hc;have C8:jH W.fair:=⟨hW.fair,hW.xR⟩;have hM:=λk (hk:k<W.fair.length)=>SI (W.fair.getD k []) W.next.length zo (C8.at k)<|gY iY k;refine bK fZ ?_;unfold gu;refine sR ?_;refine b8 (fL 3 1 zs rfl) ?_;refine bt [1] (λk:Nat=>[(3,.own 1 k 0 k),(4,aa k)]) (λk=>[(1,.vec true k 1<|wk W.next.length<|W.fair.take k)]) (λk=>k<=W.fair.length) (λk=>W.fair.length-k) 0 ?_;refine eC ?_;rintro k hk;refine c6 ?_;rw[aK];refine sS (λq0=>?_) λq0=>?_
 ·have q0:k<W.fair.length:=sO;refine sL (iL (g:=W.fair) (k:=k) zo q0) ?_;rw[aK];refine sC (hM k q0) ?_;refine⟨by unfold je;simp;omega,?_⟩;refine bb ?_;refine⟨k+1,zo,zd,?_⟩;dsimp only;refine aR 2 zs rfl sQ (sU ?_);exact aZ<|Ye q0
 have q0:k=W.fair.length:=by have:¬k<W.fair.length:=sO
                             omega
 subst q0;refine .own _ _ _ _ _ _ _ _ rfl ?_;rw[eZ,cx zs];have:(W.fair.map fR).map (λS=>[bD W.next.length S])=wk W.next.length W.fair:=by unfold wk;rw[wJ];rfl
 rw[this];exact iX _
theorem R8(g:aj)(hn:g.length<=1000000)(iI:∀l∈g,bx l g.length)(hF:jH g)(F:List ay)(rG:F.length<=1000000):ar ai 87 [bY g,rj g.length F]<|bD g.length<|fwB g F:=by
 by_cases h:F=[]
 ·subst h;exact zr7 g hn iI hF
 exact ztL g hn iI hF F rG h
def X4:PC:=.seq (SO [qm 18 7,Fa 19 1 2,Lo 20 19,qm 21 6,Ia 22 1 20 21,Lo 23 22,Ln 24 23,Bi 25 .lss 18 24]<|CX 25 2) (.seq (.block 3<|SO [qm 28 1,qm 29 6,Ia 30 1 28 29,Lo 31 30,qm 32 31,GT 33 32 (.move 1),GT 34 32 (.dO 1 2),GT 35 32 (.cg 34),GT 36 32 (.move 6),GT 37 32 (.gZ 1 35 36),GT 38 32 (.cg 37),GT 39 32 (.move 7),GT 40 32 (.gZ 1 38 39),GT 41 32 (.cg 40),GT 42 32 (.gZ 1 33 41),GT 43 32 (.cg 42),Pk 44 32 43 cF]<|If 44 (.ops [qm 45 5,qm 46 6,qm 47 5,qm 48 6,Ja 49 1 47 48 12,Ld 50 49 28,Fa 51 1 2,Ld 52 51 64,qm 53 6,Ja 54 1 52 53 448,Ld 55 54 960,qm 56 7,Ja 57 1 55 56 4032,Ld 58 57 8128,qd 59 (.oP 1 1 [58]) 16320,qd 60 (.append 1 8 50 59) 32764,Ja 61 1 45 46 65535,qk (.store 1 61 60) 131071] true))<|OP [qm 26 7,Bi 27 .add 26 K1,qm 7 27])
def zA4:PC:=.seq (SO [qm 12 6,qm 13 5,Ln 14 13,Bi 15 .lss 12 14]<|CX 15 0) (.seq (.block 1<|SO [Mv 7 K0]<|BL 2 X4)<|OP [qm 16 6,Bi 17 .add 16 K1,qm 6 17])
def c63:PC:=SO [Bx 2 0,Mv 4 cN]<|SO [Fa 8 1 2,Lo 9 8,Ln 10 9,q 11 (.sM 1 24 [vN] 10 10),qm 5 11] (.seq (SO [Mv 6 K0] (.stop<|BL 0 zA4))<|SO [qm 62 5,LA 63 4 2,Ca 64 145 [63],Ca 65 87 [62,64],qm 4 65] .ret)
theorem zug(hW:W.Fits)(hc:W.aS=0)(z:ay):ar ai 63 [gu W,bD W.next.length z]<|bD W.next.length<|fwB (gi W.next z)<|W.fair.map fR:=by
 obtain⟨_,qs,vy,_,iD,iY⟩:=qj W hc;have iI:∀l∈W.next,bx l W.next.length:=λl hl=>(iD l hl).2;have uc:jH W.next:=⟨hW.next,hW.xU⟩;have dF:=λk=>gY iI k;have w9:=ztR W hW hc;refine bK (fJ 66 [.tmp 4] c63 Tryz.func63) ?_;unfold gu at *;refine sR ?_;rw[aK];refine⟨zo,zo,zo,?_⟩;rw[bQ];refine sW ?_;refine px (λ_:Unit=>[(1,bD W.next.length z),(2,.loc 0 0),(5,.own 1 0 0 W.next.length)]) (λ_=>[.row true W.cells,.vec true 0 1<|(gi W.next z).map λl=>[aO l]]) (λ_=>True) ?_ ?_
 ·refine sR ?_;refine b8 (Bp 1 1 W.next.length 0 zs rfl) ?_;refine cJ [1,2,5] (λk:Nat=>[(6,aa k)]) (λk=>.row true W.cells::.vec true 0 1 (jZ 2<|ic W.next.length (λv=>dE W.next z v (W.next.getD v []).length) k [])::fO 1 l6 (ic W.next.length (λv=>dE W.next z v (W.next.getD v []).length) k [])) (λk=>k<=W.next.length) (λk=>W.next.length-k) 0 ?_;refine sW ?_;refine⟨zo,by exact sK,?_,?_⟩
  ·rw[Xa];show _::_::_=_::_::_;rw[A9 1 _ l6];exact bJ (λx=>ao.row true W.cells::ao.vec true 0 1 x::_)<|Bn (α:=Int) 2 _
  rintro k hk;refine br (λq0=>?_) λq0=>?_
  ·have q0:k<W.next.length:=sO;have AD:=uc.at k
   refine cJ [1,2,5,6] (λj:Nat=>[(7,aa j)]) (λj=>.row true W.cells::.vec true 0 1 (jZ 2<|ic W.next.length (λv=>dE W.next z v (W.next.getD v []).length) k<|dE W.next z k j)::fO 1 l6 (ic W.next.length (λv=>dE W.next z v (W.next.getD v []).length) k<|dE W.next z k j))
    (λj=>j<=(W.next.getD k []).length) (λj=>(W.next.getD k []).length-j) 0 ?_
   refine sW ?_;refine⟨zo,by exact sK,by rw[show dE W.next z k 0=[] by unfold dE;split<;>simp],?_⟩;rintro j hj;refine c6 ?_;refine sL (iL (g:=W.next) (k:=k) zo q0) ?_;rw[aK];refine sS (λq1=>?_) λq1=>?_
   ·have q1:j<(W.next.getD k []).length:=sO;have eS:=Xu (z:=z) q1;have hx:=cZ (dF k)<|dP q1;have uT:=RJ W.next z k j;have Jz:∀z',z'=j->((W.next.getD k []).map λn=>[aa n])[z']? = some [aa<|(W.next.getD k []).getD j 0]:=λz' hz=>cA (l:=W.next.getD k []) hz q1;refine⟨zo,_,bj k zo q0,?_⟩;generalize mq:(W.next.getD k []).getD j 0=x at *;have same:(z k=true/\z x.toNat->False)->dE W.next z k (j+1)=dE W.next z k j:=λh=>by rw[eS,ab h]
    cases zk:z k
    ·refine bb ?_;refine⟨j+1,zo,zd,aL (by exact sK) ?_⟩;dsimp only;rw[same λq=>by rw[zk] at q;cases q.1]
    refine sW ?_;refine sL (iL (g:=W.next) (k:=k) zo q0) ?_;refine sL (Jz _ zo) ?_;refine⟨zo,_,bj x.toNat zo zo,?_⟩;cases zx:z x.toNat
    ·refine bb ?_;refine⟨j+1,zo,zd,aL (by exact sK) ?_⟩;dsimp only;rw[same λq=>by rw[zx] at q;cases q.2]
    rw[ae ⟨zk,zx⟩] at eS;have lJ:(ic W.next.length (λv=>dE W.next z v (W.next.getD v []).length) k<|dE W.next z k j).set k (dE W.next z k j++[x])=ic W.next.length (λv=>dE W.next z v (W.next.getD v []).length) k (dE W.next z k<|j+1):=(by rw[P2 q0,<-eS]);have hlen:(ic W.next.length (λv=>dE W.next z v (W.next.getD v []).length) k<|dE W.next z k j).length=W.next.length:=Rm ..;have NL:(ic W.next.length (λv=>dE W.next z v (W.next.getD v []).length) k<|dE W.next z k j).getD k []=dE W.next z k j:=WG q0;refine sW ?_;generalize ic W.next.length (λv=>dE W.next z v (W.next.getD v []).length) k (dE W.next z k j)=R at *;refine sB ?_;refine⟨_,mh (i:=k) zo zo,?_⟩;refine sW ?_;refine sL (iL (g:=W.next) (k:=k) zo q0) ?_;refine sL (Jz _ zo) ?_;refine yq ?_;refine sW ?_
    (repeat (first|(refine gL 0 rfl ?_;((conv=>whnf);repeat(refine⟨rfl,?_⟩;conv=>whnf)))|(refine gN 0 rfl ?_;((conv=>whnf);repeat(refine⟨rfl,?_⟩;conv=>whnf)))|(refine gL 1 rfl ?_;((conv=>whnf);repeat(refine⟨rfl,?_⟩;conv=>whnf)))|(refine gN 1 rfl ?_;((conv=>whnf);repeat(refine⟨rfl,?_⟩;conv=>whnf)))))
    refine wN zo ?_;refine sW ?_;rw[NL];refine⟨by unfold je;simp only[lL,gA,bH,bU];omega,?_⟩;refine sW ?_;refine yp (dE W.next z k j++[x]) zo ?_ ?_
    ·exact x9
    refine bE ?_;refine⟨_,mh (i:=k) zo zo,?_⟩;refine bb ?_;refine⟨j+1,zo,zd,?_⟩;dsimp only;rw[lJ];refine aR (W.next.length+2) zs zs (by exact sQ) ⟨⟨rfl,.refl _,bu _<|vj W⟩,⟨rfl,rfl,rfl,aZ ?_,xz<|by simp;omega⟩,wL GN⟩;exact(xr zo zo (dE W.next z k j++[x]) zs).trans (by rw[lJ])
   have q1:j=(W.next.getD k []).length:=by have:¬j<(W.next.getD k []).length:=sO
                                           omega
   subst q1;rw[show ic W.next.length (λv=>dE W.next z v (W.next.getD v []).length) k (dE W.next z k (W.next.getD k []).length)=ic W.next.length (λv=>dE W.next z v (W.next.getD v []).length) (k+1) [] from WY];refine sI ?_;exact⟨k+1,zo,zd,aL (by exact sK) rfl⟩
  have q0:k=W.next.length:=by have:¬k<W.next.length:=sO
                              omega
  subst q0;rw[UH,Qk];refine⟨(),trivial,aR 2 zs rfl (by exact sQ) ⟨⟨rfl,.refl _,bu _<|vj W⟩,⟨rfl,rfl,rfl,CP (c:=l6) (λi hi=>by simp[nK]) λi hi=>?_,aV _<|tV _⟩,BW _⟩⟩;show(fO 1 l6<|gi W.next z)[i]? = _;exact xv hi
 intro _ _;have g1:=Pt iI z;have g2:=Pe uc z;have hl:=CM W.next z;have CJ:=R8 (gi W.next z) zo g1 g2 (W.fair.map fR) (by rw[aK];omega);have cut:=TO (L:=gi W.next z) hl.symm;rw[<-cut,hl] at CJ;refine sW ?_;refine sC w9 ?_;refine sE (Ax (pre:=[]) (post:=[_]) CJ (jk _ _) trivial ⟨F5 _ _,trivial⟩ (tV _) rfl) ?_;exact .refl _
inductive Eu(g:aj)(a c:ay):Nat->Prop
 |base {i:Nat} (h:c i=true):Eu g a c i
 |step {i:Nat} {x:Int} (h:a i=true) (k:x∈g.getD i []) (m:Eu g a c x.toNat):Eu g a c i
open Classical in
noncomputable def euB(g:aj)(a c:ay)(v:Nat):Bool:=decide (Eu g a c v)
variable{a c:ay}{g:aj}{v:Nat}
theorem zxK:euB g a c v↔Eu g a c v:=by unfold euB;simp
theorem S5{b:Bool}(h:b↔Eu g a c v):b=euB g a c v:=by
 rw[kb,h,zxK]
structure EuI(g:aj)(a c:ay)(s:ay)(Q:List Nat):Prop where
 sound:∀v,s v->Eu g a c v
 start:∀v,c v->s v=true
 here:∀v,v∈Q->s v=true
 closed:∀v,s v->v∈Q\/∀k x,x∈g.getD k []->x.toNat=v->a k->s k=true
structure EuJ(g:aj)(a c:ay)(s:ay)(Q:List Nat)(n:Nat)(D:List Nat):Prop where
 sound:∀v,s v->Eu g a c v
 start:∀v,c v->s v=true
 here:∀v,v∈n::Q->s v=true
 closed:∀v,s v->v=n\/v∈Q\/∀k x,x∈g.getD k []->x.toNat=v->a k->s k=true
 done:∀k,k∈D->a k->s k=true
variable{s:ay}{Q:List Nat}
theorem EuI.pop(h:EuI g a c s<|n::Q):EuJ g a c s Q n [] where
 sound:=h.sound
 start:=h.start
 here:=h.here
 closed v hv:=by
  rcases h.closed v hv with q|q
  ·rcases dZ.1 q with e|e
   ·exact .inl e
   exact .inr (.inl e)
  exact .inr (.inr q)
 done k hk:=by cases hk
theorem EuJ.skip{D:List Nat}(h:EuJ g a c s Q n D)(hk:a k->s k):EuJ g a c s Q n (D++[k]) where
 sound:=h.sound
 start:=h.start
 here:=h.here
 closed:=h.closed
 done j hj ha:=by
  rcases dt.1 hj with q|q
  ·exact h.done j q ha
  rw[cB] at q;subst q;exact hk ha
theorem EuJ.push{D:List Nat}(h:EuJ g a c s Q n D)(hx:x∈g.getD k [])(hn:x.toNat=n)(ha:a k):EuJ g a c (mark s k) (Q++[k]) n (D++[k]) where
 sound v hv:=by
  rcases oE.1 hv with e|e
  ·subst e;exact .step ha hx<|by rw[hn];exact h.sound n<|h.here n zs
  exact h.sound v e
 start v hv:=gg<|h.start v hv
 here v hv:=by
  rcases dZ.1 hv with e|e
  ·exact gg<|h.here v<|by simp[e]
  rcases dt.1 e with e|e
  ·exact gg<|h.here v<|by simp[e]
  rw[cB] at e;subst e;exact lq _ _
 closed v hv:=by
  rcases oE.1 hv with e|e
  ·exact .inr (.inl<|by simp[e])
  rcases h.closed v e with q|q|q
  ·exact .inl q
  ·exact .inr (.inl<|by simp[q])
  exact .inr (.inr λj y h1 h2 h3=>gg<|q j y h1 h2 h3)
 done j hj h3:=by
  rcases dt.1 hj with q|q
  ·exact gg<|h.done j q h3
  rw[cB] at q;subst q;exact lq _ _
theorem EuJ.fin{g:aj}{a c s:ay}{n:Nat}{Q D:List Nat}(h:EuJ g a c s Q n D)(hD:∀k x,x∈g.getD k []->x.toNat=n->k∈D):EuI g a c s Q where
 sound:=h.sound
 start:=h.start
 here v hv:=h.here v<|by simp[hv]
 closed v hv:=by
  rcases h.closed v hv with q|q|q
  ·subst q;exact .inr λk x h1 h2 h3=>h.done k (hD k x h1 h2) h3
  ·exact .inl q
  exact .inr q
theorem EuI.end_(h:EuI g a c s [])(v:Nat):s v=euB g a c v:=S5 ⟨h.sound v,λq=>by
 induction q with
 |base h'=>exact h.start _ h'
 |step h1 k _ ih=>exact(h.closed _ ih).elim (λq=>by cases q) λq=>q _ _ k rfl h1⟩
theorem Zj(h1:∀v,s v->Eu g a c v)(h2:∀v,c v->s v)(h3:∀v x,x∈g.getD v []->a v->s x.toNat->s v)(v:Nat):s v=euB g a c v:=S5 ⟨h1 v,λq=>by
 induction q with
 |base h=>exact h2 _ h
 |step h k _ ih=>exact h3 _ _ k h ih⟩
section
noncomputable def jQ(W:bc):Nat->Bool:=fwB (gi W.next iM)<|W.fair.map fR
noncomputable def wu(W:bc):bh:=[aO W.start,bY W.next,ix W.label,bY W.fair,bD W.next.length<|jQ W,bY<|fV W.next W.next.length]
noncomputable def kF(W:bc):D:=.aB<|wu W
@[simp] theorem XU:an<|wu W:=by simp[wu,an,cG,mj,vT,jk]
@[simp] theorem E1:Pure<|kF W:=by simp only[kF,Pure];exact XU W
def cr(a:ay):Nat->Bool:=λi=>!a i
def iy(a b:ay):Nat->Bool:=λi=>a i&&b i
def orF(a b:ay):Nat->Bool:=λi=>a i||b i
noncomputable def fp(W:bc)(a:ay):Nat->Bool:=λi=>(W.next.getD i []).any λx=>a x.toNat&&jQ W x.toNat
noncomputable def euF(W:bc)(a b:ay):Nat->Bool:=euB W.next a<|iy b<|jQ W
noncomputable def egF(W:bc)(a:ay):Nat->Bool:=fwB (gi W.next a)<|W.fair.map fR
noncomputable def auF(W:bc)(a b:ay):Nat->Bool:=cr<|orF (euF W (cr b)<|iy (cr a)<|cr b)<|egF W<|cr b
theorem BS(h6:W.next.length<=1000000)(p:ay)(cl:FuncId)(caps:bh)(LC:an caps)(hc:∀i:Nat,i<W.next.length->ar ai cl (aa i::caps) (aD<|p i)) :
  ar ai 106 [kF W,.fn (.func cl) [] caps] (bD W.next.length p):=by
 refine dC fZ zs (by simp[an,Pure,E1,LC]) ?_<|jk _ _;unfold kF wu;refine sR ?_;rw[aK];refine⟨zo,zo,zo,?_⟩;rw[bQ,show List.map D.sc [Value.bool false]=[aD false] from rfl,lS];refine sW ?_;refine bt [1,5,15] (λk:Nat=>[(16,aa k)]) (λk=>[(0,.vec true 0 1<|bV W.next.length λi=>if i<k then p i else false)]) (λk=>k<=W.next.length) (λk=>W.next.length-k) 0 ?_;refine sW ?_;refine⟨zo,by exact sK,by simp;rfl,?_⟩;rintro k hk;refine br (λq0=>?_) λq0=>?_
 ·have q0:k<W.next.length:=sO;refine sC (hc k q0) ?_;refine sB ?_;refine⟨_,bj k zo q0,?_⟩;refine bb ?_;refine⟨k+1,zo,zd,aL (by exact sK) ?_⟩;rw[nV (i:=k) (f':=λi=>if i<k+1 then p i else false) zo λv _=>by
   by_cases e:v=k
   ·subst e;rw[ae zo,ae rfl]
   rw[ab e];by_cases e2:v<k
   ·rw[ae e2,ae zo]
   rw[ab e2,ab zo]]
  rfl
 have q0:k=W.next.length:=by have:¬k<W.next.length:=sO
                             omega
 subst q0;rw[jS (g':=p) λi hi=>ae hi];exact s5 rfl
theorem zt1(h6:W.next.length<=1000000)(p:ay)(cl:FuncId)(x y:D)(hx:Pure x)(hy:Pure y)(hc:∀i:Nat,i<W.next.length->ar ai cl [aa i,.aB [x],.aB [y]] (aD<|p i)) :
  cp ai 106 [kF W,.fn (.func cl) [] [.loc 0 0,.loc 1 0]] [.row true [x],.row true [y]] (.own 2 0 0 W.next.length) [.row true [x],.row true [y],.vec true 0 1<|bV W.next.length p]:=by
 refine iV fZ zs zs ?_ (by simp[aq]) (by
  intro o ho;simp only[dZ,rH,or_false] at ho;rcases ho with rfl|rfl|rfl
  ·exact⟨bw _ hx,trivial⟩
  ·exact⟨bw _ hy,trivial⟩
  exact aV _<|tW _ _)
 unfold kF wu;refine sR ?_;rw[aK];refine⟨zo,zo,zo,?_⟩;rw[bQ,show List.map D.sc [Value.bool false]=[aD false] from rfl,lS];refine sW ?_;refine bt [1,5,15] (λk:Nat=>[(16,aa k)]) (λk=>[(2,.vec true 0 1<|bV W.next.length λi=>if i<k then p i else false)]) (λk=>k<=W.next.length) (λk=>W.next.length-k) 0 ?_;refine sW ?_;refine⟨zo,by exact sK,by simp;rfl,?_⟩;rintro k hk;refine br (λq0=>?_) λq0=>?_
 ·have q0:k<W.next.length:=sO;refine sN (hc k q0) ?_;refine sB ?_;refine⟨_,bj k zo q0,?_⟩;refine bb ?_;refine⟨k+1,zo,zd,aL (by exact sK) ?_⟩;rw[nV (i:=k) (f':=λi=>if i<k+1 then p i else false) zo λv _=>by
   by_cases e:v=k
   ·subst e;rw[ae zo,ae rfl]
   rw[ab e];by_cases e2:v<k
   ·rw[ae e2,ae zo]
   rw[ab e2,ab zo]]
  rfl
 have q0:k=W.next.length:=by have:¬k<W.next.length:=sO
                             omega
 subst q0;rw[jS (g':=p) λi hi=>ae hi];exact⟨rfl,aT _⟩
variable(n:Nat)
theorem zwN(a:ay)(i:Nat)(hi:i<n):ar ai 179 [aa i,.aB [bD n a]]<|aD<|cr a i:=by
 refine bL ?_;refine sL (bj i zo hi) ?_;exact .refl _
theorem ua(h6:W.next.length<=1000000)(a:ay):ar ai 109 [kF W,bD W.next.length a]<|bD W.next.length<|cr a:=by
 have hE:=BS W h6 (cr a) 179 [.aB [bD W.next.length a]] (by simp[an,Pure,jk]) λi hi=>zwN W.next.length a i hi;refine bL ?_;refine sV hE ?_;exact .refl _
theorem SD(a b:ay)(i:Nat)(hi:i<n):ar ai 180 [aa i,.aB [bD n a],.aB [bD n b]]<|aD<|iy a b i:=by
 refine bK fZ ?_;have e:iy a b i=(a i&&b i):=rfl;refine sR ?_;refine sL (bj i zo hi) ?_;cases r:a i
 ·rw[r] at e;refine sW ?_;rw[e];exact .refl _
 rw[r] at e;refine sW ?_;refine sL (bj i zo hi) ?_;rw[e];exact .refl _
theorem Tb(h6:W.next.length<=1000000)(a b:ay):ar ai 110 [kF W,bD W.next.length a,bD W.next.length b]<|bD W.next.length<|iy a b:=by
 have hE:=BS W h6 (iy a b) 180 [.aB [bD W.next.length a],.aB [bD W.next.length b]] (by simp[an,Pure,jk]) λi hi=>SD W.next.length a b i hi;refine bL ?_;refine sV hE ?_;exact .refl _
theorem TM(h6:W.next.length<=1000000)(a b:ay):cp ai 110 [kF W,bD W.next.length a,bD W.next.length b] [] (.own 2 0 0 W.next.length) [.row true [bD W.next.length a],.row true [bD W.next.length b],.vec true 0 1<|bV W.next.length<|iy a b]:=by
 have hE:=zt1 W h6 (iy a b) 180 (bD W.next.length a) (bD W.next.length b) (jk _ _) (jk _ _) λi hi=>SD W.next.length a b i hi;refine iV fZ zs zs ?_ (by simp[aq]) (by simp[ao.under,au,aV _<|tW _ _]);refine sR ?_;refine sA hE ?_;exact aT _
theorem zyw(hW:W.Fits)(hc:W.aS=0)(a:ay)(i:Nat)(hi:i<W.next.length):ar ai 181 [aa i,.aB [kF W],.aB [bD W.next.length a]]<|aD<|fp W a i:=by
 obtain⟨_,qs,vy,_,iD,iY⟩:=qj W hc;have dF:=λk=>gY (g:=W.next) (λl hl=>(iD l hl).2) k;have uc:jH W.next:=⟨hW.next,hW.xU⟩;have AD:=uc.at i;refine bK fZ ?_;have e:fp W a i=(W.next.getD i []).any λx=>a x.toNat&&jQ W x.toNat:=rfl;rw[e];have hr:=dF i;unfold kF wu;generalize jQ W=f at *;refine sR ?_;refine sL (iL (g:=W.next) (k:=i) zo hi) ?_;rw[aK];generalize W.next.getD i []=l at *;refine bt [1,2,14,15] (λk:Nat=>[(16,aa k)]) (λ_=>[]) (λk=>k<=l.length/\∀j (hj:j<l.length),j<k->(a l[j].toNat&&f l[j].toNat)=false) (λk=>l.length-k) 0 ?_;refine sW ?_;refine⟨⟨zo,λj hj h=>zo⟩,by exact sK,rfl,?_⟩;rintro k ⟨hk,da⟩;refine br (λq0=>?_) λq0=>?_
 ·have q0:k<l.length:=sO;have hx:=cZ hr<|dP q0;have next:(a (l.getD k 0).toNat&&f (l.getD k 0).toNat)=false->∀j (hj:j<l.length),j<k+1->(a l[j].toNat&&f l[j].toNat)=false:=λh j hj FF=>by
   by_cases e:j=k
   ·subst e;rw[aE,aJ q0] at h;exact h
   exact da j hj zo
  have yes:(a (l.getD k 0).toNat&&f (l.getD k 0).toNat)->(l.any λx=>a x.toNat&&f x.toNat)=true:=λh=>kJ.2 ⟨_,dP q0,h⟩;refine sL (cA (l:=l) (k:=k) zo q0) ?_;generalize l.getD k 0=x at *;refine sL (bj x.toNat zo zo) ?_;cases r:a x.toNat
  ·rw[r] at next
   refine bb ?_;exact⟨k+1,⟨zo,next rfl⟩,zd,aL (by exact sK) rfl⟩
  rw[r] at next yes
  refine sW ?_;refine sL (bj x.toNat zo zo) ?_;cases r2:f x.toNat
  ·rw[r2] at next
   refine bb ?_;exact⟨k+1,⟨zo,next rfl⟩,zd,aL (by exact sK) rfl⟩
  rw[r2] at yes;refine sW ?_;rw[yes rfl];exact .refl _
 have q0:k=l.length:=by have:¬k<l.length:=sO
                        omega
 rw[Lp λj hj=>da j hj zo];exact .refl _
theorem UO(hW:W.Fits)(hc:W.aS=0)(a:ay):ar ai 112 [kF W,bD W.next.length a]<|bD W.next.length<|fp W a:=by
 obtain⟨_,qs,_⟩:=qj W hc;have hE:=BS W zo (fp W a) 181 [.aB [kF W],.aB [bD W.next.length a]] (by simp[an,Pure,jk,E1]) λi hi=>zyw W hW hc a i hi;refine bL ?_;refine sV hE ?_;exact .refl _
theorem ME(hW:W.Fits)(hc:W.aS=0)(a:ay):ar ai 114 [kF W,bD W.next.length a]<|bD W.next.length<|egF W a:=by
 have h:=TE W hW hc a;refine bK fZ ?_;unfold gu bc.cells at h;refine sR ?_;refine sC h ?_;exact .refl _
end
section
theorem NF(c:ay):∀n,(jj c n).length+dH c n=n
 |0=>rfl
 |n+1=>by
  have:=NF c n;unfold dH at this⊢;rw[HP];simp only[j4];cases h:c n<;>simp<;>omega
theorem KQ(hc:W.aS=0)(a b:ay):ar ai 113 [kF W,bD W.next.length a,bD W.next.length b]<|bD W.next.length<|euF W a b:=by
 obtain⟨_,qs,vy,_,iD,iY⟩:=qj W hc;have iI:∀l∈W.next,bx l W.next.length:=λl hl=>(iD l hl).2;have dF:=λk=>gY iI k;have zO:∀v y,y∈W.next.getD v []->y.toNat<W.next.length:=λv x hx=>by have:=cZ (dF v) hx;omega
 have hB:=TM W zo b<|jQ W;have e0:euF W a b=euB W.next a (iy b<|jQ W):=rfl;rw[e0];clear e0;generalize iy b (jQ W)=c at *;refine bK fZ ?_;unfold kF wu at *;generalize hT:fV W.next W.next.length=T at *;have lT:T.length=W.next.length:=by rw[<-hT,tJ]
 have mT:∀(m:Nat) (x:Int),x∈T.getD m []↔∃k,k<W.next.length/\x=(k:Int)/\∃y,y∈W.next.getD k []/\y.toNat=m:=λm x=>by rw[<-hT];exact C1 zO<|aT _
 have rT:∀m,(T.getD m []).length<=W.next.length:=λm=>by rw[<-hT];exact C4 W.next W.next.length m
 refine sR ?_;refine sA hB ?_;refine b8 (fL 8 1 zs rfl) ?_;refine bt [0,1,7,21,22] (λk:Nat=>[(8,.own 3 (jj c k).length 0 (jj c k).length),(23,aa k)]) (λk=>[(3,.vec true (jj c k).length 1<|aA<|jj c k)]) (λk=>k<=W.next.length) (λk=>W.next.length-k) 0 ?_;refine eC ?_;rintro k hk;have gw:=JH c k;have eS:=HP c k;refine br (λq0=>?_) λq0=>?_
 ·have q0:k<W.next.length:=sO;refine sB ?_;refine⟨_,bj k zo q0,?_⟩;refine sW ?_;cases r:c k
  ·rw[r,ab zc] at eS;refine bb ?_;refine⟨k+1,zo,zd,?_⟩;dsimp only;rw[eS];exact aL (by exact sK) rfl
  rw[r,ae rfl] at eS;refine lh ?_;refine⟨k+1,zo,zd,?_⟩;dsimp only;rw[eS,show(jj c k++[(k:Int)]).length=(jj c k).length+1 by simp];refine aR 4 zs rfl sQ (sU ?_);exact aZ<|by rw[Iq,eZ]
 have q0:k=W.next.length:=by have:¬k<W.next.length:=sO
                             omega
 subst q0;clear eS
 refine bt [0,1,7] (λ((s,Z,lo,hi,aw):ay×ah×Nat×Nat×Nat)=>[(8,.own 3 aw lo hi)]) (λ(s,Z,lo,hi,aw)=>[(2,.vec true 0 1<|bV W.next.length s),(3,.vec true aw 1<|aA Z)])
  (λ(s,Z,lo,hi,aw)=>lo<=hi/\hi<=Z.length/\(∀x∈Z,0<=x/\x<(W.next.length:Int))/\hi-lo+dH s W.next.length<=W.next.length/\EuI W.next a c s (nu<|(Z.take hi).drop lo)) (λ(s,Z,lo,hi,aw)=>hi-lo+dH s W.next.length) (c,jj c W.next.length,0,(jj c W.next.length).length,(jj c W.next.length).length) ?_
 refine sW ?_;refine⟨⟨zo,zo,λx hx=>⟨(uV.1 hx).1,(uV.1 hx).2.1⟩,by rw[xG];exact Nat.le_of_eq<|NF c _,?_⟩,by exact sK,rfl,?_⟩
 ·rw[eZ,fQ];refine⟨λv hv=>.base hv,λv hv=>hv,λv hv=>?_,λv hv=>?_⟩
  ·obtain⟨x,hx,rfl⟩:=CT.1 hv;exact(uV.1 hx).2.2
  by_cases q:v<W.next.length
  ·exact .inl<|CT.2 ⟨(v:Int),uV.2 ⟨zo,zo,by rw[bQ];exact hv⟩,zs⟩
  exact .inr λk x hx e=>absurd (e▸zO k x hx) q
 rintro⟨s,Z,lo,hi,aw⟩ ⟨Hm,oG,FD,hu,hI⟩;refine br (λh1=>?_) λh1=>?_
 ·have h1:lo<hi:=sO;rw[Fs h1 oG,Wn] at hI;have hx:=FD (Z.getD lo 0)<|dP zo;generalize hX:Z.getD lo 0=x at hI hx;refine sB ?_;refine⟨_,cA (l:=Z) (k:=lo) zo zo,?_⟩;refine sW ?_;rw[hX];refine⟨zo,zo,zo,?_⟩;refine sW ?_;rw[show lo+(hi-lo)=hi by omega];refine sL (iL (g:=T) (k:=x.toNat) zo zo) ?_;rw[aK];have hL:=rT x.toNat;have mL:=mT x.toNat;generalize T.getD x.toNat []=L at hL mL
  refine bt [0,1,7,48,49] (λ((s',Z',cR,aW,cf,k):ay×ah×Nat×Nat×Nat×Nat)=>[(8,.own 3 cf cR aW),(50,aa k)]) (λ(s',Z',cR,aW,cf,k)=>[(2,.vec true 0 1<|bV W.next.length s'),(3,.vec true cf 1<|aA Z')])
   (λ(s',Z',cR,aW,cf,k)=>k<=L.length/\cR<=aW/\aW<=Z'.length/\(∀x∈Z',0<=x/\x<(W.next.length:Int))/\aW-cR+dH s' W.next.length<hi-lo+dH s W.next.length/\EuJ W.next a c s' (nu<|(Z'.take aW).drop cR) x.toNat (nu<|L.take k)) (λ(s',Z',cR,aW,cf,k)=>L.length-k) (s,Z,lo+1,hi,aw,0) ?_
  refine sW ?_;refine⟨⟨zo,zo,oG,FD,zo,hI.pop⟩,by exact sK,rfl,?_⟩;rintro⟨s',Z',cR,aW,cf,k⟩ ⟨hk,nW,nL,xM,uS,hJ⟩;refine br (λh3=>?_) λh3=>?_
  ·have al:k<L.length:=sO;obtain⟨v,x7,xx,y,Ml,Ef⟩:=(mL<|L.getD k 0).1<|dP al;have eT:nu (L.take<|k+1)=nu (L.take k)++[v]:=by
    rw[lI,aJ al,GV];rw[aE,aJ al] at xx;simp at xx;simp[nu,xx]
   refine sL (cA (l:=L) (k:=k) zo al) ?_;rw[xx];refine sL (bj v zo x7) ?_;cases av:a v
   ·refine bb ?_;refine⟨(s',Z',cR,aW,cf,k+1),⟨zo,nW,nL,xM,uS,by rw[eT];exact hJ.skip λq=>by rw[av] at q;cases q⟩,zd,aL (by exact sK) rfl⟩
   refine bE ?_;refine⟨_,bj v zo x7,?_⟩;refine sW ?_;cases sv:s' v
   ·refine bE ?_;refine⟨_,bj v zo x7,?_⟩;refine lh ?_;have Ie:=oS (s:=s') (s':=mark s' v) x7 (λj _ q=>gg q) sv<|lq _ _;refine⟨(mark s' v,(Z'.take aW).drop cR++[(v:Int)],0,aW-cR+1,cf+1,k+1),⟨zo,zo,by simp;omega,λz hz=>?_,zo,?_⟩,zd,?_⟩
    ·rcases dt.1 hz with q|q
     ·exact xM z<|AP<|List.mem_of_mem_drop q
     rw[cB] at q;omega
    ·rw[fQ,jd<|by simp;omega,GV,eT];exact hJ.push Ml Ef av
    (refine aR 4 zs rfl ?_ ?_<;>(repeat' (first|exact trivial|exact rfl|exact .refl _|refine And.intro ?_ ?_|(simp[aq,au,bg,-List.map_take,-List.map_drop];done))))
    ·exact aZ<|qE zo
    exact aZ Ah
   refine bb ?_;refine⟨(s',Z',cR,aW,cf,k+1),⟨zo,nW,nL,xM,uS,by rw[eT];exact hJ.skip λ_=>sv⟩,zd,aL (by exact sK) rfl⟩
  have al:k=L.length:=by have:¬k<L.length:=sO
                         omega
  subst al;refine⟨(s',Z',cR,aW,cf),⟨nW,nL,xM,zo,hJ.fin λk y h1 h2=>?_⟩,zd,aL (by exact sK) rfl⟩;have hk:k<W.next.length:=by
   rcases dY k W.next.length with q|q
   ·exact q
   rw[aE,cY q] at h1;cases h1
  rw[eZ];exact CT.2 ⟨(k:Int),(mL k).2 ⟨k,hk,rfl,y,h1,h2⟩,zs⟩
 have h0:hi=lo:=sO;subst h0;rw[Ci<|by rw[gA];omega] at hI;rw[jS (g':=euB W.next a c) λi _=>hI.end_ i];exact s5 rfl
theorem zzH(hc:W.aS=0)(a b:ay):cp ai 113 [kF W,bD W.next.length a,bD W.next.length b] [] (.own 2 0 0 W.next.length) [.row true [bD W.next.length b],.row true [bD W.next.length<|jQ W],.vec true 0 1<|bV W.next.length<|euF W a b]:=by
 obtain⟨_,qs,vy,_,iD,iY⟩:=qj W hc;have iI:∀l∈W.next,bx l W.next.length:=λl hl=>(iD l hl).2;have dF:=λk=>gY iI k;have zO:∀v y,y∈W.next.getD v []->y.toNat<W.next.length:=λv x hx=>by have:=cZ (dF v) hx;omega
 have hB:=TM W zo b<|jQ W;have e0:euF W a b=euB W.next a (iy b<|jQ W):=rfl;rw[e0];clear e0;generalize iy b (jQ W)=c at *;refine iV fZ zs zs ?_ (by simp[aq]) (by simp[ao.under,au,aV _<|tW _ _]);unfold kF wu at *;generalize hT:fV W.next W.next.length=T at *;have lT:T.length=W.next.length:=by rw[<-hT,tJ]
 have mT:∀(m:Nat) (x:Int),x∈T.getD m []↔∃k,k<W.next.length/\x=(k:Int)/\∃y,y∈W.next.getD k []/\y.toNat=m:=λm x=>by rw[<-hT];exact C1 zO<|aT _
 have rT:∀m,(T.getD m []).length<=W.next.length:=λm=>by rw[<-hT];exact C4 W.next W.next.length m
 refine sR ?_;refine sA hB ?_;refine b8 (fL 8 1 zs rfl) ?_;refine bt [0,1,7,21,22] (λk:Nat=>[(8,.own 3 (jj c k).length 0 (jj c k).length),(23,aa k)]) (λk=>[(3,.vec true (jj c k).length 1<|aA<|jj c k)]) (λk=>k<=W.next.length) (λk=>W.next.length-k) 0 ?_;refine eC ?_;rintro k hk;have gw:=JH c k;have eS:=HP c k;refine br (λq0=>?_) λq0=>?_
 ·have q0:k<W.next.length:=sO;refine sB ?_;refine⟨_,bj k zo q0,?_⟩;refine sW ?_;cases r:c k
  ·rw[r,ab zc] at eS;refine bb ?_;refine⟨k+1,zo,zd,?_⟩;dsimp only;rw[eS];exact aL (by exact sK) rfl
  rw[r,ae rfl] at eS;refine lh ?_;refine⟨k+1,zo,zd,?_⟩;dsimp only;rw[eS,show(jj c k++[(k:Int)]).length=(jj c k).length+1 by simp];refine aR 4 zs rfl sQ (sU ?_);exact aZ<|by rw[Iq,eZ]
 have q0:k=W.next.length:=by have:¬k<W.next.length:=sO
                             omega
 subst q0;clear eS
 refine bt [0,1,7] (λ((s,Z,lo,hi,aw):ay×ah×Nat×Nat×Nat)=>[(8,.own 3 aw lo hi)]) (λ(s,Z,lo,hi,aw)=>[(2,.vec true 0 1<|bV W.next.length s),(3,.vec true aw 1<|aA Z)])
  (λ(s,Z,lo,hi,aw)=>lo<=hi/\hi<=Z.length/\(∀x∈Z,0<=x/\x<(W.next.length:Int))/\hi-lo+dH s W.next.length<=W.next.length/\EuI W.next a c s (nu<|(Z.take hi).drop lo)) (λ(s,Z,lo,hi,aw)=>hi-lo+dH s W.next.length) (c,jj c W.next.length,0,(jj c W.next.length).length,(jj c W.next.length).length) ?_
 refine sW ?_;refine⟨⟨zo,zo,λx hx=>⟨(uV.1 hx).1,(uV.1 hx).2.1⟩,by rw[xG];exact Nat.le_of_eq<|NF c _,?_⟩,by exact sK,rfl,?_⟩
 ·rw[eZ,fQ];refine⟨λv hv=>.base hv,λv hv=>hv,λv hv=>?_,λv hv=>?_⟩
  ·obtain⟨x,hx,rfl⟩:=CT.1 hv;exact(uV.1 hx).2.2
  by_cases q:v<W.next.length
  ·exact .inl<|CT.2 ⟨(v:Int),uV.2 ⟨zo,zo,by rw[bQ];exact hv⟩,zs⟩
  exact .inr λk x hx e=>absurd (e▸zO k x hx) q
 rintro⟨s,Z,lo,hi,aw⟩ ⟨Hm,oG,FD,hu,hI⟩;refine br (λh1=>?_) λh1=>?_
 ·have h1:lo<hi:=sO;rw[Fs h1 oG,Wn] at hI;have hx:=FD (Z.getD lo 0)<|dP zo;generalize hX:Z.getD lo 0=x at hI hx;refine sB ?_;refine⟨_,cA (l:=Z) (k:=lo) zo zo,?_⟩;refine sW ?_;rw[hX];refine⟨zo,zo,zo,?_⟩;refine sW ?_;rw[show lo+(hi-lo)=hi by omega];refine sL (iL (g:=T) (k:=x.toNat) zo zo) ?_;rw[aK];have hL:=rT x.toNat;have mL:=mT x.toNat;generalize T.getD x.toNat []=L at hL mL
  refine bt [0,1,7,48,49] (λ((s',Z',cR,aW,cf,k):ay×ah×Nat×Nat×Nat×Nat)=>[(8,.own 3 cf cR aW),(50,aa k)]) (λ(s',Z',cR,aW,cf,k)=>[(2,.vec true 0 1<|bV W.next.length s'),(3,.vec true cf 1<|aA Z')])
   (λ(s',Z',cR,aW,cf,k)=>k<=L.length/\cR<=aW/\aW<=Z'.length/\(∀x∈Z',0<=x/\x<(W.next.length:Int))/\aW-cR+dH s' W.next.length<hi-lo+dH s W.next.length/\EuJ W.next a c s' (nu<|(Z'.take aW).drop cR) x.toNat (nu<|L.take k)) (λ(s',Z',cR,aW,cf,k)=>L.length-k) (s,Z,lo+1,hi,aw,0) ?_
  refine sW ?_;refine⟨⟨zo,zo,oG,FD,zo,hI.pop⟩,by exact sK,rfl,?_⟩;rintro⟨s',Z',cR,aW,cf,k⟩ ⟨hk,nW,nL,xM,uS,hJ⟩;refine br (λh3=>?_) λh3=>?_
  ·have al:k<L.length:=sO;obtain⟨v,x7,xx,y,Ml,Ef⟩:=(mL<|L.getD k 0).1<|dP al;have eT:nu (L.take<|k+1)=nu (L.take k)++[v]:=by
    rw[lI,aJ al,GV];rw[aE,aJ al] at xx;simp at xx;simp[nu,xx]
   refine sL (cA (l:=L) (k:=k) zo al) ?_;rw[xx];refine sL (bj v zo x7) ?_;cases av:a v
   ·refine bb ?_;refine⟨(s',Z',cR,aW,cf,k+1),⟨zo,nW,nL,xM,uS,by rw[eT];exact hJ.skip λq=>by rw[av] at q;cases q⟩,zd,aL (by exact sK) rfl⟩
   refine bE ?_;refine⟨_,bj v zo x7,?_⟩;refine sW ?_;cases sv:s' v
   ·refine bE ?_;refine⟨_,bj v zo x7,?_⟩;refine lh ?_;have Ie:=oS (s:=s') (s':=mark s' v) x7 (λj _ q=>gg q) sv<|lq _ _;refine⟨(mark s' v,(Z'.take aW).drop cR++[(v:Int)],0,aW-cR+1,cf+1,k+1),⟨zo,zo,by simp;omega,λz hz=>?_,zo,?_⟩,zd,?_⟩
    ·rcases dt.1 hz with q|q
     ·exact xM z<|AP<|List.mem_of_mem_drop q
     rw[cB] at q;omega
    ·rw[fQ,jd<|by simp;omega,GV,eT];exact hJ.push Ml Ef av
    (refine aR 4 zs rfl ?_ ?_<;>(repeat' (first|exact trivial|exact rfl|exact .refl _|refine And.intro ?_ ?_|(simp[aq,au,bg,-List.map_take,-List.map_drop];done))))
    ·exact aZ<|qE zo
    exact aZ Ah
   refine bb ?_;refine⟨(s',Z',cR,aW,cf,k+1),⟨zo,nW,nL,xM,uS,by rw[eT];exact hJ.skip λ_=>sv⟩,zd,aL (by exact sK) rfl⟩
  have al:k=L.length:=by have:¬k<L.length:=sO
                         omega
  subst al;refine⟨(s',Z',cR,aW,cf),⟨nW,nL,xM,zo,hJ.fin λk y h1 h2=>?_⟩,zd,aL (by exact sK) rfl⟩;have hk:k<W.next.length:=by
   rcases dY k W.next.length with q|q
   ·exact q
   rw[aE,cY q] at h1;cases h1
  rw[eZ];exact CT.2 ⟨(k:Int),(mL k).2 ⟨k,hk,rfl,y,h1,h2⟩,zs⟩
 have h0:hi=lo:=sO;subst h0;rw[Ci<|by rw[gA];omega] at hI;rw[jS (g':=euB W.next a c) λi _=>hI.end_ i];exact⟨rfl,zs⟩
end
section
def xS(W:bc)(num:Int):Nat->Bool:=λi=>oh (W.label.getD i 0) num
noncomputable def dU(W:bc)(kind num:Int)(K:Nat->Nat->Bool):Nat->Bool :=
 if kind=1 then iM else if kind=3 then xS W num else if kind=4 then cr<|K 0 else if kind=5 then iy (K 0)<|K 1 else if kind=6 then orF (K 0)<|K 1
 else if kind=7 then fp W<|K 0 else if kind=8 then euF W iM<|K 0 else if kind=9 then egF W<|K 0 else if kind=10 then euF W (K 0)<|K 1
 else if kind=11 then cr<|fp W<|cr<|K 0 else if kind=12 then cr<|egF W<|cr<|K 0 else if kind=13 then cr<|euF W iM<|cr<|K 0 else if kind=14 then auF W (K 0)<|K 1 else cr iM
mutual
noncomputable def mW(W:bc):Tree->Nat->Bool
 | .node k n ks=>dU W k n<|bn W ks
noncomputable def bn(W:bc):List Tree->Nat->Nat->Bool
 |[],_=>noT
 |t::_,0=>mW W t
 |_::ts,j+1=>bn W ts j
end
theorem Ue(W:bc):∀(ts:List Tree) (j:Nat),j<ts.length->bn W ts j=mW W (ts.getD j default)
 |[],j,h=>by simp at h
 |t::_,0,_=>by simp[bn]
 |_::ts,j+1,h=>by
  rw[bn,Ue W ts j<|by simpa using h];rfl
theorem Qc(h:j<t.width):bn W t.kids j=mW W (t.az j):=Ue W t.kids j h
theorem Te(t:Tree):mW W t=dU W t.kind t.num (bn W t.kids):=by cases t;rw[mW];rfl
noncomputable def iW(W:bc)(t:Tree)(k:Nat):fE:=(List.range k).map λj=>[bD W.next.length<|bn W t.kids j]
@[simp] theorem zzX(t:Tree)(k:Nat):(iW W t k).length=k:=by simp[iW]
@[simp] theorem Gy(t:Tree)(k:Nat):fc<|iW W t k:=db _ (λj=>by simp[an,jk]) _
@[simp] theorem zvO(t:Tree)(k:Nat):bg m (iW W t k)↔True:=⟨λ_=>trivial,λ_=>aV _<|Gy W t k⟩
theorem jm{W:bc}{z:Nat}(hz:z=j)(h:j<k):(iW W t k)[z]? = some [bD W.next.length<|bn W t.kids j]:=by
 subst hz;rw[aJ<|by simpa using h];simp[iW]
theorem Ro(t:Tree)(k:Nat):List.drop 0 (List.take k<|iW W t k)++List.drop 0 (List.take 1 [[bD W.next.length<|bn W t.kids k]])=iW W t (k+1):=by
 rw[cx zs];simp[iW,qy]
theorem Wm(h:¬fq dp t):((t.kind=1\/t.kind=2\/t.kind=3)/\t.width=0\/(t.kind=4\/t.kind=7\/t.kind=8\/t.kind=9\/t.kind=11\/t.kind=12\/t.kind=13)/\t.width=1\/(t.kind=5\/t.kind=6\/t.kind=10\/t.kind=14)/\t.width=2)/\0<=t.num/\t.num<=63:=by
 unfold fq dp at h
 (repeat' split at h)<;>omega
theorem zv7{v:Int}(h:0<=v/\v<18446744073709551616)(a:Int):(jv .and .u64 (v.fdiv<|2^min a.toNat 64) 1==1)=oh v a:=by
 have hr:=zoS h.1 h.2<|min a.toNat 64;rw[zxf hr.1 hr.2];rfl
theorem Wg{l:ah}{z:Nat}(hz:z=k)(h:k<l.length):(l.map λn=>[D.sc (.int .u64 n)])[z]? = some [.sc (.int .u64<|l.getD k 0)]:=by
 subst hz;rw[cU,aJ h,aE,aJ h];rfl
theorem Y7(hW:W.Fits)(hc:W.aS=0)(a b:ay):ar ai 115 [kF W,bD W.next.length a,bD W.next.length b]<|bD W.next.length<|auF W a b:=by
 obtain⟨_,qs,_⟩:=qj W hc;have n1:=ua W zo a;have n2:=ua W zo b;have bo:=Tb W zo (cr a)<|cr b;have eO:=zzH W hc (cr b)<|iy (cr a)<|cr b;have eg:=ME W hW hc<|cr b;have n3:=ua W zo<|orF (euF W (cr b)<|iy (cr a)<|cr b)<|egF W<|cr b;have e0:auF W a b=cr (orF (euF W (cr b)<|iy (cr a)<|cr b)<|egF W<|cr b):=rfl;refine bK fZ ?_;rw[e0];clear e0;generalize euF W (cr b) (iy (cr a)<|cr b)=e at *;generalize egF W (cr b)=f at *;refine sR ?_;refine sC n2 ?_;refine sC n1 ?_;refine sC n2 ?_;refine sC bo ?_;refine sA eO ?_;refine sC n2 ?_;refine sC eg ?_;rw[NX];refine bt [0,7,27,28] (λk:Nat=>[(29,aa k)]) (λk=>[(2,.vec true 0 1<|bV W.next.length λi=>if i<k then orF e f i else e i)]) (λk=>k<=W.next.length) (λk=>W.next.length-k) 0 ?_;refine sW ?_;refine⟨zo,by exact sK,by simp;rfl,?_⟩;rintro k hk;refine br (λq0=>?_) λq0=>?_
 ·have q0:k<W.next.length:=sO;have eat:(if k<k then orF e f k else e k)=e k:=ab zo;have eput:∀v,v<W.next.length->(if v<k+1 then orF e f v else e v)=if v=k then (e k||f k) else if v<k then orF e f v else e v:=λv _=>by
   by_cases q:v=k
   ·subst q;rw[ae zo,ae rfl];rfl
   rw[ab q];by_cases e2:v<k
   ·rw[ae e2,ae zo]
   rw[ab e2,ab zo]
  refine sL (bj k zo q0) ?_;refine sB ?_;refine⟨_,bj k zo q0,?_⟩;rw[eat];cases r:e k
  ·rw[r,uW] at eput;refine bE ?_;refine⟨_,bj k zo q0,?_⟩;refine bb ?_;refine⟨k+1,zo,zd,aL (by exact sK) ?_⟩;rw[nV (i:=k) zo eput];rfl
  rw[r,zj] at eput;refine bE ?_;refine⟨_,bj k zo q0,?_⟩;refine bb ?_;refine⟨k+1,zo,zd,aL (by exact sK) ?_⟩;rw[nV (i:=k) zo eput];rfl
 have q0:k=W.next.length:=by have:¬k<W.next.length:=sO
                             omega
 subst q0;rw[jS (g':=orF e f) λi hi=>ae hi];rw[show bD W.next.length (orF e f)=D.aM 1 (List.drop 0<|List.take W.next.length<|bV W.next.length<|orF e f) from by rw[Fy];rfl] at n3;refine sE (Ax (pre:=[_]) (post:=[]) n3 (jk _ _) ⟨E1 W,trivial⟩ trivial (tW _ _) rfl) ?_;exact .refl _
theorem zu0(hW:W.Fits)(hc:W.aS=0):ar ai 38 [gu W]<|kF W:=by
 obtain⟨_,qs,vy,_,iD,iY⟩:=qj W hc;have hF:=zxv W hW hc;have hT:=Xm W.next (AE.2 ⟨zo,λl hl=>(iD l hl).2⟩) ⟨hW.next,hW.xU⟩;refine dC fZ zs (by simp[an,MV]) ?_<|E1 W;unfold gu bc.cells kF wu at *;refine sR ?_;refine sC hF ?_;refine sC hT ?_;exact .loc _ _ _ _ _ rfl (oN _)
theorem zv4(i:Int):ar ai 107 [aa i]<|aD true:=by
 refine bL ?_;exact .refl _
theorem zwG(hl:W.label.length=W.next.length)(hL:sT W.label)(t:Tree)(hn:0<=t.num/\t.num<=63)(i:Nat)(hi:i<W.next.length):ar ai 108 [aa i,.aB [kF W],.aB<|aN t]<|aD<|xS W t.num i:=by
 have hv:0<=W.label.getD i 0/\W.label.getD i 0<18446744073709551616:=hL _<|dP zo;have hb:=zv7 hv t.num;refine bK fZ ?_;have e:xS W t.num i=oh (W.label.getD i 0) t.num:=rfl;rw[e,<-hb];unfold kF wu ix;refine sR ?_;refine sL (Wg (k:=i) zo zo) ?_;refine⟨hn.1,?_⟩;refine sW ?_;exact .refl _
theorem zwq(t:Tree)(h2:t.width=2)(i:Nat)(hi:i<W.next.length):ar ai 111 [aa i,.aB [.aM 1<|iW W t t.width]]<|aD<|orF (bn W t.kids 0) (bn W t.kids 1) i:=by
 refine bK fZ ?_;have e:orF (bn W t.kids 0) (bn W t.kids 1) i=(bn W t.kids 0 i||bn W t.kids 1 i):=rfl;rw[e];refine sR ?_;refine sL (jm (j:=0) zo zo) ?_;refine sL (bj i zo hi) ?_;cases r:bn W t.kids 0 i
 ·refine sW ?_;refine sL (jm (j:=1) zo zo) ?_;refine sL (bj i zo hi) ?_;exact .refl _
 refine sW ?_;exact .refl _
theorem zuR(hW:W.Fits)(hc:W.aS=0)(hL:sT W.label):∀t:Tree,t.wf dp->ar ai 39 [kF W,aY t] (bD W.next.length<|mW W t):=by
 obtain⟨hl,qs,_⟩:=qj W hc;have h6:W.next.length<=1000000:=zo;have zGk:=BS W h6 iM 107 [] (by simp[an]) λi hi=>zv4 i;intro t
 induction t using Tree.ind with
 |h t ih =>
  intro cu;obtain⟨tE,uO⟩:=Wm ((jG _ _).1 cu).1;have Nw:t.width<=2:=zo;have hA:=BS W h6 (xS W t.num) 108 [.aB [kF W],.aB<|aN t] (by simp[an,Pure,E1,cM]) λi hi=>zwG W hl hL t uO i hi;have hO:=λ(h:t.width=2)=>BS W h6 (orF (bn W t.kids 0)<|bn W t.kids 1) 111 [.aB [.aM 1<|iW W t t.width]] (by simp[an,Pure,Gy]) λi hi=>zwq W t h i hi;refine bK fZ ?_;rw[Te];refine sR ?_;refine sC zGk ?_;refine b8 (iq 2 0 1 zs rfl rfl) ?_;refine cJ [2,3,5,6,12,13] (λk:Nat=>[(14,aa k)]) (λk=>[.row true [kF W],.row true<|aN t,.row true [.own 3 k 0 k],.vec true k 1<|iW W t k]) (λk=>k<=t.width) (λk=>t.width-k) 0 ?_;refine eC ?_;rintro k hk;refine br (λh1=>?_) λh1=>?_
  ·have al:k<t.width:=(by simpa [Tree.width] using h1);refine sL (by rw[bQ];exact dk al) ?_;have Fi:=ih k al<|gD cu al;rw[<-Qc W al] at Fi;refine sC Fi ?_;refine⟨by unfold je;simp;omega,?_⟩;refine bb ?_;refine⟨k+1,zo,zd,?_⟩;dsimp only;refine aR 4 zs rfl sQ (sU ?_);exact aZ<|Ro W t k
  have A4:k=t.width:=by have:¬k<t.width:=by simpa [Tree.width] using h1
                        omega
  subst A4;clear ih h1 hk;refine sS (λg1=>?_) λg1=>?_
  ·have g1:t.kind=1:=sO;rw[show dU W t.kind t.num (bn W t.kids)=iM from by unfold dU;simp[g1]];exact .refl _
  have g1:¬t.kind=1:=sO;refine sS (λg3=>?_) λg3=>?_
  ·have g3:t.kind=3:=sO;rw[show dU W t.kind t.num (bn W t.kids)=xS W t.num from by unfold dU;simp[g3]];refine sV hA ?_;exact .refl _
  have g3:¬t.kind=3:=sO;refine sS (λg4=>?_) λg4=>?_
  ·have g4:t.kind=4:=sO;rw[show dU W t.kind t.num (bn W t.kids)=cr (bn W t.kids 0) from by unfold dU;simp[g4]];refine sB ?_;refine⟨_,jm (j:=0) zo zo,?_⟩;refine sW ?_;refine sC (ua W h6<|bn W t.kids 0) ?_;exact .refl _
  have g4:¬t.kind=4:=sO;refine sS (λg5=>?_) λg5=>?_
  ·have g5:t.kind=5:=sO;rw[show dU W t.kind t.num (bn W t.kids)=iy (bn W t.kids 0) (bn W t.kids 1) from by unfold dU;simp[g5]];refine sB ?_;refine⟨_,jm (j:=0) zo zo,?_⟩;refine bE ?_;refine⟨_,jm (j:=1) zo zo,?_⟩;refine sW ?_;refine sC (Tb W h6 (bn W t.kids 0)<|bn W t.kids 1) ?_;exact .refl _
  have g5:¬t.kind=5:=sO;refine sS (λg6=>?_) λg6=>?_
  ·have g6:t.kind=6:=sO;rw[show dU W t.kind t.num (bn W t.kids)=orF (bn W t.kids 0) (bn W t.kids 1) from by unfold dU;simp[g6]];have hdd:∀{H:aF},n4 H (List.drop 0<|List.take t.width<|iW W t t.width)<|iW W t t.width:=(by intro H;rw[cx zs];exact iX _);refine .inr (.inr (.inr (.inr (.inr (.inl ⟨rfl,_,_,.cons _ _ _ _ (.refl _) (.cons _ _ _ _ (.fn _ _ _ _ _ .nil (.cons _ _ _ _ (.loc _ _ _ _ _ rfl (.cons _ _ _ _ (.own _ _ _ _ _ _ _ _ rfl hdd) .nil)) .nil)) .nil),hO zo,?_⟩)))));refine sW ?_;exact .refl _
  have g6:¬t.kind=6:=sO;refine sS (λg7=>?_) λg7=>?_
  ·have g7:t.kind=7:=sO;rw[show dU W t.kind t.num (bn W t.kids)=fp W (bn W t.kids 0) from by unfold dU;simp[g7]];refine sB ?_;refine⟨_,jm (j:=0) zo zo,?_⟩;refine sW ?_;refine sC (UO W hW hc<|bn W t.kids 0) ?_;exact .refl _
  have g7:¬t.kind=7:=sO;refine sS (λg8=>?_) λg8=>?_
  ·have g8:t.kind=8:=sO;rw[show dU W t.kind t.num (bn W t.kids)=euF W iM (bn W t.kids 0) from by unfold dU;simp[g8]];refine sB ?_;refine⟨_,jm (j:=0) zo zo,?_⟩;refine sW ?_;refine sC (KQ W hc iM<|bn W t.kids 0) ?_;exact .refl _
  have g8:¬t.kind=8:=sO;refine sS (λg9=>?_) λg9=>?_
  ·have g9:t.kind=9:=sO;rw[show dU W t.kind t.num (bn W t.kids)=egF W (bn W t.kids 0) from by unfold dU;simp[g9]];refine sB ?_;refine⟨_,jm (j:=0) zo zo,?_⟩;refine sW ?_;refine sC (ME W hW hc<|bn W t.kids 0) ?_;exact .refl _
  have g9:¬t.kind=9:=sO;refine sS (λg10=>?_) λg10=>?_
  ·have g10:t.kind=10:=sO;rw[show dU W t.kind t.num (bn W t.kids)=euF W (bn W t.kids 0) (bn W t.kids 1) from by unfold dU;simp[g10]];refine sB ?_;refine⟨_,jm (j:=0) zo zo,?_⟩;refine bE ?_;refine⟨_,jm (j:=1) zo zo,?_⟩;refine sW ?_;refine sC (KQ W hc (bn W t.kids 0)<|bn W t.kids 1) ?_;exact .refl _
  have g10:¬t.kind=10:=sO;refine sS (λg11=>?_) λg11=>?_
  ·have g11:t.kind=11:=sO;rw[show dU W t.kind t.num (bn W t.kids)=cr (fp W<|cr<|bn W t.kids 0) from by unfold dU;simp[g11]];refine sB ?_;refine⟨_,jm (j:=0) zo zo,?_⟩;refine sW ?_;refine sC (ua W h6<|bn W t.kids 0) ?_;refine sC (UO W hW hc<|cr<|bn W t.kids 0) ?_;refine sC (ua W h6<|fp W<|cr<|bn W t.kids 0) ?_;exact .refl _
  have g11:¬t.kind=11:=sO;refine sS (λg12=>?_) λg12=>?_
  ·have g12:t.kind=12:=sO;rw[show dU W t.kind t.num (bn W t.kids)=cr (egF W<|cr<|bn W t.kids 0) from by unfold dU;simp[g12]];refine sB ?_;refine⟨_,jm (j:=0) zo zo,?_⟩;refine sW ?_;refine sC (ua W h6<|bn W t.kids 0) ?_;refine sC (ME W hW hc<|cr<|bn W t.kids 0) ?_;refine sC (ua W h6<|egF W<|cr<|bn W t.kids 0) ?_;exact .refl _
  have g12:¬t.kind=12:=sO;refine sS (λg13=>?_) λg13=>?_
  ·have g13:t.kind=13:=sO;rw[show dU W t.kind t.num (bn W t.kids)=cr (euF W iM<|cr<|bn W t.kids 0) from by unfold dU;simp[g13]];refine sB ?_;refine⟨_,jm (j:=0) zo zo,?_⟩;refine sW ?_;refine sC (ua W h6<|bn W t.kids 0) ?_;refine sC (KQ W hc iM<|cr<|bn W t.kids 0) ?_;refine sC (ua W h6<|euF W iM<|cr<|bn W t.kids 0) ?_;exact .refl _
  have g13:¬t.kind=13:=sO;refine sS (λg14=>?_) λg14=>?_
  ·have g14:t.kind=14:=sO;rw[show dU W t.kind t.num (bn W t.kids)=auF W (bn W t.kids 0) (bn W t.kids 1) from by unfold dU;simp[g14]];refine sB ?_;refine⟨_,jm (j:=0) zo zo,?_⟩;refine bE ?_;refine⟨_,jm (j:=1) zo zo,?_⟩;refine sW ?_;refine sC (Y7 W hW hc (bn W t.kids 0)<|bn W t.kids 1) ?_;exact .refl _
  have g14:¬t.kind=14:=sO;rw[show dU W t.kind t.num (bn W t.kids)=cr iM from by unfold dU;simp[g1,g3,g4,g5,g6,g7,g8,g9,g10,g11,g12,g13,g14]];refine sC (ua W h6 iM) ?_;exact .refl _
end
def Ij(W:bc)(t:Tree):Int:=if W.aS=0 then aS dp t else W.aS
theorem zrA(hW:W.Fits)(t:Tree)(hs:Small t):ar ai 37 [gu W,aY t]<|aa<|Ij W t:=by
 have hC:=Jg W hW;have hT:=Xc t hs;refine bK fZ ?_;unfold Ij;generalize W.aS=c at *;unfold gu at *;refine sR ?_;refine sC hC ?_;refine sS (λq=>?_) λq=>?_
 ·have q:¬c=0:=sO;rw[ab q];exact .refl _
 have q:c=0:=sO;rw[ae q];refine sC hT ?_;exact .refl _
theorem zts(hW:W.Fits)(hL:sT W.label)(t:Tree)(hs:Small t)(hc:W.aS=0)(h:aS dp t=0):ar ai 10 [gu W,aY t] (.aI [bD W.next.length<|mW W t,aa 0]):=by
 have hC:=zrA W hW t hs;rw[show Ij W t=0 by unfold Ij;rw[ae hc,h]] at hC;have hB:=zu0 W hW hc;have hT:=zuR W hW hc hL t ((qM _ _).1 h).2.2;refine bK fZ ?_;unfold gu at *;refine sR ?_;refine sC hC ?_;refine sC hB ?_;refine sC hT ?_;exact .refl _
theorem Qz{N:List<|List bq}{x:Int}:∀{n:Nat},x∈lf N n->∃m,m<n/\x∈ly N m
 |0,h=>by simp[lf] at h
 |n+1,h=>by
  simp only[lf,dt] at h;rcases h with h|h
  ·obtain⟨m,h1,h2⟩:=Qz h;exact⟨m,zo,h2⟩
  exact⟨n,zo,h⟩
variable{N:List<|List bq}
theorem YT{M:aj}{s:Nat}(h:SpN M N s)(hm:m<N.length)(hx:x∈ly N m):0<=x/\x.toNat<N.length:=by
 unfold ly at hx;split at hx
 ·rw[cB] at hx;subst hx;omega
 obtain⟨e,he,rfl⟩:=dq.1 hx;have hr:N.getD m []∈N:=by rw[aE,aJ hm];simp
 have:=h.LH _ hr e he;have:=h.len;omega
theorem J4{t:Nat}(ht:t<n)(hx:x∈iF N t):0<=x/\x<(bm N n:Int):=by
 obtain⟨i,hi,rfl⟩:=dq.1 hx;have hi:=fX.1 hi;have:=u9 (N:=N) (show t+1<=n by omega);rw[oO] at this;omega
noncomputable def dw(P:af)(tok st:Int):bc:=⟨iF (P.cj tok st) 0,jt<|P.cj tok st,nG P.bd<|P.cj tok st,oR P.bd<|P.cj tok st⟩
theorem zD(P:af)(tok st:Int):gu (dw P tok st)=ur (iF (P.cj tok st) 0) (jt<|P.cj tok st) (nG P.bd<|P.cj tok st) (oR P.bd<|P.cj tok st):=rfl
theorem LY{N:List<|List bq}{of:List bq}{s x:Int}:∀{i:Nat},x∈mV N of s i->0<=x/\x<(i:Int)
 |0,h=>by simp[mV] at h
 |i+1,h=>by
  simp only[mV] at h;split at h
  ·rcases dt.1 h with h|h
   ·have:=LY h;omega
   rw[cB] at h;subst h;omega
  have:=LY h;omega
structure RnOK(W:bc):Prop where
 fits:W.Fits
 aS:W.aS=0
 lett:sT W.label
 start:W.start.length<=1048576
 rows:∀l∈W.next,l.length<=1048576
variable{P:af}
theorem zpE(h:P.dI=0)(z:Int):0<=ss P.bd z/\ss P.bd z<18446744073709551616:=by
 unfold ss;split
 ·omega
 have hp:∀k:Nat,k<=63->(0:Int)<=2^k/\(2:Int)^k<18446744073709551616:=λk hk=>by
  have h1:(2:Nat)^k<=2^63:=Ae zo hk;have h3:(2:Nat)^63=9223372036854775808:=zc;rw[Gx k];generalize (2:Nat)^k=z at *;omega
 refine hp _ ?_;by_cases hz:z.toNat<P.bd.length
 ·have h1:=(af.zb h hz).node;have:=(jV (af.kY h).1).1;omega
 rw[aE,cY zo];simp
variable{tok st:Int}
theorem Dv(he:P.dL tok st=0)(hA:bm (P.cj tok st) (P.cj tok st).length<=600):RnOK<|dw P tok st:=by
 have hF:=mc he;have hS:=hF.sp;obtain⟨_,_,qB⟩:=af.kY hF.steps;have Gr:=λz=>zpE (P:=P) hF.steps z;have l5:1<=(P.cj tok st).length:=by have:=hS.len;have:=hS.pos;omega
 unfold dw;generalize P.cj tok st=N at *;generalize P.exM tok st=M at *;have CC:=GL N;have LM:=OB P.bd N;have yB:=MH P.bd N;have hm:∀t,t<N.length->im N t<=600:=λt ht=>by
  have:=u9 (N:=N) (show t+1<=N.length by omega);rw[oO] at this;omega
 have iD:∀l∈jt N,l≠[]/\l.length<=600/\bx l (jt N).length:=λl hl=>by
  obtain⟨x,hx,rfl⟩:=dq.1 hl;obtain⟨m,m1,m2⟩:=Qz hx;obtain⟨x1,x2⟩:=YT hS m1 m2;refine⟨λh=>?_,?_,kG λy hy=>?_⟩
  ·have h1:=Gv N x.toNat;have h2:=ztQ N x.toNat;rw[h] at h1;simp at h1;omega
  ·rw[Gv];exact hm _ x2
  rw[CC];exact J4 x2 hy
 have cE:bx (iF N 0) (jt N).length:=kG λy hy=>by rw[CC];exact J4 l5 hy
 have pV:(iF N 0).length<=600:=by rw[Gv];exact hm 0 l5
 have iY:∀l∈oR P.bd N,bx l (jt N).length/\l.length<=600:=λl hl=>by
  obtain⟨k,hk,rfl⟩:=dq.1 hl;refine⟨kG λy hy=>?_,?_⟩
  ·rw[CC];exact LY hy
  have:=U5 N (bW N N.length) (k:Int)<|bm N N.length;omega
 refine⟨⟨?_,?_,?_,?_,?_,?_⟩,?_,?_,?_,?_⟩
 ·show(iF N 0).length<=_;omega
 ·show(jt N).length<=_;omega
 ·show(nG P.bd N).length<=_;omega
 ·show(oR P.bd N).length<=_;omega
 ·intro l hl;have:=iD l hl;omega
 ·intro l hl;have:=iY l hl;omega
 ·unfold bc.aS;dsimp only;rw[ab zo,ab<|by rw[cE];simp;omega,ab,ab]
  ·rw[oL,pd];intro l hl;rw[(iY l hl).1];decide
  rw[oL,pd];intro l hl;obtain⟨h1,_,h2⟩:=iD l hl;rw[h2];simpa using h1
 ·intro x hx;obtain⟨e,_,rfl⟩:=dq.1 hx;exact Gr e.1
 ·show(iF N 0).length<=_;omega
 intro l hl;have:=iD l hl;omega
theorem Rn:∀{a b:ah},aO a=aO b->a=b:=λ{a b} h=>by
 unfold aO at h;injection h with _ h
 induction a generalizing b with
 |nil=>cases b with
  |nil=>rfl
  |cons y b=>simp at h
 |cons x a ih=>cases b with
  |nil=>simp at h
  |cons y b =>
   simp only[fi,List.cons.injEq,D.sc.injEq,Value.int.injEq,true_and,and_true] at h;rw[h.1,ih h.2]
variable{l:ah}{W:bc}
theorem Sr(hb:mY W A)(ha:gz W A){s:ah}(e:sh W A (b9 W A).1 (b9 W A).2 (iu W A).2=.aI [.agg [aO s,aO l],aD<|gz W A,aa 0]) :
  ¬pE (b9 W A).2 (js W A (b9 W A).1)<0/\s=oV (b9 W A).1 ((fC (b9 W A).2 (js W A (b9 W A).1) (iu W A).2).take<|(fC (b9 W A).2 (js W A (b9 W A).1) (iu W A).2).length-1) /\
   l=oV (b9 W A).1 (lu (b9 W A).2 (js W A (b9 W A).1) (dT<|fC (b9 W A).2 (js W A (b9 W A).1) (iu W A).2).toNat):=by
 rw[ha] at e;unfold sh at e;split at e
 ·simp at e
 rename_i hp;simp only[D.aI.injEq,List.cons.injEq,D.agg.injEq,and_true,true_and] at e;exact⟨hp,(Rn e.1).symm,(Rn e.2).symm⟩
theorem PI(hb:mY W A)(h:bx l (b9 W A).2.length):bx (oV (b9 W A).1 l) W.next.length:=kG λx hx=>by
 obtain⟨hN,hg⟩:=vv hb;obtain⟨n,hn,rfl⟩:=dq.1 hx;have h1:=cZ h hn;have:=hN.len;exact(hg _<|nT<|show n.toNat<(b9 W A).1.length by omega).1
theorem Uq(hb:mY W A)(ha:gz W A){s:ah}(e:sh W A (b9 W A).1 (b9 W A).2 (iu W A).2=.aI [.agg [aO s,aO l],aD<|gz W A,aa 0]) :
  bx s W.next.length=true/\bx l W.next.length/\s.length<=1000000000/\l.length<=1000000000:=by
 obtain⟨hp,rfl,rfl⟩:=Sr hb ha e;obtain⟨h1,h2,h3,h4⟩:=Ow hb hp;obtain⟨h5,h6⟩:=TX h4;have hG:=(vv hb).1.fits hb (vv hb).2;have hS:(js W A (b9 W A).1).length<=160:=by
  obtain⟨_,_,vy,_⟩:=tc W hb.two.cw;obtain⟨_,_,_,zMj,_⟩:=wo A hb.two.ca;unfold js;rw[cq,y3<|aT _,y3<|aT _];omega
 refine⟨PI hb<|kG λx hx=>cZ h1<|AP hx,PI hb h5,?_,?_⟩
 ·unfold oV;rw[aK,gA];omega
 unfold oV;rw[aK];have:=Ak hS (show(b9 W A).2.length<=1228800 by omega);omega
def oy(h:Bool)(s l:ah):D:=.agg [aD h,aO s,aO l]
@[simp] theorem zyT(h:Bool)(s l:ah):Pure<|oy h s l:=by simp[oy,Pure,an,cG]
theorem UX(h:k<P.nodes.length):List.drop 0 (List.take k<|((P.nodes.take k).map λx=>x.1).map λs=>[D.sc (.string s)])++[[D.sc (.string<|P.name k)]]=((P.nodes.take<|k+1).map λx=>x.1).map λs=>[D.sc (.string s)]:=by
 rw[cx<|by simp;omega,lI,aJ h];unfold af.name;rw[aE,aJ h];simp only[nZ,fi,gm,Bj,nR]
def gj(P:af):List aX:=P.nodes.map λx=>x.1
theorem IU(P:af)(hP:P.nodes.length<=1000000):ar ai 9 [cm P]<|dz<|gj P:=by
 refine bL ?_;rw[aK];refine b8 (fL 3 1 zs rfl) ?_;refine bt [7,8] (λk:Nat=>[(3,.own 1 k 0 k),(9,aa k)]) (λk=>[(1,.vec true k 1<|((P.nodes.take k).map λx=>x.1).map λs=>[.sc (.string s)])]) (λk=>k<=P.nodes.length) (λk=>P.nodes.length-k) 0 ?_;refine eC ?_;rintro k hk;refine br (λh=>?_) λh=>?_
 ·have al:k<P.nodes.length:=sO;refine sL (ka P (k:=k) zo al) ?_;refine fA ?_;refine⟨k+1,zo,zd,?_⟩;refine aR 2 zs rfl sQ (sU ?_);exact aZ<|UX al
 have al:k=P.nodes.length:=by have:¬k<P.nodes.length:=sO
                              omega
 subst al;refine .own _ _ _ _ _ _ _ _ rfl ?_;rw[cx zs,eZ];exact iX _
theorem Qm(of:List bq)(hof:of.length<=1000000)(l:ah)(hl:l.length<=1000000000000)(bp:bx l of.length):ar ai 13 [l7 of,aO l]<|aO<|l.map λn=>(of.getD n.toNat (0,0)).1:=by
 refine bK fZ ?_;unfold l7 aO;refine sR ?_;rw[aK];refine b8 (fL 5 1 zs rfl) ?_;refine bt [0,8,9] (λk:Nat=>[(5,.own 0 k 0 k),(10,aa k)]) (λk=>[(0,.vec true k 1<|aA<|(l.take k).map λn=>(of.getD n.toNat (0,0)).1)]) (λk=>k<=l.length) (λk=>l.length-k) 0 ?_;refine eC ?_;rintro k hk;refine br (λh=>?_) λh=>?_
 ·have al:k<l.length:=sO;have hx:=cZ bp<|dP al;refine sL (cA (k:=k) zo al) ?_;refine sL (ni (k:=(l.getD k 0).toNat) zo zo) ?_;refine fA ?_;refine⟨k+1,zo,zd,?_⟩;refine aR 1 zs rfl sQ (sU ?_);refine aZ<|(nk<|by simp;omega).trans ?_;have e:l.getD k 0=l[k]:=(by rw[aE,aJ al];rfl);rw[lI,aJ al,e,nZ];rfl
 have al:k=l.length:=by have:¬k<l.length:=sO
                        omega
 subst al;rw[eZ];exact oJ zs rfl
section
variable(P:af)(tok st:Int)(name:aX)(sort:Int)(x:cC)(k a b c:Int)(f g:Tree)
noncomputable def kz(l:ah):ah:=l.map λn=>((bW (P.cj tok st) (P.cj tok st).length).getD n.toNat (0,0)).1
end
theorem Fc{e:Int}:Deep H (.aI [.agg [aD false,ax,ax],aa e]) (.aI [oy false [] [],aa e]) :=
 .aI _ _ (.cons _ _ _ _ (.agg _ _ (.cons _ _ _ _ (.refl _) (.cons _ _ _ _ (.none _) (.cons _ _ _ _ (.none _) .nil)))) (.cons _ _ _ _ (.refl _) .nil))
section
variable{P:af}(hP:P.Fits){tok st:Int}{name:aX}(gp:name.size<=9223372036854775807){sort:Int}{x:cC}{k a b c:Int}{f g:Tree}(hf:Small f)(hg:Small g)
include hP in
theorem zv6(h1:P.dL tok st≠0):ar ai 4 [cm P,cK name sort x k a b c f g,aa tok,aa st] (.aI [oy false [] [],aa<|P.dL tok st]):=by
 have hR:=zu1 P hP tok st h1;refine bK fZ ?_;generalize P.dL tok st=e at *;unfold cm af.cells ur at *;refine sR ?_;refine sC hR ?_;refine sS (λh=>?_) λh=>?_
 ·exact Fc
 exfalso;exact sO
include hP in
theorem YU(h1:P.dL tok st=0)(h2:¬bm (P.cj tok st) (P.cj tok st).length<=600):ar ai 4 [cm P,cK name sort x k a b c f g,aa tok,aa st] (.aI [oy false [] [],aa 2]):=by
 have hR:=EJ P hP tok st h1<|mc h1;rw[ab h2] at hR;refine bK fZ ?_;unfold cm af.cells ur at *;refine sR ?_;refine sC hR ?_;exact Fc
theorem U4(h:gP sort x k a b c f=0):aS bz (cy sort x k a b c f)=0:=by
 unfold gP at h;unfold cy;split at h
 ·rename_i h1;rw[ae h1];unfold vp at h;split at h
  ·exact h
  rename_i q;exact absurd h q
 rename_i h1;rw[ab h1];split at h
 ·rename_i h2;rw[ae h2];unfold vM at h;split at h
  ·exact h
  rename_i q;exact absurd h q
 rename_i h2;rw[ab h2];split at h
 ·exact h
 cases h
include hP in
theorem ztC(hC:ar ai 8 [cK name sort x k a b c f g,dz<|gj P]<|aa<|fH (gj P) name sort x k a b c f g)(h1:P.dL tok st=0)(h2:bm (P.cj tok st) (P.cj tok st).length<=600)(h3:fH (gj P) name sort x k a b c f g≠0):ar ai 4 [cm P,cK name sort x k a b c f g,aa tok,aa st] (.aI [oy false [] [],aa<|fH (gj P) name sort x k a b c f g]):=by
 have hR:=EJ P hP tok st h1<|mc h1;rw[ae h2,<-zD] at hR;have hc:=af.kY (mc h1).steps;have zz:=(jV hc.1).1;have nj:=IU P zo;generalize fH (gj P) name sort x k a b c f g=e at *;refine bK fZ ?_;unfold cm af.cells cK jC cc iN aN gu bc.cells at *;refine sR ?_;refine sC hR ?_;refine sC nj ?_;refine sC hC ?_;refine sS (λh=>?_) λh=>?_
 ·exact Fc
 exfalso;exact sO
include hP in
theorem zu2(hC:ar ai 8 [cK name sort x k a b c f g,dz<|gj P]<|aa<|fH (gj P) name sort x k a b c f g)(hM:ar ai 11 [cK name sort x k a b c f g]<|oA (gP sort x k a b c f)<|cy sort x k a b c f)(h1:P.dL tok st=0)(h2:bm (P.cj tok st) (P.cj tok st).length<=600)(h4:sort≠4)(h3:fH (gj P) name sort x k a b c f g=0)(h5:gP sort x k a b c f≠0) :
  ar ai 4 [cm P,cK name sort x k a b c f g,aa tok,aa st] (.aI [oy false [] [],aa<|gP sort x k a b c f]):=by
 have hR:=EJ P hP tok st h1<|mc h1;rw[ae h2,<-zD] at hR;have hc:=af.kY (mc h1).steps;have zz:=(jV hc.1).1;have nj:=IU P zo;rw[h3] at hC;unfold oA at hM;rw[ab h5] at hM;generalize gP sort x k a b c f=e at *;refine bK fZ ?_;unfold cm af.cells cK jC cc iN aN gu bc.cells at *;refine sR ?_;refine sC hR ?_;refine sC nj ?_;refine sC hC ?_;rw[dr h4];refine sW ?_;refine sC hM ?_;refine sS (λh=>?_) λh=>?_
 ·exact Fc
 exfalso;exact sO
include hP hf in
theorem zxI(hC:ar ai 8 [cK name sort x k a b c f g,dz<|gj P]<|aa<|fH (gj P) name sort x k a b c f g)(hM:ar ai 11 [cK name sort x k a b c f g]<|oA (gP sort x k a b c f)<|cy sort x k a b c f)(h1:P.dL tok st=0)(h2:bm (P.cj tok st) (P.cj tok st).length<=600)(h4:sort≠4)(h3:fH (gj P) name sort x k a b c f g=0)(h5:gP sort x k a b c f=0) :
  ∃s l,ar ai 4 [cm P,cK name sort x k a b c f g,aa tok,aa st]
   (.aI [oy (decide (ig (cy sort x k a b c f)=0)&&!(gz (dw P tok st)<|fg<|cy sort x k a b c f)) (kz P tok st s)<|kz P tok st l,aa<|ig<|cy sort x k a b c f]) /\
   (ig (cy sort x k a b c f)=0->gz (dw P tok st) (fg<|cy sort x k a b c f)->sh (dw P tok st) (fg<|cy sort x k a b c f) (b9 (dw P tok st)<|fg<|cy sort x k a b c f).1 (b9 (dw P tok st)<|fg<|cy sort x k a b c f).2 (iu (dw P tok st)<|fg<|cy sort x k a b c f).2=.aI [.agg [aO s,aO l],aD<|gz (dw P tok st)<|fg<|cy sort x k a b c f,aa 0]) /\
   (¬(ig (cy sort x k a b c f)=0/\gz (dw P tok st) (fg<|cy sort x k a b c f))->s=[]/\l=[]):=by
 have hR:=EJ P hP tok st h1<|mc h1;rw[ae h2,<-zD] at hR;have hW:=Dv h1 h2;have hc:=af.kY (mc h1).steps;have zz:=(jV hc.1).1;have nj:=IU P zo;rw[h3] at hC;unfold oA at hM;rw[ae h5,h5] at hM;have Am:=U4 h5;obtain⟨s,l,hH,nH,mQ⟩:=zvA (dw P tok st) hW.fits hW.start hW.rows (cy sort x k a b c f)<|Po _ _ _ _ _ _ _ hf;rw[ab<|by simpa using hW.aS,ab<|by simpa using Am] at hH;have hd:decide ((dw P tok st).aS=0/\aS bz (cy sort x k a b c f)=0/\ig (cy sort x k a b c f)=0)=decide (ig (cy sort x k a b c f)=0):=by rw[decide_eq_decide];exact⟨λh=>h.2.2,λh=>⟨hW.aS,Am,h⟩⟩
 rw[hd] at hH;refine⟨s,l,?_,λq q2=>nH hW.aS Am q,λq=>mQ λq2=>q q2.2.2⟩
 have bp:ig (cy sort x k a b c f)=0->gz (dw P tok st) (fg<|cy sort x k a b c f)->bx s (dw P tok st).next.length/\bx l (dw P tok st).next.length/\s.length<=1000000000/\l.length<=1000000000:=λq q2 =>
  Uq (FV hW.fits hW.aS hW.start hW.rows q) q2 (nH hW.aS Am q)
 have oT:(bW (P.cj tok st) (P.cj tok st).length).length=(dw P tok st).next.length:=by rw[xY];exact(GL _).symm
 have bT:¬(ig (cy sort x k a b c f)=0/\gz (dw P tok st) (fg<|cy sort x k a b c f))->s=[]/\l=[]:=λq=>mQ λq2=>q q2.2.2;have qs:(bW (P.cj tok st) (P.cj tok st).length).length<=600:=h2;unfold kz;clear nH mQ hd hW Am h3 h5;generalize bW (P.cj tok st) (P.cj tok st).length=of at *;generalize dw P tok st=W at *;generalize cy sort x k a b c f=T at *;generalize hA:gz W (fg T)=A at *;generalize ig T=e at *;refine bK fZ ?_;unfold cm af.cells cK jC cc iN aN gu bc.cells at *;by_cases he:e=0
 ·subst he;cases A
  ·obtain⟨rfl,rfl⟩:=bT zs;refine sR ?_;refine sC hR ?_;refine sC nj ?_;refine sC hC ?_;rw[dr h4];refine sW ?_;refine sC hM ?_;refine sC hH ?_;exact .aI _ _ (.cons _ _ _ _ (.agg _ _ (.cons _ _ _ _ (.refl _) (.cons _ _ _ _ (.none _) (.cons _ _ _ _ (.none _) .nil)))) (.cons _ _ _ _ (.refl _) .nil))
  obtain⟨i1,i2,i3,i4⟩:=bp rfl rfl;have hL1:=Qm of zo s zo (by rw[oT];exact i1);have LI:=Qm of zo l zo (by rw[oT];exact i2);refine sR ?_;refine sC hR ?_;refine sC nj ?_;refine sC hC ?_;rw[dr h4];refine sW ?_;refine sC hM ?_;refine sC hH ?_;refine sC hL1 ?_;refine sC LI ?_;exact .refl _
 obtain⟨rfl,rfl⟩:=bT λq=>he q.1;refine sR ?_;refine sC hR ?_;refine sC nj ?_;refine sC hC ?_;rw[dr h4];refine sW ?_;refine sC hM ?_;refine sC hH ?_;rw[show(e != 0)=true by simpa using he];refine sW ?_;rw[gM he];exact .aI _ _ (.cons _ _ _ _ (.agg _ _ (.cons _ _ _ _ (.refl _) (.cons _ _ _ _ (.none _) (.cons _ _ _ _ (.none _) .nil)))) (.cons _ _ _ _ (.refl _) .nil))
end
theorem yV(hP:P.Fits)(h1:P.dL tok st=0):oK<|gj P:=by
 have hc:=af.kY (mc h1).steps;have zz:=(jV hc.1).1;exact⟨by simp[gj];omega,λs hs=>by obtain⟨z,hz,rfl⟩:=dq.1 hs;exact hP.name z hz⟩
section
variable{P:af}(hP:P.Fits){tok st:Int}{name:aX}{sort:Int}{x:cC}{k a b c:Int}{f g:Tree}(hg:Small g)
theorem Pa{names:List aX}(h:fH names name 4 x k a b c f g=0):aS dp g=0:=by
 unfold fH at h;split at h
 ·cases h
 split at h
 ·rename_i q;exact absurd h q
 rename_i q;have q:=Classical.not_not.1 q;unfold eJ at q;rw[ab zc,ab zc,ab zc,ae rfl] at q;split at q
 ·assumption
 exact q
include hP hg in
theorem zw0(hC:ar ai 8 [cK name sort x k a b c f g,dz<|gj P]<|aa<|fH (gj P) name sort x k a b c f g)(h1:P.dL tok st=0)(h2:bm (P.cj tok st) (P.cj tok st).length<=600)(h4:sort=4)(h3:fH (gj P) name sort x k a b c f g=0) :
  ar ai 4 [cm P,cK name sort x k a b c f g,aa tok,aa st] (.aI [oy ((dw P tok st).start.all λn=>mW (dw P tok st) g n.toNat) [] [],aa 0]):=by
 have hR:=EJ P hP tok st h1<|mc h1;rw[ae h2,<-zD] at hR;have hW:=Dv h1 h2;have hc:=af.kY (mc h1).steps;have zz:=(jV hc.1).1;have nj:=IU P zo;rw[h3] at hC;subst h4;have hL:=zts (dw P tok st) hW.fits hW.lett g hg hW.aS<|Pa h3;obtain⟨w1,w2,w3,w4,w5,w6⟩:=tc _ hW.aS;have pV:=hW.start;clear hW h3;generalize dw P tok st=W at *;refine bK fZ ?_;generalize hb:(W.start.all λn=>mW W g n.toNat)=B;unfold cm af.cells cK jC cc iN aN gu bc.cells at *;refine sR ?_;refine sC hR ?_;refine sC nj ?_;refine sC hC ?_;refine sC hL ?_;rw[aK];refine bt [8,14,56,57] (λi:Nat=>[(58,aa i)]) (λ_=>[]) (λi=>i<=W.start.length/\∀j,j<i->mW W g (W.start.getD j 0).toNat=true) (λi=>W.start.length-i) 0 ?_;refine sW ?_;refine⟨⟨zo,λj hj=>zo⟩,by exact sK,rfl,?_⟩;rintro i ⟨hi,bR⟩;refine br (λh=>?_) λh=>?_
 ·have aW:i<W.start.length:=sO;have hx:=cZ w4<|dP aW;refine sL (cA (k:=i) zo aW) ?_;refine sL (bj (W.start.getD i 0).toNat zo zo) ?_;cases r:mW W g (W.start.getD i 0).toNat
  ·refine sW ?_;have:B=false:=by rw[<-hb,List.all_eq_false];exact⟨_,dP aW,by rw[r];simp⟩
   rw[this];exact Fc
  refine bb ?_;refine⟨i+1,⟨zo,λj hj=>?_⟩,zd,aL (by exact sK) rfl⟩;by_cases e:j=i
  ·subst e;exact r
  exact bR j zo
 have aW:i=W.start.length:=by have:¬i<W.start.length:=sO
                              omega
 subst aW;have:B:=by
  rw[<-hb,ki];intro y hy;obtain⟨j,hj,rfl⟩:=s7 hy;exact bR j hj
 rw[this];exact .aI _ _ (.cons _ _ _ _ (.agg _ _ (.cons _ _ _ _ (.refl _) (.cons _ _ _ _ (.none _) (.cons _ _ _ _ (.none _) .nil)))) (.cons _ _ _ _ (.refl _) .nil))
end
section
variable(P:af)(tok st:Int)(name:aX)(sort:Int)(x:cC)(k a b c:Int)(f g:Tree)
noncomputable def jE:Int :=
 if P.dL tok st≠0 then P.dL tok st else if ¬bm (P.cj tok st) (P.cj tok st).length<=600 then 2
 else if fH (gj P) name sort x k a b c f g≠0 then fH (gj P) name sort x k a b c f g
 else if sort=4 then 0 else if gP sort x k a b c f≠0 then gP sort x k a b c f else ig<|cy sort x k a b c f
noncomputable def jB:Bool :=
 decide (jE P tok st name sort x k a b c f g=0)&&if sort=4 then (dw P tok st).start.all λn=>mW (dw P tok st) g n.toNat else !(gz (dw P tok st)<|fg<|cy sort x k a b c f)
end
section
variable{P:af}(hP:P.Fits){tok st:Int}{name:aX}(gp:name.size<=9223372036854775807){sort:Int}{x:cC}{k a b c:Int}{f g:Tree}(hf:Small f)(hg:Small g)
include hP gp hf hg in
theorem zwM(h1:P.dL tok st=0)(h2:bm (P.cj tok st) (P.cj tok st).length<=600)(h3:fH (gj P) name sort x k a b c f g≠0):ar ai 4 [cm P,cK name sort x k a b c f g,aa tok,aa st] (.aI [oy false [] [],aa<|fH (gj P) name sort x k a b c f g]) :=
 ztC hP (JD (gj P) (yV hP h1) name gp sort x k a b c f g hf hg) h1 h2 h3
include hP gp hf hg in
theorem zyW(h1:P.dL tok st=0)(h2:bm (P.cj tok st) (P.cj tok st).length<=600)(h4:sort=4)(h3:fH (gj P) name sort x k a b c f g=0) :
  ar ai 4 [cm P,cK name sort x k a b c f g,aa tok,aa st] (.aI [oy ((dw P tok st).start.all λn=>mW (dw P tok st) g n.toNat) [] [],aa 0]) :=
 zw0 hP hg (JD (gj P) (yV hP h1) name gp sort x k a b c f g hf hg) h1 h2 h4 h3
include hP gp hf hg in
theorem zxw(h1:P.dL tok st=0)(h2:bm (P.cj tok st) (P.cj tok st).length<=600)(h4:sort≠4)(h3:fH (gj P) name sort x k a b c f g=0)(h5:gP sort x k a b c f≠0) :
  ar ai 4 [cm P,cK name sort x k a b c f g,aa tok,aa st] (.aI [oy false [] [],aa<|gP sort x k a b c f]) :=
 zu2 hP (JD (gj P) (yV hP h1) name gp sort x k a b c f g hf hg) (Xl name sort x k a b c f g hf) h1 h2 h4 h3 h5
include hP gp hf hg in
theorem zyp(h1:P.dL tok st=0)(h2:bm (P.cj tok st) (P.cj tok st).length<=600)(h4:sort≠4)(h3:fH (gj P) name sort x k a b c f g=0)(h5:gP sort x k a b c f=0) :
  ∃s l,ar ai 4 [cm P,cK name sort x k a b c f g,aa tok,aa st]
   (.aI [oy (decide (ig (cy sort x k a b c f)=0)&&!(gz (dw P tok st)<|fg<|cy sort x k a b c f)) (kz P tok st s)<|kz P tok st l,aa<|ig<|cy sort x k a b c f]) /\
   (ig (cy sort x k a b c f)=0->gz (dw P tok st) (fg<|cy sort x k a b c f)->sh (dw P tok st) (fg<|cy sort x k a b c f) (b9 (dw P tok st)<|fg<|cy sort x k a b c f).1 (b9 (dw P tok st)<|fg<|cy sort x k a b c f).2 (iu (dw P tok st)<|fg<|cy sort x k a b c f).2=.aI [.agg [aO s,aO l],aD<|gz (dw P tok st)<|fg<|cy sort x k a b c f,aa 0]) /\
   (¬(ig (cy sort x k a b c f)=0/\gz (dw P tok st) (fg<|cy sort x k a b c f))->s=[]/\l=[]) :=
 zxI hP hf (JD (gj P) (yV hP h1) name gp sort x k a b c f g hf hg) (Xl name sort x k a b c f g hf) h1 h2 h4 h3 h5
include hP gp hf hg in
end
namespace af
noncomputable def eV(P:af)(l:ah):Nat->ah
 |0=>P.jx
 |i+1=>if l.getD i 0=-1 then P.eV l i else P.dB (P.eV l i)<|l.getD i 0
open Classical in
noncomputable def kU(P:af)(l:ah)(i:Nat):Int :=
 if l.getD i 0=-1 then (if P.du (P.eV l i)=[] then 0 else 9) else P.jM (P.eV l i)<|l.getD i 0
noncomputable def tF(P:af)(l:ah):Nat->aj
 |0=>[P.eV l 0]
 |i+1=>P.tF l i++[P.eV l<|i+1]
theorem Ga(P:af)(l:ah):∀i,(P.tF l i).length=i+1
 |0=>rfl
 |i+1=>by simp[tF,Ga P l i]
theorem IZ(P:af)(l:ah){k:Nat}:∀{i:Nat},k<=i->(P.tF l i).getD k []=P.eV l k
 |0,h=>by rw[show k=0 by omega];rfl
 |i+1,h=>by
  simp only[tF];by_cases e:k=i+1
  ·subst e;rw[aE,gJ<|by rw[Ga];omega,Ga,rm];rfl
  rw[aE,fv<|by rw[Ga];omega,<-aE];exact IZ P l zo
theorem KI{P:af}{l:ah}(h:P.dI=0):∀i,(∀j,j<i->P.kU l j=0)->P.ml (P.eV l i)=true
 |0,_=>Of h
 |i+1,hz=>by
  have ih:=KI h i λj hj=>hz j zo;have hi:=hz i zo;unfold kU at hi;simp only[eV];split
  ·exact ih
  rename_i q;rw[ab q] at hi;obtain⟨_,_,_,a,b,c⟩:=zrf hi;rw[c];exact VB ih a b
theorem UM(h:P.dI=0){i:Nat}(hz:∀j,j<i->P.kU l j=0):(P.eV l i).length<=30:=by
 have h1:=(gg<|KI h i hz).len;have h2:=(jV (kY h).1).2;omega
noncomputable def vL(P:af)(stem loop:ah)(n:Nat):Int :=
 if P.dI≠0 then P.dI else if loop.length=0 then 1 else if 60000<stem.length+loop.length then 2
 else if n≠stem.length+loop.length then P.kU (stem++loop) n
 else if P.eV (stem++loop) stem.length=P.eV (stem++loop) (stem.length+loop.length) then 0 else 9
noncomputable def Mp(P:af)(stem loop:ah)(n:Nat):aj:=if P.vL stem loop n=0 then P.tF (stem++loop)<|stem.length+loop.length else []
def off(stem loop:ah):Nat->Nat
 |0=>0
 |1=>stem.length
 |_=>stem.length+loop.length
end af
section
open Classical in
noncomputable def D5(P:af)(M:ah)(k:Int):Int:=if k=-1 then (if P.du M=[] then 0 else 9) else P.jM M k
open Classical in
noncomputable def HL(P:af)(M:ah)(k:Int):ah:=if k=-1 then (if P.du M=[] then M else []) else P.dB M k
theorem YE(P:af)(l:ah)(i:Nat):P.kU l i=D5 P (P.eV l i) (l.getD i 0):=by unfold af.kU D5;rfl
theorem Zp{i:Nat}(h:P.kU l i=0):P.eV l (i+1)=HL P (P.eV l i) (l.getD i 0):=by
 unfold af.kU at h;unfold HL;simp only[af.eV];split
 ·rename_i q;rw[ae q] at h;split at h
  ·rename_i q2;rw[ae q2]
  cases h
 rfl
end
section
theorem zoP(P:af)(hP:P.Fits)(h:Bool)(stem loop:ah)(l1:stem.length<=9223372036854775807)(l2:loop.length<=9223372036854775807)(n:Nat)(hn:n<=stem.length+loop.length)(hz:∀j,j<n->P.kU (stem++loop) j=0)(hs:n=stem.length+loop.length\/P.kU (stem++loop) n≠0) :
  ar ai 6 [cm P,oy h stem loop] (.aI [bY<|P.Mp stem loop n,aa<|P.vL stem loop n]):=by
 have eE:P.vL stem loop n=if P.dI≠0 then P.dI else if loop.length=0 then 1 else if 60000<stem.length+loop.length then 2
   else if n≠stem.length+loop.length then P.kU (stem++loop) n
   else if P.eV (stem++loop) stem.length=P.eV (stem++loop) (stem.length+loop.length) then 0 else 9:=rfl
 have eL:P.Mp stem loop n=if P.vL stem loop n=0 then P.tF (stem++loop)<|stem.length+loop.length else []:=rfl
 refine bK fZ ?_;have bad:∀{H:aF} {e:Int},e≠0->P.vL stem loop n=e->Deep H (.aI [ax,aa e]) (.aI [bY<|P.Mp stem loop n,aa<|P.vL stem loop n]):=λh q=>by
  rw[eL,q,ab h];exact .aI _ _ (.cons _ _ _ _ (.none _) (.cons _ _ _ _ (.refl _) .nil))
 refine sR ?_;refine sC (Ly P hP) ?_;refine sS (λh1=>?_) λh1=>?_
 ·have h1:P.dI≠0:=sO;exact bad h1<|by rw[eE,ae h1]
 have h1:P.dI=0:=sO;rw[ab zo] at eE;rw[aK];refine sS (λh2=>?_) λh2=>?_
 ·exact bad zc<|by rw[eE,ae<|sO]
 rw[ab<|sO] at eE;rw[aK];by_cases h3:60000<stem.length
 ·have hb:decide ((stem.length:Int)>60000)=true:=ia zo;rw[hb];refine sW ?_;exact bad zc<|by rw[eE,ae zo]
 have hb:decide ((stem.length:Int)>60000)=false:=gM zo;rw[hb];refine sW ?_;rw[aK,aK];refine sI ?_;refine sS (λh4=>?_) λh4=>?_
 ·exact bad zc<|by rw[eE,ae<|sO]
 rw[ab<|sO] at eE;have h4:stem.length+loop.length<=60000:=sO;refine sC (Sj P hP h1) ?_;refine sJ ?_;refine sJ ?_;rw[aK,aK,cx zs];have eA:(List.map (λn=>[aa n]) stem++List.map (λn=>[aa n]) loop)=aA (stem++loop):=by simp[aA]
 rw[eA];have lA:(stem++loop).length=stem.length+loop.length:=cq;refine bt [2,3,6,9] (λi:Nat=>[(8,.own 2 i 0<|i+1),(10,aa i)]) (λi=>[(2,.vec true i 1<|eQ<|P.tF (stem++loop) i)]) (λi=>i<=n) (λi=>stem.length+loop.length-i) 0 ?_;refine eC ?_;rintro i hi;refine c6 ?_;have S3:∀q,q<i->P.kU (stem++loop) q=0:=λq hq=>hz q zo;have lN:=af.UM h1 S3;have lG:=P.Ga (stem++loop) i;refine sS (λh5=>?_) λh5=>?_
 ·have aW:i<stem.length+loop.length:=sO;have hB:=af.KI h1 i S3;have hK:=af.gg hB;obtain⟨h0,_,qB⟩:=af.kY h1;have eM:P.kf (P.eV (stem++loop) i)=0:=(by unfold af.kf;rw[ab zo,ae hB]);have er:P.kU (stem++loop) i=D5 P (P.eV (stem++loop) i) ((stem++loop).getD i 0):=YE P _ i;have eo:=Zp (P:=P) (l:=stem++loop) (i:=i);have eg:P.tF (stem++loop) (i+1)=P.tF (stem++loop) i++[P.eV (stem++loop)<|i+1]:=rfl;have stop:P.kU (stem++loop) i≠0->P.vL stem loop n=P.kU (stem++loop) i:=λbT=>by
   have e:i=n:=by
    by_cases q:i=n
    ·exact q
    exact absurd (hz i zo) bT
   rw[eE,ae zo,e]
  have go:P.kU (stem++loop) i=0->i<n:=λh0=>by
   by_cases q:i=n
   ·subst q;rcases hs with hs|hs
    ·omega
    exact absurd h0 hs
   omega
  refine sIB ?_;refine⟨_,x4 (k:=i) zo zo,?_⟩;refine sW ?_;rw[af.IZ P (stem++loop)<|aT i];refine sB ?_;refine⟨_,L' (l:=stem++loop) (k:=i) zo zo,?_⟩;refine sW ?_;have rd:∀{z:Nat},z=i->(aA<|stem++loop)[z]? = some [aa<|(stem++loop).getD i 0]:=λhz=>L' hz zo
  have eF:P.jM (P.eV (stem++loop) i) ((stem++loop).getD i 0)=if (stem++loop).getD i 0<0\/(P.bd.length:Int)<=(stem++loop).getD i 0 then 1
   else if P.nw (P.eV (stem++loop) i) (P.bd.getD ((stem++loop).getD i 0).toNat (0,0,0))=true then P.kW (P.eV (stem++loop) i)<|P.bd.getD ((stem++loop).getD i 0).toNat (0,0,0) else 9:=by
   unfold af.jM;rw[ab zo]
  have eoE:D5 P (P.eV (stem++loop) i) ((stem++loop).getD i 0)=if (stem++loop).getD i 0=-1 then (if P.du (P.eV (stem++loop) i)=[] then 0 else 9) else P.jM (P.eV (stem++loop) i)<|(stem++loop).getD i 0:=by unfold D5;rfl
  have eoL:HL P (P.eV (stem++loop) i) ((stem++loop).getD i 0)=if (stem++loop).getD i 0=-1 then (if P.du (P.eV (stem++loop) i)=[] then P.eV (stem++loop) i else []) else P.dB (P.eV (stem++loop) i)<|(stem++loop).getD i 0:=by unfold HL;rfl
  generalize (stem++loop).getD i 0=k at *;refine sS (λh6=>?_) λh6=>?_
  ·have h6:k=-1:=sO;rw[ae h6] at eoE eoL;refine sC (Vl P hP (P.eV (stem++loop) i) eM) ?_;rw[aK];refine sS (λh7=>?_) λh7=>?_
   ·have bT:P.du (P.eV (stem++loop) i)≠[]:=λe=>by rw[e] at h7;simp at h7
    rw[ab bT] at eoE;rw[eoE] at er;exact bad zc<|by rw[stop<|by rw[er];decide,er]
   have bT:P.du (P.eV (stem++loop) i)=[]:=n8.1<|sO;rw[ae bT] at eoE eoL;rw[eoE] at er;have hg:=go er;have eo:=eo er;rw[eoL] at eo;refine sJ ?_;refine fA ?_;refine⟨i+1,zo,zd,?_⟩;have e2:eQ (P.tF (stem++loop)<|i+1)=eQ (P.tF (stem++loop) i)++[[aO<|P.eV (stem++loop) i]]:=by
    rw[eg,eo];simp[eQ]
   refine aR 4 zs rfl sQ (sU ?_);rw[e2];refine jJ.append _ _ _ _ (aZ<|cx<|by rw[zs7];omega)<|jJ.cons _ _ _ _ (kZ.cons _ _ _ _ ?_<|kZ.refl _)<|jJ.refl _;exact gS.own _ _ _ _ _ _ _ _ rfl rfl (aZ<|cx<|aT _)
  have h6:k≠-1:=sO;rw[ab h6] at eoE eoL;rw[eoE] at er;refine sB ?_;refine⟨_,rd zo,?_⟩;refine sW ?_;cases h8:decide (k<0)
  ·have h8:¬k<0:=sO;refine bE ?_;refine⟨_,rd zo,?_⟩;refine sW ?_;rw[zh];refine sS (λh9=>?_) λh9=>?_
   ·rw[ae (.inr<|sO)] at eF;exact bad zc<|by rw[stop<|by rw[er,eF];decide,er,eF]
   have h9:¬(P.bd.length:Int)<=k:=sO;rw[ab zo] at eF;have al:k.toNat<P.bd.length:=zo;have pS:=af.zb h1 al;refine sB ?_;refine⟨_,rd zo,?_⟩;refine sW ?_;refine sL (xg (k:=k.toNat) zo al) ?_;have eFL:P.jM (P.eV (stem++loop) i) k=0->P.dB (P.eV (stem++loop) i) k=P.qe (P.eV (stem++loop) i) (P.bd.getD k.toNat (0,0,0)):=λh=>by unfold af.dB;rw[ae h]
   generalize hS:P.bd.getD k.toNat (0,0,0)=s at pS eF eFL;refine sC (Rx P hP h0 (P.eV (stem++loop) i) hK s pS) ?_;cases fh:P.nw (P.eV (stem++loop) i) s
   ·rw[ab<|by rw[fh];decide] at eF;refine sW ?_;exact bad zc<|by rw[stop<|by rw[er,eF];decide,er,eF]
   rw[ae fh] at eF;refine bE ?_;refine⟨_,rd zo,?_⟩;refine sW ?_;refine sL (xg (k:=k.toNat) zo al) ?_;rw[hS];refine sC (UP P hP h0 (P.eV (stem++loop) i) hK s pS) ?_;refine sS (λjY=>?_) λjY=>?_
   ·have jY:P.kW (P.eV (stem++loop) i) s≠0:=sO;exact bad jY<|by rw[stop<|by rw[er,eF];exact jY,er,eF]
   have jY:P.kW (P.eV (stem++loop) i) s=0:=sO;have e0:P.kU (stem++loop) i=0:=(by rw[er,eF,jY]);have hg:=go e0;have eo:=eo e0;rw[eoL,eFL<|by rw[eF,jY]] at eo;rw[<-eo];refine fA ?_;refine⟨i+1,zo,zd,?_⟩;refine aR 4 zs rfl sQ (sU ?_);exact aZ<|by rw[eg];exact BY lG.symm
  have h8:k<0:=sO;rw[ae (.inl h8)] at eF;refine sW ?_;exact bad zc<|by rw[stop<|by rw[er,eF];decide,er,eF]
 have aW:i=stem.length+loop.length:=by have:¬i<stem.length+loop.length:=sO
                                       omega
 subst aW;have e:n=stem.length+loop.length:=zo;subst e;rw[ab zo] at eE;rw[aK];have lN':=af.UM (l:=stem++loop) h1 (i:=stem.length) λq hq=>hz q zo;refine sB ?_;refine⟨_,x4 (k:=stem.length) zo zo,?_⟩;refine sW ?_;rw[af.IZ P (stem++loop) zo];refine sIB ?_;refine⟨_,x4 (k:=stem.length+loop.length) zo zo,?_⟩;refine sW ?_;rw[af.IZ P (stem++loop)<|aT _];refine sC (SQ (P.eV (stem++loop) stem.length) (P.eV (stem++loop)<|stem.length+loop.length) zo) ?_;by_cases h8:P.eV (stem++loop) stem.length=P.eV (stem++loop) (stem.length+loop.length)
 ·rw[ae h8] at eE;rw[ia h8];refine sW ?_;rw[eL,eE,ae rfl];exact .aI _ _ (.cons _ _ _ _ (KK lG.symm rfl) (.cons _ _ _ _ (.refl _) .nil))
 rw[ab h8] at eE;rw[gM h8];refine sW ?_;exact bad zc eE
end
end Go.Proofs.YtolilnhippapaaaGreat
