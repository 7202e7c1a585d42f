/-
  Parts of a proof, joined. No statement is proved here.
-/
import Derived.Test.YtmajadpcpohneaaGreatDoorR91
import Derived.Test.YtmajadpcpohneaaGreatDoorR93
import Derived.Test.YtmajadpcpohneaaGreatDoorR92
import Derived.Test.YtmajadpcpohneaaGreatDoorProg
import Derived.Shelf.Sort.Plain
import Derived.Test.YtmajadpcpohneaaGreatDoorR90
namespace Go.Proofs.YtmajadpcpohneaaGreatDoor
set_option linter.unusedSimpArgs false
set_option linter.unusedVariables false
set_option maxRecDepth 100000
set_option maxHeartbeats 8000000
set_option linter.unusedSectionVars false
open Go.RowKit
section
def cM(M:List Pr):ah:=M.map (·.1)
def oL(ok:aq)(n:Int):ah->List Pr->List Pr
 |[],M=>M
 |k::r,M=>oL ok n r<|if (cM M).contains k=false/\ok k.toNat=true then M++[(k,n)] else M
def wSt:ah->List Pr->List Pr
 |[],M=>M
 |k::r,M=>wSt r<|if (cM M).contains k=false then M++[(k,-1)] else M
def dA(M:List Pr)(h:Nat):Int:=(M.getD h (0,0)).1
def tB(g:ak)(to ok:aq):Nat->Nat->List Pr->Option (List Pr×Nat)
 |0,_,_=>none
 |f+1,h,M=>if h<M.length then (if to (dA M h).toNat=true then some (M,h) else tB g to ok f (h+1)<|oL ok (dA M h) (g.getD (dA M h).toNat []) M) else none
def upM(M:List Pr)(n:Int):Int:=((M.find? λp=>p.1==n).map (·.2)).getD (-1)
def ot(M:List Pr):Nat->Int->ah
 |0,_=>[]
 |f+1,n=>if n<0 then [] else n::ot M f (upM M n)
def nR(g:ak)(to ok:aq)(from_:ah):ah :=
 match tB g to ok (g.length+1) 0 (wSt from_ []) with
 |some (M,h)=>(ot M (M.length+1)<|dA M h).reverse
 |none=>[]
structure kN(g:ak)(ok:aq)(from_:ah)(M:List Pr):Prop where
 nd:(cM M).Nodup
 gf:∀p∈M,0<=p.1/\p.1<(g.length:Int)
 par:∀j,j<M.length->(M.getD j (0,0)).2=-1\/∃i,i<j/\(M.getD j (0,0)).2=dA M i
 okF:∀p∈M,p.1∈from_\/ok p.1.toNat=true
variable(M:List Pr)
theorem xO:(cM M).length=M.length:=by simp[cM]
theorem A8(p:Pr):cM (M++[p])=cM M++[p.1]:=by simp[cM]
variable{M:List Pr}{i:Nat}
theorem CN{p:Pr}(h:i<M.length):dA (M++[p]) i=dA M i:=by
 unfold dA
 grind
variable{g:ak}{ok:aq}{from_:ah}
theorem kN.len(h:kN g ok from_ M):M.length<=g.length:=by
 rw[<-xO];have fE:=h.nd;refine Ff g.length (cM M).length (λi=>((cM M).getD i 0).toNat) (λi hi=>?_) λi j hi hj he=>?_
 ·have hm:(cM M).getD i 0∈cM M:=(by rw[a8,aX hi];simp);obtain⟨p,hp,e⟩:=dq.1 hm;have:=h.gf p hp
  grind
 have aT:(cM M).getD i 0∈cM M:=by rw[a8,aX hi];simp
 have de:(cM M).getD j 0∈cM M:=by rw[a8,aX hj];simp
 obtain⟨p,hp,e1⟩:=dq.1 aT;obtain⟨q,hq,e2⟩:=dq.1 de;have a:=h.gf p hp;have b:=h.gf q hq;have hx:(cM M).getD i 0=(cM M).getD j 0:=by rw[<-e1,<-e2] at he⊢;omega
 rw[a8,a8,aX hi,aX hj] at hx;simp only[sj] at hx;rcases xS i j with q|q|q
 ·exact absurd hx<|uB.1 fE i j hi hj q
 ·exact q
 exact absurd hx.symm<|uB.1 fE j i hj hi q
variable{k:Int}
theorem kN.push(h:kN g ok from_ M){n:Int}(hk:0<=k/\k<(g.length:Int))(hn:¬k∈cM M)(hp:n=-1\/∃i,i<M.length/\n=dA M i)(hf:k∈from_\/ok k.toNat):kN g ok from_ (M++[(k,n)]) where
 nd:=by
  rw[A8,List.nodup_append];exact⟨h.nd,zs,λa ha b hb=>by rw[cV] at hb;subst hb;exact λe=>hn<|e▸ha⟩
 gf p hp:=by
  rcases dz.1 hp with q|q
  ·exact h.gf p q
  rw[cV] at q;subst q;exact hk
 par j hj:=by
  by_cases e:j<M.length
  ·rw[a8,iz e,<-a8];rcases h.par j e with k1|⟨i,k1,k2⟩
   ·exact .inl k1
   exact .inr ⟨i,k1,by rw[k2,CN zo]⟩
  have ej:j=M.length:=(by simp at hj;omega);subst ej;rw[a8,jF<|aS _,xb];show n=-1\/_;rcases hp with k1|⟨i,k1,k2⟩
  ·exact .inl k1
  exact .inr ⟨i,k1,by show n=_;rw[k2,CN k1]⟩
 okF p hp:=by
  rcases dz.1 hp with q|q
  ·exact h.okF p q
  rw[cV] at q;subst q;exact hf
variable{l:ah}
theorem tY(h:l.contains k=false):¬k∈l:=λq=>by rw[u7.2 q] at h;cases h
theorem Tf(h:¬l.contains k=false):k∈l:=u7.1<|by cases e:l.contains k<;>simp_all
theorem MK{g:ak}{ok:aq}{from_:ah}:∀(r:ah) {M:List Pr},kN g ok from_ M->(∀x∈r,x∈from_/\0<=x/\x<(g.length:Int)) ->
  kN g ok from_ (wSt r M)/\(∀x∈r,x∈cM (wSt r M))/\∃X,wSt r M=M++X
 |[],M,h,_=>⟨h,zs,[],by simp[wSt]⟩
 |k::r,M,h,hr=>by
  rw[wSt];by_cases q:(cM M).contains k=false
  ·rw[ae q];obtain⟨a,b,X,hX⟩:=MK r (h.push (hr k zs).2 (tY q) (.inl rfl) (.inl (hr k zs).1)) λx hx=>hr x (by simp[hx]);refine⟨a,λx hx=>?_,(k,-1)::X,by rw[hX];simp⟩;rcases eQ.1 hx with rfl|hx
   ·rw[hX];simp[cM]
   exact b x hx
  rw[ab q];obtain⟨a,b,X,hX⟩:=MK r h λx hx=>hr x (by simp[hx]);refine⟨a,λx hx=>?_,X,hX⟩;rcases eQ.1 hx with rfl|hx
  ·have:=Tf q;rw[hX];unfold cM at this⊢;rw[oD];exact dz.2 (.inl this)
  exact b x hx
theorem Ny{g:ak}{ok:aq}{from_:ah}{n:Int}{i0:Nat}:∀(r:ah) {M:List Pr},kN g ok from_ M->i0<M.length->n=dA M i0->(∀x∈r,0<=x/\x<(g.length:Int)) ->
  kN g ok from_ (oL ok n r M)/\(∀x∈r,ok x.toNat->x∈cM (oL ok n r M))/\∃X,oL ok n r M=M++X
 |[],M,h,_,_,_=>⟨h,zs,[],by simp[oL]⟩
 |k::r,M,h,hi,hn,hr=>by
  rw[oL];by_cases q:(cM M).contains k=false/\ok k.toNat=true
  ·rw[ae q];obtain⟨a,b,X,hX⟩:=Ny (n:=n) (i0:=i0) r (h.push (hr k zs) (tY q.1) (.inr ⟨i0,hi,hn⟩) (.inr q.2)) (by rw[cL];omega) (by rw[CN hi];exact hn) λx hx=>hr x (by simp[hx]);refine⟨a,λx hx IM=>?_,(k,n)::X,by rw[hX];simp⟩;rcases eQ.1 hx with rfl|hx
   ·rw[hX];simp[cM]
   exact b x hx IM
  rw[ab q];obtain⟨a,b,X,hX⟩:=Ny (i0:=i0) r h hi hn λx hx=>hr x (by simp[hx]);refine⟨a,λx hx IM=>?_,X,hX⟩;rcases eQ.1 hx with rfl|hx
  ·have:=Tf λz=>q ⟨z,IM⟩;rw[hX];unfold cM at this⊢;rw[oD];exact dz.2 (.inl this)
  exact b x hx IM
theorem kN.none(g:ak)(ok:aq)(from_:ah):kN g ok from_ [] where
 nd:=.nil
 gf p hp:=by cases hp
 par j hj:=by cases hj
 okF p hp:=by cases hp
theorem zs9(fE:(cM M).Nodup)(hi:i<M.length):M.find? (λp=>p.1==dA M i)=some (M.getD i (0,0)):=by
 have:M.getD i (0,0)=M[i]:=by grind
 rw[this,List.find?_eq_some_iff_getElem];unfold dA;rw[this];refine⟨zs,i,hi,rfl,λj hj=>?_⟩;have:=uB.1 fE j i (by simp[cM];omega) (by simp[cM];omega) hj;simp only[cM,Gr] at this
 grind
theorem zyK(fE:(cM M).Nodup)(hi:i<M.length):upM M (dA M i)=(M.getD i (0,0)).2:=by
 unfold upM;rw[zs9 fE hi];rfl
def gS(M:List Pr)(t:Nat):Int:=if t=0 then -1 else dA M<|t-1
theorem kN.up(h:kN g ok from_ M){t:Nat}(ht:0<t)(hl:t<=M.length):∃t',t'<t/\upM M (gS M t)=gS M t'/\(M.getD (t-1) (0,0)).2=gS M t'/\0<=gS M t/\gS M t<(g.length:Int):=by
 have e:gS M t=dA M (t-1):=by unfold gS;rw[ab zo]
 rw[e,zyK h.nd zo];have hr:=h.gf _<|pL (show t-1<M.length by omega);rcases h.par (t-1) zo with k|⟨i,k1,k2⟩
 ·exact⟨0,ht,by rw[k];rfl,by rw[k];rfl,hr⟩
 refine⟨i+1,zo,?_,?_,hr⟩
 ·rw[k2];unfold gS;rw[ab zo];rfl
 rw[k2];unfold gS;rw[ab zo];rfl
theorem kN.back{g:ak}{ok:aq}{from_:ah}{M:List Pr}(h:kN g ok from_ M):∀(f t:Nat),t<=M.length->(∀x∈ot M f (gS M t),0<=x/\x<(g.length:Int))/\(ot M f<|gS M t).length<=t
 |0,t,_=>by simp[ot]
 |f+1,t,ht=>by
  rw[ot];by_cases h0:t=0
  ·subst h0;rw[ae<|by simp[gS]];simp
  obtain⟨t',k1,k2,_,k3,k4⟩:=h.up (t:=t) zo ht;rw[ab zo,k2];obtain⟨a,b⟩:=h.back f t' zo;refine⟨λx hx=>?_,zq⟩;rcases eQ.1 hx with rfl|hx
  ·exact⟨k3,k4⟩
  exact a x hx
def AL(g:ak)(ok:aq):ak:=g.map λl=>l.filter λx=>ok x.toNat
theorem QN{v:Nat}{x:Int}:x∈(AL g ok).getD v []↔x∈g.getD v []/\ok x.toNat:=by
 unfold AL
 grind
theorem Vs{g:ak}(aY:∀l∈g,bq l g.length){to ok:aq}{from_:ah}:∀(f h:Nat) (M:List Pr),kN g ok from_ M->h<=M.length->g.length+1<=f+h->(∀x∈from_,x∈cM M)->(∀i,i<h->to (dA M i).toNat=false/\∀y∈g.getD (dA M i).toNat [],ok y.toNat->y∈cM M) ->
  match tB g to ok f h M with
  |some (M',h')=>kN g ok from_ M'/\h'<M'.length/\to (dA M' h').toNat=true
  |none=>∀x∈from_,∀v,To (AL g ok) x.toNat v->to v=false
 |0,h,M,hI,hh,hf,_,_=>by have:=hI.len;omega
 |f+1,h,M,hI,hh,hf,bW,fN=>by
  rw[tB];by_cases q:h<M.length
  ·rw[ae q];by_cases q2:to (dA M h).toNat=true
   ·rw[ae q2];exact⟨hI,q,q2⟩
   rw[ab q2];obtain⟨a,b,X,hX⟩:=Ny (n:=dA M h) (g.getD (dA M h).toNat []) hI q rfl λx hx=>cZ (ft aY _) hx;have D9:∀x,x∈cM M->x∈cM (oL ok (dA M h) (g.getD (dA M h).toNat []) M):=λx hx=>by
    rw[hX];unfold cM at hx⊢;rw[oD];exact dz.2 (.inl hx)
   have CF:∀i,i<M.length->dA (oL ok (dA M h) (g.getD (dA M h).toNat []) M) i=dA M i:=λi hi=>by
    rw[hX];unfold dA;rw[a8,iz hi,<-a8]
   have hlen:M.length<=(oL ok (dA M h) (g.getD (dA M h).toNat []) M).length:=(by rw[hX];simp);refine Vs aY f (h+1) _ a zo zo (λx hx=>D9 x<|bW x hx) λi hi=>?_;by_cases e:i=h
   ·subst e;rw[CF i q];exact⟨by simpa using q2,b⟩
   rw[CF i zo];obtain⟨c,d⟩:=fN i zo;exact⟨c,λy hy Bv=>D9 y<|d y hy Bv⟩
  rw[ab q];intro x hx v hv;have eh:h=M.length:=zo;subst eh;have key:((v:Nat):Int)∈cM M:=Ht (g:=AL g ok) (s:=λv=>((v:Nat):Int)∈cM M) (λu hu y hy=>by
   obtain⟨y1,y2⟩:=QN.1 hy;have AT:=cZ (ft aY u) y1;obtain⟨p,hp,ep⟩:=dq.1 hu;obtain⟨i,hi,rfl⟩:=iD.1 hp;have en:dA M i=(u:Int):=(by unfold dA;rw[a8,aX hi];exact ep);have:=(fN i hi).2 y (by rw[en];exact y1) y2;rwa [show((y.toNat:Nat):Int)=y by omega]) hv (by
   have h1:=bW x hx;obtain⟨p,hp,ep⟩:=dq.1 h1;have:=hI.gf p hp;have ep:p.1=x:=ep;rwa [show((x.toNat:Nat):Int)=x by omega])
  obtain⟨p,hp,ep⟩:=dq.1 key;obtain⟨i,hi,rfl⟩:=iD.1 hp;have en:dA M i=(v:Int):=(by unfold dA;rw[a8,aX hi];exact ep);have:=(fN i hi).1;rw[en] at this;simpa using this
theorem NI(aY:∀l∈g,bq l g.length)(to ok:aq)(hf:bq from_ g.length):bq (nR g to ok from_) g.length/\(nR g to ok from_).length<=g.length /\
  ((∃x∈from_,∃v,To (AL g ok) x.toNat v/\to v)->∃init last,nR g to ok from_=init++[last]/\to last.toNat/\(last∈from_\/ok last.toNat)):=by
 obtain⟨a,b,_⟩:=MK (ok:=ok) (from_:=from_) from_ (kN.none g ok from_) λx hx=>⟨hx,cZ hf hx⟩;have hR:=Vs aY (to:=to) (ok:=ok) (g.length+1) 0 (wSt from_ []) a (kZ _) zo b λi hi=>zo;unfold nR
 cases e:tB g to ok (g.length+1) 0<|wSt from_ [] with
 |none =>
  rw[e] at hR;refine⟨rfl,zs,λ⟨x,hx,v,h1,h2⟩=>?_⟩
  grind
 |some q =>
  obtain⟨M,h⟩:=q;rw[e] at hR;obtain⟨hI,hh,ht⟩:=hR;have en:dA M h=gS M (h+1):=(by unfold gS;rw[ab zo];rfl);obtain⟨c,d⟩:=hI.back (M.length+1) (h+1) zo;have hl:=hI.len;dsimp only;rw[en];refine⟨iS λx hx=>c x<|List.mem_reverse.1 hx,by rw[List.length_reverse];omega,λ_=>?_⟩;have hr:=hI.gf _<|pL hh;rw[ot,ab (by rw[<-en];unfold dA;omega),<-en];exact⟨_,_,by rw[List.reverse_cons],ht,hI.okF _<|pL hh⟩
end
section
noncomputable def fIa(f:aW->Option aW)(M:List Pr):aW->Option aW:=M.foldl (λf p=>qS f (.int .i64 p.1) (.int .i64 p.2)) f
noncomputable def fI(M:List Pr):aW->Option aW:=fIa (λ_=>none) M
theorem Dh(M:List Pr)(p:Pr):fI (M++[p])=qS (fI M) (.int .i64 p.1) (.int .i64 p.2):=by
 unfold fI fIa;rw[List.foldl_append];rfl
theorem NG{n:Int}:∀(M:List Pr) (f:aW->Option aW),¬n∈cM M->fIa f M (.int .i64 n)=f (.int .i64 n)
 |[],f,_=>rfl
 |p::r,f,h=>by
  have h1:p.1≠n:=λe=>h (by simp[cM,e]);show fIa _ r _=_;rw[NG r _ λq=>h (by simp only[cM,fR,eQ] at q⊢;exact .inr q)];unfold qS;dsimp only;rw[ab λe=>h1 (by injection e with _ e;exact e.symm)]
variable{M:List Pr}{n:Int}
theorem JL(h:¬n∈cM M):fI M (.int .i64 n)=none:=NG M _ h
theorem XR:∀(M:List Pr) (f:aW->Option aW),(cM M).Nodup->∀j,j<M.length->fIa f M (.int .i64<|dA M j)=some (.int .i64 (M.getD j (0,0)).2)
 |[],_,_,j,hj=>by cases hj
 |p::r,f,fE,j,hj=>by
  have h1:=List.nodup_cons.1<|show(p.1::cM r).Nodup from fE
  cases j with
  |zero =>
   show fIa _ r (.int .i64 p.1)=_;rw[NG r _ h1.1];unfold qS;dsimp only;rw[ae rfl];rfl
  |succ j =>
   show fIa _ r (.int .i64<|dA r j)=_;rw[XR r _ h1.2 j<|by simpa using hj];rfl
theorem Pv(fE:(cM M).Nodup){j:Nat}(hj:j<M.length):fI M (.int .i64<|dA M j)=some (.int .i64 (M.getD j (0,0)).2):=XR M _ fE j hj
theorem Ii(fE:(cM M).Nodup)(h:n∈cM M):∃v,fI M (.int .i64 n)=some v:=by
 obtain⟨p,hp,rfl⟩:=dq.1 h;obtain⟨i,hi,rfl⟩:=iD.1 hp;have:=Pv fE hi;rw[show dA M i=M[i].1 by unfold dA;rw[a8,aX hi];rfl] at this
 grind
variable{P:bG}{k:bp}
theorem T9{q:IntKind}(hu:P.underlying k=some (.int q)):Maps.Keyed P k:=Maps.int_keyed hu
theorem Rf(hu:P.underlying k=some (.int .i64))(hn:(Lit.int .i64 n).wf):∃l,keyOf P k (.int .i64 n)=some l:=by
 unfold keyOf;rw[hu];simp only[mapKey,hu];rw[ae ⟨trivial,hn⟩]
 grind
theorem Wo(h:0<=n/\n<=1000000000000):(Lit.int .i64 n).wf:=by
 have h1:IntKind.min .i64=-9223372036854775808:=zc;have h2:IntKind.max .i64=9223372036854775807:=zc;simp only[Lit.wf,gr,ja];omega
theorem za{ρ:Nat->Nat}(l:ah):kl ρ (aw l)=aw l:=jW _<|c6 _ (λ_=>by simp[aA,Pure]) l
noncomputable def fQ(g:ak)(only:Int):Nat->Bool:=λk=>decide (only<0)||bJ g k==only
theorem V7(W:bg)(A:bT)(L:List Pr)(g:ak)(fr:ah)(hn:g.length<=2000000)(iM:∀l∈g,bq l g.length)(hF:iu g)(to:aq)(cl:FuncId)(caps:bj)(lz:aA caps)
  (fN:∀x:Int,0<=x->x<(g.length:Int)->ao aj cl (aa x::caps) (ay<|to x.toNat)) (from_:ah) (s9:from_.length<=17592186043904) (hf:bq from_ g.length) (only:Int) :
  ao aj 221 [.ax<|jL W A L g fr,aF from_,.fn (.func cl) [] caps,aF<|nT g,aa only] (aF<|nR g to (fQ g only) from_):=by
 have hp:=zG W A L g fr;have sy:=T9 (P:=aj) Tryz.underlying3;have lr:=λx (h:0<=x/\x<(g.length:Int))=>Rf (P:=aj) Tryz.underlying3 (n:=x)<|Wo ⟨h.1,zo⟩;refine dh fZ zs (by simp[aA,Pure,cX,hp,lz]) ?_<|cX _;have x9:nR g to (fQ g only) from_=match tB g to (fQ g only) (g.length+1) 0 (wSt from_ []) with|some (M,h)=>(ot M (M.length+1)<|dA M h).reverse|none=>[]:=rfl
 obtain⟨sd,oc⟩:∃sd:D,sd=.ax (jL W A L g fr):=⟨_,rfl⟩;have qh:aA [sd]:=by subst oc;exact⟨Af hp,trivial⟩
 rw[<-oc];refine sR ?_;rw[aI];refine bQ (eo 12 1 zs rfl) ?_
 refine cq [0,2,3,4,11,24,25] (λ((k,M):Nat×List Pr)=>[(12,.own 1 M.length 0 M.length),(26,aa k)]) (λ(k,M)=>[.dV true<|ma aj 3<|fI M,.vec true M.length 1<|aw<|cM M])
  (λ(k,M)=>k<=from_.length/\kN g (fQ g only) from_ M/\wSt (from_.drop k) M=wSt from_ []) (λ(k,M)=>from_.length-k) (0,[]) ?_
 refine sW ?_;refine⟨⟨zo,kN.none _ _ _,rfl⟩,by exact sK,rfl,?_⟩;rintro⟨k,M⟩ ⟨hk,hI,hS⟩;have Hi:=hI.len;have Fp:=xO M;refine bf (λq0=>?_) λq0=>?_
 ·have q0:k<from_.length:=sO;have hx:=cZ hf<|df q0;have mb:=df q0;refine sL (bV (l:=from_) (k:=k) zo q0) ?_;rw[Aa q0,wSt] at hS;generalize from_.getD k 0=x at *;refine⟨fI M,rfl,sy,lr x hx,λv hv=>?_,λhv=>?_⟩
  ·have hc:¬(cM M).contains x=false:=λe=>by
    have:=(JL<|tY e).symm.trans hv;cases this
   rw[ab hc] at hS;refine aQ ?_;refine⟨(k+1,M),⟨zo,hI,hS⟩,zd,?_⟩;exact aC (by exact sK) rfl
  have hc:(cM M).contains x=false:=by
   cases e:(cM M).contains x
   ·rfl
   obtain⟨v,h⟩:=Ii hI.nd<|u7.1 e;have:=hv.symm.trans h;cases this
  rw[ae hc] at hS;have me:=hI.push hx (tY hc) (.inl rfl) (.inl mb);refine sW ?_;refine⟨fI M,rfl,sy,lr x hx,hv,?_⟩;refine ke ?_;refine⟨(k+1,M++[(x,-1)]),⟨zo,me,hS⟩,zd,?_⟩;dsimp only;rw[Dh,show(M++[(x,(-1:Int))]).length=M.length+1 by simp]
  (refine aL 2 zs rfl ?_ ?_<;>(repeat' (first|exact trivial|exact rfl|exact .refl _|refine And.intro ?_ ?_|(simp[aK,aG,bB,-List.map_take,-List.map_drop];done))))
  all_goals first|exact bz _ qh.1|exact bI _ lz|exact bI _ lz|exact aV (by rw[A8,<-kC,xO])|skip
 have q0:k=from_.length:=sO;subst q0;rw[um] at hS;have hS:M=wSt from_ []:=hS;rw[<-hS] at x9;generalize Nj:tB g to (fQ g only) (g.length+1) 0 M=R at x9
 refine cq [0,2,3,4,11] (λ((h,M,Z,lo,hi,ar):Nat×List Pr×ah×Nat×Nat×Nat)=>[(12,.own 1 ar lo hi)]) (λ(h,M,Z,lo,hi,ar)=>[.dV true<|ma aj 3<|fI M,.vec true ar 1<|aw Z])
  (λ(h,M,Z,lo,hi,ar)=>kN g (fQ g only) from_ M/\h<=M.length/\lo<=hi/\hi<=Z.length/\(Z.take hi).drop lo=(cM M).drop h/\tB g to (fQ g only) (g.length+1-h) h M=R) (λ(h,M,Z,lo,hi,ar)=>g.length+1-h) (0,M,cM M,0,M.length,M.length) ?_
 refine sW ?_;refine⟨⟨hI,zo,zo,zo,by rw[fG zo],Nj⟩,by exact sK,rfl,?_⟩;rintro⟨h,M,Z,lo,hi,ar⟩ ⟨hI,hh,G5,n4,hZ,hR⟩;have Hi:=hI.len;have Fp:=xO M;have M4:hi-lo=M.length-h:=by
  have:=bH List.length hZ;rw[lD,lD,fg] at this;omega
 rw[show g.length+1-h=(g.length-h)+1 by omega,tB] at hR;refine bf (λq1=>?_) λq1=>?_
 ·have q1:lo<hi:=sO;have s8:h<M.length:=zo;rw[ae s8] at hR;have hx:=hI.gf _<|pL s8;have eN:(M.getD h (0,0)).1=dA M h:=rfl;rw[eN] at hx;have hd:(cM M).drop h=dA M h::(cM M).drop (h+1):=by
   rw[Ct zo];unfold dA cM;rw[Gr,a8,aX s8];rfl
  rw[DF q1 n4,hd] at hZ;obtain⟨qP,No⟩:=List.cons.inj hZ;refine sB ?_;refine⟨_,bV (l:=Z) (k:=lo) zo zo,?_⟩;refine sW ?_;rw[qP];refine⟨zo,zo,zo,?_⟩;refine sW ?_;rw[show lo+(hi-lo)=hi by omega];have OM:=fN (dA M h) hx.1 hx.2;have en1:dA M h=gS M (h+1):=(by unfold gS;rw[ab zo];rfl);generalize mI:dA M h=x at *;refine sC OM ?_;cases gp:to x.toNat
  ·rw[gp,ab zc] at hR;refine sW ?_;subst oc;unfold jL bN;refine sW ?_;refine sL (eV (g:=g) (k:=x.toNat) zo zo) ?_;rw[aI];have cR:=λy hy=>cZ (ft iM x.toNat) (x:=y) hy;have qY:=hF.at x.toNat;generalize g.getD x.toNat []=row at *
   refine cq [0,2,3,4,11,17,74,75] (λ((k,M',Z',cj,aT,bY):Nat×List Pr×ah×Nat×Nat×Nat)=>[(12,.own 1 bY cj aT),(76,aa k)]) (λ(k,M',Z',cj,aT,bY)=>[.dV true<|ma aj 3<|fI M',.vec true bY 1<|aw Z'])
    (λ(k,M',Z',cj,aT,bY)=>k<=row.length/\kN g (fQ g only) from_ M'/\h<M'.length/\dA M' h=x/\cj<=aT/\aT<=Z'.length/\(Z'.take aT).drop cj=(cM M').drop (h+1)/\oL (fQ g only) x (row.drop k) M'=oL (fQ g only) x row M) (λ(k,M',Z',cj,aT,bY)=>row.length-k) (0,M,Z,lo+1,hi,ar) ?_
   refine sW ?_;refine⟨⟨zo,hI,s8,mI,zo,n4,No,rfl⟩,by exact sK,rfl,?_⟩;rintro⟨k,M',Z',cj,aT,bY⟩ ⟨hk,mG,tu,mU,mC,mA,sl,kH⟩;have zKn:=mG.len;have zLj:=xO M';have zI6:aT-cj=M'.length-(h+1):=by
    have:=bH List.length sl;rw[lD,lD,fg] at this;omega
   refine bf (λq2=>?_) λq2=>?_
   ·have q2:k<row.length:=sO;have hy:=cR _<|df q2;refine sL (bV (l:=row) (k:=k) zo q2) ?_;rw[Aa q2,oL] at kH;generalize row.getD k 0=y at *;refine⟨fI M',rfl,sy,lr y hy,λv hv=>?_,λhv=>?_⟩
    ·have hc:¬(cM M').contains y=false:=λe=>by
      have:=(JL<|tY e).symm.trans hv;cases this
     rw[ab λq=>hc q.1] at kH;refine aQ ?_;refine⟨(k+1,M',Z',cj,aT,bY),⟨zo,mG,tu,mU,mC,mA,sl,kH⟩,zd,?_⟩;exact aC (by exact sK) rfl
    have hc:(cM M').contains y=false:=by
     cases e:(cM M').contains y
     ·rfl
     obtain⟨v,h⟩:=Ii mG.nd<|u7.1 e;have:=hv.symm.trans h;cases this
    have eok:fQ g only y.toNat=(decide (only<0)||bJ g y.toNat==only):=rfl;refine sWS (λr=>?_) λr=>?_
    ·rw[r,y8] at eok;rw[ae ⟨hc,eok⟩] at kH;have me:=mG.push hy (tY hc) (.inr ⟨h,tu,mU.symm⟩) (.inr eok);refine⟨fI M',rfl,sy,lr y hy,hv,?_⟩;refine ke ?_;refine⟨(k+1,M'++[(y,x)],(Z'.take aT).drop cj++[y],0,aT-cj+1,bY+1),⟨zo,me,zq,by rw[CN tu];exact mU,zo,zq,?_,kH⟩,zd,?_⟩
     ·rw[dP,fG zq,sl,A8,Mn zo]
     dsimp only;rw[Dh]
     (refine aL 2 zs rfl ?_ ?_<;>(repeat' (first|exact trivial|exact rfl|exact .refl _|refine And.intro ?_ ?_|(simp[aK,aG,bB,-List.map_take,-List.map_drop];done))))
     all_goals first|exact aV zz|exact bI _ hp|exact bI _ lz|(simp;done)|skip
    refine sL (bX y.toNat zo zo) ?_;rw[r,vW] at eok;refine sS (λr2=>?_) λr2=>?_
    ·have r2:(bJ g y.toNat==only):=r2;rw[r2] at eok;rw[ae ⟨hc,eok⟩] at kH;have me:=mG.push hy (tY hc) (.inr ⟨h,tu,mU.symm⟩) (.inr eok);refine⟨fI M',rfl,sy,lr y hy,hv,?_⟩;refine ke ?_;refine⟨(k+1,M'++[(y,x)],(Z'.take aT).drop cj++[y],0,aT-cj+1,bY+1),⟨zo,me,zq,by rw[CN tu];exact mU,zo,zq,?_,kH⟩,zd,?_⟩
     ·rw[dP,fG zq,sl,A8,Mn zo]
     dsimp only;rw[Dh]
     (refine aL 2 zs rfl ?_ ?_<;>(repeat' (first|exact trivial|exact rfl|exact .refl _|refine And.intro ?_ ?_|(simp[aK,aG,bB,-List.map_take,-List.map_drop];done))))
     all_goals first|exact aV zz|exact bI _ hp|exact bI _ lz|(simp;done)|skip
    have r2:(bJ g y.toNat==only)=false:=r2;rw[r2] at eok;rw[ab λq=>by rw[eok] at q;cases q.2] at kH;refine sI ?_;refine⟨(k+1,M',Z',cj,aT,bY),⟨zo,mG,tu,mU,mC,mA,sl,kH⟩,zd,?_⟩;exact aC (by exact sK) rfl
   have q2:k=row.length:=sO;subst q2;rw[um] at kH;have kH:M'=oL (fQ g only) x row M:=kH;rw[<-kH] at hR;refine⟨(h+1,M',Z',cj,aT,bY),⟨mG,zo,mC,mA,sl,by rw[show g.length+1-(h+1)=g.length-h by omega];exact hR⟩,zd,?_⟩;exact aC (by exact sK) rfl
  rw[gp,ae rfl] at hR;subst hR;refine sW ?_;generalize Gk:ot M (M.length+1) x=B;refine bQ (eo 18 1 zs rfl) ?_
  refine cq [11] (λ((f,t,o):Nat×Nat×ah)=>[(17,aa<|gS M t),(18,.own 2 o.length 0 o.length)]) (λ(f,t,o)=>[.dV true<|ma aj 3<|fI M,.vec true ar 1<|aw Z,.vec true o.length 1<|aw o])
   (λ(f,t,o)=>t<=f/\t<=M.length/\o.length+t<=M.length+1/\o++ot M f (gS M t)=B) (λ(f,t,o)=>t) (M.length+1,h+1,[]) ?_
  refine sW ?_;refine⟨⟨zo,zo,zq,by rw[<-en1];exact Gk⟩,⟨by show aa x=_;rw[en1],by exact sK⟩,rfl,?_⟩;rintro⟨f,t,o⟩ ⟨hf1,ht,ho,hB⟩;refine bf (λq2=>?_) λq2=>?_
  ·have t0:0<t:=by
    rcases B4 t with e|e
    ·subst e;simp[gS] at q2
    exact e
   obtain⟨t',k1,k2,k3,k4,k5⟩:=hI.up t0 ht;have eA:gS M t=dA M (t-1):=(by unfold gS;rw[ab zo]);obtain⟨f',rfl⟩:∃f',f=f'+1:=⟨f-1,zo⟩;rw[ot,ab zo,k2] at hB;have PT:fI M (.int .i64<|gS M t)=some (.int .i64<|gS M t'):=(by rw[eA,Pv hI.nd zo,k3]);refine sJ ?_;refine⟨fI M,rfl,sy,lr _ ⟨k4,k5⟩,_,PT,?_⟩;refine sW ?_;refine⟨(f',t',o++[gS M t]),⟨zo,zo,zq,by rw[ig];exact hB⟩,zd,?_⟩;dsimp only;rw[show(o++[gS M t]).length=o.length+1 by simp]
   (refine aL 3 zs rfl ?_ ?_<;>(repeat' (first|exact trivial|exact rfl|exact .refl _|refine And.intro ?_ ?_|(simp[aK,aG,bB,-List.map_take,-List.map_drop];done))))
   all_goals first|exact aV (kC o _)|skip
  have t0:t=0:=by
   rcases B4 t with e|e
   ·exact e
   obtain⟨t',k1,k2,k3,k4,k5⟩:=hI.up e ht;exfalso;simp at q2;omega
  subst t0;have hB:o=B:=by
   rw[<-hB];cases f<;>simp[ot,gS]
  subst hB;refine sA (rX (Um o zo o.length) [.dV true<|ma aj 3<|fI M,.vec true ar 1<|aw Z] [] rfl zu (by simp[dX,al.under]) (by simp only[bL,D.aP];rfl) rfl (by simp only[fR,jc,al.aP,za];rfl) (by simp only[fR,jc,al.aP,za];rfl)) ?_;have Ph:nR g to (fQ g only) from_=o.reverse:=by
   rw[x9];show(ot M (M.length+1)<|dA M h).reverse=_;rw[mI,Gk]
  rw[Ph];exact .own _ _ _ _ _ _ _ _ rfl (by rw[dP,fG<|by simp[aw]];exact gw _)
 have h0:hi=lo:=sO;have s8:¬h<M.length:=zo;rw[ab s8] at hR;subst hR;rw[x9];exact sP
theorem zzm(W:bg)(A:bT)(L:List Pr)(g:ak)(fr:ah)(hn:g.length<=2000000)(iM:∀l∈g,bq l g.length)(hF:iu g)(to:aq)(cl:FuncId)
  (fN:∀x:Int,0<=x->x<(g.length:Int)->ao aj cl [aa x,.ax [bx g.length to]] (ay<|to x.toNat)) (Z0:ah) (v0:Nat) (hz0:0<Z0.length) (qP:Z0.length<=1000000000000) (from_:ah) (iW:from_=[Z0.getD (Z0.length-1) 0]) (hf:bq from_ g.length) (only:Int) :
  bZ aj 221 [.ax<|jL W A L g fr,.own 0 v0 (Z0.length-1) Z0.length,.fn (.func cl) [] [.loc 1 0],aF<|nT g,aa only] [.vec true v0 1<|aw Z0,.row true [bx g.length to]] (aF<|nR g to (fQ g only) from_) [.vec true v0 1<|aw Z0,.row true [bx g.length to]]:=by
 have hp:=zG W A L g fr;have s9:from_.length<=17592186043904:=by rw[iW];simp
 have sy:=T9 (P:=aj) Tryz.underlying3;have lr:=λx (h:0<=x/\x<(g.length:Int))=>Rf (P:=aj) Tryz.underlying3 (n:=x)<|Wo ⟨h.1,zo⟩;have RW:∀o∈[al.vec true v0 1<|aw Z0,al.row true [bx g.length to]],o.under 2:=by
  intro o ho;simp only[eQ,uH,or_false] at ho;rcases ho with rfl|rfl
  ·exact bm _<|c6 _ (λ_=>by simp[aA,Pure]) _
  exact bI _ ⟨lg _ _,trivial⟩
 refine oQ fZ zs zs ?_<|bz _<|cX _;have x9:nR g to (fQ g only) from_=match tB g to (fQ g only) (g.length+1) 0 (wSt from_ []) with|some (M,h)=>(ot M (M.length+1)<|dA M h).reverse|none=>[]:=rfl
 obtain⟨sd,oc⟩:∃sd:D,sd=.ax (jL W A L g fr):=⟨_,rfl⟩;have qh:aA [sd]:=by subst oc;exact⟨Af hp,trivial⟩
 rw[<-oc];refine sR ?_;rw[show Z0.length-(Z0.length-1)=from_.length by rw[iW];simp;omega];refine bQ (eo 12 1 zs rfl) ?_
 refine cq [0,2,3,4,11,24,25] (λ((k,M):Nat×List Pr)=>[(12,.own 3 M.length 0 M.length),(26,aa k)]) (λ(k,M)=>[.vec true v0 1<|aw Z0,.row true [bx g.length to],.dV true<|ma aj 3<|fI M,.vec true M.length 1<|aw<|cM M])
  (λ(k,M)=>k<=from_.length/\kN g (fQ g only) from_ M/\wSt (from_.drop k) M=wSt from_ []) (λ(k,M)=>from_.length-k) (0,[]) ?_
 refine sW ?_;refine⟨⟨zo,kN.none _ _ _,rfl⟩,by exact sK,rfl,?_⟩;rintro⟨k,M⟩ ⟨hk,hI,hS⟩;have Hi:=hI.len;have Fp:=xO M;refine bf (λq0=>?_) λq0=>?_
 ·have q0:k<from_.length:=sO;have hx:=cZ hf<|df q0;have mb:=df q0;have nP:k=0:=by
   have h1:from_.length=1:=(by rw[iW];rfl);omega
  refine sB ?_;refine⟨_,bV (l:=Z0) (k:=Z0.length-1) zo zo,?_⟩;refine sW ?_;rw[show Z0.getD (Z0.length-1) 0=from_.getD k 0 by rw[iW,nP];rfl];rw[Aa q0,wSt] at hS;generalize from_.getD k 0=x at *;refine⟨fI M,rfl,sy,lr x hx,λv hv=>?_,λhv=>?_⟩
  ·have hc:¬(cM M).contains x=false:=λe=>by
    have:=(JL<|tY e).symm.trans hv;cases this
   rw[ab hc] at hS;refine aQ ?_;refine⟨(k+1,M),⟨zo,hI,hS⟩,zd,?_⟩;exact aC (by exact sK) rfl
  have hc:(cM M).contains x=false:=by
   cases e:(cM M).contains x
   ·rfl
   obtain⟨v,h⟩:=Ii hI.nd<|u7.1 e;have:=hv.symm.trans h;cases this
  rw[ae hc] at hS;have me:=hI.push hx (tY hc) (.inl rfl) (.inl mb);refine sW ?_;refine⟨fI M,rfl,sy,lr x hx,hv,?_⟩;refine ke ?_;refine⟨(k+1,M++[(x,-1)]),⟨zo,me,hS⟩,zd,?_⟩;dsimp only;rw[Dh,show(M++[(x,(-1:Int))]).length=M.length+1 by simp]
  (refine aL 4 zs rfl ?_ ?_<;>(repeat' (first|exact trivial|exact rfl|exact .refl _|refine And.intro ?_ ?_|(simp[aK,aG,bB,-List.map_take,-List.map_drop];done))))
  all_goals first|exact bz _ qh.1|(simp;done)|(simp;done)|exact aV (by rw[A8,<-kC,xO])|skip
 have q0:k=from_.length:=sO;subst q0;rw[um] at hS;have hS:M=wSt from_ []:=hS;rw[<-hS] at x9;generalize Nj:tB g to (fQ g only) (g.length+1) 0 M=R at x9
 refine cq [0,2,3,4,11] (λ((h,M,Z,lo,hi,ar):Nat×List Pr×ah×Nat×Nat×Nat)=>[(12,.own 3 ar lo hi)]) (λ(h,M,Z,lo,hi,ar)=>[.vec true v0 1<|aw Z0,.row true [bx g.length to],.dV true<|ma aj 3<|fI M,.vec true ar 1<|aw Z])
  (λ(h,M,Z,lo,hi,ar)=>kN g (fQ g only) from_ M/\h<=M.length/\lo<=hi/\hi<=Z.length/\(Z.take hi).drop lo=(cM M).drop h/\tB g to (fQ g only) (g.length+1-h) h M=R) (λ(h,M,Z,lo,hi,ar)=>g.length+1-h) (0,M,cM M,0,M.length,M.length) ?_
 refine sW ?_;refine⟨⟨hI,zo,zo,zo,by rw[fG zo],Nj⟩,by exact sK,rfl,?_⟩;rintro⟨h,M,Z,lo,hi,ar⟩ ⟨hI,hh,G5,n4,hZ,hR⟩;have Hi:=hI.len;have Fp:=xO M;have M4:hi-lo=M.length-h:=by
  have:=bH List.length hZ;rw[lD,lD,fg] at this;omega
 rw[show g.length+1-h=(g.length-h)+1 by omega,tB] at hR;refine bf (λq1=>?_) λq1=>?_
 ·have q1:lo<hi:=sO;have s8:h<M.length:=zo;rw[ae s8] at hR;have hx:=hI.gf _<|pL s8;have eN:(M.getD h (0,0)).1=dA M h:=rfl;rw[eN] at hx;have hd:(cM M).drop h=dA M h::(cM M).drop (h+1):=by
   rw[Ct zo];unfold dA cM;rw[Gr,a8,aX s8];rfl
  rw[DF q1 n4,hd] at hZ;obtain⟨qP,No⟩:=List.cons.inj hZ;refine sB ?_;refine⟨_,bV (l:=Z) (k:=lo) zo zo,?_⟩;refine sW ?_;rw[qP];refine⟨zo,zo,zo,?_⟩;refine sW ?_;rw[show lo+(hi-lo)=hi by omega];have OM:=fN (dA M h) hx.1 hx.2;have en1:dA M h=gS M (h+1):=(by unfold gS;rw[ab zo];rfl);generalize mI:dA M h=x at *;refine sN OM ?_;cases gp:to x.toNat
  ·rw[gp,ab zc] at hR;refine sW ?_;subst oc;unfold jL bN;refine sW ?_;refine sL (eV (g:=g) (k:=x.toNat) zo zo) ?_;rw[aI];have cR:=λy hy=>cZ (ft iM x.toNat) (x:=y) hy;have qY:=hF.at x.toNat;generalize g.getD x.toNat []=row at *
   refine cq [0,2,3,4,11,17,74,75] (λ((k,M',Z',cj,aT,bY):Nat×List Pr×ah×Nat×Nat×Nat)=>[(12,.own 3 bY cj aT),(76,aa k)]) (λ(k,M',Z',cj,aT,bY)=>[.vec true v0 1<|aw Z0,.row true [bx g.length to],.dV true<|ma aj 3<|fI M',.vec true bY 1<|aw Z'])
    (λ(k,M',Z',cj,aT,bY)=>k<=row.length/\kN g (fQ g only) from_ M'/\h<M'.length/\dA M' h=x/\cj<=aT/\aT<=Z'.length/\(Z'.take aT).drop cj=(cM M').drop (h+1)/\oL (fQ g only) x (row.drop k) M'=oL (fQ g only) x row M) (λ(k,M',Z',cj,aT,bY)=>row.length-k) (0,M,Z,lo+1,hi,ar) ?_
   refine sW ?_;refine⟨⟨zo,hI,s8,mI,zo,n4,No,rfl⟩,by exact sK,rfl,?_⟩;rintro⟨k,M',Z',cj,aT,bY⟩ ⟨hk,mG,tu,mU,mC,mA,sl,kH⟩;have zKn:=mG.len;have zLj:=xO M';have zI6:aT-cj=M'.length-(h+1):=by
    have:=bH List.length sl;rw[lD,lD,fg] at this;omega
   refine bf (λq2=>?_) λq2=>?_
   ·have q2:k<row.length:=sO;have hy:=cR _<|df q2;refine sL (bV (l:=row) (k:=k) zo q2) ?_;rw[Aa q2,oL] at kH;generalize row.getD k 0=y at *;refine⟨fI M',rfl,sy,lr y hy,λv hv=>?_,λhv=>?_⟩
    ·have hc:¬(cM M').contains y=false:=λe=>by
      have:=(JL<|tY e).symm.trans hv;cases this
     rw[ab λq=>hc q.1] at kH;refine aQ ?_;refine⟨(k+1,M',Z',cj,aT,bY),⟨zo,mG,tu,mU,mC,mA,sl,kH⟩,zd,?_⟩;exact aC (by exact sK) rfl
    have hc:(cM M').contains y=false:=by
     cases e:(cM M').contains y
     ·rfl
     obtain⟨v,h⟩:=Ii mG.nd<|u7.1 e;have:=hv.symm.trans h;cases this
    have eok:fQ g only y.toNat=(decide (only<0)||bJ g y.toNat==only):=rfl;refine sWS (λr=>?_) λr=>?_
    ·rw[r,y8] at eok;rw[ae ⟨hc,eok⟩] at kH;have me:=mG.push hy (tY hc) (.inr ⟨h,tu,mU.symm⟩) (.inr eok);refine⟨fI M',rfl,sy,lr y hy,hv,?_⟩;refine ke ?_;refine⟨(k+1,M'++[(y,x)],(Z'.take aT).drop cj++[y],0,aT-cj+1,bY+1),⟨zo,me,zq,by rw[CN tu];exact mU,zo,zq,?_,kH⟩,zd,?_⟩
     ·rw[dP,fG zq,sl,A8,Mn zo]
     dsimp only;rw[Dh]
     (refine aL 4 zs rfl ?_ ?_<;>(repeat' (first|exact trivial|exact rfl|exact .refl _|refine And.intro ?_ ?_|(simp[aK,aG,bB,-List.map_take,-List.map_drop];done))))
     all_goals first|exact aV zz|exact bI _ hp|exact bI _ lz|(simp;done)|skip
    refine sL (bX y.toNat zo zo) ?_;rw[r,vW] at eok;refine sS (λr2=>?_) λr2=>?_
    ·have r2:(bJ g y.toNat==only):=r2;rw[r2] at eok;rw[ae ⟨hc,eok⟩] at kH;have me:=mG.push hy (tY hc) (.inr ⟨h,tu,mU.symm⟩) (.inr eok);refine⟨fI M',rfl,sy,lr y hy,hv,?_⟩;refine ke ?_;refine⟨(k+1,M'++[(y,x)],(Z'.take aT).drop cj++[y],0,aT-cj+1,bY+1),⟨zo,me,zq,by rw[CN tu];exact mU,zo,zq,?_,kH⟩,zd,?_⟩
     ·rw[dP,fG zq,sl,A8,Mn zo]
     dsimp only;rw[Dh]
     (refine aL 4 zs rfl ?_ ?_<;>(repeat' (first|exact trivial|exact rfl|exact .refl _|refine And.intro ?_ ?_|(simp[aK,aG,bB,-List.map_take,-List.map_drop];done))))
     all_goals first|exact aV zz|exact bI _ hp|exact bI _ lz|(simp;done)|skip
    have r2:(bJ g y.toNat==only)=false:=r2;rw[r2] at eok;rw[ab λq=>by rw[eok] at q;cases q.2] at kH;refine sI ?_;refine⟨(k+1,M',Z',cj,aT,bY),⟨zo,mG,tu,mU,mC,mA,sl,kH⟩,zd,?_⟩;exact aC (by exact sK) rfl
   have q2:k=row.length:=sO;subst q2;rw[um] at kH;have kH:M'=oL (fQ g only) x row M:=kH;rw[<-kH] at hR;refine⟨(h+1,M',Z',cj,aT,bY),⟨mG,zo,mC,mA,sl,by rw[show g.length+1-(h+1)=g.length-h by omega];exact hR⟩,zd,?_⟩;exact aC (by exact sK) rfl
  rw[gp,ae rfl] at hR;subst hR;refine sW ?_;generalize Gk:ot M (M.length+1) x=B;refine bQ (eo 18 1 zs rfl) ?_
  refine cq [11] (λ((f,t,o):Nat×Nat×ah)=>[(17,aa<|gS M t),(18,.own 4 o.length 0 o.length)]) (λ(f,t,o)=>[.vec true v0 1<|aw Z0,.row true [bx g.length to],.dV true<|ma aj 3<|fI M,.vec true ar 1<|aw Z,.vec true o.length 1<|aw o])
   (λ(f,t,o)=>t<=f/\t<=M.length/\o.length+t<=M.length+1/\o++ot M f (gS M t)=B) (λ(f,t,o)=>t) (M.length+1,h+1,[]) ?_
  refine sW ?_;refine⟨⟨zo,zo,zq,by rw[<-en1];exact Gk⟩,⟨by show aa x=_;rw[en1],by exact sK⟩,rfl,?_⟩;rintro⟨f,t,o⟩ ⟨hf1,ht,ho,hB⟩;refine bf (λq2=>?_) λq2=>?_
  ·have t0:0<t:=by
    rcases B4 t with e|e
    ·subst e;simp[gS] at q2
    exact e
   obtain⟨t',k1,k2,k3,k4,k5⟩:=hI.up t0 ht;have eA:gS M t=dA M (t-1):=(by unfold gS;rw[ab zo]);obtain⟨f',rfl⟩:∃f',f=f'+1:=⟨f-1,zo⟩;rw[ot,ab zo,k2] at hB;have PT:fI M (.int .i64<|gS M t)=some (.int .i64<|gS M t'):=(by rw[eA,Pv hI.nd zo,k3]);refine sJ ?_;refine⟨fI M,rfl,sy,lr _ ⟨k4,k5⟩,_,PT,?_⟩;refine sW ?_;refine⟨(f',t',o++[gS M t]),⟨zo,zo,zq,by rw[ig];exact hB⟩,zd,?_⟩;dsimp only;rw[show(o++[gS M t]).length=o.length+1 by simp]
   (refine aL 5 zs rfl ?_ ?_<;>(repeat' (first|exact trivial|exact rfl|exact .refl _|refine And.intro ?_ ?_|(simp[aK,aG,bB,-List.map_take,-List.map_drop];done))))
   all_goals first|exact aV (kC o _)|skip
  have t0:t=0:=by
   rcases B4 t with e|e
   ·exact e
   obtain⟨t',k1,k2,k3,k4,k5⟩:=hI.up e ht;exfalso;simp at q2;omega
  subst t0;have hB:o=B:=by
   rw[<-hB];cases f<;>simp[ot,gS]
  subst hB;refine sA (rX (Um o zo o.length) [.vec true v0 1<|aw Z0,.row true [bx g.length to],.dV true<|ma aj 3<|fI M,.vec true ar 1<|aw Z] [] rfl zu (by simp[dX,al.under]) (by simp only[bL,D.aP];rfl) rfl (by simp only[fR,jc,al.aP,za];rfl) (by simp only[fR,jc,al.aP,za];rfl)) ?_;have Ph:nR g to (fQ g only) from_=o.reverse:=by
   rw[x9];show(ot M (M.length+1)<|dA M h).reverse=_;rw[mI,Gk]
  rw[Ph];exact⟨.own _ _ _ _ _ _ _ _ rfl rfl (aV<|by rw[dP,fG<|by simp[aw]];rfl),lB _ [_,_,_] RW⟩
 have h0:hi=lo:=sO;have s8:¬h<M.length:=zo;rw[ab s8] at hR;subst hR;rw[x9];exact⟨.none _,lB _ [_,_] RW⟩
end
section
def fu(l:ah):Int:=l.getD (l.length-1) 0
theorem Uz(l:ah)(x:Int):fu (l++[x])=x:=by
 unfold fu
 grind
variable{l:ah}
theorem Yg(h:l≠[]):fu l∈l:=by
 have:=I6.2 h;unfold fu
 grind
noncomputable def kz(g:ak)(F:List aq)(e:Nat):Nat->ah
 |0=>[(e:Int)]
 |k+1=>if (kz g F e k).any (λx=>(F.getD k noT) x.toNat)=true then kz g F e k else kz g F e k++(nR g (F.getD k noT) (fQ g<|bJ g e) [fu<|kz g F e k]).drop 1
def toE(e:Nat):Nat->Bool:=λk=>((k:Nat):Int)==(e:Int)
noncomputable def uJ(g:ak)(o:ah)(e:Nat)(k:Nat):ah:=((g.getD (fu o).toNat []).take k).filter λx=>bJ g x.toNat==bJ g e
noncomputable def xi(g:ak)(o:ah)(e:Nat):ah:=nR g (toE e) (fQ g<|bJ g e)<|uJ g o e (g.getD (fu o).toNat []).length
noncomputable def s6(g:ak)(F:List aq)(e:Nat):ah :=
 kz g F e F.length++(xi g (kz g F e F.length) e).take ((xi g (kz g F e F.length) e).length-1)
structure RH(g:ak)(F:List aq)(e:Nat):Prop where
 he:e<g.length
 aY:∀l∈g,bq l g.length=true
 nt:Ab g e
 has:∀S∈F,∃d,d<g.length/\S d/\bJ g d=bJ g e
variable{g:ak}{e:Nat}
theorem RO{v:Nat}(he:e<g.length):fQ g (bJ g e) v↔bJ g v=bJ g e:=by
 have:=(wZ he).1;unfold fQ
 grind
theorem Hy(aY:∀l∈g,bq l g.length)(v:Nat)(x:Int)(hx:x∈g.getD v []):0<=x/\x.toNat<g.length:=by
 have:=cZ (ft aY v) hx;omega
theorem zBV(aY:∀l∈g,bq l g.length){u v:Nat}(hu:u<g.length)(h:To g u v):v<g.length:=E' (λv x hx=>(Hy aY v x hx).2) hu h
theorem YM(aY:∀l∈g,bq l g.length){a b:Nat}(he:e<g.length)(ha:a<g.length)(hb:b<g.length)(h1:bJ g a=bJ g e)(h2:bJ g b=bJ g e):To (AL g<|fQ g<|bJ g e) a b:=by
 obtain⟨m1,m2⟩:=ng.1<|(parts_eq ha hb).1<|h1.trans h2.symm;have key:∀v,To g a v->To g v a->To (AL g<|fQ g<|bJ g e) a v:=by
  intro v hv
  induction hv with
  |base m=>intro _;exact .base m
  |step k hx ih =>
   rename_i u x;intro Uo;have hu:=ih<|n9 (rZ hx) Uo;refine .step hu<|QN.2 ⟨hx,(RO he).2 ?_⟩;have hul:=zBV aY ha k;have D0:=(Hy aY u x hx).2;rw[(parts_eq D0 ha).2<|ng.2 ⟨Uo,.step k hx⟩,h1]
 grind
structure Az(g:ak)(e:Nat)(o:ah):Prop where
 ne:o≠[]
 gf:bq o g.length=true
 last:bJ g (fu o).toNat=bJ g e
variable{o:ah}
theorem Az.lt(h:Az g e o):0<=fu o/\fu o<(g.length:Int):=cZ h.gf<|Yg h.ne
theorem UC{m:ah}{n:Nat}(h:bq l n)(k:bq m n):bq (l++m) n:=iS λx hx=>(dz.1 hx).elim (cZ h)<|cZ k
variable{F:List aq}
theorem Az.dk(H:RH g F e)(h:Az g e o){S:aq}(hS:S∈F) :
  Az g e (o++(nR g S (fQ g<|bJ g e) [fu o]).drop 1)/\(nR g S (fQ g<|bJ g e) [fu o])≠[]/\(nR g S (fQ g<|bJ g e) [fu o]).length<=g.length:=by
 have hl:=h.lt;obtain⟨w1,w2,w3⟩:=NI H.aY S (fQ g<|bJ g e) (from_:=[fu o]) (iS λx hx=>by rw[cV] at hx;subst hx;exact hl);obtain⟨d,d1,d2,d3⟩:=H.has S hS;obtain⟨init,last,e1,e2,e3⟩:=w3 ⟨fu o,zs,d,YM H.aY H.he zo d1 h.last d3,d2⟩;refine⟨⟨by simp[h.ne],UC h.gf<|iS λx hx=>cZ w1<|List.mem_of_mem_drop hx,?_⟩,by rw[e1];simp,w2⟩
 cases init with
 |nil=>rw[e1];simp[h.last]
 |cons a r =>
  rw[e1,pQ,II,dP,<-ig,Uz];rcases e3 with q|q
  ·rw[cV] at q;rw[q];exact h.last
  exact(RO H.he).1 q
theorem Nf{g:ak}{F:List aq}{e:Nat}(H:RH g F e):∀k,k<=F.length->Az g e (kz g F e k)/\(kz g F e k).length<=1+k*g.length
 |0,_=>by
  have:=H.he;exact⟨⟨by simp[kz],iS λx hx=>by simp[kz] at hx;omega,by simp[kz,fu]⟩,by simp[kz]⟩
 |k+1,hk=>by
  obtain⟨h1,h2⟩:=Nf H k zo;rw[kz];have:(k+1)*g.length=k*g.length+g.length:=by rw[oa,Nat.one_mul]
  split
  ·exact⟨h1,zo⟩
  have hS:F.getD k noT∈F:=(by rw[a8,aX<|show k<F.length by omega];simp);obtain⟨a,b,c⟩:=h1.dk H hS;refine⟨a,?_⟩;rw[cL,lD];omega
theorem Az.home(H:RH g F e)(h:Az g e o):bq (uJ g o e (g.getD (fu o).toNat []).length) g.length/\xi g o e≠[]/\bq (xi g o e) g.length/\(xi g o e).length<=g.length:=by
 have hl:=h.lt;have hT:bq (uJ g o e (g.getD (fu o).toNat []).length) g.length:=iS λx hx=>cZ (ft H.aY _)<|xR (zg.1 hx).1;obtain⟨w1,w2,w3⟩:=NI H.aY (toE e) (fQ g<|bJ g e) hT;have cG:(fu o).toNat<g.length:=zo;obtain⟨m1,m2⟩:=ng.1<|(parts_eq cG H.he).1 h.last;obtain⟨x,x1,x2⟩:=I2 H.nt m2 m1;have hx:=Hy H.aY _ x x1;have SE:bJ g x.toNat=bJ g e:=by rw[(parts_eq hx.2 cG).2<|ng.2 ⟨x2,rZ x1⟩,h.last]
 obtain⟨init,last,e1,_,_⟩:=w3 ⟨x,zg.2 ⟨by rw[dM];exact x1,by rw[SE];simp⟩,e,YM H.aY H.he hx.2 H.he SE rfl,by simp[toE]⟩;exact⟨hT,by unfold xi;rw[e1];simp,w1,w2⟩
theorem VQ(H:RH g F e):bq (s6 g F e) g.length/\(s6 g F e).length<=1+F.length*g.length+g.length:=by
 obtain⟨h1,h2⟩:=Nf H F.length<|aS _;obtain⟨_,_,h4,h5⟩:=h1.home H;refine⟨UC h1.gf<|iS λx hx=>cZ h4<|xR hx,?_⟩;unfold s6
 grind
end
section
variable(l:ah)
theorem Ub(o l:ah)(a b:Nat):List.drop 0 (List.take o.length<|aw o)++List.drop a (List.take b<|aw l)=aw (o++(l.take b).drop a):=by
 rw[cB<|by simp[aw]];simp[aw,List.map_drop,List.map_take]
@[simp] theorem ER:dF<|aw l:=c6 _ (λ_=>by simp[aA,Pure]) l
variable(n:Nat)
theorem zxj(S:aq)(x:Int)(h0:0<=x)(hx:x<(n:Int)):ao aj 295 [aa x,.ax [bx n S]]<|ay<|S x.toNat:=by
 refine bS fZ ?_;unfold bx;refine sR ?_;refine sL (bc x.toNat zo zo) ?_;exact .refl _
theorem zu8(S:aq)(x:Int)(h0:0<=x)(hx:x<(n:Int)):ao aj 296 [aa x,.ax [bx n S]]<|ay<|S x.toNat:=by
 refine bS fZ ?_;unfold bx;refine sR ?_;refine sL (bc x.toNat zo zo) ?_;exact .refl _
theorem zzw(e:Nat)(x:Int)(h0:0<=x):ao aj 297 [aa x,.ax [aa e]]<|ay<|toE e x.toNat:=by
 refine bt ?_;exact cf<|by unfold toE;rw[uY h0]
variable(g:ak)
theorem zsU(p:Int)(x:Int)(h0:0<=x)(hx:x<(g.length:Int)):ao aj 222 [aa x,.ax [aF<|nT g],.ax [aa p]]<|ay<|bJ g x.toNat==p:=by
 refine bS fZ ?_;unfold nT aF;refine sR ?_;refine sL (bX x.toNat zo zo) ?_;exact .refl _
theorem zqe{g:ak}{o:ah}{e k:Nat}(h:k<(g.getD (fu o).toNat []).length):uJ g o e (k+1)=if (bJ g ((g.getD (fu o).toNat []).getD k 0).toNat==bJ g e)=true then uJ g o e k++[(g.getD (fu o).toNat []).getD k 0] else uJ g o e k:=by
 unfold uJ;rw[jP,aX h,Gc,a8 (l:=g.getD (fu o).toNat []),aX h]
 grind
theorem zuk(o:ah)(e k:Nat):(uJ g o e k).length<=k:=jI (List.length_filter_le _ _) zq
theorem zxf(W:bg)(A:bT)(L:List Pr)(g:ak)(fr:ah)(hn:g.length<=2000000)(hF:iu g)(F:List aq)(sF:F.length<=1000)(e:Nat)(H:RH g F e) :
  ao aj 223 [.ax<|jL W A L g fr,aa e,aF<|nT g,rV g.length F] (aF<|s6 g F e):=by
 have hp:=zG W A L g fr;have he:=H.he;have hpe:=wZ he;refine dh fZ zs (by simp[aA,Pure,cX,hp,Hs]) ?_<|cX _;obtain⟨sd,oc⟩:∃sd:D,sd=.ax (jL W A L g fr):=⟨_,rfl⟩;have qh:aA [sd]:=by subst oc;exact⟨Af hp,trivial⟩
 have hsr:∀ρ,D.aP ρ sd=sd:=λρ=>iQ _ qh.1;rw[<-oc];unfold rV;refine sR ?_;refine sL (bX e zo he) ?_;rw[aI];refine cq [0,2,5,9,24,25] (λ((k,ar):Nat×Nat)=>[(10,.own 1 ar 0 (kz g F e k).length),(26,aa k)]) (λ(k,ar)=>[.row true [aa e],.vec true ar 1<|aw<|kz g F e k]) (λ(k,ar)=>k<=F.length) (λ(k,ar)=>F.length-k) (0,0) ?_;refine dd ?_;rintro⟨k,ar⟩ hk;obtain⟨hO,Jx⟩:=Nf H k hk;have zPb:(kz g F e k).length<=4000000000:=by
  have:=Bk (show k<=1000 by omega) hn;omega
 have hOn:=I6.2 hO.ne;have eR:kz g F e (k+1)=if (kz g F e k).any (λx=>(F.getD k noT) x.toNat)=true then kz g F e k else kz g F e k++(nR g (F.getD k noT) (fQ g<|bJ g e) [fu<|kz g F e k]).drop 1:=rfl
 refine bf (λq0=>?_) λq0=>?_
 ·have q0:k<F.length:=sO;have hS:F.getD k noT∈F:=(by rw[a8,aX q0];simp);refine⟨zo,_,Ie (n:=g.length) (F:=F) (k:=k) zo q0,?_⟩;obtain⟨_,hw2,hw3⟩:=hO.dk H hS;generalize F.getD k noT=S at *;refine sW ?_;generalize T2:kz g F e k=o at *;have hC:=mh (λn=>aa n) (λa=>by simp[Pure]) o zo (λx=>S x.toNat) 295 [.ax [bx g.length S]] zp λa ha=>zxj g.length S a (cZ hO.gf ha).1 (cZ hO.gf ha).2;rw[show(o.map λn=>[aa n])=List.drop 0 (List.take o.length<|aw o) from(cB<|by simp[aw]).symm] at hC;refine sN hC ?_;cases r:o.any (λx=>S x.toNat)
  ·rw[r,ab zc] at eR;refine aQ ?_;refine⟨zo,zo,zo,?_⟩;refine sW ?_;have xQ:=zzm W A L g fr hn H.aY hF S 296 (λx h1 h2=>zu8 g.length S x h1 h2) o ar hOn zo [fu o] rfl (iS λx hx=>by rw[cV] at hx;subst hx;exact hO.lt) (bJ g e);rw[<-oc] at xQ;generalize nR g S (fQ g<|bJ g e) [fu o]=l at *;have VD:=I6.2 hw2;rw[show 0+(((o.length-0:Nat):Int)-1).toNat=o.length-1 by omega,show 0+(o.length-0)=o.length by omega];refine sA (rX xQ [.row true [aa e]] [] rfl (by simp[aG,aK,bz _ qh.1]) ⟨bm _<|ER _,bI _ ⟨lg _ _,trivial⟩,trivial⟩ (by simp only[bL,D.aP,hsr,tJ];rfl) (tJ _) (by simp only[fR,jc,al.aP,za,bL,iQ _<|lg _ _];rfl) (by simp only[fR,jc,al.aP,za,bL,iQ _<|lg _ _];rfl)) ?_;rw[aI];refine⟨zo,zo,zo,?_⟩;refine ke ?_;refine⟨(k+1,ar+1),zo,zd,?_⟩;dsimp only;rw[eR];have hle:(o++l.drop 1).length=o.length+(l.length-1):=(by rw[cL,lD]);rw[hle,show(List.drop (Int.toNat 1)<|List.take l.length<|List.map (λn=>[aa n]) l).length=l.length-1 by simp]
   (refine aL 2 zs rfl ?_ ?_<;>(repeat' (first|exact trivial|exact rfl|exact .refl _|refine And.intro ?_ ?_|(simp[aK,aG,bB,-List.map_take,-List.map_drop];done))))
   all_goals first|exact bz _ qh.1|exact bm _ (c6 _ (λS=>by simp[aA,lg]) F)|exact aV (by have:=Ub o l 1 l.length;rw[dM] at this;exact this)|skip
  rw[r,ae rfl] at eR;refine aQ ?_;refine⟨(k+1,ar),zo,zd,?_⟩;dsimp only;rw[eR]
  (refine aL 2 zs rfl ?_ ?_<;>(repeat' (first|exact trivial|exact rfl|exact .refl _|refine And.intro ?_ ?_|(simp[aK,aG,bB,-List.map_take,-List.map_drop];done))))
  all_goals first|exact bz _ qh.1|exact bm _ (c6 _ (λS=>by simp[aA,lg]) F)|skip
 have q0:k=F.length:=sO;subst q0;have eE:s6 g F e=kz g F e F.length++(xi g (kz g F e F.length) e).take ((xi g (kz g F e F.length) e).length-1):=rfl;subst oc;unfold jL bN;refine sW ?_;obtain⟨ZT,hh1,hh2,hh3⟩:=hO.home H;have cG:=hO.lt;refine sIB ?_;generalize T2:kz g F e F.length=o at *;refine⟨_,bV (l:=o) (k:=o.length-1) zo zo,?_⟩;refine sW ?_;rw[show o.getD (o.length-1) 0=fu o from rfl];refine sL (eV (g:=g) (k:=(fu o).toNat) zo zo) ?_;rw[aI];have qY:=hF.at (fu o).toNat;have eT:=λk hk=>zqe (g:=g) (o:=o) (e:=e) (k:=k) hk;have QT:=λk=>zuk g o e k;have cR:=λy hy=>cZ (ft H.aY (fu o).toNat) (x:=y) hy;have hhE:xi g o e=nR g (toE e) (fQ g<|bJ g e) (uJ g o e (g.getD (fu o).toNat []).length):=rfl;have RG:uJ g o e 0=[]:=by simp[uJ]
 generalize g.getD (fu o).toNat []=row at *;generalize uJ g o e=T at *;refine bQ (eo 14 1 zs rfl) ?_;refine cq [0,2,5,9,10,59,60] (λ((k,c):Nat×Nat)=>[(14,.own 2 c 0 c),(61,aa k)]) (λ(k,c)=>[.row true [aa e],.vec true ar 1<|aw o,.vec true c 1<|aw<|T k]) (λ(k,c)=>k<=row.length/\(T k).length=c) (λ(k,c)=>row.length-k) (0,0) ?_;refine sW ?_;refine⟨⟨zo,by rw[RG];rfl⟩,by exact sK,by dsimp only;rw[RG,<-T2];rfl,?_⟩;rintro⟨k,c⟩ ⟨hk,hc⟩;have hTk:=QT k;refine bf (λq1=>?_) λq1=>?_
 ·have q1:k<row.length:=sO;have hy:=cR _<|df q1;have eS:=eT k q1;refine sL (bV (l:=row) (k:=k) zo q1) ?_;generalize row.getD k 0=y at *;refine sL (bX y.toNat zo zo) ?_;refine sS (λr2=>?_) λr2=>?_
  ·have r2:(bJ g y.toNat==bJ g e):=r2;rw[r2,ae rfl] at eS;refine ee ?_;refine⟨(k+1,c+1),⟨zo,by rw[eS,cL,hc];rfl⟩,zd,?_⟩;dsimp only;rw[eS]
   (refine aL 3 zs rfl ?_ ?_<;>(repeat' (first|exact trivial|exact rfl|exact .refl _|refine And.intro ?_ ?_|(simp[aK,aG,bB,-List.map_take,-List.map_drop];done))))
   all_goals first|exact bI _ hp|exact aV (by rw[<-hc,kC])|skip
  have r2:(bJ g y.toNat==bJ g e)=false:=r2;rw[r2,ab zc] at eS;refine sI ?_;refine⟨(k+1,c),⟨zo,by rw[eS];exact hc⟩,zd,aC (by exact sK) ?_⟩;dsimp only;rw[eS]
 have q1:k=row.length:=sO;subst q1;have xQ:=V7 W A L g fr hn H.aY hF (toE e) 297 [.ax [aa e]] zp (λx h1 _=>zzw e x h1) (T row.length) zo ZT<|bJ g e;rw[<-hhE] at xQ;generalize xi g o e=l at *;have VD:=I6.2 hh1
 refine sE (HR (args0:=[.ax<|jL W A L g fr,.own 1 c 0 c,.fn (.func 297) [] [.loc 0 0],aF<|nT g,aa<|bJ g e]) (H0:=[.row true [aa e],.vec true c 1<|aw<|T row.length])
  (.cons _ _ _ _ (.refl _) (.cons _ _ _ _ (.own _ _ _ _ _ _ _ _ rfl (by rw[cB<|by simp[aw];omega];exact gw _)) (.cons _ _ _ _ (.fn _ _ _ _ _ .nil (.cons _ _ _ _ (.loc _ _ _ _ _ rfl (mE _)) .nil)) (.cons _ _ _ _ (.refl _) (.cons _ _ _ _ (.refl _) .nil))))) xQ (cX _) [0,2] rfl zc (by simp[aG,aK,bI _ hp]) ⟨bI _ zp,bm _<|ER _,trivial⟩ (by simp only[bL,D.aP,tJ,mj _ hp];rfl) (λi o ho=>by
   rcases i with _|_|i
   ·simp at ho;subst ho;rfl
   ·simp at ho;subst ho;simp only[al.aP,za];rfl
   simp at ho)) ?_
 rw[aI];refine sI ?_;refine⟨zo,zo,zs,?_⟩;refine sWJ ?_;rw[eE];refine .own _ _ _ _ _ _ _ _ rfl ?_;rw[show(((l.length:Nat):Int)-1).toNat=l.length-1 by omega];have hh:=Ub o l 0<|l.length-1;rw[dP] at hh;rw[show List.drop 0 (List.take o.length<|aw o)++List.drop 0 (List.take (l.length-1)<|List.map (λn=>[aa n]) l)=aw (o++l.take (l.length-1)) from hh];rw[cB<|by simp[aw]];exact gw _
end
section
def nxE(W:bg)(A:bT)(p:Pr):List Pr:=gv W A (W.next.getD p.1.toNat [])<|A.next.getD p.2.toNat []
structure n6(W:bg)(A:bT):Prop where
 two:xY W A
 sw:W.start.length<=1048576
 sa:A.start.length<=1048576
 rw_:∀l∈W.next,l.length<=1048576
 ra:∀l∈A.next,l.length<=1048576
theorem n6.next{W:bg}{A:bT}(h:n6 W A)(p:Pr):(∀q∈nxE W A p,iC W A q)/\(nxE W A p).length<=1099511627776:=by
 obtain⟨_,_,_,_,w5,_⟩:=uw W h.two.cw;obtain⟨_,_,_,_,_,a6,_⟩:=xE A h.two.ca;refine⟨UP (ft w5 _)<|ft a6 _,?_⟩;have h1:=TK W A (W.next.getD p.1.toNat [])<|A.next.getD p.2.toNat [];have h2:=Bk (xA h.rw_ p.1.toNat)<|xA h.ra p.2.toNat;unfold nxE;omega
variable{W:bg}{A:bT}
theorem n6.begin(h:n6 W A):(∀q∈gv W A W.start A.start,iC W A q)/\(gv W A W.start A.start).length<=1099511627776:=by
 obtain⟨_,_,_,w4,_,_⟩:=uw W h.two.cw;obtain⟨_,_,_,_,a5,_,_⟩:=xE A h.two.ca;refine⟨UP w4 a5,?_⟩;have h1:=TK W A W.start A.start;have h2:=Bk h.sw h.sa;omega
variable{L:List Pr}
theorem H5{Q:Pr->Prop}{ps:List Pr}{o:ah}(h:∀p∈L,Q p)(k:∀p∈ps,Q p):∀p∈(iU ps L o).1,Q p:=λp hp=>((EL ps L o p).1 hp).elim (h p)<|k p
theorem Wz{W:bg}{A:bT}(h:n6 W A){start:List Pr}:∀(f n:Nat) (L:List Pr) (T:ak),uN start (nxE W A) n L T->(∀p∈L,iC W A p)->W.next.length*A.next.length+2<=f+n ->
  qD start (nxE W A) (ui (nxE W A) f n L T).1 (ui (nxE W A) f n L T).2/\∀p∈(ui (nxE W A) f n L T).1,iC W A p
 |0,n,L,T,hI,hg,hf=>by have:=hI.le;have:=iC.le h.two hI.nd hg;omega
 |f+1,n,L,T,hI,hg,hf=>by
  rw[ui];split
  ·rename_i q;exact Wz h f (n+1) _ _ (hI.next q) (H5 hg (h.next _).1) zo
  rename_i q;exact⟨hI.fin q,hg⟩
def jq(W:bg)(A:bT):List Pr×ah:=iU (gv W A W.start A.start) [] []
def cU(W:bg)(A:bT):List Pr×ak:=ui (nxE W A) (W.next.length*A.next.length+2) 0 (jq W A).1 []
theorem zA(h:n6 W A):qD (gv W A W.start A.start) (nxE W A) (cU W A).1 (cU W A).2/\∀p∈(cU W A).1,iC W A p :=
 Wz h _ 0 _ [] (uN.begin _ _) (H5 zs h.begin.1) zo
theorem VM(nx:Pr->List Pr):∀(f n:Nat) (L:List Pr) (T:ak),∃X,(ui nx f n L T).1=L++X
 |0,n,L,T=>⟨[],by simp[ui]⟩
 |f+1,n,L,T=>by
  rw[ui];split
  ·obtain⟨X,hX⟩:=C1 (nx<|L.getD n (0,0)) L [];obtain⟨Y,hY⟩:=VM nx f (n+1) (iU (nx<|L.getD n (0,0)) L []).1<|T++[(iU (nx<|L.getD n (0,0)) L []).2];exact⟨X++Y,by rw[hY,hX,ig]⟩
  exact⟨[],zs⟩
theorem Us:(jq W A).2=(gv W A W.start A.start).map λp=>(gD (cU W A).1 p:Int):=by
 obtain⟨X,hX⟩:=VM (nxE W A) (W.next.length*A.next.length+2) 0 (jq W A).1 [];have hX':(cU W A).1=(jq W A).1++X:=hX;rw[hX'];unfold jq;rw[PV,nG];refine vj λp hp=>?_;rw[MI<|(EL _ [] [] p).2 (.inr hp)]
theorem qD.fits(h:n6 W A){start:List Pr}{G:ak}(hN:qD start (nxE W A) L G)(hg:∀p∈L,iC W A p):G.length<=1228800/\iu G:=by
 have h1:=iC.le h.two hN.nd hg;have h2:=KZ h.two;have h3:=hN.len;refine⟨zo,zo,λl hl=>?_⟩;obtain⟨i,hi,rfl⟩:=iD.1 hl;have:=hN.row i zo;rw[a8,aX hi] at this;simp only[sj] at this;rw[this,aI];have:=(h.next<|L.getD i (0,0)).2;omega
theorem Sc(h:n6 W A):bq (jq W A).2 (cU W A).2.length/\(jq W A).2.length<=1099511627776:=by
 obtain⟨hN,hg⟩:=zA h;rw[Us];refine⟨iS λx hx=>?_,by rw[aI];exact h.begin.2⟩;obtain⟨p,hp,rfl⟩:=dq.1 hx;have:=Em<|hN.st p hp;have:=hN.len;omega
variable{g:ak}
theorem zu3{ok:aq}(h:∀v,ok v){u v:Nat}(k:To g u v):To (AL g ok) u v:=by
 unfold To at k
 induction k with
 |base m=>exact .base m
 |step k hx ih=>exact .step ih<|QN.2 ⟨hx,h _⟩
variable{F:List aq}
theorem zuj(aY:∀l∈g,bq l g.length){i:Nat}(h:pF g F i):(∃v,v<g.length/\bJ g v=(i:Int))/\∀e,e<g.length->bJ g e=(i:Int)->RH g F e:=by
 unfold pF at h;rw[gr,kb] at h;obtain⟨h1,h2⟩:=h;unfold okT at h1;obtain⟨v,hv,h3⟩:=mJ.1 h1;rw[gr,ib] at h3;have hv:=jz.1 hv;refine⟨⟨v,hv,h3.1⟩,λe he hp=>⟨he,aY,?_,λS hS=>?_⟩⟩
 ·have hn:=(FI (λv x hx=>(Hy aY v x hx).2) hv).1 h3.2;obtain⟨m1,m2⟩:=ng.1<|(parts_eq hv he).1<|h3.1.trans hp.symm;exact I2 hn m1 m2
 have:=h2 S hS;unfold qq at this
 grind
noncomputable def pE(g:ak)(F:List aq):Int:=dN (λb=>true==b)<|(List.range g.length).map<|pF g F
noncomputable def iB(g:ak)(F:List aq)(fr:ah):ah:=nR g (λk=>bJ g k==pE g F) (fQ g (-1)) fr
def uX(L:List Pr)(l:ah):ah:=l.map λn=>(L.getD n.toNat (0,0)).1
noncomputable def vp(W:bg)(A:bT)(L:List Pr)(g:ak)(fr:ah):D :=
 if pE g (jZ W A L)<0 then .aJ [.agg [aF [],aF []],ay false,aa 0] else
  .aJ [.agg [aF<|uX L<|(iB g (jZ W A L) fr).take<|(iB g (jZ W A L) fr).length-1,aF<|uX L<|s6 g (jZ W A L) (fu<|iB g (jZ W A L) fr).toNat],ay true,aa 0]
theorem zzS(h:¬pE g F<0):∃i:Nat,pE g F=(i:Int)/\pF g F i:=by
 obtain⟨k,h1,hk,h2,_⟩:=Gs (show 0<=dN (λb=>true==b) ((List.range g.length).map<|pF g F) from by unfold pE at h;omega);refine⟨k,h1,?_⟩
 grind
theorem zAU(aY:∀l∈g,bq l g.length):(¬pE g F<0)↔∃v,v<g.length/\Fw g F v:=by
 rw[<-ztv (λv x hx=>(Hy aY v x hx).2) F];have h1:=sz (λb=>true==b)<|(List.range g.length).map<|pF g F;have h2:(¬pE g F<0)↔decide (pE g F>=0)=true:=by grind
 rw[h2,pE,h1,mJ];repeat grind
theorem QQ(h:n6 W A)(hp:¬pE (cU W A).2 F<0) :
  bq (iB (cU W A).2 F (jq W A).2) (cU W A).2.length=true/\(iB (cU W A).2 F (jq W A).2).length<=(cU W A).2.length/\iB (cU W A).2 F (jq W A).2≠[]/\RH (cU W A).2 F (fu<|iB (cU W A).2 F (jq W A).2).toNat:=by
 obtain⟨hN,hg⟩:=zA h;obtain⟨i,e1,hG⟩:=zzS hp;obtain⟨⟨v,hv,Ob⟩,hR⟩:=zuj hN.inG hG;obtain⟨b1,_⟩:=Sc h;obtain⟨w1,w2,w3⟩:=NI hN.inG (λk=>bJ (cU W A).2 k==pE (cU W A).2 F) (fQ (cU W A).2 (-1)) b1;obtain⟨q,hq,hT⟩:=hN.come v (by have:=hN.len;omega);obtain⟨init,last,s1,s2,_⟩:=w3 ⟨(gD (cU W A).1 q:Int),by rw[Us];exact dq.2 ⟨q,hq,rfl⟩,v,by
  rw[bO];exact zu3 (λv=>by unfold fQ;rw[gQ (by omega:(-1:Int)<0)];rfl) hT,by rw[Ob,e1];simp⟩
 refine⟨w1,w2,by unfold iB;rw[s1];simp,?_⟩;have hl:fu (iB (cU W A).2 F (jq W A).2)=last:=by unfold iB;rw[s1,Uz]
 have hr:=cZ w1 (x:=last)<|by rw[s1];simp
 grind
def ES(d:Nat)(W:bg)(A:bT)(n t:Nat)(S:D):bj:=[aF W.start,bN W.next,iw W.label,bN W.fair,aF A.start,bN A.next,iw A.jy,iw A.mO,bN A.fair,.mp d,.own (d+2) n 0 n,.own (d+3) t 0 t,S]
noncomputable def E9(d:Nat)(W:bg)(A:bT)(L:List Pr)(S:D)(T:ak):aE :=
 [.dV true<|ma aj 280<|fP L,.row true<|ES d W A L.length T.length S,.vec true L.length 2<|td L,.vec true T.length 1<|gi T]
theorem UX{ρ:Nat->Nat}(l:ah):D.aP ρ (iw l)=iw l:=iQ _<|yr l
theorem JD{S:D}(hS:Pure S){T:ak}:(kg W A L S T).map (al.aP λi=>3+i)=E9 3 W A L S T:=by
 simp only[kg,E9,yy,ES,fR,jc,al.aP,bL,D.aP,jW _<|Ol L,jW _<|nM T,iQ _ hS,tJ,Vp,UX]
theorem zyH(h:n6 W A):ao aj 155 [gh W,mi A]<|vp W A (cU W A).1 (cU W A).2 (jq W A).2:=by
 obtain⟨w1,w2,w3,w4,w5,w6⟩:=uw W h.two.cw;obtain⟨a1,a2,a3,a4,a5,a6,a7⟩:=xE A h.two.ca;have SU:=KZ h.two;have Vl:=J5 W h.two.fw;rw[h.two.cw] at Vl;have YR:=zw1 A h.two.fa;rw[h.two.ca] at YR;have hX:=λL fE u5 S hS T=>W7 h.two W.start A.start h.sw h.sa w4 a5 L fE u5 S hS T;have hX2:=λ(p:Pr) L fE u5 S hS T=>W7 h.two (W.next.getD p.1.toNat []) (A.next.getD p.2.toNat []) (xA h.rw_ p.1.toNat) (xA h.ra p.2.toNat) (ft w5 p.1.toNat) (ft a6 p.2.toNat) L fE u5 S hS T;have FR:=wE W;have Gg:=E7 A;refine dh (fY [47,191]) zs zp ?_ (by unfold vp;split<;>simp[Pure,aA,cX]);have zKf:cU W A=ui (nxE W A) (W.next.length*A.next.length+2) 0 (jq W A).1 []:=rfl;unfold gh mi at *;unfold bg.cells bT.cells at *;refine sR ?_;refine sC Vl ?_;refine sC YR ?_;refine bQ (kY (gG 4 10 2 zs rfl rfl)<|gG 4 11 1 zs rfl rfl) ?_;refine sR ?_;have ID:Pure vA:=trivial;have Xe:=hX [] .nil zs vA ID [];rw[show iU (gv W A W.start A.start) [] []=jq W A from rfl] at Xe;have Jw:=uN.begin (gv W A W.start A.start)<|nxE W A;rw[show iU (gv W A W.start A.start) [] []=jq W A from rfl] at Jw;have hG0:∀p∈(jq W A).1,iC W A p:=H5 zs h.begin.1;have hRR:∀L G,cU W A=(L,G)->qD (gv W A W.start A.start) (nxE W A) L G/\(∀p∈L,iC W A p)/\bq (jq W A).2 G.length=true/\(jq W A).2.length<=1099511627776/\∀F,¬pE G F<0->bq (iB G F (jq W A).2) G.length=true/\(iB G F (jq W A).2).length<=G.length/\iB G F (jq W A).2≠[]/\RH G F (fu<|iB G F (jq W A).2).toNat:=λL G e=>by
  have k1:=zA h;have k2:=Sc h;have k3:=λF hp=>QQ h (F:=F) hp;rw[e] at k1 k2 k3;exact⟨k1.1,k1.2,k2.1,k2.2,k3⟩
 generalize jq W A=B at *;obtain⟨L0,fr⟩:=B;dsimp only at *;have KM:=cX fr;refine sA (rX Xe [.row true [aF W.start,bN W.next,iw W.label,bN W.fair],.row true [aF A.start,bN A.next,iw A.jy,iw A.mO,bN A.fair],.row true [vA,vA]] [] rfl (by simp[kg,aG,aK]) (NZ ID<|by simp[kg]) (by simp only[bL,D.aP,tJ];rfl) (tJ _) (bH (_++·)<|(lv _).trans<|JD ID) (bH (_++·)<|(lv _).trans<|JD ID)) ?_
 refine cq [2,3,4,9] (λ((n,M,T):Nat×List Pr×ak)=>[(10,aa n)]) (λ(n,M,T)=>[.row true [aF W.start,bN W.next,iw W.label,bN W.fair],.row true [aF A.start,bN A.next,iw A.jy,iw A.mO,bN A.fair],.row true [vA,vA]]++E9 3 W A M (aF fr) T)
  (λ(n,M,T)=>uN (gv W A W.start A.start) (nxE W A) n M T/\(∀p∈M,iC W A p)/\ui (nxE W A) (W.next.length*A.next.length+2-n) n M T=cU W A) (λ(n,M,T)=>W.next.length*A.next.length+2-n) (0,L0,[]) ?_
 refine sW ?_;refine⟨⟨Jw,hG0,zKf.symm⟩,by exact sK,rfl,?_⟩;rintro⟨n,M,T⟩ ⟨hI,mD,hF⟩;have Hi:=iC.le h.two hI.nd mD;have hIl:=hI.le;have QT:=hI.len;rw[show W.next.length*A.next.length+2-n=(W.next.length*A.next.length+1-n)+1 by omega,ui] at hF;unfold E9 ES;refine bf (λq0=>?_) λq0=>?_
 ·have q0:n<M.length:=sO;rw[ae q0] at hF;have tO:=mD _<|KW q0;obtain⟨⟨g1,g2⟩,g3,g4⟩:=tO;have IK:=hI.next q0;have gR:=h.next<|M.getD n (0,0);have hC:=rX (hX2 (M.getD n (0,0)) M hI.nd mD (aF fr) KM T) [.row true [aF W.start,bN W.next,iw W.label,bN W.fair],.row true [aF A.start,bN A.next,iw A.jy,iw A.mO,bN A.fair],.row true [vA,vA]] [] rfl (by simp[kg,aG,aK]) (NZ KM<|by simp[kg]) (by simp only[bL,D.aP,tJ];rfl) (tJ _) (bH (_++·)<|(lv _).trans<|JD KM) (bH (_++·)<|(lv _).trans<|JD KM);rw[show gv W A (W.next.getD (M.getD n (0,0)).1.toNat []) (A.next.getD (M.getD n (0,0)).2.toNat [])=nxE W A (M.getD n (0,0)) from rfl] at hC;refine sB ?_;refine⟨_,HP (l:=M) (k:=n) zo q0,?_⟩;refine sW ?_;refine sL (eV (g:=W.next) (k:=(M.getD n (0,0)).1.toNat) zo zo) ?_;refine sB ?_;refine⟨_,HP (l:=M) (k:=n) zo q0,?_⟩;refine sW ?_;refine sL (eV (g:=A.next) (k:=(M.getD n (0,0)).2.toNat) zo zo) ?_;unfold E9 ES at hC;have hgd:=H5 (o:=[]) mD gR.1;generalize nxE W A (M.getD n (0,0))=ps at *;generalize iU ps M []=Q at *;obtain⟨M',o⟩:=Q;dsimp only at *
  (refine .inr (.inr (.inr (.inl ⟨_,_,by simp[aG,bB,dX,al.under,aK],by simp[aG,bB,dX,al.under,aK],hC,?_⟩)));((conv=>whnf);repeat(refine⟨rfl,?_⟩;conv=>whnf)))
  refine ee ?_;refine⟨(n+1,M',T++[o]),⟨IK,hgd,by rw[show W.next.length*A.next.length+2-(n+1)=W.next.length*A.next.length+1-n by omega];exact hF⟩,zd,?_⟩;dsimp only;rw[show(T++[o]).length=T.length+1 by simp]
  (refine aL 7 zs rfl ?_ ?_<;>(repeat' (first|exact trivial|exact rfl|exact .refl _|refine And.intro ?_ ?_|(simp[aK,aG,bB,-List.map_take,-List.map_drop];done))))
  all_goals first|exact bI _ FR|exact bI _ Gg|exact aV (zoy rfl)|(simp[bz _<|yr _];done)|skip
 have q0:¬n<M.length:=sO;rw[ab q0] at hF;obtain⟨Lt,Tz,hfi,s9,bW⟩:=hRR M T hF.symm;obtain⟨hTn,H6⟩:=Lt.fits h Tz;have aY:=Lt.inG;rw[<-hF];have JH:=Lt.len;have yh:=zy3 h.two M zo Tz T fr;rw[<-JH] at yh;have sF:(jZ W A M).length<=1000:=by unfold jZ;rw[cL,As<|aS _,As<|aS _];omega
 have iW:vp W A M T fr=if pE T (jZ W A M)<0 then .aJ [.agg [aF [],aF []],ay false,aa 0] else
   .aJ [.agg [aF<|uX M<|(iB T (jZ W A M) fr).take<|(iB T (jZ W A M) fr).length-1,aF<|uX M<|s6 T (jZ W A M) (fu<|iB T (jZ W A M) fr).toNat],ay true,aa 0]:=rfl
 have tC:=zG W A M T fr;generalize jZ W A M=F at *;have LJ:=zzn W A M T JH fr zo aY H6 F sF;rw[show dN (λb=>true==b) ((List.range T.length).map<|pF T F)=pE T F from rfl] at LJ;have bW:=bW F
 refine bQ (nX (λi=>i==4||i==5||i==6) (env':=[(4,.loc 2 0),(9,.ax<|jL W A M T fr)]) (H':=[.row true [aF W.start,bN W.next,iw W.label,bN W.fair],.row true [aF A.start,bN A.next,iw A.jy,iw A.mO,bN A.fair],.row true [vA,vA],.dV true<|ma aj 280<|fP M,.row false<|ES 3 W A M.length T.length<|aF fr,.vec false M.length 2<|td M,.vec false T.length 1<|gi T])
  ⟨.refl _,.loc _ _ _ _ _ rfl rfl (.cons _ _ _ _ (.refl _) (.cons _ _ _ _ (.refl _) (.cons _ _ _ _ (.refl _) (.cons _ _ _ _ (.refl _) (.cons _ _ _ _ (.refl _) (.cons _ _ _ _ (.refl _) (.cons _ _ _ _ (.refl _) (.cons _ _ _ _ (.refl _) (.cons _ _ _ _ (.refl _) (.cons _ _ _ _ (.dL _) (.cons _ _ _ _ (.own _ _ _ _ _ _ _ _ rfl rfl (aV<|cB zs)) (.cons _ _ _ _ (.own _ _ _ _ _ _ _ _ rfl rfl (aV<|cB zs)) (.refl _))))))))))))),trivial⟩
  ⟨⟨.inl rfl,λh=>absurd h zc,.refl _⟩,⟨.inl rfl,λh=>absurd h zc,.refl _⟩,⟨.inl rfl,λh=>absurd h zc,.refl _⟩,⟨.inl rfl,λh=>absurd h zc,rfl⟩,⟨.inr ⟨rfl,rfl⟩,λ_=>rfl,.refl _⟩,⟨.inr ⟨rfl,rfl⟩,λ_=>rfl,rfl,rfl,.refl _⟩,⟨.inr ⟨rfl,rfl⟩,λ_=>rfl,rfl,rfl,.refl _⟩,trivial⟩) ?_
 have xe:=TP T zo aY H6;unfold jL at yh LJ;unfold jL ES;refine sR ?_;refine sC xe ?_;refine sC yh ?_;refine sC LJ ?_;rw[iW];refine sS (λp0=>?_) λp0=>?_
 ·have p0:pE T F<0:=pH p0;rw[ae p0];exact .aJ _ _ (.cons _ _ _ _ (.agg _ _ (.cons _ _ _ _ (.none _) (.cons _ _ _ _ (.none _) .nil))) (.cons _ _ _ _ (.refl _) (.cons _ _ _ _ (.refl _) .nil)))
 have p0:¬pE T F<0:=of_decide_eq_false p0;rw[ab p0];obtain⟨s1,s2,s3,s4⟩:=bW p0;have hsn:=I6.2 s3;have hlE:=cZ s1<|Yg s3;have xQ:=V7 W A M T fr zo aY H6 (λk=>bJ T k==pE T F) 222 [.ax [aF<|nT T],.ax [aa<|pE T F]] zp (λx h1 h2=>zsU T (pE T F) x h1 h2) fr zo hfi (-1);rw[show nR T (λk=>bJ T k==pE T F) (fQ T (-1)) fr=iB T F fr from rfl] at xQ;have Mp:=zxf W A M T fr zo H6 F sF (fu<|iB T F fr).toNat s4;rw[show(((fu<|iB T F fr).toNat:Nat):Int)=fu (iB T F fr) by omega] at Mp;obtain⟨r1,r2⟩:=VQ s4;have zm:=VY W A M T fr ((iB T F fr).take<|(iB T F fr).length-1) (by rw[fg];omega) (by rw[<-JH];exact iS λx hx=>cZ s1<|xR hx);have qY:(s6 T F (fu<|iB T F fr).toNat).length<=1000000000000:=by
  have:=Bk sF hTn;omega
 have xf:=VY W A M T fr (s6 T F (fu<|iB T F fr).toNat) qY (by rw[<-JH];exact r1);rw[show((iB T F fr).take<|(iB T F fr).length-1).map (λn=>(M.getD n.toNat (0,0)).1)=uX M ((iB T F fr).take<|(iB T F fr).length-1) from rfl] at zm;rw[show(s6 T F (fu<|iB T F fr).toNat).map (λn=>(M.getD n.toNat (0,0)).1)=uX M (s6 T F (fu<|iB T F fr).toNat) from rfl] at xf;generalize s6 T F (fu<|iB T F fr).toNat=rnd at *;generalize iB T F fr=st at *;generalize pE T F=p at *;unfold jL at xQ Mp zm xf tC;refine sW ?_
 refine sE (HR (args0:=[.ax [aF W.start,bN W.next,iw W.label,bN W.fair,aF A.start,bN A.next,iw A.jy,iw A.mO,bN A.fair,.dL,y9 M,bN T,aF fr],aF fr,.fn (.func 222) [] [.loc 0 0,.loc 1 0],aF<|nT T,aa (-1)]) (H0:=[.row true [aF<|nT T],.row true [aa p]])
  (.cons _ _ _ _ (.refl _) (.cons _ _ _ _ (.refl _) (.cons _ _ _ _ (.fn _ _ _ _ _ .nil (.cons _ _ _ _ (.loc _ _ _ _ _ rfl (mE _)) (.cons _ _ _ _ (.loc _ _ _ _ _ rfl (mE _)) .nil))) (.cons _ _ _ _ (.refl _) (.cons _ _ _ _ (.refl _) .nil))))) xQ (cX _) [7,8] rfl zc ⟨bz _<|Af tC,bz _<|cX _,zu,bz _<|cX _,trivial,trivial⟩ ⟨bI _ ⟨cX _,trivial⟩,bI _ ⟨trivial,trivial⟩,trivial⟩ (by simp only[bL,D.aP,tJ,Vp,UX,iQ _<|Qm _];rfl) (λi o ho=>by
   rcases i with _|_|i
   ·simp at ho;subst ho;simp only[al.aP,bL,tJ];rfl
   ·simp at ho;subst ho;rfl
   simp at ho)) ?_
 rw[aI];refine sI ?_;refine sL (bV (l:=st) (k:=st.length-1) zo zo) ?_;rw[show st.getD (st.length-1) 0=fu st from rfl,show D.aP (λi=>[7,8].getD i 0) (aF<|nT T)=aF (nT T) from tJ _];refine sC Mp ?_;rw[aI];refine sI ?_;refine⟨zo,zo,zs,?_⟩;refine sW ?_;rw[show(D.aM 1<|List.drop 0<|List.take (((st.length:Nat):Int)-1).toNat<|List.map (λn=>[aa n]) st)=aF (st.take<|st.length-1) by
  rw[show(((st.length:Nat):Int)-1).toNat=st.length-1 by omega,dP,<-List.map_take];rfl]
 refine sC zm ?_;refine sC xf ?_;exact .refl _
end
mutual
def cY:Tree->Tree
 | .node k n ks=>if k=10 then cW 8 (cx 1 0)<|U0 ks else if k=11 then cW 9 (cx 2 0)<|U0 ks else .node k n<|FT ks
def U0:List Tree->Tree
 |[]=>default
 |t::_=>cY t
def FT:List Tree->List Tree
 |[]=>[]
 |t::r=>cY t::FT r
end
theorem Wx:∀l,FT l=l.map cY
 |[]=>by simp only[FT,jc]
 |t::r=>by simp only[FT,fR,Wx r]
theorem KI(t:Tree)(hw:t.kind=10\/t.kind=11->0<t.width):cY t=if t.kind=10 then cW 8 (cx 1 0)<|cY<|t.aD 0 else if t.kind=11 then cW 9 (cx 2 0)<|cY<|t.aD 0 else .node t.kind t.num<|t.kids.map cY:=by
 cases t with
 |node k n ks =>
  rw[cY,Wx];rw[show(Tree.node k n ks).kind=k from rfl] at hw⊢;by_cases h:k=10
  ·rw[ae h,ae h]
   cases ks with
   |nil=>exact absurd (hw (.inl h))<|by simp[Tree.width,Tree.kids]
   |cons a r=>rfl
  rw[ab h,ab h];by_cases h':k=11
  ·rw[ae h',ae h']
   cases ks with
   |nil=>exact absurd (hw (.inr h'))<|by simp[Tree.width,Tree.kids]
   |cons a r=>rfl
  rw[ab h',ab h'];rfl
variable{k n:Int}{ks:List Tree}
theorem L3(h:¬eY bw (.node k n ks))(hk:∀u∈ks,u.wf bw):(Tree.node k n ks).wf bw:=(jD _ _).2 ⟨h,hk⟩
variable{t:Tree}
theorem zA2{f:Tree->Tree}(hw:t.wf bw)(hk:bw k=bw t.kind)(h3:k≠3->n=0)(hn:0<=n/\n<=63)(hf:∀j,j<t.width->(f<|t.aD j).wf bw):(Tree.node k n<|t.kids.map f).wf bw:=by
 have h0:=((jD _ _).1 hw).1;refine L3 ?_ λu hu=>?_
 ·unfold eY at *;have e1:(Tree.node k n<|t.kids.map f).kind=k:=rfl;have e2:(Tree.node k n<|t.kids.map f).num=n:=rfl;have e3:(Tree.node k n<|t.kids.map f).width=t.width:=by simp[Tree.width,Tree.kids]
  grind
 obtain⟨v,hv,rfl⟩:=dq.1 hu;obtain⟨i,hi,rfl⟩:=iD.1 hv;have:=hf i hi;rwa [Tree.oJ hi] at this
theorem O2(hw:t.wf bw):0<=t.num/\t.num<=63/\(t.kind≠3->t.num=0):=by
 have h0:=((jD _ _).1 hw).1;unfold eY at h0;omega
theorem Zs(h:k=1\/k=2\/k=3)(hn:0<=n/\n<=63)(h3:k≠3->n=0):(cx k n).wf bw:=L3 (by
 unfold eY;have e1:(Tree.node k n []).kind=k:=rfl;have e2:(Tree.node k n []).num=n:=rfl;have e3:(Tree.node k n []).width=0:=rfl;rw[e1,e2,e3];rcases h with rfl|rfl|rfl<;>simp[bw]<;>omega) zs
theorem VK{a b:Tree}(h:k=5\/k=6\/k=8\/k=9)(ha:a.wf bw)(hb:b.wf bw):(cW k a b).wf bw:=L3 (by
 unfold eY;have e1:(Tree.node k 0 [a,b]).kind=k:=rfl;have e2:(Tree.node k 0 [a,b]).num=0:=rfl;have e3:(Tree.node k 0 [a,b]).width=2:=rfl;rw[e1,e2,e3];rcases h with rfl|rfl|rfl|rfl<;>simp[bw]) (by simpa using ⟨ha,hb⟩)
theorem qO(hw:t.wf bw)(h:t.kind=4\/t.kind=7\/t.kind=10\/t.kind=11):0<t.width:=by
 have:=tT ((jD _ _).1 hw).1;omega
theorem Rr:∀(t:Tree),t.wf bw->(cY t).wf bw:=by
 intro t
 induction t using Tree.ind with
 |h t ih =>
  intro hw;have hn:=O2 hw;rw[KI t λh=>qO hw zo];by_cases fh:t.kind=10
  ·rw[ae fh];have h0:=qO hw zo;exact VK zo (Zs zo zo zo)<|ih 0 h0<|gB hw h0
  rw[ab fh];by_cases ny:t.kind=11
  ·rw[ae ny];have h0:=qO hw zo;exact VK zo (Zs zo zo zo)<|ih 0 h0<|gB hw h0
  rw[ab ny];exact zA2 hw rfl zo zo λj hj=>ih j hj<|gB hw hj
theorem zqn:∀t:Tree,t.wf bw->ao aj 279 [ba t] (ba<|cY t):=by
 intro t
 induction t using Tree.ind with
 |h t ih =>
  intro cy;have hs:=vl t cy;have eJ:=hs.width;have tX:=tT ((jD _ _).1 cy).1;refine bS (fY [39]) ?_;have hE:=KI t λh=>qO cy zo;refine sR ?_
  refine wc (λk:Nat=>[(1,.loc 0 0),(2,.loc 1 0),(3,.loc 2 0),(12,.aM 3<|t.kids.map gF),(13,.sc (.int .i64 (t.kids.map gF).length)),(14,aa k)])
   (λk=>[.row true<|aO t,.row true [aa 0,aa 0,au],.row true [aa t.kind,aa t.num,.own 3 k 0 k],.vec true k 3<|(t.kids.take k).map λu=>aO<|cY u])
   (λk=>k<=t.width) (λk=>t.width-k) 0 zo (kY (gG 2 2 3 zs rfl rfl)<|pN<|by exact⟨rfl,rfl,rfl,rfl,rfl,rfl,trivial⟩) ?_
  rintro k hk;refine sRS (λh1=>?_) λh1=>?_
  ·have ai:k<t.width:=(by simpa [Tree.width] using h1);refine sL (db ai) ?_;refine sC (ih k ai<|gB cy ai) ?_;refine⟨by unfold iF;simp only[dP,vy,s5,dC,fy];omega,?_⟩;refine sW ?_;refine .inl ⟨zW,?_⟩;refine sW ?_
   refine⟨k+1,zo,zd,aL 4 zs rfl ⟨.refl _,zu,.refl _,zu,.refl _,zu,.refl _,by simp only[aK];exact bm _<|Ch t,.refl _,zu,.refl _,zu,trivial⟩
    ⟨⟨rfl,.refl _,bI _<|eU t⟩,⟨rfl,.refl _,zu⟩,⟨rfl,.refl _,zu⟩,⟨rfl,rfl,rfl,aV<|Lc _<|kid_get? ai,bm _<|c6 _ (λu=>eU _) _⟩,trivial⟩⟩
  have ai:k=t.width:=by have:¬k<t.width:=by simpa [Tree.width] using h1
                        omega
  subst ai
  refine bQ (nX (mq 3) (env':=[(1,.loc 0 0),(2,.loc 1 0),(3,.loc 2 0)]) (H':=[.row true<|aO t,.row true [aa 0,aa 0,au],.row true [aa t.kind,aa t.num,.aM 3<|(t.kids.map cY).map gF],.vec false t.width 3<|(t.kids.take t.width).map λu=>aO<|cY u])
   ⟨.refl _,.refl _,.refl _,trivial⟩ ⟨⟨.inl rfl,(λh=>by cases h),.refl _⟩,⟨.inl rfl,(λh=>by cases h),.refl _⟩,⟨.inl rfl,(λh=>by cases h),.cons _ _ _ _ (.refl _) (.cons _ _ _ _ (.refl _) (.cons _ _ _ _ (.own 3 _ _ _ _ _ _ _ rfl rfl (aV<|by rw[dP,fG<|by simp[Tree.width],Tree.width,dM,yD];exact vj λu _=>(wY _).symm)) (.refl _)))⟩,⟨.inr ⟨rfl,rfl⟩,λ_=>rfl,rfl,rfl,.refl _⟩,trivial⟩) ?_
  have k0:0<t.width->((t.kids.map cY).map gF)[0]? = some (aO<|cY<|t.aD 0):=λh=>by
   rw[fx,fx,kid_get? h];simp[wY]
  refine sRS (λfh=>?_) λfh=>?_
  ·have fh:t.kind=10:=(by simpa using fh);rw[ae fh] at hE;refine sC (Wh 1) ?_;refine sL (k0<|qO cy zo) ?_;refine sC (Uv 8 (cx 1 0)<|cY<|t.aD 0) ?_;exact nB hE (.refl _)
  have fh:¬t.kind=10:=(by simpa using fh);rw[ab fh] at hE;refine sS (λny=>?_) λny=>?_
  ·have ny:t.kind=11:=(by simpa using ny);rw[ae ny] at hE;refine sC (Wh 2) ?_;refine sL (k0<|qO cy zo) ?_;refine sC (Uv 9 (cx 2 0)<|cY<|t.aD 0) ?_;exact nB hE (.refl _)
  have ny:¬t.kind=11:=(by simpa using ny);rw[ab ny] at hE;exact nB hE (.refl _)
variable(t:Tree)
theorem zsQ(hs:Small t):ao aj 278 [ba t]<|if aU bw t=0 then .aJ [ba t,aa 0] else .aJ [ba<|cx 0 0,aa<|aU bw t]:=by
 refine dh fZ zs zp ?_ (by split<;>simp[Pure,aA,im]);refine sR ?_;refine sC (BJ t hs) ?_;refine sS (λh=>?_) λh=>?_
 ·have h':aU bw t≠0:=(by simpa using h);rw[ab h'];exact sP
 have h':aU bw t=0:=by simpa using h
 rw[ae h'];exact sP
noncomputable def mN(t u:Tree):Tree×Int:=if aU bw t=0 then if aU bw u=0 then (u,0) else (cx 0 0,aU bw u) else (cx 0 0,aU bw t)
theorem zqJ(hs:Small t):ao aj 208 [ba t] (.aJ [ba (mN t<|cY t).1,.sc (.int .i64 (mN t<|cY t).2)]):=by
 refine bt ?_;refine sC (BJ t hs) ?_;refine sS (λh=>?_) λh=>?_
 ·have h':aU bw t≠0:=(by simpa using h);rw[show mN t (cY t)=(cx 0 0,aU bw t) by rw[mN,ab h']];exact sP
 have h':aU bw t=0:=by simpa using h
 have cy:=((rW _ _).1 h').2.2;refine sC (zqn t cy) ?_;have hT:=zsQ (cY t)<|vl _<|Rr t cy;by_cases h2:aU bw (cY t)=0
 ·rw[ae h2] at hT;rw[show mN t (cY t)=(cY t,0) by rw[mN,ae h',ae h2]];refine sC hT ?_;exact sP
 rw[ab h2] at hT;rw[show mN t (cY t)=(cx 0 0,aU bw<|cY t) by rw[mN,ae h',ab h2]];refine sC hT ?_;exact sP
mutual
def dB:Tree->ah
 | .node k n ks=>(if k=3 then [n] else [])++cp ks
def cp:List Tree->ah
 |[]=>[]
 |t::r=>dB t++cp r
end
mutual
def partsOf:Tree->List Tree
 | .node k n ks=>(if k=7\/k=8\/k=9 then [.node k n ks] else [])++bU ks
def bU:List Tree->List Tree
 |[]=>[]
 |t::r=>partsOf t++bU r
end
theorem Ic:dB t=(if t.kind=3 then [t.num] else [])++cp t.kids:=by cases t;rw[dB];rfl
theorem I0:partsOf t=(if t.kind=7\/t.kind=8\/t.kind=9 then [t] else [])++bU t.kids:=by cases t;rw[partsOf];rfl
theorem C':∀l,cp l=l.flatMap dB
 |[]=>rfl
 |t::r=>by rw[cp,C' r,List.flatMap_cons]
theorem Du:∀l,bU l=l.flatMap partsOf
 |[]=>rfl
 |t::r=>by rw[bU,Du r,List.flatMap_cons]
variable{t:Tree}{k:Nat}
theorem Yj(h:k<t.width):t.kids.take (k+1)=t.kids.take k++[t.aD k]:=by
 rw[jP,kid_get? h];rfl
theorem RS(h:k<t.width):cp (t.kids.take<|k+1)=cp (t.kids.take k)++dB (t.aD k):=by
 rw[Yj h,C',C',List.flatMap_append];simp
theorem Vu(h:k<t.width):bU (t.kids.take<|k+1)=bU (t.kids.take k)++partsOf (t.aD k):=by
 rw[Yj h,Du,Du,List.flatMap_append];simp
def gH(A:ah)(xs:ah):ah:=xs.foldl (λA x=>if A.contains x=true then A else A++[x]) A
noncomputable def b6(P:List Tree)(xs:List Tree):List Tree:=xs.foldl (λP f=>if P.any (dI f)=true then P else P++[f]) P
variable(A:ah)
theorem qX(A x y:ah):gH A (x++y)=gH (gH A x) y:=List.foldl_append
variable(P:List Tree)
theorem jN(P x y:List Tree):b6 P (x++y)=b6 (b6 P x) y:=List.foldl_append
theorem FP(x:Int):gH A [x]=if A.contains x=true then A else A++[x]:=rfl
theorem rG(x:Tree):b6 P [x]=if P.any (dI x)=true then P else P++[x]:=rfl
variable(xs:ah)
theorem u0:∀A,(gH A xs).length<=A.length+xs.length:=by
 induction xs with
 |nil=>intro A;simp[gH]
 |cons x r ih =>
  intro A;rw[show x::r=[x]++r from rfl,qX,FP];repeat grind
theorem nL(xs:List Tree):∀A,(b6 A xs).length<=A.length+xs.length:=by
 induction xs with
 |nil=>intro A;simp[b6]
 |cons x r ih =>
  intro A;rw[show x::r=[x]++r from rfl,jN,rG];repeat grind
variable{P:List Tree}
theorem RD{x:Tree}:P.any (dI x)↔x∈P:=by
 rw[mJ];constructor
 ·rintro⟨y,hy,h⟩;rw[Cs] at h;exact h▸hy
 exact λh=>⟨x,h,Cs.2 rfl⟩
variable{x:Int}
theorem zv8:∀A,x∈gH A xs↔x∈A\/x∈xs:=by
 induction xs with
 |nil=>intro A;simp[gH]
 |cons y r ih =>
  intro A;rw[show y::r=[y]++r from rfl,qX,FP,ih];repeat grind
theorem Ox{x:Tree}(xs:List Tree):∀A,x∈b6 A xs↔x∈A\/x∈xs:=by
 induction xs with
 |nil=>intro A;simp[b6]
 |cons y r ih =>
  intro A;rw[show y::r=[y]++r from rfl,jN,rG,ih];split
  ·rename_i h;rw[RD] at h;repeat grind
  repeat grind
theorem zq5:∀A,A.Nodup->(gH A xs).Nodup:=by
 induction xs with
 |nil=>intro A h;exact h
 |cons y r ih =>
  intro A h;rw[show y::r=[y]++r from rfl,qX,FP];repeat grind
mutual
theorem Qp:∀t:Tree,(dB t).length<=t.size
 | .node k n ks=>by
  rw[dB,Tree.size,cL];have:=Tm ks;split<;>simp<;>omega
theorem Tm:∀l:List Tree,(cp l).length<=Tree.oB l
 |[]=>by simp[cp]
 |t::r=>by
  rw[cp,Tree.oB,cL];have:=Qp t;have:=Tm r;omega
end
mutual
theorem HI:∀t:Tree,(partsOf t).length<=t.size
 | .node k n ks=>by
  rw[partsOf,Tree.size,cL];have:=Rn ks;split<;>simp<;>omega
theorem Rn:∀l:List Tree,(bU l).length<=Tree.oB l
 |[]=>by simp[bU]
 |t::r=>by
  rw[bU,Tree.oB,cL];have:=HI t;have:=Rn r;omega
end
def mc(k:Int):Int:=if k=10\/k=11 then -1 else bw k
theorem wk:t.wf mc->t.wf bw:=by
 induction t using Tree.ind with
 |h t ih =>
  intro h;rw[jD] at h⊢;refine⟨?_,λu hu=>?_⟩
  ·have h1:=h.1;unfold eY mc at h1;unfold eY;repeat grind
  obtain⟨j,hj,rfl⟩:=iD.1 hu;rw[<-Tree.oJ hj] at *;exact ih j hj<|h.2 _<|by rw[Tree.oJ hj];exact iZ hj
theorem F5(h:t.wf mc):(t.kind=1\/t.kind=2\/t.kind=3)/\t.width=0\/(t.kind=4\/t.kind=7)/\t.width=1\/(t.kind=5\/t.kind=6\/t.kind=8\/t.kind=9)/\t.width=2:=by
 have h1:=((jD _ _).1 h).1;have h2:=tT ((jD _ _).1<|wk h).1;have h3:¬(t.kind=10\/t.kind=11):=λq=>by
  unfold eY mc at h1
  grind
 omega
theorem Im{k:Int}(h:¬eY mc (.node k n ks))(hk:∀u∈ks,u.wf mc):(Tree.node k n ks).wf mc:=(jD _ _).2 ⟨h,hk⟩
theorem Zm:∀(t:Tree),t.wf bw->(cY t).wf mc:=by
 intro t
 induction t using Tree.ind with
 |h t ih =>
  intro hw;have hn:=O2 hw;have tX:=tT ((jD _ _).1 hw).1;have m2:∀{k c:Int} {b:Tree},k=8\/k=9->c=1\/c=2->b.wf mc->(cW k (cx c 0) b).wf mc:=λ{k c b} hk hc hb=>Im (by
   unfold eY;have e1:(Tree.node k 0 [cx c 0,b]).kind=k:=rfl;have e2:(Tree.node k 0 [cx c 0,b]).num=0:=rfl;have e3:(Tree.node k 0 [cx c 0,b]).width=2:=rfl;rw[e1,e2,e3];rcases hk with rfl|rfl<;>simp[mc,bw]) (by
   intro u hu;rw[eQ,cV] at hu;rcases hu with rfl|rfl
   ·refine Im ?_ zs;unfold eY;have e1:(Tree.node c 0 []).kind=c:=rfl;have e2:(Tree.node c 0 []).num=0:=rfl;have e3:(Tree.node c 0 []).width=0:=rfl;rw[e1,e2,e3];rcases hc with rfl|rfl<;>simp[mc,bw]
   exact hb)
  rw[KI t λh=>qO hw zo];by_cases fh:t.kind=10
  ·rw[ae fh];have h0:=qO hw zo;exact m2 zo zo<|ih 0 h0<|gB hw h0
  rw[ab fh];by_cases ny:t.kind=11
  ·rw[ae ny];have h0:=qO hw zo;exact m2 zo zo<|ih 0 h0<|gB hw h0
  rw[ab ny];refine Im ?_ λu hu=>?_
  ·unfold eY mc;have e1:(Tree.node t.kind t.num<|t.kids.map cY).kind=t.kind:=rfl;have e2:(Tree.node t.kind t.num<|t.kids.map cY).num=t.num:=rfl;have e3:(Tree.node t.kind t.num<|t.kids.map cY).width=t.width:=aI ..;rw[e1,e2,e3,ab zo];exact((jD _ _).1 hw).1
  obtain⟨v,hv,rfl⟩:=dq.1 hu;obtain⟨j,hj,rfl⟩:=iD.1 hv;rw[<-Tree.oJ hj];exact ih j hj<|gB hw hj
def uc(k:Int)(c:Bool)(h:List Bool):Bool :=
 if k=1 then true else if k=2 then false else if k=4 then !(h.getD 0 false) else if k=5 then h.getD 0 false&&h.getD 1 false else if k=6 then h.getD 0 false||h.getD 1 false
 else if k=8 then h.getD 1 false||(h.getD 0 false&&c) else if k=9 then h.getD 1 false&&(h.getD 0 false||c) else c
mutual
def dQ(c:Tree->Bool):Tree->Bool
 | .node k n ks=>uc k (c (.node k n ks))<|IV c ks
def IV(c:Tree->Bool):List Tree->List Bool
 |[]=>[]
 |t::r=>dQ c t::IV c r
end
theorem R6(c:Tree->Bool):∀l,IV c l=l.map (dQ c)
 |[]=>rfl
 |t::r=>by rw[IV,R6 c r,fR]
variable(c:Tree->Bool)
theorem WB(t:Tree):dQ c t=uc t.kind (c t) (t.kids.map<|dQ c):=by cases t;rw[dQ,R6];rfl
variable{j:Nat}
theorem Vv(h:j<t.width):(t.kids.map<|dQ c).getD j false=dQ c (t.aD j):=by
 rw[a8,fx,kid_get? h];rfl
noncomputable def uL(A:ah)(P:List Tree)(g:Tree):Nat:=if g.kind=3 then (dN (λa=>g.num==a) A).toNat else A.length+(dN (dI g) P).toNat
noncomputable def dE(A:ah)(P:List Tree)(s:Nat)(g:Tree):Bool:=s.testBit<|uL A P g
def Told(A:ah)(P:List Tree)(t:Tree):Prop:=(∀x∈dB t,x∈A)/\∀f∈partsOf t,f∈P
variable{l:List Tree}
theorem zpL(h:t∈l)(hx:x∈dB t):x∈cp l:=by
 rw[C'];exact List.mem_flatMap.2 ⟨t,h,hx⟩
theorem zqv{x:Tree}(h:t∈l)(hx:x∈partsOf t):x∈bU l:=by
 rw[Du];exact List.mem_flatMap.2 ⟨t,h,hx⟩
theorem X5(h:j<t.width):t.aD j∈t.kids:=by rw[Tree.oJ h];exact iZ h
theorem Told.aD{A:ah}{P:List Tree}{t:Tree}(h:Told A P t){j:Nat}(hj:j<t.width):Told A P (t.aD j) :=
 ⟨λx hx=>h.1 x<|by rw[Ic];exact zy _<|zpL (X5 hj) hx,λx hx=>h.2 x<|by rw[I0];exact zy _<|zqv (X5 hj) hx⟩
theorem Told.atom{A:ah}(h:Told A P t)(h3:t.kind=3):t.num∈A:=h.1 _<|by rw[Ic,ae h3];simp
theorem Told.part{A:ah}(h:Told A P t)(h3:t.kind=7\/t.kind=8\/t.kind=9):t∈P:=h.2 _<|by rw[I0,ae h3];simp
mutual
theorem SQ:∀(t:Tree),∀f∈partsOf t,(∀x∈dB f,x∈dB t)/\(∀g∈partsOf f,g∈partsOf t)
 | .node k n ks=>λf hf=>by
  rw[partsOf,dz] at hf;rcases hf with hf|hf
  ·split at hf
   ·rw[cV] at hf;subst hf;exact⟨λx h=>h,λx h=>h⟩
   cases hf
  obtain⟨h1,h2⟩:=TS ks f hf;exact⟨λx hx=>by rw[dB];exact zy _<|h1 x hx,λx hx=>by rw[partsOf];exact zy _<|h2 x hx⟩
theorem TS:∀(l:List Tree),∀f∈bU l,(∀x∈dB f,x∈cp l)/\(∀g∈partsOf f,g∈bU l)
 |[]=>λf hf=>by cases hf
 |t::r=>λf hf=>by
  rw[bU,dz] at hf;rcases hf with hf|hf
  ·obtain⟨h1,h2⟩:=SQ t f hf;exact⟨λx hx=>by rw[cp];exact Fh _<|h1 x hx,λx hx=>by rw[bU];exact Fh _<|h2 x hx⟩
  obtain⟨h1,h2⟩:=TS r f hf;exact⟨λx hx=>by rw[cp];exact zy _<|h1 x hx,λx hx=>by rw[bU];exact zy _<|h2 x hx⟩
end
mutual
theorem TI(kd:Int->Int):∀(t:Tree),t.wf kd->∀f∈partsOf t,f.wf kd/\(f.kind=7\/f.kind=8\/f.kind=9)
 | .node k n ks=>λhw f hf=>by
  rw[partsOf,dz] at hf;rcases hf with hf|hf
  ·split at hf
   ·rename_i h;rw[cV] at hf;subst hf;exact⟨hw,h⟩
   cases hf
  exact WQ kd ks (λu hu=>((jD _ _).1 hw).2 u hu) f hf
theorem WQ(kd:Int->Int):∀(l:List Tree),(∀u∈l,u.wf kd)->∀f∈bU l,f.wf kd/\(f.kind=7\/f.kind=8\/f.kind=9)
 |[]=>λ_ f hf=>by cases hf
 |t::r=>λhw f hf=>by
  rw[bU,dz] at hf;rcases hf with hf|hf
  ·exact TI kd t (hw t zs) f hf
  exact WQ kd r (λu hu=>hw u<|by simp[hu]) f hf
end
mutual
theorem Fm:∀(t:Tree),t.wf bw->∀x∈dB t,0<=x/\x<=63
 | .node k n ks=>λhw x hx=>by
  rw[dB,dz] at hx;rcases hx with hx|hx
  ·split at hx
   ·rw[cV] at hx;subst hx;have:=O2 hw;exact⟨this.1,this.2.1⟩
   cases hx
  exact TY ks (λu hu=>((jD _ _).1 hw).2 u hu) x hx
theorem TY:∀(l:List Tree),(∀u∈l,u.wf bw)->∀x∈cp l,0<=x/\x<=63
 |[]=>λ_ f hf=>by cases hf
 |t::r=>λhw f hf=>by
  rw[cp,dz] at hf;rcases hf with hf|hf
  ·exact Fm t (hw t zs) f hf
  exact TY r (λu hu=>hw u<|by simp[hu]) f hf
end
variable(s:Nat)
theorem Sl(s k:Nat)(hk:k<=63):(s:Int).fdiv (2^min ((k:Int)).toNat 64)=((s/2^k:Nat):Int):=by
 grind
theorem zvW(n:Nat):kh .and .i64 (n:Int) 1=((n%2:Nat):Int):=by
 have e:(BitVec.ofInt 64 (n:Int) &&& BitVec.ofInt 64 1).toNat=n%2:=by
  grind
 show IntKind.i64.wrap ((BitVec.ofInt 64 (n:Int) &&& BitVec.ofInt 64 1).toNat:Int)=_;rw[e,po];omega
theorem Z4(s k:Nat):s.testBit k=(((s/2^k%2:Nat):Int)==1):=by
 grind
theorem Ly(s k:Nat)(hk:k<=63):(kh .and .i64 ((s:Int).fdiv<|2^min ((k:Int)).toNat 64) 1==1)=s.testBit k:=by
 rw[Sl s k hk,zvW,Z4]
theorem G4(s k:Nat)(hk:k<=63):(((s:Int).fdiv<|2^min ((k:Int)).toNat 64).tmod 2==1)=s.testBit k:=by
 grind
theorem zBZ(a i:Nat)(h:a<2^i)(hi:i<=40):kh .or .i64 (a:Int) ((2^i:Nat):Int)=((a+2^i:Nat):Int):=by
 have hp:2^i<=2^40:=Bq zo hi;have h40:(2:Nat)^40=1099511627776:=zc;have e:(BitVec.ofInt 64 (a:Int) ||| BitVec.ofInt 64 ((2^i:Nat):Int)).toNat=a+2^i:=by
  rw[BitVec.toNat_or];have e1:(BitVec.ofInt 64 (a:Int)).toNat=a:=(by grind);have e2:(BitVec.ofInt 64 ((2^i:Nat):Int)).toNat=2^i:=by
   generalize 2^i=z at *
   grind
  have:=Nat.two_pow_add_eq_or_of_lt h 1
  grind
 show IntKind.i64.wrap ((BitVec.ofInt 64 (a:Int) ||| BitVec.ofInt 64 ((2^i:Nat):Int)).toNat:Int)=_;rw[e,po];omega
def rN(h:aq):Nat->Nat
 |0=>0
 |i+1=>if h i=true then rN h i+2^i else rN h i
theorem FH(h:aq):∀n,rN h n<2^n
 |0=>by rw[rN];exact Nat.one_pos
 |n+1=>by
  have:=FH h n;rw[rN,Nat.pow_succ];split<;>omega
theorem MX(h:aq):∀n i,i<n->(rN h n).testBit i=h i
 |0,i,hi=>zo
 |n+1,i,hi=>by
  have hl:=FH h n;rw[rN];by_cases e:i=n
  ·subst e;cases q:h i
   ·rw[ab zc];exact Nat.testBit_lt_two_pow hl
   rw[ae rfl,Nat.add_comm];rw[Nat.testBit_two_pow_add_eq,Nat.testBit_lt_two_pow hl];rfl
  have:=MX h n i zo;split
  ·rw[Nat.add_comm,Nat.testBit_two_pow_add_gt zo];exact this
  exact this
def uA(g:Tree):Tree:=if g.kind=7 then g.aD 0 else g
noncomputable def hK(A:ah)(P:List Tree)(s i:Nat):Bool:=dQ (dE A P s)<|uA<|P.getD i default
noncomputable def rJ(A:ah)(P:List Tree)(s:Nat):Nat:=rN (hK A P s) P.length
theorem zwA(P:List Tree)(s t:Nat)(hs:s<2^(A.length+P.length)):(rJ A P t==s/2^A.length)=(List.range P.length).all λi=>hK A P t i==s.testBit (A.length+i):=by
 rw[j9,ib,kb];have hd:s/2^A.length<2^P.length:=by
  rw[Nat.div_lt_iff_lt_mul<|Nat.two_pow_pos _,Cf,<-Nat.pow_add];exact hs
 constructor
 ·intro h i hi;have hi:=jz.1 hi;rw[ib,<-MX (hK A P t) P.length i hi];have:rN (hK A P t) P.length=s/2^A.length:=h
  grind
 intro h;apply Nat.eq_of_testBit_eq;intro i;by_cases hi:i<P.length
 ·have:=h i<|jz.2 hi;rw[ib] at this;rw[show(rJ A P t).testBit i=hK A P t i from MX _ _ i hi,this,Nat.testBit_div_two_pow,Nat.add_comm]
 have hle:2^P.length<=2^i:=Bq zo zo;exact(Nat.testBit_lt_two_pow<|yV (FH (hK A P t) P.length) hle).trans (Nat.testBit_lt_two_pow<|yV hd hle).symm
def kQ(A:ah)(s:Nat)(is:Bool):Nat->Int
 |0=>0
 |i+1=>if (s.testBit i==is)=true then kh .or .u64 (kQ A s is i)<|2^(A.getD i 0).toNat else kQ A s is i
def fb(p:aq)(k:Nat):ah:=((List.range k).filter p).map λi:Nat=>(i:Int)
variable(p:aq)
theorem AG(k:Nat):fb p (k+1)=if p k=true then fb p k++[(k:Int)] else fb p k:=by
 unfold fb;rw[qf,Gc,oD]
 grind
theorem sb(k:Nat):(fb p k).length<=k:=by
 unfold fb
 grind
noncomputable def gO(A:ah)(P:List Tree)(g:Tree)(s:Nat):Bool :=
 if g.kind=8 then !(dQ (dE A P s) g)||dQ (dE A P s) (g.aD 1) else dQ (dE A P s) g||!(dQ (dE A P s)<|g.aD 1)
noncomputable def Ac(A:ah)(P:List Tree)(n:Nat)(g:Tree):ah:=fb (gO A P g)<|2^n
noncomputable def nU(A:ah)(P:List Tree)(n k:Nat):ak:=((P.take k).filter λg=>g.kind != 7).map<|Ac A P n
theorem Wu(P:List Tree)(n:Nat)(h:k<P.length):nU A P n (k+1)=if (P.getD k default).kind=7 then nU A P n k else nU A P n k++[Ac A P n<|P.getD k default]:=by
 unfold nU;rw[jP,aX h,Option.toList_some,Gc,oD,a8,aX h];repeat grind
theorem Jl(P:List Tree)(n k:Nat):(nU A P n k).length<=k:=by
 unfold nU
 grind
noncomputable def wC(A:ah)(P:List Tree)(n s:Nat):ah:=fb (λt=>rJ A P t==s/2^A.length)<|2^n
noncomputable def mY(A:ah)(P:List Tree)(f:Tree):bT :=
 ⟨fb (λs=>dQ (dE A P s) f)<|2^(A.length+P.length),(List.range<|2^(A.length+P.length)).map<|wC A P<|A.length+P.length,
  (List.range<|2^(A.length+P.length)).map λs=>kQ A s true A.length,(List.range<|2^(A.length+P.length)).map λs=>kQ A s false A.length,nU A P (A.length+P.length) P.length⟩
def nQ(xs:ah):ah:=fb (λn=>xs.contains (n:Int)) 64
noncomputable def zZ(f:Tree):D :=
 let A:=nQ<|dB f
 let P:=b6 []<|partsOf f
 if 10<A.length+P.length then .aJ [mi ⟨[],[],[],[],[]⟩,aa 2] else .aJ [mi<|mY A P f,aa 0]
theorem OW{xs:ah}(h:∀x∈xs,0<=x/\x<=63):x∈nQ xs↔x∈xs:=by
 unfold nQ fb;simp only[dq,zg,jz,u7];constructor
 ·rintro⟨n,⟨_,h2⟩,rfl⟩;exact h2
 intro hx;have:=h x hx;exact⟨x.toNat,⟨zo,by rw[show((x.toNat:Nat):Int)=x by omega];exact hx⟩,zo⟩
variable{f:Tree}
theorem O0(hw:f.wf bw):Told (nQ<|dB f) (b6 []<|partsOf f) f :=
 ⟨λx hx=>(OW<|Fm f hw).2 hx,λx hx=>(Ox _ _).2 (.inr hx)⟩
variable{g:Tree}
theorem zs1(hw:f.wf bw)(hg:g∈b6 [] (partsOf f)):Told (nQ<|dB f) (b6 []<|partsOf f) g:=by
 have hg:g∈partsOf f:=((Ox _ _).1 hg).resolve_left zs;obtain⟨h1,h2⟩:=SQ f g hg;have h:=O0 hw;exact⟨λx hx=>h.1 x<|h1 x hx,λx hx=>h.2 x<|h2 x hx⟩
theorem zua:∀a b:Tree,Small a->ao aj 318 [ba a,ba b] (ay<|dI a b):=by
 intro a
 induction a using Tree.ind with
 |h a ih =>
  intro b hs;refine bt ?_;have no:a.kind≠b.kind\/a.num≠b.num\/a.kids.length≠b.kids.length->false=dI a b:=λh=>Dc (by rintro rfl;simp at h);refine sS (λh1=>?_) λh1=>?_
  ·exact cf<|bH (λx=>ay x)<|no (.inl<|by simpa using h1)
  refine sS (λh2=>?_) λh2=>?_
  ·exact cf<|bH (λx=>ay x)<|no (.inr (.inl<|by simpa using h2))
  refine sS (λh3=>?_) λh3=>?_
  ·exact cf<|bH (λx=>ay x)<|no (.inr (.inr<|by simp at h3;omega))
  simp at h1 h2 h3;have eJ:=hs.width
  refine A5 (λk:Nat=>[(2,.loc 0 0),(3,.loc 1 0),(29,.sc (.int .i64 (a.kids.map gF).length)),(30,aa k)]) (λ_=>[.row true<|aO a,.row true<|aO b])
   (λk=>k<=a.width/\∀j,j<k->a.aD j=b.aD j) (λk=>a.width-k) 0 ⟨zo,λj h=>zo⟩ (rK ⟨rfl,rfl,rfl,rfl,trivial⟩) ?_
  rintro k ⟨hk,bR⟩;refine sRS (λh4=>?_) λh4=>?_
  ·have ai:k<a.width:=(by simpa [Tree.width] using h4);refine sL (db ai) ?_;refine sL (db (t:=b)<|by unfold Tree.width at *;omega) ?_;refine sC (ih k ai (b.aD k)<|hs.aD ai) ?_;refine sS (λh5=>?_) λh5=>?_
   ·exact cf<|bH (λx=>ay x)<|Dc<|by rintro rfl;simp[dI] at h5
   simp[Cs] at h5;refine .inl ⟨zW,?_⟩;refine sW ?_;refine⟨k+1,⟨zo,λj hj=>?_⟩,zd,rK ⟨rfl,rfl,rfl,rfl,trivial⟩⟩;by_cases e:j=k
   ·subst e;exact h5
   exact bR j zo
  have ai:¬k<a.width:=(by simpa [Tree.width] using h4);exact cf<|bH (λx=>ay x)<|Pb<|Tree.Pt h1 h2 (by unfold Tree.width;omega) λj hj=>bR j zo
variable{n:Nat}{H:aE}
theorem vd{l:fc}(h:l.length<=n):oy H (List.drop 0<|List.take n l) l:=by rw[cB h];exact gw _
def b8(P:List Tree):fc:=P.map aO
variable(P:List Tree)
@[simp] theorem qZ:(b8 P).length=P.length:=aI ..
@[simp] theorem fO:dF<|b8 P:=c6 _ (λt=>eU t) _
variable{m:Nat}
@[simp] theorem zx8:bB m (b8 P)↔True:=⟨λ_=>trivial,λ_=>bm _<|fO P⟩
variable{z:Nat}
theorem zR{P:List Tree}(hz:z=k)(h:k<P.length):(b8 P)[z]? = some (aO<|P.getD k default):=by
 subst hz;unfold b8;rw[fx,aX h,a8,aX h];rfl
theorem Bo(z:bj):(List.drop 0 (List.take P.length<|b8 P)++List.drop 0 (List.take 1 [z]))[0+((P.length-0:Nat):Int).toNat]? = some z:=by
 rw[cB zs,jF zs];simp
theorem BI(t:Tree)(z:bj):(List.drop 0 (List.take P.length<|b8 P)++List.drop 0 (List.take 1 [z])).set (0+((P.length-0:Nat):Int).toNat) [aa t.kind,aa t.num,.aM 3<|t.kids.map gF]=b8 (P++[t]):=by
 rw[cB zs,List.set_append_right _ _ zs];simp[b8,aO]
def mR(A:ah)(P:List Tree):D:=.ax [aF A,.aM 3<|b8 P]
@[simp] theorem zul(P:List Tree):Pure<|mR A P:=by simp[mR,Pure,aA,cX,fO]
def da(A:ah)(P:List Tree):aE:=[.row true [.own 1 A.length 0 A.length,.own 2 P.length 0 P.length],.vec true A.length 1<|aw A,.vec true P.length 3<|b8 P]
variable{P:List Tree}
theorem wi{A:ah}(hm:3<=m):∀o∈da A P,o.under m:=by
 intro o ho;simp only[da,eQ,uH,or_false] at ho;rcases ho with rfl|rfl|rfl<;>simp[al.under,aG,aK]<;>omega
theorem wm{A:ah}(hm:3<=m):dX m<|da A P:=by
 have:=wi (A:=A) (P:=P) hm;unfold da at *;exact⟨this _ zs,this _ zs,this _ zs,trivial⟩
variable(l:List Tree)
theorem MN(hl:l.length<=9223372036854775807)(p:Tree->Bool)(cl:FuncId)(cap:bj)(hp:aA cap)(hc:∀a∈l,ao aj cl (ba a::cap)<|ay<|p a) :
  ao aj 170 [.aM 3<|b8 l,.fn (.func cl) [] cap] (aa<|dN p l):=by
 refine dh fZ zs (by simp[aA,Pure,hp,fO]) ?_ zp;refine sR ?_;rw[qZ];have fin:∀{z:Int},z=dN p l->Deep [] (aa z) (aa<|dN p l):=λh=>h▸.refl _;refine bb [0,1,7] (λk:Nat=>[(8,aa k)]) (λ_=>[]) (λk=>k<=l.length/\∀j (hj:j<k) (hl:j<l.length),p l[j]=false) (λk=>l.length-k) 0 ?_;refine sW ?_;refine⟨⟨zo,λj hj=>zo⟩,by exact sK,rfl,?_⟩;rintro k ⟨hk,cg⟩;refine bf (λh=>?_) λh=>?_
 ·have ai:k<l.length:=sO;refine⟨zo,aO l[k],by unfold b8;rw[fx,bO,aX ai];rfl,?_⟩;refine sW ?_;refine sC (hc _<|iZ ai) ?_;refine sS (λh2=>?_) λh2=>?_
  ·exact fin (xd ai h2 λj hj=>cg j hj zo).symm
  refine sI ?_;refine⟨k+1,⟨zo,λj hj hl=>?_⟩,zd,aC (by exact sK) rfl⟩;by_cases e:j=k
  ·subst e;exact h2
  exact cg j zo hl
 have ai:¬k<l.length:=sO;exact fin (Av λj hj=>cg j zo hj).symm
theorem Kq(hl:l.length<=9223372036854775807)(p:Tree->Bool)(cl:FuncId)(cap:bj)(hp:aA cap)(hc:∀a∈l,ao aj cl (ba a::cap)<|ay<|p a) :
  ao aj 234 [.aM 3<|b8 l,.fn (.func cl) [] cap] (ay<|l.any p):=by
 refine dh fZ zs (by simp[aA,Pure,hp,fO]) ?_ zp;refine sR ?_;refine sC (MN l hl p cl cap hp hc) ?_;rw[sz];exact .refl _
theorem zvJ(f:Tree)(hf:Small f)(g:Tree):ao aj 317 [ba g,.ax<|aO f]<|ay<|dI f g:=by
 refine bt ?_;refine sC (zua f g hf) ?_;exact .refl _
theorem JG(P:List Tree)(hP:P.length<=1000000)(f:Tree)(hf:Small f):ao aj 281 [mR A P,ba f]<|aa<|dN (dI f) P:=by
 refine bS fZ ?_;unfold mR;refine sR ?_;refine sN (MN P zo (dI f) 317 [.ax<|aO f] zp λa _=>zvJ f hf a) ?_;exact .refl _
theorem zpg(h:k<t.width):(cp<|t.kids.take k).length+(dB<|t.aD k).length<=(cp t.kids).length:=by
 rw[<-cL,<-RS h]
 conv=>rhs;rw[<-List.take_append_drop (k+1) t.kids,C',List.flatMap_append,<-C']
 simp
theorem zm6(h:k<t.width):(bU<|t.kids.take k).length+(partsOf<|t.aD k).length<=(bU t.kids).length:=by
 rw[<-cL,<-Vu h]
 conv=>rhs;rw[<-List.take_append_drop (k+1) t.kids,Du,List.flatMap_append,<-Du]
 simp
theorem pt(h:k<t.width):cp (t.kids.take<|k+1)=cp (t.kids.take k)++dB (t.aD k)/\bU (t.kids.take<|k+1)=bU (t.kids.take k)++partsOf (t.aD k)/\(cp<|t.kids.take k).length+(dB<|t.aD k).length<=(cp t.kids).length/\(bU<|t.kids.take k).length+(partsOf<|t.aD k).length<=(bU t.kids).length :=
 ⟨RS h,Vu h,zpg h,zm6 h⟩
def zCQ(t:Tree):Prop:=∀(A:ah) (P:List Tree),A.length+(dB t).length<=1000->P.length+(partsOf t).length<=1000 ->
  bZ aj 209 [.loc 0 0,ba t] (da A P) (.aJ []) (da (gH A<|dB t)<|b6 P<|partsOf t)
theorem zuc:∀t:Tree,t.wf bw->zCQ t:=by
 intro t
 induction t using Tree.ind with
 |h t ih =>
  intro cy A P hA hP;have hs:=vl t cy;have eJ:=hs.width;have tX:=tT ((jD _ _).1 cy).1;refine oQ fZ zs (by simp[da]) ?_ trivial;have eA:=Ic t;have eP:=I0 t;have GR:=u0 (dB t) A;unfold da;refine sRS (λk3=>?_) λk3=>?_
  ·have k3:t.kind=3:=(by simpa using k3);rw[ae k3] at eA;rw[ab zo] at eP;rw[eA,cL,lb] at hA;refine sN (zlQ A zo t.num) ?_;cases r:A.contains t.num
   ·have sh:gH A [t.num]=A++[t.num]:=(by rw[FP,ab<|by rw[r];decide]);refine sWJ ?_;refine bQ (aL 5 (env':=[(0,.loc 0 0),(49,.aM 3<|t.kids.map gF),(50,.sc (.int .i64 (t.kids.map gF).length)),(51,aa 0)]) (H':=[.row true [.own 1 (A.length+1) 0<|A.length+1,.own 2 P.length 0 P.length],.vec true (A.length+1) 1<|aw<|A++[t.num],.vec true P.length 3<|b8 P,.row true<|aO t,.vec true 0 1 [[aa t.num]]]) zs rfl ?_ ?_) ?_
    ·(repeat' (first|exact trivial|exact rfl|exact .refl _|refine And.intro ?_ ?_|(simp[aK,aG,bB,-List.map_take,-List.map_drop];done)))
     all_goals first|exact bm _ (Ch t)|skip
    ·(repeat' (first|exact trivial|exact rfl|exact .refl _|refine And.intro ?_ ?_|(simp[aK,aG,bB,-List.map_take,-List.map_drop];done)))
     all_goals first|exact bI _ (eU _)|exact aV (kC _ _)|skip
    rw[show A.length+1=(A++[t.num]).length by simp,<-sh];have iL:P=b6 P []:=rfl;have lA1:(gH A [t.num]).length<=A.length+1:=(by rw[sh];simp);have lP1:P.length<=P.length:=aS _;have lA:A.length+1+(cp t.kids).length<=1000:=zo;have lP:P.length+(bU t.kids).length<=1000:=(by rw[eP,nG] at hP;exact hP);rw[eA,eP,qX,nG];generalize gH A [t.num]=A1 at *;refine cq [0,49,50] (λk:Nat=>[(51,aa k)]) (λk=>da (gH A1<|cp<|t.kids.take k) (b6 P<|bU<|t.kids.take k)++[.row true<|aO t,.vec true 0 1 [[aa t.num]]]) (λk=>k<=t.width) (λk=>t.width-k) 0 ?_;refine dd ?_;rintro k hk;have lak:=u0 (cp<|t.kids.take k) A1;have lpk:=nL (bU<|t.kids.take k) P;unfold da;refine bf (λq0=>?_) λq0=>?_
    ·have q0:k<t.width:=(by simpa [Tree.width] using q0);refine sL (db q0) ?_;obtain⟨eA2,eP2,tA,tP⟩:=pt q0;have hG:=nk (ih k q0 (gB cy q0) (gH A1<|cp<|t.kids.take k) (b6 P<|bU<|t.kids.take k) zo zo) [.row true<|aO t,.vec true 0 1 [[aa t.num]],.row true<|aO<|t.aD k] (by simp[da]) (by simp[da,aG,aK,bz _<|im _])<|wm (by simp[da]);rw[<-qX,<-jN,<-eA2,<-eP2] at hG;unfold da at hG;refine sA hG ?_;refine sI ?_;refine⟨k+1,zo,zd,?_⟩;dsimp only;exact aL 5 zs rfl sG sG
    have q0:k=t.width:=(by have:¬k<t.width:=(by simpa [Tree.width] using q0);omega);subst q0;rw[show t.kids.take t.width=t.kids from dM];exact⟨.refl _,lB _ _<|wi<|aS _⟩
   have sh:gH A [t.num]=A:=(by rw[FP,ae r]);refine sW ?_;have lA1:A.length<=A.length:=aS _;have lP1:P.length<=P.length:=aS _;have lA:A.length+(cp t.kids).length<=1000:=zo;have lP:P.length+(bU t.kids).length<=1000:=(by rw[eP,nG] at hP;exact hP);rw[eA,eP,qX,nG,sh];refine cq [0,49,50] (λk:Nat=>[(51,aa k)]) (λk=>da (gH A<|cp<|t.kids.take k) (b6 P<|bU<|t.kids.take k)++[.row true<|aO t]) (λk=>k<=t.width) (λk=>t.width-k) 0 ?_;refine dd ?_;rintro k hk;have lak:=u0 (cp<|t.kids.take k) A;have lpk:=nL (bU<|t.kids.take k) P;unfold da;refine bf (λq0=>?_) λq0=>?_
   ·have q0:k<t.width:=(by simpa [Tree.width] using q0);refine sL (db q0) ?_;obtain⟨eA2,eP2,tA,tP⟩:=pt q0;have hG:=nk (ih k q0 (gB cy q0) (gH A<|cp<|t.kids.take k) (b6 P<|bU<|t.kids.take k) zo zo) [.row true<|aO t,.row true<|aO<|t.aD k] (by simp[da]) (by simp[da,aG,aK,bz _<|im _])<|wm (by simp[da]);rw[<-qX,<-jN,<-eA2,<-eP2] at hG;unfold da at hG;refine sA hG ?_;refine sI ?_;refine⟨k+1,zo,zd,?_⟩;dsimp only;exact aL 4 zs rfl sG sG
   have q0:k=t.width:=(by have:¬k<t.width:=(by simpa [Tree.width] using q0);omega);subst q0;rw[show t.kids.take t.width=t.kids from dM];exact⟨.refl _,lB _ _<|wi<|aS _⟩
  have k3:¬t.kind=3:=(by simpa using k3);rw[ab k3,nG] at eA;rw[eA] at hA;have arm:(t.kind=7\/t.kind=8\/t.kind=9)->t.kind=7\/t.kind=8\/t.kind=9:=id;have lA1:A.length<=A.length:=aS _;have lP1:P.length<=P.length:=aS _;refine sS (λk7=>?_) λk7=>?_
  ·have k7:t.kind=7\/t.kind=8\/t.kind=9:=.inl (by simpa using k7);rw[ae k7] at eP;rw[eP,cL,lb] at hP;refine sN (JG A P zo t hs) ?_;have we:=sz (dI t) P;cases r:P.any (dI t)
   ·have cG:(dN (dI t) P<0):=(by rw[r,Bt] at we;omega);have iL:b6 P [t]=P++[t]:=(by rw[rG,ab<|by rw[r];decide]);rw[gQ cG];refine sWJ ?_;refine sB ?_;refine⟨_,Bo P _,?_⟩;refine sW ?_;refine bQ (aL 5 (env':=[(0,.loc 0 0),(49,.aM 3<|t.kids.map gF),(50,.sc (.int .i64 (t.kids.map gF).length)),(51,aa 0)]) (H':=[.row true [.own 1 A.length 0 A.length,.own 2 (P.length+1) 0<|P.length+1],.vec true A.length 1<|aw A,.vec true (P.length+1) 3<|b8<|P++[t],.row true<|aO t,.vec true 0 3 [[aa 0,aa 0,au]]]) zs rfl ?_ ?_) ?_
    ·(repeat' (first|exact trivial|exact rfl|exact .refl _|refine And.intro ?_ ?_|(simp[aK,aG,bB,-List.map_take,-List.map_drop];done)))
     all_goals first|exact bm _ (Ch t)|skip
    ·(repeat' (first|exact trivial|exact rfl|exact .refl _|refine And.intro ?_ ?_|(simp[aK,aG,bB,-List.map_take,-List.map_drop];done)))
     all_goals first|exact bI _ (eU _)|exact aV (BI P t _)|skip
    rw[show P.length+1=(P++[t]).length by simp,<-iL];have Zu:(b6 P [t]).length<=P.length+1:=(by rw[iL];simp);have lA:A.length+(cp t.kids).length<=1000:=hA;have lP:P.length+1+(bU t.kids).length<=1000:=zo;rw[eA,eP,jN];generalize b6 P [t]=P1 at *;refine cq [0,49,50] (λk:Nat=>[(51,aa k)]) (λk=>da (gH A<|cp<|t.kids.take k) (b6 P1<|bU<|t.kids.take k)++[.row true<|aO t,.vec true 0 3 [[aa 0,aa 0,au]]]) (λk=>k<=t.width) (λk=>t.width-k) 0 ?_;refine dd ?_;rintro k hk;have lak:=u0 (cp<|t.kids.take k) A;have lpk:=nL (bU<|t.kids.take k) P1;unfold da;refine bf (λq0=>?_) λq0=>?_
    ·have q0:k<t.width:=(by simpa [Tree.width] using q0);refine sL (db q0) ?_;obtain⟨eA2,eP2,tA,tP⟩:=pt q0;have hG:=nk (ih k q0 (gB cy q0) (gH A<|cp<|t.kids.take k) (b6 P1<|bU<|t.kids.take k) zo zo) [.row true<|aO t,.vec true 0 3 [[aa 0,aa 0,au]],.row true<|aO<|t.aD k] (by simp[da]) (by simp[da,aG,aK,bz _<|im _])<|wm (by simp[da]);rw[<-qX,<-jN,<-eA2,<-eP2] at hG;unfold da at hG;refine sA hG ?_;refine sI ?_;refine⟨k+1,zo,zd,?_⟩;dsimp only;exact aL 5 zs rfl sG sG
    have q0:k=t.width:=(by have:¬k<t.width:=(by simpa [Tree.width] using q0);omega);subst q0;rw[show t.kids.take t.width=t.kids from dM];exact⟨.refl _,lB _ _<|wi<|aS _⟩
   have cG:¬(dN (dI t) P<0):=(by rw[r,ja] at we;omega);have iL:b6 P [t]=P:=(by rw[rG,ae r]);rw[gI cG];refine sW ?_;have lA:A.length+(cp t.kids).length<=1000:=hA;have lP:P.length+(bU t.kids).length<=1000:=zo;rw[eA,eP,jN,iL];refine cq [0,49,50] (λk:Nat=>[(51,aa k)]) (λk=>da (gH A<|cp<|t.kids.take k) (b6 P<|bU<|t.kids.take k)++[.row true<|aO t]) (λk=>k<=t.width) (λk=>t.width-k) 0 ?_;refine dd ?_;rintro k hk;have lak:=u0 (cp<|t.kids.take k) A;have lpk:=nL (bU<|t.kids.take k) P;unfold da;refine bf (λq0=>?_) λq0=>?_
   ·have q0:k<t.width:=(by simpa [Tree.width] using q0);refine sL (db q0) ?_;obtain⟨eA2,eP2,tA,tP⟩:=pt q0;have hG:=nk (ih k q0 (gB cy q0) (gH A<|cp<|t.kids.take k) (b6 P<|bU<|t.kids.take k) zo zo) [.row true<|aO t,.row true<|aO<|t.aD k] (by simp[da]) (by simp[da,aG,aK,bz _<|im _])<|wm (by simp[da]);rw[<-qX,<-jN,<-eA2,<-eP2] at hG;unfold da at hG;refine sA hG ?_;refine sI ?_;refine⟨k+1,zo,zd,?_⟩;dsimp only;exact aL 4 zs rfl sG sG
   have q0:k=t.width:=(by have:¬k<t.width:=(by simpa [Tree.width] using q0);omega);subst q0;rw[show t.kids.take t.width=t.kids from dM];exact⟨.refl _,lB _ _<|wi<|aS _⟩
  refine sS (λk8=>?_) λk8=>?_
  ·have k7:t.kind=7\/t.kind=8\/t.kind=9:=.inr (.inl<|by simpa using k8);rw[ae k7] at eP;rw[eP,cL,lb] at hP;refine sN (JG A P zo t hs) ?_;have we:=sz (dI t) P;cases r:P.any (dI t)
   ·have cG:(dN (dI t) P<0):=(by rw[r,Bt] at we;omega);have iL:b6 P [t]=P++[t]:=(by rw[rG,ab<|by rw[r];decide]);rw[gQ cG];refine sWJ ?_;refine sB ?_;refine⟨_,Bo P _,?_⟩;refine sW ?_;refine bQ (aL 5 (env':=[(0,.loc 0 0),(49,.aM 3<|t.kids.map gF),(50,.sc (.int .i64 (t.kids.map gF).length)),(51,aa 0)]) (H':=[.row true [.own 1 A.length 0 A.length,.own 2 (P.length+1) 0<|P.length+1],.vec true A.length 1<|aw A,.vec true (P.length+1) 3<|b8<|P++[t],.row true<|aO t,.vec true 0 3 [[aa 0,aa 0,au]]]) zs rfl ?_ ?_) ?_
    ·(repeat' (first|exact trivial|exact rfl|exact .refl _|refine And.intro ?_ ?_|(simp[aK,aG,bB,-List.map_take,-List.map_drop];done)))
     all_goals first|exact bm _ (Ch t)|skip
    ·(repeat' (first|exact trivial|exact rfl|exact .refl _|refine And.intro ?_ ?_|(simp[aK,aG,bB,-List.map_take,-List.map_drop];done)))
     all_goals first|exact bI _ (eU _)|exact aV (BI P t _)|skip
    rw[show P.length+1=(P++[t]).length by simp,<-iL];have Zu:(b6 P [t]).length<=P.length+1:=(by rw[iL];simp);have lA:A.length+(cp t.kids).length<=1000:=hA;have lP:P.length+1+(bU t.kids).length<=1000:=zo;rw[eA,eP,jN];generalize b6 P [t]=P1 at *;refine cq [0,49,50] (λk:Nat=>[(51,aa k)]) (λk=>da (gH A<|cp<|t.kids.take k) (b6 P1<|bU<|t.kids.take k)++[.row true<|aO t,.vec true 0 3 [[aa 0,aa 0,au]]]) (λk=>k<=t.width) (λk=>t.width-k) 0 ?_;refine dd ?_;rintro k hk;have lak:=u0 (cp<|t.kids.take k) A;have lpk:=nL (bU<|t.kids.take k) P1;unfold da;refine bf (λq0=>?_) λq0=>?_
    ·have q0:k<t.width:=(by simpa [Tree.width] using q0);refine sL (db q0) ?_;obtain⟨eA2,eP2,tA,tP⟩:=pt q0;have hG:=nk (ih k q0 (gB cy q0) (gH A<|cp<|t.kids.take k) (b6 P1<|bU<|t.kids.take k) zo zo) [.row true<|aO t,.vec true 0 3 [[aa 0,aa 0,au]],.row true<|aO<|t.aD k] (by simp[da]) (by simp[da,aG,aK,bz _<|im _])<|wm (by simp[da]);rw[<-qX,<-jN,<-eA2,<-eP2] at hG;unfold da at hG;refine sA hG ?_;refine sI ?_;refine⟨k+1,zo,zd,?_⟩;dsimp only;exact aL 5 zs rfl sG sG
    have q0:k=t.width:=(by have:¬k<t.width:=(by simpa [Tree.width] using q0);omega);subst q0;rw[show t.kids.take t.width=t.kids from dM];exact⟨.refl _,lB _ _<|wi<|aS _⟩
   have cG:¬(dN (dI t) P<0):=(by rw[r,ja] at we;omega);have iL:b6 P [t]=P:=(by rw[rG,ae r]);rw[gI cG];refine sW ?_;have lA:A.length+(cp t.kids).length<=1000:=hA;have lP:P.length+(bU t.kids).length<=1000:=zo;rw[eA,eP,jN,iL];refine cq [0,49,50] (λk:Nat=>[(51,aa k)]) (λk=>da (gH A<|cp<|t.kids.take k) (b6 P<|bU<|t.kids.take k)++[.row true<|aO t]) (λk=>k<=t.width) (λk=>t.width-k) 0 ?_;refine dd ?_;rintro k hk;have lak:=u0 (cp<|t.kids.take k) A;have lpk:=nL (bU<|t.kids.take k) P;unfold da;refine bf (λq0=>?_) λq0=>?_
   ·have q0:k<t.width:=(by simpa [Tree.width] using q0);refine sL (db q0) ?_;obtain⟨eA2,eP2,tA,tP⟩:=pt q0;have hG:=nk (ih k q0 (gB cy q0) (gH A<|cp<|t.kids.take k) (b6 P<|bU<|t.kids.take k) zo zo) [.row true<|aO t,.row true<|aO<|t.aD k] (by simp[da]) (by simp[da,aG,aK,bz _<|im _])<|wm (by simp[da]);rw[<-qX,<-jN,<-eA2,<-eP2] at hG;unfold da at hG;refine sA hG ?_;refine sI ?_;refine⟨k+1,zo,zd,?_⟩;dsimp only;exact aL 4 zs rfl sG sG
   have q0:k=t.width:=(by have:¬k<t.width:=(by simpa [Tree.width] using q0);omega);subst q0;rw[show t.kids.take t.width=t.kids from dM];exact⟨.refl _,lB _ _<|wi<|aS _⟩
  refine sS (λk9=>?_) λk9=>?_
  ·have k7:t.kind=7\/t.kind=8\/t.kind=9:=.inr (.inr<|by simpa using k9);rw[ae k7] at eP;rw[eP,cL,lb] at hP;refine sN (JG A P zo t hs) ?_;have we:=sz (dI t) P;cases r:P.any (dI t)
   ·have cG:(dN (dI t) P<0):=(by rw[r,Bt] at we;omega);have iL:b6 P [t]=P++[t]:=(by rw[rG,ab<|by rw[r];decide]);rw[gQ cG];refine sWJ ?_;refine sB ?_;refine⟨_,Bo P _,?_⟩;refine sW ?_;refine bQ (aL 5 (env':=[(0,.loc 0 0),(49,.aM 3<|t.kids.map gF),(50,.sc (.int .i64 (t.kids.map gF).length)),(51,aa 0)]) (H':=[.row true [.own 1 A.length 0 A.length,.own 2 (P.length+1) 0<|P.length+1],.vec true A.length 1<|aw A,.vec true (P.length+1) 3<|b8<|P++[t],.row true<|aO t,.vec true 0 3 [[aa 0,aa 0,au]]]) zs rfl ?_ ?_) ?_
    ·(repeat' (first|exact trivial|exact rfl|exact .refl _|refine And.intro ?_ ?_|(simp[aK,aG,bB,-List.map_take,-List.map_drop];done)))
     all_goals first|exact bm _ (Ch t)|skip
    ·(repeat' (first|exact trivial|exact rfl|exact .refl _|refine And.intro ?_ ?_|(simp[aK,aG,bB,-List.map_take,-List.map_drop];done)))
     all_goals first|exact bI _ (eU _)|exact aV (BI P t _)|skip
    rw[show P.length+1=(P++[t]).length by simp,<-iL];have Zu:(b6 P [t]).length<=P.length+1:=(by rw[iL];simp);have lA:A.length+(cp t.kids).length<=1000:=hA;have lP:P.length+1+(bU t.kids).length<=1000:=zo;rw[eA,eP,jN];generalize b6 P [t]=P1 at *;refine cq [0,49,50] (λk:Nat=>[(51,aa k)]) (λk=>da (gH A<|cp<|t.kids.take k) (b6 P1<|bU<|t.kids.take k)++[.row true<|aO t,.vec true 0 3 [[aa 0,aa 0,au]]]) (λk=>k<=t.width) (λk=>t.width-k) 0 ?_;refine dd ?_;rintro k hk;have lak:=u0 (cp<|t.kids.take k) A;have lpk:=nL (bU<|t.kids.take k) P1;unfold da;refine bf (λq0=>?_) λq0=>?_
    ·have q0:k<t.width:=(by simpa [Tree.width] using q0);refine sL (db q0) ?_;obtain⟨eA2,eP2,tA,tP⟩:=pt q0;have hG:=nk (ih k q0 (gB cy q0) (gH A<|cp<|t.kids.take k) (b6 P1<|bU<|t.kids.take k) zo zo) [.row true<|aO t,.vec true 0 3 [[aa 0,aa 0,au]],.row true<|aO<|t.aD k] (by simp[da]) (by simp[da,aG,aK,bz _<|im _])<|wm (by simp[da]);rw[<-qX,<-jN,<-eA2,<-eP2] at hG;unfold da at hG;refine sA hG ?_;refine sI ?_;refine⟨k+1,zo,zd,?_⟩;dsimp only;exact aL 5 zs rfl sG sG
    have q0:k=t.width:=(by have:¬k<t.width:=(by simpa [Tree.width] using q0);omega);subst q0;rw[show t.kids.take t.width=t.kids from dM];exact⟨.refl _,lB _ _<|wi<|aS _⟩
   have cG:¬(dN (dI t) P<0):=(by rw[r,ja] at we;omega);have iL:b6 P [t]=P:=(by rw[rG,ae r]);rw[gI cG];refine sW ?_;have lA:A.length+(cp t.kids).length<=1000:=hA;have lP:P.length+(bU t.kids).length<=1000:=zo;rw[eA,eP,jN,iL];refine cq [0,49,50] (λk:Nat=>[(51,aa k)]) (λk=>da (gH A<|cp<|t.kids.take k) (b6 P<|bU<|t.kids.take k)++[.row true<|aO t]) (λk=>k<=t.width) (λk=>t.width-k) 0 ?_;refine dd ?_;rintro k hk;have lak:=u0 (cp<|t.kids.take k) A;have lpk:=nL (bU<|t.kids.take k) P;unfold da;refine bf (λq0=>?_) λq0=>?_
   ·have q0:k<t.width:=(by simpa [Tree.width] using q0);refine sL (db q0) ?_;obtain⟨eA2,eP2,tA,tP⟩:=pt q0;have hG:=nk (ih k q0 (gB cy q0) (gH A<|cp<|t.kids.take k) (b6 P<|bU<|t.kids.take k) zo zo) [.row true<|aO t,.row true<|aO<|t.aD k] (by simp[da]) (by simp[da,aG,aK,bz _<|im _])<|wm (by simp[da]);rw[<-qX,<-jN,<-eA2,<-eP2] at hG;unfold da at hG;refine sA hG ?_;refine sI ?_;refine⟨k+1,zo,zd,?_⟩;dsimp only;exact aL 4 zs rfl sG sG
   have q0:k=t.width:=(by have:¬k<t.width:=(by simpa [Tree.width] using q0);omega);subst q0;rw[show t.kids.take t.width=t.kids from dM];exact⟨.refl _,lB _ _<|wi<|aS _⟩
  have k7:¬(t.kind=7\/t.kind=8\/t.kind=9):=by
   simp only[beq_eq_false_iff_ne] at k7 k8 k9;omega
  rw[ab k7,nG] at eP;rw[eP] at hP;rw[eA,eP];have lA:A.length+(cp t.kids).length<=1000:=hA;have lP:P.length+(bU t.kids).length<=1000:=hP;refine cq [0,49,50] (λk:Nat=>[(51,aa k)]) (λk=>da (gH A<|cp<|t.kids.take k) (b6 P<|bU<|t.kids.take k)++[.row true<|aO t]) (λk=>k<=t.width) (λk=>t.width-k) 0 ?_;refine dd ?_;rintro k hk;have lak:=u0 (cp<|t.kids.take k) A;have lpk:=nL (bU<|t.kids.take k) P;unfold da;refine bf (λq0=>?_) λq0=>?_
  ·have q0:k<t.width:=(by simpa [Tree.width] using q0);refine sL (db q0) ?_;obtain⟨eA2,eP2,tA,tP⟩:=pt q0;have hG:=nk (ih k q0 (gB cy q0) (gH A<|cp<|t.kids.take k) (b6 P<|bU<|t.kids.take k) zo zo) [.row true<|aO t,.row true<|aO<|t.aD k] (by simp[da]) (by simp[da,aG,aK,bz _<|im _])<|wm (by simp[da]);rw[<-qX,<-jN,<-eA2,<-eP2] at hG;unfold da at hG;refine sA hG ?_;refine sI ?_;refine⟨k+1,zo,zd,?_⟩;dsimp only;exact aL 4 zs rfl sG sG
  have q0:k=t.width:=(by have:¬k<t.width:=(by simpa [Tree.width] using q0);omega);subst q0;rw[show t.kids.take t.width=t.kids from dM];exact⟨.refl _,lB _ _<|wi<|aS _⟩
theorem Sn{A:ah}(h:x∈A):∃k:Nat,k<A.length/\dN (λa=>x==a) A=(k:Int):=by
 have h1:0<=dN (λa=>x==a) A:=by
  have:=sz (λa=>x==a) A;rw[show A.any (λa=>x==a)=true from mJ.2 ⟨x,h,zs⟩] at this;simpa using this
 obtain⟨k,e,hk,_⟩:=Gs h1;exact⟨k,hk,e⟩
theorem S6{x:Tree}(h:x∈P):∃k:Nat,k<P.length/\dN (dI x) P=(k:Int):=by
 have h1:0<=dN (dI x) P:=by
  have:=sz (dI x) P;rw[RD.2 h] at this;simpa using this
 obtain⟨k,e,hk,_⟩:=Gs h1;exact⟨k,hk,e⟩
structure yR(A:ah)(P:List Tree):Prop where
 few:A.length+P.length<=10
 atoms:∀x∈A,0<=x/\x<=63
 told:∀g∈P,Told A P g
 wf:∀g∈P,g.wf mc/\(g.kind=7\/g.kind=8\/g.kind=9)
theorem Cl(h:n<=10):2^n<=1024:=jI (Bq zo h) zc
theorem Fq(n:Nat):(2:Int)^n=((2^n:Nat):Int):=zs
theorem Lu(k:Nat)(hk:k<=10):(1:Int)*2^min ((k:Int)).toNat 64=((2^k:Nat):Int):=by
 rw[bO,v7 zo,Int.one_mul,Fq]
theorem zsL(P:List Tree)(hI:yR A P)(f:Tree)(hs:Small f)(hT:Told A P f)(hk:f.kind=3\/f.kind=7\/f.kind=8\/f.kind=9)(s:Nat) :
  ao aj 284 [mR A P,ba f,aa s] (ay<|dE A P s f):=by
 have hf:=hI.few;refine bS fZ ?_;unfold mR;refine sRS (λk3=>?_) λk3=>?_
 ·have k3:f.kind=3:=(by simpa using k3);obtain⟨k,h1,h2⟩:=Sn<|hT.atom k3;have e:dE A P s f=s.testBit k:=(by unfold dE uL;rw[ae k3,h2];rfl);have hi:=Zr A zo f.num;rw[h2] at hi;rw[e,<-Ly s k zo];refine sN hi ?_;refine⟨zo,?_⟩;refine sW ?_;exact .refl _
 have k3:¬f.kind=3:=by simpa using k3
 obtain⟨k,h1,h2⟩:=S6<|hT.part zo;have e:dE A P s f=s.testBit (A.length+k):=by unfold dE uL;rw[ab k3,h2];rfl
 have hi:=JG A P zo f hs;rw[h2] at hi;unfold mR at hi;rw[e,<-Ly s (A.length+k) zo];refine sN hi ?_;rw[aI];refine sI ?_;refine⟨zo,?_⟩;refine sW ?_;exact .refl _
theorem Ku(P:List Tree)(hI:yR A P)(s:Nat):∀f:Tree,f.wf mc->Told A P f ->
  ao aj 212 [mR A P,ba f,aa s] (ay<|dQ (dE A P s) f):=by
 intro f
 induction f using Tree.ind with
 |h f ih =>
  intro cy hT;have hs:=vl f<|wk cy;have eJ:=hs.width;have hK:=F5 cy;have hE:=WB (dE A P s) f;have Bw:=λhk=>zsL A P hI f hs hT hk s;refine bS fZ ?_;have fin:∀{H:aE} {b:Bool},b=uc f.kind (dE A P s f) (f.kids.map<|dQ<|dE A P s)->Deep H (ay b) (ay<|dQ (dE A P s) f):=λh=>by rw[hE,h];exact .refl _
  have ha:∀j,j<f.width->(f.kids.map<|dQ<|dE A P s).getD j false=dQ (dE A P s) (f.aD j):=λj hj=>Vv _ hj;have me:∀j,(hj:j<f.width)->ao aj 212 [mR A P,ba<|f.aD j,aa s] (ay<|dQ (dE A P s)<|f.aD j):=λj hj=>ih j hj (gB cy hj)<|hT.aD hj;unfold mR at *;refine sRS (λh1=>?_) λh1=>?_
  ·have h1:f.kind=1:=(by simpa using h1);refine fin ?_;rw[h1];rfl
  refine sS (λh2=>?_) λh2=>?_
  ·have h2:f.kind=2:=(by simpa using h2);refine fin ?_;rw[h2];rfl
  refine sS (λh4=>?_) λh4=>?_
  ·have h4:f.kind=4:=(by simpa using h4);have w0:0<f.width:=zo;have e0:=ha 0 w0;refine⟨zo,_,db w0,?_⟩;refine sW ?_;refine sC (me 0 w0) ?_;refine fin ?_;rw[h4,<-e0];rfl
  refine sS (λh5=>?_) λh5=>?_
  ·have h5:f.kind=5:=(by simpa using h5);have w0:0<f.width:=zo;have w1:1<f.width:=zo;have e0:=ha 0 w0;have e1:=ha 1 w1;refine⟨zo,_,db w0,?_⟩;refine sW ?_;refine sC (me 0 w0) ?_;rw[h5] at fin;unfold uc at fin;rw[<-e0];refine sS (λq0=>?_) λq0=>?_
   ·refine⟨zo,_,db w1,?_⟩;refine sW ?_;refine sC (me 1 w1) ?_;refine fin ?_;(try simp only[<-e1,q0]);simp
   refine fin ?_;(try simp only[q0]);simp
  refine sS (λh6=>?_) λh6=>?_
  ·have h6:f.kind=6:=(by simpa using h6);have w0:0<f.width:=zo;have w1:1<f.width:=zo;have e0:=ha 0 w0;have e1:=ha 1 w1;refine⟨zo,_,db w0,?_⟩;refine sW ?_;refine sC (me 0 w0) ?_;rw[h6] at fin;unfold uc at fin;rw[<-e0];refine sS (λq0=>?_) λq0=>?_
   ·refine fin ?_;(try simp only[q0]);simp
   refine⟨zo,_,db w1,?_⟩;refine sW ?_;refine sC (me 1 w1) ?_;refine fin ?_;(try simp only[<-e1,q0]);simp
  refine sS (λh8=>?_) λh8=>?_
  ·have h8:f.kind=8:=(by simpa using h8);have w0:0<f.width:=zo;have w1:1<f.width:=zo;have e0:=ha 0 w0;have e1:=ha 1 w1;refine⟨zo,_,db w1,?_⟩;refine sW ?_;refine sC (me 1 w1) ?_;rw[h8] at fin;unfold uc at fin;rw[<-e1];refine sS (λq1=>?_) λq1=>?_
   ·refine fin ?_;(try simp only[q1]);simp
   refine⟨zo,_,db w0,?_⟩;refine sW ?_;refine sC (me 0 w0) ?_;rw[<-e0];refine sS (λq0=>?_) λq0=>?_
   ·refine sC (Bw zo) ?_;refine fin ?_;(try simp only[q0,q1]);simp
   refine fin ?_;(try simp only[q0,q1]);simp
  refine sS (λh9=>?_) λh9=>?_
  ·have h9:f.kind=9:=(by simpa using h9);have w0:0<f.width:=zo;have w1:1<f.width:=zo;have e0:=ha 0 w0;have e1:=ha 1 w1;refine⟨zo,_,db w1,?_⟩;refine sW ?_;refine sC (me 1 w1) ?_;rw[h9] at fin;unfold uc at fin;rw[<-e1];refine sS (λq1=>?_) λq1=>?_
   ·refine⟨zo,_,db w0,?_⟩;refine sW ?_;refine sC (me 0 w0) ?_;rw[<-e0];refine sS (λq0=>?_) λq0=>?_
    ·refine fin ?_;(try simp only[q0,q1]);simp
    refine sC (Bw zo) ?_;refine fin ?_;(try simp only[q0,q1]);simp
   refine fin ?_;(try simp only[q1]);simp
  have h3:f.kind=3\/f.kind=7:=by
   simp only[beq_eq_false_iff_ne] at h1 h2 h4 h5 h6 h8 h9;omega
  refine sC (Bw zo) ?_;refine fin ?_;rcases h3 with h3|h3<;>rw[h3]<;>rfl
theorem zz0(P:List Tree)(hA:A.length<=60)(s:Nat):ao aj 213 [mR A P,aa s]<|aa ((s/2^A.length:Nat):Int):=by
 refine bS fZ ?_;unfold mR;refine sR ?_;rw[aI];refine⟨zo,?_⟩;refine sW ?_;exact cf<|bH (λx=>aa x)<|Sl s A.length zo
theorem X4{A:ah}(hI:yR A P)(hg:g∈P):(uA g).wf mc/\Told A P (uA g):=by
 obtain⟨h1,h2⟩:=hI.wf g hg;have hT:=hI.told g hg;unfold uA;split
 ·have w0:0<g.width:=qO (wk h1) zo;exact⟨gB h1 w0,hT.aD w0⟩
 exact⟨h1,hT⟩
theorem LK(h:k<P.length):P.getD k default∈P:=by
 rw[a8,aX h];simp
theorem zzx(P:List Tree)(hI:yR A P)(s:Nat):ao aj 211 [mR A P,aa s]<|aa<|rJ A P s:=by
 have hf:=hI.few;refine bS fZ ?_;have hH:=λg (hg:g∈P)=>Ku A P hI s (uA g) (X4 hI hg).1 (X4 hI hg).2;unfold mR at *;refine sR ?_;rw[qZ];refine bb [0,1,12,13] (λk:Nat=>[(5,aa<|rN (hK A P s) k),(14,aa k)]) (λ_=>[]) (λk=>k<=P.length) (λk=>P.length-k) 0 ?_;refine dd ?_;rintro k hk;refine bf (λq0=>?_) λq0=>?_
 ·have q0:k<P.length:=sO;refine sL (zR (k:=k) zo q0) ?_;have hg:=LK q0;obtain⟨hw,hk7⟩:=hI.wf _ hg;have hB:=hH _ hg;have hb:hK A P s k=dQ (dE A P s) (uA<|P.getD k default):=rfl;have hS:rN (hK A P s) (k+1)=if hK A P s k=true then rN (hK A P s) k+2^k else rN (hK A P s) k:=rfl
  have cG:=FH (hK A P s) k;have zQA:=Cl (n:=k) zo;have e1:(1:Int)*2^min ((k:Int)).toNat IntKind.i64.bits=((2^k:Nat):Int):=Lu k zo;have e2:=zBZ (rN (hK A P s) k) k cG zo;rw[<-hb] at hB;generalize hK A P s k=b at *;generalize P.getD k default=g at *;refine sS (λg7=>?_) λg7=>?_
  ·have g7:g.kind=7:=(by simpa using g7);have w0:0<g.width:=qO (wk hw) zo;rw[show uA g=g.aD 0 from ae g7] at hB;refine sL (db w0) ?_;refine sC hB ?_;cases b
   ·rw[ab zc] at hS;refine aQ ?_;refine⟨k+1,zo,zd,?_⟩;dsimp only;rw[hS];exact aL 0 zs rfl sG sG
   rw[ae rfl] at hS;refine sW ?_;refine⟨zo,?_⟩;rw[e1];generalize 2^k=z at *;refine sI ?_;rw[e2];refine sI ?_;refine⟨k+1,zo,zd,?_⟩;dsimp only;rw[hS];exact aL 0 zs rfl sG sG
  have g7:¬g.kind=7:=(by simpa using g7);rw[show uA g=g from ab g7] at hB;refine sC hB ?_;cases b
  ·rw[ab zc] at hS;refine aQ ?_;refine⟨k+1,zo,zd,?_⟩;dsimp only;rw[hS];exact aL 0 zs rfl sG sG
  rw[ae rfl] at hS;refine sW ?_;refine⟨zo,?_⟩;rw[e1];generalize 2^k=z at *;refine sI ?_;rw[e2];refine sI ?_;refine⟨k+1,zo,zd,?_⟩;dsimp only;rw[hS];exact aL 0 zs rfl sG sG
 have q0:k=P.length:=sO;subst q0;exact .refl _
theorem TZ(P:List Tree)(hA:A.length<=60)(hr:∀x∈A,0<=x/\x<=63)(s:Nat)(is:Bool):ao aj 214 [mR A P,aa s,ay is] (.sc (.int .u64<|kQ A s is A.length)):=by
 refine bS fZ ?_;unfold mR;refine sR ?_;rw[aI];refine bb [1,2,13,14] (λk:Nat=>[(7,.sc (.int .u64<|kQ A s is k)),(15,aa k)]) (λ_=>[]) (λk=>k<=A.length) (λk=>A.length-k) 0 ?_;refine dd ?_;rintro k hk;refine bf (λq0=>?_) λq0=>?_
 ·have q0:k<A.length:=sO;refine sL (bV (l:=A) (k:=k) zo q0) ?_;have hx:=hr _<|df q0;have hS:kQ A s is (k+1)=if (s.testBit k==is)=true then kh .or .u64 (kQ A s is k)<|2^(A.getD k 0).toNat else kQ A s is k:=rfl
  generalize A.getD k 0=x at *;refine⟨zo,?_⟩;refine sW ?_;have eb:(kh .and .i64 ((s:Int).fdiv<|2^min ((k:Int)).toNat IntKind.i64.bits) 1==1)=s.testBit k:=Ly s k zo;have e1:(1:Int)*2^min x.toNat IntKind.u64.bits=2^x.toNat:=by
   rw[show IntKind.u64.bits=64 from rfl,v7 zo,Int.one_mul]
  have GZ:(0:Int)<=2^x.toNat/\(2:Int)^x.toNat<18446744073709551616:=by
   have h1:2^x.toNat<=2^63:=Bq zo zo;have h2:(2:Nat)^63=9223372036854775808:=zc;rw[Fq];generalize 2^x.toNat=z at *;omega
  rw[eb];cases r:(s.testBit k==is)
  ·rw[r,ab zc] at hS;refine aQ ?_;refine⟨k+1,zo,zd,?_⟩;dsimp only;rw[hS];exact aC (by exact sK) rfl
  rw[r,ae rfl] at hS;refine sW ?_;refine⟨zo,?_⟩;rw[e1];refine .inl ⟨by unfold InR;rw[IntKind.wrap_u64];omega,?_⟩;refine aQ ?_;refine⟨k+1,zo,zd,?_⟩;dsimp only;rw[hS];exact aC (by exact sK) rfl
 have q0:k=A.length:=sO;subst q0;exact .refl _
theorem zzv(P:List Tree)(hI:yR A P)(s:Nat)(g:Tree)(hw:g.wf mc)(hT:Told A P g)(hk:g.kind=8\/g.kind=9):ao aj 215 [mR A P,ba g,aa s]<|ay<|gO A P g s:=by
 have hf:=hI.few;have w1:1<g.width:=by have:=F5 hw;omega
 have h0:=Ku A P hI s g hw hT;have h1:=Ku A P hI s (g.aD 1) (gB hw w1)<|hT.aD w1;have hE:gO A P g s=if g.kind=8 then !(dQ (dE A P s) g)||dQ (dE A P s) (g.aD 1) else dQ (dE A P s) g||!(dQ (dE A P s)<|g.aD 1):=rfl
 refine bS fZ ?_;generalize dQ (dE A P s) g=b0 at *;generalize dQ (dE A P s) (g.aD 1)=b1 at *;rw[hE];unfold mR at *;refine sRS (λg8=>?_) λg8=>?_
 ·have g8:g.kind=8:=(by simpa using g8);rw[ae g8];refine sC h0 ?_;cases b0
  ·refine sW ?_;exact .refl _
  refine sW ?_;refine sL (db w1) ?_;refine sC h1 ?_;exact .refl _
 have g8:¬g.kind=8:=by simpa using g8
 rw[ab g8];refine sC h0 ?_;cases b0
 ·refine sW ?_;refine sL (db w1) ?_;refine sC h1 ?_;exact .refl _
 refine sW ?_;exact .refl _
section
open Go.RowKit Go.Shelf Go.Sort
def zof:Go.Shelf.Ren:=⟨λ| 189=>210|125=>283|257=>282|128=>328|129=>178|294=>319|295=>320|296=>321|297=>322|298=>323|299=>324|216=>325|300=>326|301=>327|328=>336|329=>337|330=>338|331=>339|332=>340|215=>341|343=>342|n=>n,λ| 28=>52|3=>3|46=>252|0=>0|51=>250|53=>173|4=>4|183=>325|182=>324|131=>201|5=>5|9=>9|218=>335|222=>263|228=>340|229=>341|n=>n,λ| n=>n⟩
theorem Vh:Go.Proofs.Lays.n189 aj zof:={
 mixed:=by kernel_rfl,
 f125:=Tryz.func283.trans<|bH some zk,
 f128:=Tryz.func328.trans<|bH some zk,
 f129:=Tryz.func178.trans<|bH some zk,
 f189:=Tryz.func210.trans<|bH some zk,
 f215:=Tryz.func341.trans<|bH some zk,
 f216:=Tryz.func325.trans<|bH some zk,
 f257:=Tryz.func282.trans<|bH some zk,
 f294:=Tryz.func319.trans<|bH some zk,
 f295:=Tryz.func320.trans<|bH some zk,
 f296:=Tryz.func321.trans<|bH some zk,
 f297:=Tryz.func322.trans<|bH some zk,
 f298:=Tryz.func323.trans<|bH some zk,
 f299:=Tryz.func324.trans<|bH some zk,
 f300:=Tryz.func326.trans<|bH some zk,
 f301:=Tryz.func327.trans<|bH some zk,
 f328:=Tryz.func336.trans<|bH some zk,
 f329:=Tryz.func337.trans<|bH some zk,
 f330:=Tryz.func338.trans<|bH some zk,
 f331:=Tryz.func339.trans<|bH some zk,
 f332:=Tryz.func340.trans<|bH some zk,
 f343:=Tryz.func342.trans<|bH some zk,
 t0:=Tryz.underlying0,
 a0:=Tryz.isAgg0,
 z0:=Tryz.sizeOf0,
 v0:=Tryz.zeroValue0,
 t3:=Tryz.underlying3,
 a3:=Tryz.isAgg3,
 z3:=Tryz.sizeOf3,
 v3:=Tryz.zeroValue3,
 t4:=Tryz.underlying4,
 a4:=Tryz.isAgg4,
 z4:=Tryz.sizeOf4,
 v4:=Tryz.zeroValue4,
 t5:=Tryz.underlying5,
 a5:=Tryz.isAgg5,
 z5:=Tryz.sizeOf5,
 v5:=Tryz.zeroValue5,
 t9:=Tryz.underlying9,
 a9:=Tryz.isAgg9,
 z9:=Tryz.sizeOf9,
 v9:=Tryz.zeroValue9,
 t28:=Tryz.underlying52,
 a28:=Tryz.isAgg52,
 z28:=Tryz.sizeOf52,
 v28:=Tryz.zeroValue52,
 t46:=Tryz.underlying252,
 a46:=Tryz.isAgg252,
 z46:=Tryz.sizeOf252,
 v46:=Tryz.zeroValue252,
 t51:=Tryz.underlying250,
 a51:=Tryz.isAgg250,
 z51:=Tryz.sizeOf250,
 v51:=Tryz.zeroValue250,
 t53:=Tryz.underlying173,
 a53:=Tryz.isAgg173,
 z53:=Tryz.sizeOf173,
 v53:=Tryz.zeroValue173,
 t131:=Tryz.underlying201,
 a131:=Tryz.isAgg201,
 z131:=Tryz.sizeOf201,
 v131:=Tryz.zeroValue201,
 t182:=Tryz.underlying324,
 a182:=Tryz.isAgg324,
 z182:=Tryz.sizeOf324,
 v182:=Tryz.zeroValue324,
 t183:=Tryz.underlying325,
 a183:=Tryz.isAgg325,
 z183:=Tryz.sizeOf325,
 v183:=Tryz.zeroValue325,
 t218:=Tryz.underlying335,
 a218:=Tryz.isAgg335,
 z218:=Tryz.sizeOf335,
 v218:=Tryz.zeroValue335,
 t222:=Tryz.underlying263,
 a222:=Tryz.isAgg263,
 z222:=Tryz.sizeOf263,
 v222:=Tryz.zeroValue263,
 t228:=Tryz.underlying340,
 a228:=Tryz.isAgg340,
 z228:=Tryz.sizeOf340,
 v228:=Tryz.zeroValue340,
 t229:=Tryz.underlying341,
 a229:=Tryz.isAgg341,
 z229:=Tryz.sizeOf341,
 v229:=Tryz.zeroValue341 }
def rE(l:ah):ah:=l.mergeSort λx y=>decide (x<=y)
@[simp] theorem zta(l:ah):(rE l).length=l.length:=by unfold rE;exact List.length_mergeSort _
variable{w:bl}
theorem zvO{b o:Nat}{vals:Array aW}{te:bp}{fr:Nat×Nat}{n:Nat}{os:Array Obj}(d:Array Int)(hb:w.heap[b]? = some (.cells vals te fr)) :
  (grow (putRow (Value.int .i64) (Sort.ahead w n) b o d) os).heap[b]? = some (.cells (putCells (Value.int .i64) o d vals) te fr):=by
 have hg:b<w.heap.size:=(Array.getElem?_eq_some_iff.1 hb).1;rw[heap_grow_old _ _<|by simpa using hg];simp[putRow,mapBlock,Sort.ahead,Array.getElem?_modify,hb,onCells]
theorem ZF{b o:Nat}{os:Array Obj}(d:Array Int)(hk:k<w.heap.size)(b9:k≠b):(grow (putRow (Value.int .i64) (Sort.ahead w n) b o d) os).heap[k]? = w.heap[k]?:=by
 rw[heap_grow_old _ _<|by simpa using hk];have:b≠k:=λe=>b9 e.symm;simp[putRow,mapBlock,Sort.ahead,Array.getElem?_modify,this]
theorem zvR(ar:Nat)(l:ah)(h0:0<l.length)(hl:l.length<4611686018427387904) :
  bZ aj 210 [.own 0 ar 0 l.length] [.vec true ar 1<|aw l] (.aJ []) [.vec true ar 1<|aw<|rE l] where
 ok:=⟨_,Tryz.func210,zk,zk⟩
 len:=zs
 run J F w vs bW jH hR:=by
  simp only[bA,rep] at hR;obtain⟨v,us,rfl,⟨s,A,n,c,hJ,rfl,_,hq⟩,rfl⟩:=hR;obtain⟨ob,ho,hO⟩:=bW.obj 0 s hJ;have ho:al.vec true ar 1 (aw l)=ob:=Cu ho;subst ho;simp only[pc] at hO;obtain⟨cR,D6,YN,hlen,yi,gE⟩:=hO;obtain⟨_,_,n4,hn,hc,hA⟩:=hq D6.symm;have qh:s.len=l.length:=(by rw[hlen];simp[aw]);have FE:¬s.cap=0:=zo;obtain⟨b,o,DT,Wa⟩:=hA.resolve_left FE;obtain⟨b',o',vals,te,YX,hb,eJ,hrr,_⟩:=gE.resolve_left FE;rw[DT] at YX;obtain⟨rfl,rfl⟩:b=b'/\o=o':=by
   have:=Cu YX;injection this with h1 h2 h3
   exact⟨h1,h2⟩
  rw[Nat.zero_mul,wU] at Wa;subst Wa;have D2:n=l.length:=zo;subst D2;have x7:b<w.heap.size:=(Array.getElem?_eq_some_iff.1 hb).1;have hH:Holds (Value.int .i64) w b o l.toArray:=λj hj=>by
   have de:j<l.length:=(by simpa using hj);obtain⟨_,Gl⟩:=vq (aw l) o j [.sc (.int .i64 l[j])] (by simp[aw,de]) hrr;simp only[dY,rep] at Gl;obtain⟨⟨u,hu,_,rfl⟩,_⟩:=Gl;rw[BQ] at hu;refine⟨by rw[hu];simp[de],by simp[World.frozen?,hb]⟩
  have kv:s.cE=some b:=(by unfold Site.cE;rw[ab<|by simp[FE],DT];rfl);have ky:¬F b:=bW.apart 0 s b _ hJ kv rfl rfl;refine(Any.slices_Sort_int Vh b o c l w hH x7 hl).mono λe w' ⟨he,nd,os,Ef⟩=>?_;have YO:w'.heap[b]? = some (.cells (putCells (Value.int .i64) o (rE l).toArray vals) te (0,0)):=(by rw[Ef];exact zvO _ hb);have Pu:∀k,k<w.heap.size->k≠b->w'.heap[k]? = w.heap[k]?:=λk h1 h2=>by rw[Ef];exact ZF _ h1 h2
  have WH:w.heap.size<=w'.heap.size:=(by rw[Ef];simp[Sort.ahead]);have iW:∀k,F k->w'.heap[k]? = w.heap[k]?:=λk hk=>Pu k (bW.lt k hk) λe=>ky<|e▸hk;have vk:w'.os=w.os/\w'.tape=w.tape/\w'.output=w.output:=(by rw[Ef];exact⟨rfl,rfl,rfl⟩);refine⟨_,J,F,he,?_,jH,by simp[rep,bA],?_⟩
  ·refine bW.update 0 s (.vec true ar 1<|aw<|rE l) (λi=>?_) (λi=>?_) (bh.le_refl J) iW WH ?_ (λb2 h2=>.inr ⟨s,hJ,h2⟩) (λi s2 b2 h1 h2=>bW.jk h1 h2) ?_ ?_
   ·by_cases e:i=0
    ·subst e;rw[ae rfl,hJ]
    rw[ab e]
   ·by_cases e:i=0
    ·subst e;rfl
    rw[ab e]
    cases i with
    |zero=>exact absurd rfl e
    |succ i=>rfl
   ·intro i s2 b2 hi h1 h2;refine Pu b2 (bW.jk h1 h2) λe=>hi ?_;subst e;exact bW.one i 0 s2 s b2 h1 hJ h2 kv
   ·intro b2 h1 _;rw[kv] at h1;cases h1;exact ky
   simp only[pc];refine⟨cR,D6,YN,by rw[hlen];simp[aw],yi,.inr ⟨b,o,_,te,DT,YO,by simp[putCells];omega,?_,λh=>by cases h⟩⟩;refine wN _ _ λj x hx=>?_;have hj:j<(rE l).length:=by
    have:=(List.getElem?_eq_some_iff.1 hx).1;simpa [aw] using this
   have mU:x=[.sc (.int .i64 (rE l)[j])]:=by
    have:(aw<|rE l)[j]? = some [.sc (.int .i64 (rE l)[j])]:=by simp[aw,hj]
    rw[hx] at this;exact Cu this
   subst mU;refine⟨rfl,?_⟩;simp only[dY,rep];refine⟨⟨_,?_,rfl,rfl⟩,trivial⟩;have hjv:o+j<vals.size:=by
    rw[zta] at hj;rw[BQ] at eJ;omega
   simp only[World.cell?,YO,BQ];simp only[Option.isSome_none,xt,if_false];have vt:j<l.length:=(by simpa using hj);simp[putCells,hjv,vt,aX hj]
  exact⟨vk.1,vk.2.1,vk.2.2,WH,λk hk ho=>Pu k hk λe=>ho ⟨0,s,hJ,e▸kv⟩,iW,bh.le_refl J,λ_ h=>h,λ_ h=>.inl h,λ_ h=>.inl h⟩
theorem zra:ao aj 283 [.sc (.int .u64 0)] (aa 0) where
 ok:=⟨_,Tryz.func283,zk,zk⟩
 run J F w vs hF hR:=by
  simp only[bA,rep] at hR;obtain⟨v,us,rfl,rfl,rfl⟩:=hR;refine(calls_of_every_depth λD=>AnyS.bits_LenIn { Vh with } D 0 w zo zo).mono λe w' ⟨he,hw⟩=>?_;subst hw;exact⟨_,F,he,hF.lt,rfl,Ext.refl _ _ _⟩
theorem zo0:ao aj 319 [.aM 1 [],aa 0,aa 0] (.aJ []):=by
 refine dh fZ zs (by simp[aA,Pure,dF]) ?_ zp;refine sR ?_;refine sI ?_;refine bb [0,1,2] (λ_:Nat=>[(6,aa 1)]) (λ_=>[]) (λ_=>True) (λ_=>0) 0 ?_;refine sW ?_;refine⟨trivial,by exact sK,rfl,?_⟩;rintro k -
 refine ck ?_;exact .refl _
theorem zsY(n:Int):ao aj 282 [.aM 1 [],aa 0,aa 0,aa n] (.aJ []):=by
 refine dh fZ zs (by simp[aA,Pure,dF]) ?_ zp;refine sR ?_;refine bb [0] (λ_:Nat=>[(1,aa 0),(2,aa 0),(3,aa n),(8,ay true),(9,ay true)]) (λ_=>[]) (λ_=>True) (λ_=>0) 0 ?_;refine sW ?_;refine⟨trivial,by exact sK,rfl,?_⟩;rintro k -
 refine ck ?_;refine sI ?_;refine sC zo0 ?_;exact .refl _
theorem VF:ao aj 210 [.aM 1 []] (.aJ []):=by
 refine dh fZ zs (by simp[aA,Pure,dF]) ?_ zp;refine sR ?_;rw[show(([]:fc).length:Int)=0 from rfl];refine .inl ⟨by unfold InR;rw[IntKind.wrap_u64];omega,?_⟩;refine sW ?_;refine sC zra ?_;refine sC (zsY 0) ?_;exact .refl _
theorem zxE(ar:Nat)(l:ah)(hl:l.length<4611686018427387904) :
  bZ aj 210 [.own 0 ar 0 l.length] [.vec true ar 1<|aw l] (.aJ []) [.vec true ar 1<|aw<|rE l]:=by
 rcases B4 l.length with h0|h0
 ·have h0:=pM.1 h0;subst h0;refine⟨VF.1,zs,λJ F w vs bW jH hR=>?_⟩;simp only[bA,rep] at hR;obtain⟨v,us,rfl,⟨s,A,n,c,hJ,rfl,_,hq⟩,rfl⟩:=hR;obtain⟨ob,ho,hO⟩:=bW.obj 0 s hJ;have ho:al.vec true ar 1 (aw [])=ob:=Cu ho;subst ho;simp only[pc] at hO;obtain⟨cR,D6,YN,hlen,yi,gE⟩:=hO;obtain⟨_,_,n4,hn,hc,hA⟩:=hq D6.symm;have qW:n=0:=(by simpa using hn);subst qW;refine(VF.run J F w [.slice A 0 c] bW.lt<|by simp only[bA,rep];exact⟨_,_,rfl,⟨_,_,_,rfl,rfl,zo,.inl rfl⟩,rfl⟩).mono λe w' ⟨v,F',he,h1,h2,h3⟩=>?_;refine⟨v,J,F',he,?_,jH,kO (Jh J) (λ_ h=>h) (λ_ _=>rfl) _ _ h2,Ext.TW bW h3⟩;rw[show rE []=[] by simp[rE]];exact bW.tW (λb hb=>h3.block b hb<|qj b) h3.size h3.grow (λb hb=>(h3.pJ b hb).imp_right λq=>q.resolve_left<|qj b) h1
 exact zvR ar l h0 hl
end
theorem Zk:∀(a b:ah),a.Pairwise (·<·)->b.Pairwise (·<·)->(∀x,x∈a↔x∈b)->a=b
 |[],[],_,_,_=>rfl
 |[],y::b,_,_,h=>by have:=(h y).2 zs;cases this
 |x::a,[],_,_,h=>by have:=(h x).1 zs;cases this
 |x::a,y::b,ha,hb,h=>by
  rw[List.pairwise_cons] at ha hb;have Ed:x=y:=by
   have h1:=(h x).1 zs;have h2:=(h y).2 zs;rcases eQ.1 h1 with e|e
   ·exact e
   rcases eQ.1 h2 with e2|e2
   ·exact e2.symm
   have:=ha.1 y e2;have:=hb.1 x e;omega
  subst Ed;refine bH _<|Zk a b ha.2 hb.2 λz=>⟨λhz=>?_,λhz=>?_⟩
  ·have:=ha.1 z hz;rcases eQ.1<|(h z).1 (by simp[hz]) with e|e
   ·omega
   exact e
  have:=hb.1 z hz;rcases eQ.1<|(h z).2 (by simp[hz]) with e|e
  ·omega
  exact e
theorem zmy(k:Nat):(fb p k).Pairwise (·<·):=by
 unfold fb;rw[List.pairwise_map];refine List.Pairwise.imp (R:=λa b:Nat=>a<b) (λh=>zo) ?_;exact List.Pairwise.filter _<|List.pairwise_lt_range ..
theorem zuM{l:ah}(h:l.Pairwise λa b=>a<=b)(hn:l.Nodup):l.Pairwise (·<·):=by
 have:=List.Pairwise.and h hn
 grind
theorem XY(hw:f.wf bw):rE (gH []<|dB f)=nQ (dB f):=by
 have hp:(rE<|gH []<|dB f).Perm<|gH []<|dB f:=List.mergeSort_perm _ _;refine Zk _ _ (zuM ?_<|hp.nodup_iff.2<|zq5 _ _ zs) (zmy _ _) λx=>?_
 ·have:=List.pairwise_mergeSort (le:=λx y:Int=>decide (x<=y)) (λa b c h1 h2=>by simp only[ja] at *;omega) (λa b=>by simp only[sq,ja];omega)<|gH []<|dB f;exact this.imp λh=>by simpa using h
 rw[hp.mem_iff,zv8,OW<|Fm f hw];simp
theorem Yi(hw:f.wf mc)(fh:(nQ<|dB f).length+(b6 []<|partsOf f).length<=10):yR (nQ<|dB f) (b6 []<|partsOf f) where
 few:=fh
 atoms x hx:=Fm f (wk hw) x<|(OW<|Fm f<|wk hw).1 hx
 told g hg:=zs1 (wk hw) hg
 wf g hg:=TI mc f hw g<|((Ox _ _).1 hg).resolve_left zs
noncomputable def zU(A:ah)(P:List Tree)(k r:Nat):ah:=fb (λt=>rJ A P t==r) k
noncomputable def lN(A:ah)(P:List Tree)(k:Nat):ak:=(List.range<|2^P.length).map<|zU A P k
@[simp] theorem ztS(P:List Tree)(k:Nat):(lN A P k).length=2^P.length:=by simp[lN]
theorem Is{A:ah}{r:Nat}(h:r<2^P.length):(lN A P k).getD r []=zU A P k r:=by
 unfold lN
 grind
theorem zt0(P:List Tree)(k r:Nat):(zU A P k r).length<=k:=sb _ _
theorem zpy(P:List Tree):lN A P 0=List.replicate (2^P.length) []:=by
 unfold lN;rw[List.eq_replicate_iff];refine⟨zs,λb hb=>?_⟩;obtain⟨r,_,rfl⟩:=dq.1 hb;rfl
theorem WJ(P:List Tree)(s:Nat):rJ A P s<2^P.length:=FH _ _
theorem zuR(P:List Tree)(k:Nat):(lN A P k).set (rJ A P k) (zU A P k (rJ A P k)++[(k:Int)])=lN A P (k+1):=by
 apply pS;intro j;rw[Hm];by_cases hj:j<2^P.length
 ·rw[getD_at (L:=lN A P<|k+1)<|by simpa using hj,Is hj];have hS:zU A P (k+1) j=if (rJ A P k==j)=true then zU A P k j++[(k:Int)] else zU A P k j:=AG _ _
  rw[hS];by_cases e:rJ A P k=j
  ·rw[ae e,e,ae<|by simpa using hj,ae zs]
  rw[ab e,getD_at (L:=lN A P k)<|by simpa using hj,Is hj,ab<|by simpa using e]
 rw[dG<|by simpa using hj,ab λe:rJ A P k=j=>hj<|e▸WJ A P k,dG<|by simpa using hj]
variable{s:Nat}
theorem Zc{a p:Nat}(h:s<2^(a+p)):s/2^a<2^p:=by
 rw[Nat.div_lt_iff_lt_mul<|Nat.two_pow_pos _,Cf,<-Nat.pow_add];exact h
theorem zqI{A:ah}(h:s<2^(A.length+P.length)):(lN A P<|2^(A.length+P.length)).getD (s/2^A.length) []=wC A P (A.length+P.length) s:=Is<|Zc h
noncomputable def cH(A:ah)(P:List Tree)(f:Tree)(k:Nat):ah:=fb (λs=>dQ (dE A P s) f) k
noncomputable def mB(A:ah)(P:List Tree)(k:Nat):ak:=(List.range k).map<|wC A P<|A.length+P.length
noncomputable def gM(A:ah)(is:Bool)(k:Nat):ah:=(List.range k).map λs=>kQ A s is A.length
theorem RK(P:List Tree)(f:Tree)(k:Nat):cH A P f (k+1)=if dQ (dE A P k) f=true then cH A P f k++[(k:Int)] else cH A P f k:=AG _ _
theorem U6(P:List Tree)(k:Nat):mB A P (k+1)=mB A P k++[wC A P (A.length+P.length) k]:=by simp[mB,qf]
theorem KE(is:Bool)(k:Nat):gM A is (k+1)=gM A is k++[kQ A k is A.length]:=by simp[gM,qf]
@[simp] theorem zCI(P:List Tree)(k:Nat):(mB A P k).length=k:=by simp[mB]
@[simp] theorem zC8(is:Bool)(k:Nat):(gM A is k).length=k:=by simp[gM]
theorem Vj(P:List Tree)(f:Tree)(k:Nat):(cH A P f k).length<=k:=sb _ _
theorem Vr(P:List Tree)(f:Tree):mY A P f=⟨cH A P f<|2^(A.length+P.length),mB A P<|2^(A.length+P.length),gM A true<|2^(A.length+P.length),gM A false<|2^(A.length+P.length),nU A P (A.length+P.length) P.length⟩:=rfl
variable{i:Nat}{R:ah}
theorem XB{A:ah}(hz:z=i)(hi:i<2^P.length)(hR:(lN A P k).getD i []=R):((lN A P k).map λl=>[aF l])[z]? = some [aF R]:=by
 subst hz;rw[fx,getD_at (L:=lN A P k)<|by simpa using hi,hR];rfl
theorem Ow{S:aq}{H:aE}{x y:bj}(h:l9 S H x y):∀a:fc,kc S H (a++[x]) (a++[y])
 |[]=>.cons _ _ _ _ h (.refl _)
 |z::a=>.cons _ _ _ _ (.refl _)<|Ow h a
variable{c id:Nat}
theorem o5{S:aq}{L:ak}{ar:Nat}{m:Bool}(hc:c=L.length)(hn:n=R.length)(hS:S id)(hH:H[id]? = some (.vec m ar 1<|aw R)) :
  kc S H (List.drop 0 (List.take c<|gi L)++List.drop 0 (List.take 1 [[D.own id ar 0 n]])) (gi<|L++[R]):=by
 subst hc hn;rw[cB zs,show gi (L++[R])=gi L++[[aF R]] by simp[gi]];exact Ow (.cons _ _ _ _ (.own _ _ _ _ _ _ _ _ hS hH<|aV<|cB<|by simp[aw]) (.refl _)) _
variable(ρ:Nat->Nat)
theorem MS(l:ah):kl ρ (aw l)=aw l:=jW _<|c6 _ (λl=>by simp[aA,Pure]) l
theorem Vt(l:List Tree):kl ρ (b8 l)=b8 l:=jW _<|fO l
def gT(l:ah):fc:=l.map λn=>[.sc (.int .u64 n)]
variable(l:ah)
@[simp] theorem zCM:(gT l).length=l.length:=aI ..
@[simp] theorem oE:dF<|gT l:=c6 _ (λl=>by simp[aA,Pure]) l
@[simp] theorem zyJ:bB m (gT l)↔True:=⟨λ_=>trivial,λ_=>bm _<|oE l⟩
theorem pe{l:ah}(h:c=l.length):List.drop 0 (List.take c<|gT l)++[[.sc (.int .u64 x)]]=gT (l++[x]):=by
 subst h;rw[cB zs];simp[gT]
noncomputable def CM(t:Tree):D :=
 if (mN t<|cY t).2=0 then zZ<|cY t else .aJ [mi Od,.sc (.int .i64 (mN t<|cY t).2)]
theorem zqB(h:(mN t<|cY t).2=0):(mN t<|cY t).1=cY t/\aU bw t=0/\aU bw (cY t)=0:=by
 unfold mN at *;split at h
 ·rename_i h1;split at h
  ·rename_i h2;rw[ae h1,ae h2];exact⟨rfl,h1,h2⟩
  rename_i h2;exact absurd h h2
 rename_i h1;exact absurd h h1
theorem zzK(t:Tree)(hs:Small t):ao aj 154 [ba t]<|CM t:=by
 have hP:=zqJ t hs;have FA:Pure<|CM t:=by
  unfold CM zZ;split
  ·dsimp only;split<;>simp[Pure,aA,MF]
  simp[Pure,aA,MF]
 refine dh (fY [47,191,7167,14335,28671]) zs zp ?_ FA;refine sR ?_;refine sC hP ?_;unfold CM;refine sS (λh0=>?_) λh0=>?_
 ·have h0:¬(mN t<|cY t).2=0:=(by simpa using h0);rw[ab h0];exact sP
 have h0:(mN t<|cY t).2=0:=by simpa using h0
 obtain⟨e1,hc,xZ⟩:=zqB h0;rw[ae h0,e1];have xX:=((rW _ _).1 xZ).2.2;have eJ:=((rW _ _).1 xZ).1;have GY:=Zm t ((rW _ _).1 hc).2.2;clear hP FA h0 e1 hc xZ;generalize cY t=f at *;have hla:=Qp f;have ug:=HI f;have hG:=zuc f xX [] [] zq zq;have GR:=u0 (dB f) [];have DG:=nL (partsOf f) [];have Lx:=zxE (gH []<|dB f).length (gH []<|dB f) (by simp at *;omega);rw[XY xX] at Lx;have vB:(nQ<|dB f).length=(gH []<|dB f).length:=by rw[<-XY xX];simp
 have hT:=Yi GY;have O3:=O0 xX;unfold zZ;dsimp only;generalize On:gH [] (dB f)=A0 at *;generalize sh:nQ (dB f)=A at *;generalize iL:b6 [] (partsOf f)=P at *;obtain⟨N5,Nq⟩:∃N5:bj,N5=[au,au,au,au,au]:=⟨_,rfl⟩;refine bQ (aL 3 (env':=[(1,.loc 0 0),(2,.loc 1 0),(3,aa 0),(5,.loc 2 0)]) (H':=[.row true<|aO f,.row true N5,.row true [au,au]]) zs rfl (by exact sQ) ⟨⟨rfl,.refl _,bI _<|eU _⟩,⟨rfl,by rw[Nq];exact .refl _,by rw[Nq];simp[aG,aK]⟩,⟨rfl,.refl _,zu⟩,trivial⟩) ?_;refine bQ (kY (gG 2 0 1 zs rfl rfl)<|gG 2 1 3 zs rfl rfl) ?_;refine sR ?_
 have W2:bZ aj 209 [.loc 2 0,ba f] [.row true<|aO f,.row true N5,.row true [.own 3 0 0 0,.own 4 0 0 0],.vec true 0 1 [],.vec true 0 3 []] (.aJ [])
   [.row true<|aO f,.row true N5,.row true [.own 3 A0.length 0 A0.length,.own 4 P.length 0 P.length],.vec true A0.length 1<|aw A0,.vec true P.length 3<|b8 P]:=by
  refine rX hG [.row true<|aO f,.row true N5] [] rfl (by simp[da,aG,aK,bz _<|im _]) (wm<|by simp[da]) (by simp[bL,D.aP]) (by simp[D.aP,bL]) ?_ ?_
  ·simp[da,al.aP,bL,D.aP,kl,aw,b8]
  simp only[da,fR,jc,al.aP,bL,D.aP,dC,fy,MS,Vt];rfl
 refine sA W2 ?_
 have xf:bZ aj 210 [.own 3 A0.length 0 A0.length] [.row true<|aO f,.row true N5,.row true [.own 3 A0.length 0 A0.length,.own 4 P.length 0 P.length],.vec true A0.length 1<|aw A0,.vec true P.length 3<|b8 P] (.aJ [])
   [.row true<|aO f,.row true N5,.row true [.own 3 A0.length 0 A0.length,.own 4 P.length 0 P.length],.vec true A0.length 1<|aw A,.vec true P.length 3<|b8 P]:=by
  refine rX Lx [.row true<|aO f,.row true N5,.row true [.own 3 A0.length 0 A0.length,.own 4 P.length 0 P.length]] [.vec true P.length 3<|b8 P] rfl zu ⟨bm _<|c6 _ (λl=>by simp[aA,Pure]) A0,trivial⟩ (by simp[bL,D.aP]) (by simp[D.aP,bL]) ?_ ?_
  ·simp only[fR,jc,al.aP,MS];rfl
  simp only[fR,jc,al.aP,MS];rfl
 refine sA xf ?_;have IQ:=zul A P;refine bQ (nX (mq 2) (env':=[(1,.loc 0 0),(2,.loc 1 0),(3,aa 0),(5,mR A P)]) (H':=[.row true<|aO f,.row true N5,.row false [aF A,.aM 3<|b8 P],.vec false A0.length 1<|aw A,.vec false P.length 3<|b8 P]) ?_ ?_) ?_
 ·refine⟨.refl _,.refl _,.refl _,iP.loc _ _ _ _ _ rfl rfl (.cons _ _ _ _ (.own _ _ _ _ _ _ _ _ rfl rfl ?_) (.cons _ _ _ _ (.own _ _ _ _ _ _ _ _ rfl rfl ?_) (.refl _))),trivial⟩
  ·rw[<-vB];exact aV<|cB<|by simp[aw]
  exact aV<|cB zs
 ·refine⟨⟨.inl rfl,(λh=>by cases h),.refl _⟩,⟨.inl rfl,(λh=>by cases h),.refl _⟩,⟨.inr ⟨rfl,rfl⟩,λ_=>rfl,.cons _ _ _ _ (.own _ _ _ _ _ _ _ _ rfl rfl ?_) (.cons _ _ _ _ (.own _ _ _ _ _ _ _ _ rfl rfl ?_) (.refl _))⟩,⟨.inr ⟨rfl,rfl⟩,λ_=>rfl,rfl,rfl,.refl _⟩,⟨.inr ⟨rfl,rfl⟩,λ_=>rfl,rfl,rfl,.refl _⟩,trivial⟩
  ·rw[<-vB];exact aV<|cB<|by simp[aw]
  exact aV<|cB zs
 have Oy:A.length<=60:=by simp at GR;omega
 have zP6:P.length<=60:=by simp at DG;omega
 subst Nq;clear hG Lx W2 xf GR DG On vB;unfold mR;refine sR ?_;rw[aI,qZ];refine sI ?_;refine sS (λfh=>?_) λfh=>?_
 ·have fh:10<A.length+P.length:=sO;rw[ae fh];exact sP
 have fh:¬10<A.length+P.length:=sO;rw[ab fh];have hI:=hT zo;have hp2:=Cl (n:=P.length) zo;have ss:=Cl (n:=A.length+P.length) zo;have s1:(1:Int)*2^min ((P.length:Nat):Int).toNat IntKind.i64.bits=((2^P.length:Nat):Int):=Lu P.length zo;have s2:(1:Int)*2^min ((A.length+P.length:Nat):Int).toNat IntKind.i64.bits=((2^(A.length+P.length):Nat):Int):=Lu _ zo;rw[qZ];refine⟨zo,?_⟩;rw[s1];generalize EX:2^P.length=NP at *;generalize vI:2^(A.length+P.length)=N at *;refine sI ?_;refine⟨zo,zo,zo,?_⟩;rw[bO];refine sW ?_;rw[<-Int.natCast_add];simp only[ua];refine⟨zo,?_⟩;rw[s2];refine sI ?_;have hK:=zzx A P hI;have zQJ:D.ax [aF A,.aM 3<|b8 P]=mR A P:=rfl;have M7:∀k,(lN A P k).length=NP:=λk=>by rw[ztS,EX]
 refine pj (λ_:Unit=>[(1,.loc 0 0),(2,.loc 1 0),(5,mR A P),(6,aa ((A.length+P.length:Nat):Int)),(7,.loc 5 0),(8,.own 6 0 0 NP)])
  (λ_=>[.row true<|aO f,.row true [au,au,au,au,au],.row false [aF A,.aM 3<|b8 P],.vec false A0.length 1<|aw A,.vec false P.length 3<|b8 P,.row true [au,au,au,au,au],.vec true 0 1<|(lN A P N).map λl=>[aF l]]) (λ_=>True) ?_ ?_
 ·refine sR ?_;refine bQ (yX 6 1 NP 0 zs rfl) ?_;refine cq [1,2,5,6,7,8,57] (λk:Nat=>[(58,aa k)]) (λk=>.row true (aO f)::.row true [au,au,au,au,au]::.row false [aF A,.aM 3<|b8 P]::.vec false A0.length 1 (aw A)::.vec false P.length 3 (b8 P)::.row true [au,au,au,au,au]::.vec true 0 1 (iT 7<|lN A P k)::eu 1 l6 (lN A P k)) (λk=>k<=N) (λk=>N-k) 0 ?_;refine sW ?_;refine⟨zo,by exact sK,?_,?_⟩
  ·rw[zpy,EX];show _::_::_::_::_::_::_::_=_::_::_::_::_::_::_::_;rw[xL 1 _ l6];exact bH (λx=>_::_::_::_::_::_::al.vec true 0 1 x::_)<|x' (α:=Int) 7 _
  rintro k hk;refine bf (λq0=>?_) λq0=>?_
  ·have q0:k<N:=sO;have Hn:=WJ A P k;have hlen:=M7 k;have js:=zuR A P k;have fS:=Is (A:=A) (P:=P) (k:=k) Hn;have qY:=zt0 A P k<|rJ A P k;rw[EX] at Hn;refine sC (hK k) ?_;generalize rJ A P k=v at *;generalize zU A P k v=C at *;generalize TV:lN A P (k+1)=R2 at *;generalize lN A P k=R at *;refine sB ?_;refine⟨_,kW (i:=v) zo zo,?_⟩;refine sW ?_;refine wo ?_;refine sW ?_;refine sY ?_;refine u4 zo ?_;refine sW ?_;rw[fS];refine⟨by unfold iF;simp only[lD,fg,dC,fy];omega,?_⟩;refine sW ?_;refine xg (C++[(k:Int)]) zo ?_ ?_
   ·exact uK
   refine bC ?_;refine⟨_,kW (i:=v) zo zo,?_⟩;refine aQ ?_;refine⟨k+1,zo,zd,?_⟩;dsimp only;rw[TV];have An:R2.length=NP:=(by rw[<-js,tU,hlen]);refine aL (NP+7) zs (by simp[An]) (by exact sQ) ⟨⟨rfl,.refl _,bI _<|eU _⟩,⟨rfl,.refl _,zu⟩,⟨rfl,.refl _,by simp[aG,bz _<|cX A,aK,bm _<|fO P]⟩,⟨rfl,rfl,rfl,.refl _,bm _<|c6 _ (λl=>by simp[aA,Pure]) A⟩,⟨rfl,rfl,rfl,.refl _,bm _<|fO P⟩,⟨rfl,.refl _,zu⟩,⟨rfl,rfl,rfl,aV ?_,vf<|by rw[<-js,tU];omega⟩,by rw[<-js];exact vG Kz⟩;rw[<-js];exact(vT zo zo (C++[(k:Int)]) zs)
  have q0:k=N:=sO;subst q0;refine⟨(),trivial,aL 7 zs rfl (by exact sQ) ⟨⟨rfl,.refl _,bI _<|eU _⟩,⟨rfl,.refl _,zu⟩,⟨rfl,.refl _,by simp[aG,bz _<|cX A,aK,bm _<|fO P]⟩,⟨rfl,rfl,rfl,.refl _,bm _<|c6 _ (λl=>by simp[aA,Pure]) A⟩,⟨rfl,rfl,rfl,.refl _,bm _<|fO P⟩,⟨rfl,.refl _,zu⟩,⟨rfl,rfl,rfl,CA (c:=l6) (λi hi=>by simp[mq]) λi hi=>?_,bm _<|uP _⟩,A9 _⟩⟩;show(eu 1 l6<|lN A P k)[i]? = _;exact vP hi
 intro _ _;refine sW ?_;refine⟨zo,?_⟩;rw[s2];refine sI ?_;refine sR ?_;refine bQ (kY (gG 5 0 1 zs rfl rfl)<|kY (gG 5 1 1 zs rfl rfl)<|kY (gG 5 2 1 zs rfl rfl)<|gG 5 3 1 zs rfl rfl) ?_;refine cq [1,2,5,6,7,8,76] (λk:Nat=>[(77,aa k)]) (λk=>[.row true<|aO f,.row true [au,au,au,au,au],.row false [aF A,.aM 3<|b8 P],.vec false A0.length 1<|aw A,.vec false P.length 3<|b8 P,.row true [.own 7 (cH A P f k).length 0 (cH A P f k).length,.own 8 k 0 k,.own 9 k 0 k,.own 10 k 0 k,au],.vec true 0 1<|(lN A P N).map λl=>[aF l],.vec true (cH A P f k).length 1<|aw<|cH A P f k,.vec true k 1<|gi<|mB A P k,.vec true k 1<|gT<|gM A true k,.vec true k 1<|gT<|gM A false k]) (λk=>k<=N) (λk=>N-k) 0 ?_;refine dd ?_;rintro k hk;have qh:=Vj A P f k;refine bf (λq0=>?_) λq0=>?_
 ·have q0:k<N:=sO;have hH:=Ku A P hI k f GY O3;have eS:=RK A P f k;have hO:=zz0 A P Oy k;have Jx:k/2^A.length<NP:=(by rw[<-EX];exact Zc<|by rw[vI];exact q0);have cR:=zqI (A:=A) (P:=P) (s:=k) (by rw[vI];exact q0);rw[vI] at cR;have eN:=U6 A P k;rw[<-EX] at Jx;have eT:=KE A true k;have eF:=KE A false k;have T5:=TZ A P Oy hI.atoms k true;have Uk:=TZ A P Oy hI.atoms k false;have D2:(wC A P (A.length+P.length) k).length<=1024:=(by have h:(wC A P (A.length+P.length) k).length<=2^(A.length+P.length):=sb _ _;rw[vI] at h;exact jI h ss);generalize wC A P (A.length+P.length) k=R at *;generalize kQ A k true A.length=xT at *;generalize kQ A k false A.length=xF at *;generalize k/2^A.length=v at *;have VB:=OR R zo;refine sC hH ?_;cases r:dQ (dE A P k) f
  ·rw[r,ab zc] at eS;refine sW ?_;refine sC hO ?_;refine sB ?_;refine⟨_,XB (i:=v) zo (by simpa using Jx) cR,?_⟩;refine sW ?_;refine sE (rA VB zp (d:=.own 11 1 0 R.length) [11] rfl rfl (by simp[al.aP,bL,D.aP];rfl)) ?_;refine sJ ?_;refine sC T5 ?_;refine sJ ?_;refine sC Uk ?_;refine ee ?_;refine⟨k+1,zo,zd,?_⟩;dsimp only;rw[eS,eN,eT,eF];try rw[show(cH A P f k++[(k:Int)]).length=(cH A P f k).length+1 by simp]
   (refine aL 11 zs rfl ?_ ?_<;>(repeat' (first|exact trivial|exact rfl|exact .refl _|refine And.intro ?_ ?_|(simp[aK,aG,bB,-List.map_take,-List.map_drop];done))))
   all_goals
    first|exact bI _ (eU _)|exact bz _ (cX _)|exact bz _ IQ|exact bm _ (uP _)|exact bm _ (oE _)|exact bm _ (nM _)|exact bm _ (c6 _ (λl=>by simp[aA,Pure]) _)|exact aV (pe zs)|exact o5 zs rfl rfl rfl|exact aV (kC _ _)|skip
  rw[r,ae rfl] at eS;refine sWJ ?_;refine sC hO ?_;refine sB ?_;refine⟨_,XB (i:=v) zo (by simpa using Jx) cR,?_⟩;refine sW ?_;refine sE (rA VB zp (d:=.own 12 1 0 R.length) [12] rfl rfl (by simp[al.aP,bL,D.aP];rfl)) ?_;refine sJ ?_;refine sC T5 ?_;refine sJ ?_;refine sC Uk ?_;refine ee ?_;refine⟨k+1,zo,zd,?_⟩;dsimp only;rw[eS,eN,eT,eF];try rw[show(cH A P f k++[(k:Int)]).length=(cH A P f k).length+1 by simp]
  (refine aL 11 zs rfl ?_ ?_<;>(repeat' (first|exact trivial|exact rfl|exact .refl _|refine And.intro ?_ ?_|(simp[aK,aG,bB,-List.map_take,-List.map_drop];done))))
  all_goals
   first|exact bI _ (eU _)|exact bz _ (cX _)|exact bz _ IQ|exact bm _ (uP _)|exact bm _ (oE _)|exact bm _ (nM _)|exact bm _ (c6 _ (λl=>by simp[aA,Pure]) _)|exact aV (pe zs)|exact o5 zs rfl rfl rfl|exact aV (kC _ _)|skip
 have q0:k=N:=sO;obtain rfl:N=k:=q0.symm;refine sR ?_;refine bQ (gG 5 4 1 zs rfl rfl) ?_;refine cq [2,5,6,7,122,123] (λk:Nat=>[(124,aa k)]) (λk=>[.row true<|aO f,.row true [au,au,au,au,au],.row false [aF A,.aM 3<|b8 P],.vec false A0.length 1<|aw A,.vec false P.length 3<|b8 P,.row true [.own 7 (cH A P f N).length 0 (cH A P f N).length,.own 8 N 0 N,.own 9 N 0 N,.own 10 N 0 N,.own 11 (nU A P (A.length+P.length) k).length 0 (nU A P (A.length+P.length) k).length],.vec true 0 1<|(lN A P N).map λl=>[aF l],.vec true (cH A P f N).length 1<|aw<|cH A P f N,.vec true N 1<|gi<|mB A P N,.vec true N 1<|gT<|gM A true N,.vec true N 1<|gT<|gM A false N,.vec true (nU A P (A.length+P.length) k).length 1<|gi<|nU A P (A.length+P.length) k]) (λk=>k<=P.length) (λk=>P.length-k) 0 ?_;refine sW ?_;rw[qZ];refine⟨zo,by exact sK,rfl,?_⟩;rintro k hk;have s9:=Jl A P (A.length+P.length) k;refine bf (λq0=>?_) λq0=>?_
 ·have q0:k<P.length:=sO;have hg:=LK q0;obtain⟨hw,hk7⟩:=hI.wf _ hg;have hTg:=hI.told _ hg;have eFa:=Wu A P (A.length+P.length) q0;have hsE:Ac A P (A.length+P.length) (P.getD k default)=fb (gO A P<|P.getD k default) N:=(by unfold Ac;rw[vI]);refine sL (zR (k:=k) zo q0) ?_;generalize P.getD k default=g at *;refine sS (λg7=>?_) λg7=>?_
  ·have g7:g.kind=7:=(by simpa using g7);rw[ae g7] at eFa;refine aQ ?_;refine⟨k+1,zo,zd,?_⟩;dsimp only;rw[eFa]
   (refine aL 12 zs rfl ?_ ?_<;>(repeat' (first|exact trivial|exact rfl|exact .refl _|refine And.intro ?_ ?_|(simp[aK,aG,bB,-List.map_take,-List.map_drop];done))))
   all_goals
    first|exact bI _ (eU _)|exact bz _ (cX _)|exact bz _ IQ|exact bm _ (uP _)|exact bm _ (oE _)|exact bm _ (nM _)|exact bm _ (c6 _ (λl=>by simp[aA,Pure]) _)|exact aV (pe zs)|exact o5 zs rfl rfl rfl|exact aV (kC _ _)|skip
  have g7:¬g.kind=7:=(by simpa using g7);rw[ab g7,hsE] at eFa;have Dz:=λs=>zzv A P hI s g hw hTg zo;refine⟨zo,?_⟩;rw[s2];refine sI ?_;refine bQ (eo 14 1 zs rfl) ?_;refine cq [2,5,6,7,13,122,123,124,132] (λs:Nat=>[(14,.own 13 (fb (gO A P g) s).length 0 (fb (gO A P g) s).length),(133,aa s)]) (λs=>[.row true<|aO f,.row true [au,au,au,au,au],.row false [aF A,.aM 3<|b8 P],.vec false A0.length 1<|aw A,.vec false P.length 3<|b8 P,.row true [.own 7 (cH A P f N).length 0 (cH A P f N).length,.own 8 N 0 N,.own 9 N 0 N,.own 10 N 0 N,.own 11 (nU A P (A.length+P.length) k).length 0 (nU A P (A.length+P.length) k).length],.vec true 0 1<|(lN A P N).map λl=>[aF l],.vec true (cH A P f N).length 1<|aw<|cH A P f N,.vec true N 1<|gi<|mB A P N,.vec true N 1<|gT<|gM A true N,.vec true N 1<|gT<|gM A false N,.vec true (nU A P (A.length+P.length) k).length 1<|gi<|nU A P (A.length+P.length) k,.row true<|aO g,.vec true (fb (gO A P g) s).length 1<|aw<|fb (gO A P g) s]) (λs=>s<=N) (λs=>N-s) 0 ?_;refine dd ?_;rintro s hs;have zMw:=sb (gO A P g) s;refine bf (λq1=>?_) λq1=>?_
  ·have q1:s<N:=sO;have eG:=AG (gO A P g) s;refine sC (Dz s) ?_;cases r:gO A P g s
   ·rw[r,ab zc] at eG;refine aQ ?_;refine⟨s+1,zo,zd,?_⟩;dsimp only;rw[eG];exact aC (by exact sK) rfl
   rw[r,ae rfl] at eG;refine ke ?_;refine⟨s+1,zo,zd,?_⟩;dsimp only;rw[eG];rw[show(fb (gO A P g) s++[(s:Int)]).length=(fb (gO A P g) s).length+1 by simp];refine aL 14 zs rfl sG (sZ ?_);exact aV<|kC _ _
  have q1:s=N:=sO;obtain rfl:N=s:=q1.symm;refine ee ?_;refine⟨k+1,zo,zd,?_⟩;dsimp only;rw[eFa];rw[show(nU A P (A.length+P.length) k++[fb (gO A P g) N]).length=(nU A P (A.length+P.length) k).length+1 by simp]
  (refine aL 12 zs rfl ?_ ?_<;>(repeat' (first|exact trivial|exact rfl|exact .refl _|refine And.intro ?_ ?_|(simp[aK,aG,bB,-List.map_take,-List.map_drop];done))))
  all_goals
   first|exact bI _ (eU _)|exact bz _ (cX _)|exact bz _ IQ|exact bm _ (uP _)|exact bm _ (oE _)|exact bm _ (nM _)|exact bm _ (c6 _ (λl=>by simp[aA,Pure]) _)|exact aV (pe zs)|exact o5 zs rfl rfl rfl|exact aV (kC _ _)|skip
 have q0:k=P.length:=sO;subst q0;have hE:=Vr A P f;rw[vI] at hE;rw[hE];refine .aJ _ _ (.cons _ _ _ _ (.agg _ _ (.cons _ _ _ _ (.own _ _ _ _ _ _ _ _ rfl ?_) (.cons _ _ _ _ (.own _ _ _ _ _ _ _ _ rfl ?_) (.cons _ _ _ _ (.own _ _ _ _ _ _ _ _ rfl ?_) (.cons _ _ _ _ (.own _ _ _ _ _ _ _ _ rfl ?_) (.cons _ _ _ _ (.own _ _ _ _ _ _ _ _ rfl ?_) .nil)))))) (.cons _ _ _ _ (.refl _) .nil))
 ·exact vd<|by simp[aw]
 ·exact vd zs
 ·exact vd zs
 ·exact vd zs
 exact vd zs
theorem Pe{p:aq}:bq (fb p n) n:=iS λx hx=>by
 obtain⟨k,hk,rfl⟩:=dq.1 hx;have:=jz.1 (zg.1 hk).1;omega
theorem Oo(P:List Tree)(f:Tree):(mY A P f).next.length=2^(A.length+P.length):=by simp[mY]
theorem zwa{A:ah}(h:A.length+P.length<=10)(f:Tree):(mY A P f).aU=0:=by
 have h2:=Cl h;have hn:=Oo A P f;have hf:(mY A P f).fair.length<=P.length:=Jl _ _ _ _;unfold bT.aU;rw[ab zo,ab ?_,ab ?_,ab ?_]
 ·rw[uQ,yK];intro l hl;obtain⟨g,_,rfl⟩:=dq.1 hl;rw[hn,show bq (Ac A P (A.length+P.length) g) (2^(A.length+P.length))=true from Pe];decide
 ·rw[uQ,yK];intro l hl;obtain⟨s,_,rfl⟩:=dq.1 hl;rw[hn,show bq (wC A P (A.length+P.length) s) (2^(A.length+P.length))=true from Pe];decide
 rw[hn];simp only[mY,aI,List.length_range,ne_eq,not_true_eq_false,false_or];rw[Pe];decide
theorem T8(A:ah)(s:Nat)(is:Bool):∀k,0<=kQ A s is k/\kQ A s is k<18446744073709551616
 |0=>by simp[kQ]
 |k+1=>by
  rw[kQ];split
  ·have e:kh .or .u64 (kQ A s is k) (2^(A.getD k 0).toNat)=(((BitVec.ofInt 64 (kQ A s is k) ||| BitVec.ofInt 64 (2^(A.getD k 0).toNat)).toNat:Nat):Int):=Lv _;rw[e];have:=(BitVec.ofInt 64 (kQ A s is k) ||| BitVec.ofInt 64 (2^(A.getD k 0).toNat)).isLt;omega
  exact T8 A s is k
theorem ZD(P:List Tree)(f:Tree):tS (mY A P f).jy:=by
 intro x hx;obtain⟨s,_,rfl⟩:=dq.1 hx;exact T8 A s true A.length
theorem zt7{A:ah}(h:A.length+P.length<=10)(f:Tree):(mY A P f).Fits/\(mY A P f).start.length<=1048576/\∀l∈(mY A P f).next,l.length<=1048576:=by
 have h2:=Cl h;have s1:(mY A P f).start.length<=2^(A.length+P.length):=sb _ _;have s2:∀l∈(mY A P f).next,l.length<=2^(A.length+P.length):=λl hl=>by
  obtain⟨s,_,rfl⟩:=dq.1 hl;exact sb _ _
 have s3:∀l∈(mY A P f).fair,l.length<=2^(A.length+P.length):=λl hl=>by
  obtain⟨s,_,rfl⟩:=dq.1 hl;exact sb _ _
 have hf:(mY A P f).fair.length<=P.length:=Jl _ _ _ _;have hn:=Oo A P f;have hm:(mY A P f).jy.length=2^(A.length+P.length):=by simp[mY]
 have hm2:(mY A P f).mO.length=2^(A.length+P.length):=by simp[mY]
 exact⟨⟨zo,zo,zo,zo,zo,λl hl=>by have:=s2 l hl;omega,λl hl=>by have:=s3 l hl;omega⟩,zo,λl hl=>by have:=s2 l hl;omega⟩
noncomputable def gU(t:Tree):Int:=if (mN (bK 4 t)<|cY<|bK 4 t).2=0 then if 10<(nQ<|dB<|cY<|bK 4 t).length+(b6 []<|partsOf<|cY<|bK 4 t).length then 2 else 0 else (mN (bK 4 t)<|cY<|bK 4 t).2
noncomputable def fX(t:Tree):bT:=if gU t=0 then mY (nQ<|dB<|cY<|bK 4 t) (b6 []<|partsOf<|cY<|bK 4 t)<|cY<|bK 4 t else Od
theorem XG(t:Tree):CM (bK 4 t)=.aJ [mi<|fX t,aa<|gU t]:=by
 unfold CM fX gU zZ;by_cases h:(mN (bK 4 t)<|cY<|bK 4 t).2=0
 ·simp only[ae h];by_cases q:10<(nQ<|dB<|cY<|bK 4 t).length+(b6 []<|partsOf<|cY<|bK 4 t).length
  ·simp only[ae q];rw[ab zc];rfl
  simp only[ab q];rfl
 simp only[ab h]
theorem zvC(h:gU t=0):(nQ<|dB<|cY<|bK 4 t).length+(b6 []<|partsOf<|cY<|bK 4 t).length<=10:=by
 unfold gU at h;split at h
 ·split at h
  ·exact absurd h zc
  omega
 rename_i q;exact absurd h q
theorem Ql(h:gU t=0):fX t=mY (nQ<|dB<|cY<|bK 4 t) (b6 []<|partsOf<|cY<|bK 4 t) (cY<|bK 4 t):=ae h
variable{W:bg}
theorem L8(hW:W.Fits)(hc:W.aU=0)(s1:W.start.length<=1048576)(r1:∀l∈W.next,l.length<=1048576)(h:gU t=0):n6 W<|fX t:=by
 have hf:=zvC h;rw[Ql h];obtain⟨h1,h2,h3⟩:=zt7 hf<|cY<|bK 4 t;exact⟨⟨hW,h1,hc,zwa hf _⟩,s1,h2,r1,h3⟩
open Classical in
noncomputable def iO(W:bg)(A:bT):Bool:=decide (∃v,v<(cU W A).2.length/\Fw (cU W A).2 (jZ W A (cU W A).1) v)
variable{A:bT}
theorem zvr(hb:n6 W A):∃s l,vp W A (cU W A).1 (cU W A).2 (jq W A).2=.aJ [.agg [aF s,aF l],ay<|iO W A,aa 0]/\(iO W A=false->s=[]/\l=[]):=by
 obtain⟨hN,hg⟩:=zA hb;have hp:=zAU (F:=jZ W A (cU W A).1) hN.inG;have hA:iO W A↔∃v,v<(cU W A).2.length/\Fw (cU W A).2 (jZ W A (cU W A).1) v:=by unfold iO;simp only[ja]
 rw[<-hA] at hp;unfold vp;by_cases h:pE (cU W A).2 (jZ W A (cU W A).1)<0
 ·rw[ae h];have:iO W A=false:=by
   grind
  exact⟨[],[],by rw[this],λ_=>⟨rfl,rfl⟩⟩
 rw[ab h,hp.1 h]
 grind
theorem YW{P:bG}{f:FuncId}{d:D}{k:Int}(h:ao P f [ba<|bK k t] d)(hp:Pure d)(hid:H[id]? = some (.vec true 0 3 [[aa t.kind,aa t.num,.aM 3<|t.kids.map gF]])) :
  ov P f [.agg [aa k,aa 0,.own id 0 0 1]] H d (H.set id (.vec false 0 3 [[aa t.kind,aa t.num,.aM 3<|t.kids.map gF]])) [id]:=by
 have hx:dF [[aa t.kind,aa t.num,.aM 3<|t.kids.map gF]]:=by
  have:=eU t;exact⟨this,trivial⟩
 have:=HR (args0:=[.agg [aa k,aa 0,.own 0 0 0 1]]) (args':=[ba<|bK k t]) (H0:=[.vec true 0 3 [[aa t.kind,aa t.num,.aM 3<|t.kids.map gF]]]) (H:=H) (args:=[.agg [aa k,aa 0,.own id 0 0 1]])
  (.cons _ _ _ _ (.agg _ _ (.cons _ _ _ _ (.refl _) (.cons _ _ _ _ (.refl _) (.cons _ _ _ _ (.own _ _ _ _ _ _ _ _ rfl (.cons _ _ _ _ (by rw[wY];exact mE _) .nil)) .nil)))) .nil) h hp [id] rfl zs zu ⟨bm _ hx,trivial⟩ (by simp[bL,D.aP]) (λi o ho=>by
   cases i with
   |zero =>
    simp at ho;subst ho;show H[id]? = _;rw[hid];simp only[al.aP,jW _ hx]
   |succ i=>simp at ho)
 simpa [y',al.frozen,al.aP,jW _ hx,mF] using this
variable(W:bg)
theorem zxi(hW:W.Fits)(s1:W.start.length<=1048576)(r1:∀l∈W.next,l.length<=1048576)(t:Tree)(hs:Small t) :
  ∃s l,ao aj 80 [gh W,ba t] (.aJ [.agg [aF s,aF l],ay<|decide (W.aU=0/\aU bw t=0/\gU t=0)&&!(iO W<|fX t),aa<|if W.aU≠0 then W.aU else if aU bw t≠0 then aU bw t else gU t]) /\
   (W.aU=0->aU bw t=0->gU t=0->vp W (fX t) (cU W<|fX t).1 (cU W<|fX t).2 (jq W<|fX t).2=.aJ [.agg [aF s,aF l],ay<|iO W<|fX t,aa 0])/\(¬(W.aU=0/\aU bw t=0/\gU t=0/\iO W (fX t))->s=[]/\l=[]):=by
 have hC:=J5 W hW;have hL:=BJ t hs;have hM:=zzK (bK 4 t)<|uE hs;rw[XG] at hM;by_cases h1:W.aU=0
 ·by_cases h2:aU bw t=0
  ·by_cases h3:gU t=0
   ·have hb:=L8 hW h1 s1 r1 h3;have hF:=zyH hb;obtain⟨s,l,e1,e2⟩:=zvr hb;rw[e1] at hF;refine⟨s,l,?_,λ_ _ _=>e1,λh=>e2 (by cases e:iO W (fX t);rfl;exact absurd ⟨h1,h2,h3,e⟩ h)⟩;rw[ab (by simpa using h1),ab (by simpa using h2),gQ ⟨h1,h2,h3⟩,kP];rw[h1] at hC;rw[h2] at hL;rw[h3] at hM⊢;generalize iO W (fX t)=b at *;refine bS fZ ?_;unfold gh at *;refine sR ?_;refine sC hC ?_;refine sC hL ?_;refine sE (YW hM zp rfl) ?_;refine sC hF ?_;cases b
    ·refine sW ?_;exact sP
    refine sW ?_;exact sP
   refine⟨[],[],?_,λ_ _ h=>absurd h h3,λ_=>⟨rfl,rfl⟩⟩;rw[ab<|by simpa using h1,ab<|by simpa using h2,gI λh=>h3 h.2.2,pT];rw[h1] at hC;rw[h2] at hL;generalize gU t=c at *;refine bS fZ ?_;unfold gh at *;refine sR ?_;refine sC hC ?_;refine sC hL ?_;refine sE (YW hM zp rfl) ?_;refine sS (λg=>?_) λg=>?_
   ·unfold aF;exact sP
   exact absurd (sO) h3
  refine⟨[],[],?_,λ_ h=>absurd h h2,λ_=>⟨rfl,rfl⟩⟩;rw[ab<|by simpa using h1,ae h2,gI λh=>h2 h.2.1,pT];rw[h1] at hC;generalize aU bw t=c at *;refine bS fZ ?_;unfold gh at *;refine sR ?_;refine sC hC ?_;refine sC hL ?_;refine sS (λg=>?_) λg=>?_
  ·unfold aF;exact sP
  exact absurd (sO) h2
 refine⟨[],[],?_,λh=>absurd h h1,λ_=>⟨rfl,rfl⟩⟩;rw[ae h1,gI λh=>h1 h.1,pT];generalize W.aU=c at *;refine bS fZ ?_;unfold gh at *;refine sR ?_;refine sC hC ?_;refine sS (λg=>?_) λg=>?_
 ·unfold aF;exact sP
 exact absurd (sO) h1
theorem zzF(hW:W.Fits)(hc:W.aU=0):ao aj 191 [gh W] (.aJ [bx W.next.length<|fwB (ga W.next iK)<|W.fair.map gy,aa 0]):=by
 obtain⟨_,qs,xC,_,gR,iW⟩:=qH W hc;have hC:=J5 W hW;rw[hc] at hC;have WW:=YA W hW hc iK;refine bS fZ ?_;unfold gh at *;refine sR ?_;refine sC hC ?_;rw[aI];refine⟨zo,zo,zo,?_⟩;rw[bO,show List.map D.sc [Value.bool false]=[ay false] from rfl,jS];refine sW ?_;refine bb [1,5,17] (λk:Nat=>[(18,aa k)]) (λk=>[(1,.vec true 0 1<|bF W.next.length λi=>decide (i<k))]) (λk=>k<=W.next.length) (λk=>W.next.length-k) 0 ?_;refine sW ?_;refine⟨zo,by exact sK,by simp;rfl,?_⟩;rintro k hk;refine bf (λq0=>?_) λq0=>?_
 ·have q0:k<W.next.length:=sO;refine sB ?_;refine⟨_,bc k zo q0,?_⟩;refine aQ ?_;refine⟨k+1,zo,zd,aC (by exact sK) ?_⟩;rw[n8 (i:=k) (f':=λi=>decide (i<k+1)) zo λv _=>by
   by_cases e:v=k
   ·rw[ae e];simp;omega
   rw[ab e,j9];simp;omega]
  rfl
 have q0:k=W.next.length:=sO;subst q0;rw[iI (g':=iK) λi hi=>by simp[hi,iK]];rw[show bx W.next.length iK=D.aM 1 (List.drop 0<|List.take W.next.length<|bF W.next.length iK) from by rw[Cv];rfl] at WW;refine sE (wO (pre:=[_]) (post:=[]) WW (lg _ _) ⟨by simp only[Pure];exact wE W,trivial⟩ trivial (uj _ _) rfl) ?_;exact .refl _
theorem W3(n:Nat)(hn:n<=1000000)(hl:l.length<=17592186043904)(hi:bq l n):ao aj 120 [aF l,aa n]<|bx n<|gy l:=by
 refine bt ?_;refine⟨zo,zo,zo,?_⟩;rw[bO,show List.map D.sc [Value.bool false]=[ay false] from rfl,jS];refine sW ?_;refine bb [0,5] (λk:Nat=>[(6,aa k)]) (λk=>[(0,.vec true 0 1<|bF n<|gy<|l.take k)]) (λk=>k<=l.length) (λk=>l.length-k) 0 ?_;refine dd ?_;rintro k hk;refine ck ?_;rw[aI];refine sS (λq0=>?_) λq0=>?_
 ·have q0:k<l.length:=sO;have hx:=cZ hi<|df q0;have eS:∀v,gy (l.take<|k+1) v=(gy (l.take k) v||(l.getD k 0==(v:Int))):=λv=>by
   unfold gy;rw[jP,aX q0,a8,aX q0];rw[j9,sq,u7,u7,dz,ib];simp only[Option.toList_some,cV,sj];exact or_congr_right eq_comm
  refine sL (bV (l:=l) (k:=k) zo q0) ?_;generalize l.getD k 0=x at *;refine sB ?_;refine⟨_,bc x.toNat zo zo,?_⟩;refine aQ ?_;refine⟨k+1,zo,zd,aC (by exact sK) ?_⟩;rw[n8 (i:=x.toNat) (f':=gy<|l.take<|k+1) zo λv _=>by
   rw[eS];by_cases e:v=x.toNat
   ·rw[ae e,show(x==(v:Int))=true by rw[ib];omega,Bool.or_true]
   rw[ab e,show(x==(v:Int))=false by rw[beq_eq_false_iff_ne];omega,wM]]
  rfl
 have q0:k=l.length:=sO;subst q0;rw[dM];exact qi rfl
theorem ztt(n:Nat)(hn:n<=1000000):ao aj 101 [aa n]<|bx n iK:=by
 refine bt ?_;refine⟨zo,zo,zo,?_⟩;rw[bO,show List.map D.sc [Value.bool false]=[ay false] from rfl,jS];refine sW ?_;refine bb [0,3] (λk:Nat=>[(4,aa k)]) (λk=>[(0,.vec true 0 1<|bF n λi=>decide (i<k))]) (λk=>k<=n) (λk=>n-k) 0 ?_;refine sW ?_;refine⟨zo,by exact sK,by simp;rfl,?_⟩;rintro k hk;refine bf (λq0=>?_) λq0=>?_
 ·have q0:k<n:=sO;refine sB ?_;refine⟨_,bc k zo q0,?_⟩;refine aQ ?_;refine⟨k+1,zo,zd,aC (by exact sK) ?_⟩;rw[n8 (i:=k) (f':=λi=>decide (i<k+1)) zo λv _=>by
   by_cases e:v=k
   ·rw[ae e];simp;omega
   rw[ab e,j9];simp;omega]
  rfl
 have q0:k=n:=sO;subst q0;rw[iI (g':=iK) λi hi=>by simp[hi,iK]];exact qi rfl
def wj(n:Nat)(F:ak):fc:=F.map λl=>[bx n<|gy l]
@[simp] theorem zqj(n:Nat)(F:ak):dF<|wj n F:=c6 _ (λl=>by simp[aA,lg]) F
@[simp] theorem zyc(F:ak):bB m (wj n F)↔True:=⟨λ_=>trivial,λ_=>bm _<|zqj n F⟩
@[simp] theorem zCl(n:Nat)(F:ak):(wj n F).length=F.length:=by simp[wj]
theorem zpD{F:ak}(h:k<F.length):List.drop 0 (List.take k<|wj n<|F.take k)++[[bx n<|gy<|F.getD k []]]=wj n (F.take<|k+1):=by
 rw[cB zq];unfold wj;rw[jP,aX h,oD,a8,aX h];rfl
theorem zvZ(hW:W.Fits)(hc:W.aU=0):ao aj 162 [gh W]<|rV W.next.length<|W.fair.map gy:=by
 obtain⟨_,qs,xC,_,gR,iW⟩:=qH W hc;have CW:iu W.fair:=⟨hW.fair,hW.xM⟩;have hM:=λk (hk:k<W.fair.length)=>W3 (W.fair.getD k []) W.next.length zo (CW.at k)<|ft iW k;refine bS fZ ?_;unfold gh;refine sR ?_;refine bQ (eo 3 1 zs rfl) ?_;refine bb [1] (λk:Nat=>[(3,.own 1 k 0 k),(4,aa k)]) (λk=>[(1,.vec true k 1<|wj W.next.length<|W.fair.take k)]) (λk=>k<=W.fair.length) (λk=>W.fair.length-k) 0 ?_;refine dd ?_;rintro k hk;refine ck ?_;rw[aI];refine sS (λq0=>?_) λq0=>?_
 ·have q0:k<W.fair.length:=sO;refine sL (eV (g:=W.fair) (k:=k) zo q0) ?_;rw[aI];refine sC (hM k q0) ?_;refine⟨by unfold iF;simp;omega,?_⟩;refine aQ ?_;refine⟨k+1,zo,zd,?_⟩;dsimp only;refine aL 2 zs rfl sQ (sU ?_);exact aV<|zpD q0
 have q0:k=W.fair.length:=sO;subst q0;refine .own _ _ _ _ _ _ _ _ rfl ?_;rw[dM,cB zs];have:(W.fair.map gy).map (λS=>[bx W.next.length S])=wj W.next.length W.fair:=by unfold wj;rw[yD];rfl
 rw[this];exact gw _
theorem US(g:ak)(hn:g.length<=1000000)(iM:∀l∈g,bq l g.length)(hF:iu g)(F:List aq)(sF:F.length<=1000000):ao aj 123 [bN g,rV g.length F]<|bx g.length<|fwB g F:=by
 by_cases h:F=[]
 ·subst h;exact ztJ g hn iM hF
 exact zxb g hn iM hF F sF h
theorem zwT(hW:W.Fits)(hc:W.aU=0)(z:aq):ao aj 100 [gh W,bx W.next.length z]<|bx W.next.length<|fwB (ga W.next z)<|W.fair.map gy:=by
 obtain⟨_,qs,xC,_,gR,iW⟩:=qH W hc;have iM:∀l∈W.next,bq l W.next.length:=λl hl=>(gR l hl).2;have vJ:iu W.next:=⟨hW.next,hW.yu⟩;have cR:=λk=>ft iM k;have yh:=zvZ W hW hc;refine bS (fY [27]) ?_;unfold gh at *;refine sR ?_;rw[aI];refine⟨zo,zo,zo,?_⟩;rw[bO];refine sW ?_;refine pj (λ_:Unit=>[(1,bx W.next.length z),(2,.loc 0 0),(5,.own 1 0 0 W.next.length)]) (λ_=>[.row true W.cells,.vec true 0 1<|(ga W.next z).map λl=>[aF l]]) (λ_=>True) ?_ ?_
 ·refine sR ?_;refine bQ (yX 1 1 W.next.length 0 zs rfl) ?_;refine cq [1,2,5] (λk:Nat=>[(6,aa k)]) (λk=>.row true W.cells::.vec true 0 1 (iT 2<|gW W.next.length (λv=>dw W.next z v (W.next.getD v []).length) k [])::eu 1 l6 (gW W.next.length (λv=>dw W.next z v (W.next.getD v []).length) k [])) (λk=>k<=W.next.length) (λk=>W.next.length-k) 0 ?_;refine sW ?_;refine⟨zo,by exact sK,?_,?_⟩
  ·rw[Wk];show _::_::_=_::_::_;rw[xL 1 _ l6];exact bH (λx=>al.row true W.cells::al.vec true 0 1 x::_)<|x' (α:=Int) 2 _
  rintro k hk;refine bf (λq0=>?_) λq0=>?_
  ·have q0:k<W.next.length:=sO;have Cj:=vJ.at k
   refine cq [1,2,5,6] (λj:Nat=>[(7,aa j)]) (λj=>.row true W.cells::.vec true 0 1 (iT 2<|gW W.next.length (λv=>dw W.next z v (W.next.getD v []).length) k<|dw W.next z k j)::eu 1 l6 (gW W.next.length (λv=>dw W.next z v (W.next.getD v []).length) k<|dw W.next z k j))
    (λj=>j<=(W.next.getD k []).length) (λj=>(W.next.getD k []).length-j) 0 ?_
   refine sW ?_;refine⟨zo,by exact sK,by rw[show dw W.next z k 0=[] by unfold dw;split<;>simp],?_⟩;rintro j hj;refine ck ?_;refine sL (eV (g:=W.next) (k:=k) zo q0) ?_;rw[aI];refine sS (λq1=>?_) λq1=>?_
   ·have q1:j<(W.next.getD k []).length:=sO;have eS:=Tk (z:=z) q1;have hx:=cZ (cR k)<|df q1;have qY:=R4 W.next z k j;have JR:∀z',z'=j->((W.next.getD k []).map λn=>[aa n])[z']? = some [aa<|(W.next.getD k []).getD j 0]:=λz' hz=>bV (l:=W.next.getD k []) hz q1;refine⟨zo,_,bc k zo q0,?_⟩;generalize mI:(W.next.getD k []).getD j 0=x at *;have same:(z k=true/\z x.toNat->False)->dw W.next z k (j+1)=dw W.next z k j:=λh=>by rw[eS,ab h]
    cases zk:z k
    ·refine aQ ?_;refine⟨j+1,zo,zd,aC (by exact sK) ?_⟩;dsimp only;rw[same λq=>by rw[zk] at q;cases q.1]
    refine sW ?_;refine sL (eV (g:=W.next) (k:=k) zo q0) ?_;refine sL (JR _ zo) ?_;refine⟨zo,_,bc x.toNat zo zo,?_⟩;cases zx:z x.toNat
    ·refine aQ ?_;refine⟨j+1,zo,zd,aC (by exact sK) ?_⟩;dsimp only;rw[same λq=>by rw[zx] at q;cases q.2]
    rw[ae ⟨zk,zx⟩] at eS;have js:(gW W.next.length (λv=>dw W.next z v (W.next.getD v []).length) k<|dw W.next z k j).set k (dw W.next z k j++[x])=gW W.next.length (λv=>dw W.next z v (W.next.getD v []).length) k (dw W.next z k<|j+1):=(by rw[Rb q0,<-eS]);have hlen:(gW W.next.length (λv=>dw W.next z v (W.next.getD v []).length) k<|dw W.next z k j).length=W.next.length:=UU ..;have OH:(gW W.next.length (λv=>dw W.next z v (W.next.getD v []).length) k<|dw W.next z k j).getD k []=dw W.next z k j:=SV q0;refine sW ?_;generalize gW W.next.length (λv=>dw W.next z v (W.next.getD v []).length) k (dw W.next z k j)=R at *;refine sB ?_;refine⟨_,kW (i:=k) zo zo,?_⟩;refine sW ?_;refine sL (eV (g:=W.next) (k:=k) zo q0) ?_;refine sL (JR _ zo) ?_;refine wo ?_;refine sW ?_;refine sY ?_;refine u4 zo ?_;refine sW ?_;rw[OH];refine⟨by unfold iF;simp only[lD,fg,dC,fy];omega,?_⟩;refine sW ?_;refine xg (dw W.next z k j++[x]) zo ?_ ?_
    ·exact uK
    refine bC ?_;refine⟨_,kW (i:=k) zo zo,?_⟩;refine aQ ?_;refine⟨j+1,zo,zd,?_⟩;dsimp only;rw[js];refine aL (W.next.length+2) zs zs (by exact sQ) ⟨⟨rfl,.refl _,bI _<|wE W⟩,⟨rfl,rfl,rfl,aV ?_,vf zq⟩,vG Kz⟩;exact(vT zo zo (dw W.next z k j++[x]) zs).trans (by rw[js])
   have q1:j=(W.next.getD k []).length:=sO;subst q1;rw[show gW W.next.length (λv=>dw W.next z v (W.next.getD v []).length) k (dw W.next z k (W.next.getD k []).length)=gW W.next.length (λv=>dw W.next z v (W.next.getD v []).length) (k+1) [] from Yl];refine sI ?_;exact⟨k+1,zo,zd,aC (by exact sK) rfl⟩
  have q0:k=W.next.length:=sO;subst q0;rw[RB,UM];refine⟨(),trivial,aL 2 zs rfl (by exact sQ) ⟨⟨rfl,.refl _,bI _<|wE W⟩,⟨rfl,rfl,rfl,CA (c:=l6) (λi hi=>by simp[mq]) λi hi=>?_,bm _<|uP _⟩,A9 _⟩⟩;show(eu 1 l6<|ga W.next z)[i]? = _;exact vP hi
 intro _ _;have g1:=WX iM z;have g2:=Yq vJ z;have hl:=Ek W.next z;have Dp:=US (ga W.next z) zo g1 g2 (W.fair.map gy) (by rw[aI];omega);have cut:=V6 (L:=ga W.next z) hl.symm;rw[<-cut,hl] at Dp;refine sW ?_;refine sC yh ?_;refine sE (wO (pre:=[]) (post:=[_]) Dp (lg _ _) trivial ⟨Hs _ _,trivial⟩ (uP _) rfl) ?_;exact .refl _
inductive Eu(g:ak)(a c:aq):Nat->Prop
 |base {i:Nat} (h:c i=true):Eu g a c i
 |step {i:Nat} {x:Int} (h:a i=true) (k:x∈g.getD i []) (m:Eu g a c x.toNat):Eu g a c i
open Classical in
noncomputable def euB(g:ak)(a c:aq)(v:Nat):Bool:=decide (Eu g a c v)
variable{a c:aq}{g:ak}{v:Nat}
theorem zzN:euB g a c v↔Eu g a c v:=by unfold euB;simp
theorem R1{b:Bool}(h:b↔Eu g a c v):b=euB g a c v:=by
 rw[j9,h,zzN]
structure EuI(g:ak)(a c:aq)(s:aq)(Q:List Nat):Prop where
 sound:∀v,s v->Eu g a c v
 start:∀v,c v->s v=true
 here:∀v,v∈Q->s v=true
 closed:∀v,s v->v∈Q\/∀k x,x∈g.getD k []->x.toNat=v->a k->s k=true
structure EuJ(g:ak)(a c:aq)(s:aq)(Q:List Nat)(n:Nat)(D:List Nat):Prop where
 sound:∀v,s v->Eu g a c v
 start:∀v,c v->s v=true
 here:∀v,v∈n::Q->s v=true
 closed:∀v,s v->v=n\/v∈Q\/∀k x,x∈g.getD k []->x.toNat=v->a k->s k=true
 done:∀k,k∈D->a k->s k=true
variable{s:aq}{Q:List Nat}
theorem EuI.pop(h:EuI g a c s<|n::Q):EuJ g a c s Q n [] where
 sound:=h.sound
 start:=h.start
 here:=h.here
 closed v hv:=by
  rcases h.closed v hv with q|q
  ·rcases eQ.1 q with e|e
   ·exact .inl e
   exact .inr (.inl e)
  exact .inr (.inr q)
 done k hk:=by cases hk
theorem EuJ.skip{D:List Nat}(h:EuJ g a c s Q n D)(hk:a k->s k):EuJ g a c s Q n (D++[k]) where
 sound:=h.sound
 start:=h.start
 here:=h.here
 closed:=h.closed
 done j hj ha:=by
  rcases dz.1 hj with q|q
  ·exact h.done j q ha
  rw[cV] at q;subst q;exact hk ha
theorem EuJ.push{D:List Nat}(h:EuJ g a c s Q n D)(hx:x∈g.getD k [])(hn:x.toNat=n)(ha:a k):EuJ g a c (mark s k) (Q++[k]) n (D++[k]) where
 sound v hv:=by
  rcases nE.1 hv with e|e
  ·subst e;exact .step ha hx<|by rw[hn];exact h.sound n<|h.here n zs
  exact h.sound v e
 start v hv:=fo<|h.start v hv
 here v hv:=by
  rcases eQ.1 hv with e|e
  ·exact fo<|h.here v<|by simp[e]
  rcases dz.1 e with e|e
  ·exact fo<|h.here v<|by simp[e]
  rw[cV] at e;subst e;exact km _ _
 closed v hv:=by
  rcases nE.1 hv with e|e
  ·exact .inr (.inl<|by simp[e])
  rcases h.closed v e with q|q|q
  ·exact .inl q
  ·exact .inr (.inl<|by simp[q])
  exact .inr (.inr λj y h1 h2 h3=>fo<|q j y h1 h2 h3)
 done j hj h3:=by
  rcases dz.1 hj with q|q
  ·exact fo<|h.done j q h3
  rw[cV] at q;subst q;exact km _ _
theorem EuJ.fin{D:List Nat}(h:EuJ g a c s Q n D)(hD:∀k x,x∈g.getD k []->x.toNat=n->k∈D):EuI g a c s Q where
 sound:=h.sound
 start:=h.start
 here v hv:=h.here v<|by simp[hv]
 closed v hv:=by
  rcases h.closed v hv with q|q|q
  ·subst q;exact .inr λk x h1 h2 h3=>h.done k (hD k x h1 h2) h3
  ·exact .inl q
  exact .inr q
theorem EuI.end_(h:EuI g a c s [])(v:Nat):s v=euB g a c v:=R1 ⟨h.sound v,λq=>by
 induction q with
 |base h'=>exact h.start _ h'
 |step h1 k _ ih=>exact(h.closed _ ih).elim (λq=>by cases q) λq=>q _ _ k rfl h1⟩
theorem zsF(h1:∀v,s v->Eu g a c v)(h2:∀v,c v->s v)(h3:∀v x,x∈g.getD v []->a v->s x.toNat->s v)(v:Nat):s v=euB g a c v:=R1 ⟨h1 v,λq=>by
 induction q with
 |base h=>exact h2 _ h
 |step h k _ ih=>exact h3 _ _ k h ih⟩
section
noncomputable def jT(W:bg):Nat->Bool:=fwB (ga W.next iK)<|W.fair.map gy
noncomputable def vY(W:bg):bj:=[aF W.start,bN W.next,iw W.label,bN W.fair,bx W.next.length<|jT W,bN<|dR W.next W.next.length]
noncomputable def kU(W:bg):D:=.ax<|vY W
@[simp] theorem ztU:aA<|vY W:=by simp[vY,aA,cX,l5,yr,lg]
@[simp] theorem MP:Pure<|kU W:=by simp only[kU,Pure];exact ztU W
def cv(a:aq):Nat->Bool:=λi=>!a i
def ia(a b:aq):Nat->Bool:=λi=>a i&&b i
def orF(a b:aq):Nat->Bool:=λi=>a i||b i
noncomputable def fp(W:bg)(a:aq):Nat->Bool:=λi=>(W.next.getD i []).any λx=>a x.toNat&&jT W x.toNat
noncomputable def euF(W:bg)(a b:aq):Nat->Bool:=euB W.next a<|ia b<|jT W
noncomputable def egF(W:bg)(a:aq):Nat->Bool:=fwB (ga W.next a)<|W.fair.map gy
noncomputable def auF(W:bg)(a b:aq):Nat->Bool:=cv<|orF (euF W (cv b)<|ia (cv a)<|cv b)<|egF W<|cv b
theorem EB(h6:W.next.length<=1000000)(p:aq)(cl:FuncId)(caps:bj)(LL:aA caps)(hc:∀i:Nat,i<W.next.length->ao aj cl (aa i::caps) (ay<|p i)) :
  ao aj 192 [kU W,.fn (.func cl) [] caps] (bx W.next.length p):=by
 refine dh fZ zs (by simp[aA,Pure,MP,LL]) ?_<|lg _ _;unfold kU vY;refine sR ?_;rw[aI];refine⟨zo,zo,zo,?_⟩;rw[bO,show List.map D.sc [Value.bool false]=[ay false] from rfl,jS];refine sW ?_;refine bb [1,5,15] (λk:Nat=>[(16,aa k)]) (λk=>[(0,.vec true 0 1<|bF W.next.length λi=>if i<k then p i else false)]) (λk=>k<=W.next.length) (λk=>W.next.length-k) 0 ?_;refine sW ?_;refine⟨zo,by exact sK,by simp;rfl,?_⟩;rintro k hk;refine bf (λq0=>?_) λq0=>?_
 ·have q0:k<W.next.length:=sO;refine sC (hc k q0) ?_;refine sB ?_;refine⟨_,bc k zo q0,?_⟩;refine aQ ?_;refine⟨k+1,zo,zd,aC (by exact sK) ?_⟩;rw[n8 (i:=k) (f':=λi=>if i<k+1 then p i else false) zo λv _=>by
   by_cases e:v=k
   ·subst e;rw[ae zo,ae rfl]
   rw[ab e];by_cases e2:v<k
   ·rw[ae e2,ae zo]
   rw[ab e2,ab zo]]
  rfl
 have q0:k=W.next.length:=sO;subst q0;rw[iI (g':=p) λi hi=>ae hi];exact qi rfl
theorem zxe(h6:W.next.length<=1000000)(p:aq)(cl:FuncId)(x y:D)(hx:Pure x)(hy:Pure y)(hc:∀i:Nat,i<W.next.length->ao aj cl [aa i,.ax [x],.ax [y]] (ay<|p i)) :
  bZ aj 192 [kU W,.fn (.func cl) [] [.loc 0 0,.loc 1 0]] [.row true [x],.row true [y]] (.own 2 0 0 W.next.length) [.row true [x],.row true [y],.vec true 0 1<|bF W.next.length p]:=by
 refine jb fZ zs zs ?_ zu (by
  intro o ho;simp only[eQ,uH,or_false] at ho;rcases ho with rfl|rfl|rfl
  ·exact⟨bz _ hx,trivial⟩
  ·exact⟨bz _ hy,trivial⟩
  exact bm _<|uj _ _)
 unfold kU vY;refine sR ?_;rw[aI];refine⟨zo,zo,zo,?_⟩;rw[bO,show List.map D.sc [Value.bool false]=[ay false] from rfl,jS];refine sW ?_;refine bb [1,5,15] (λk:Nat=>[(16,aa k)]) (λk=>[(2,.vec true 0 1<|bF W.next.length λi=>if i<k then p i else false)]) (λk=>k<=W.next.length) (λk=>W.next.length-k) 0 ?_;refine sW ?_;refine⟨zo,by exact sK,by simp;rfl,?_⟩;rintro k hk;refine bf (λq0=>?_) λq0=>?_
 ·have q0:k<W.next.length:=sO;refine sN (hc k q0) ?_;refine sB ?_;refine⟨_,bc k zo q0,?_⟩;refine aQ ?_;refine⟨k+1,zo,zd,aC (by exact sK) ?_⟩;rw[n8 (i:=k) (f':=λi=>if i<k+1 then p i else false) zo λv _=>by
   by_cases e:v=k
   ·subst e;rw[ae zo,ae rfl]
   rw[ab e];by_cases e2:v<k
   ·rw[ae e2,ae zo]
   rw[ab e2,ab zo]]
  rfl
 have q0:k=W.next.length:=sO;subst q0;rw[iI (g':=p) λi hi=>ae hi];exact⟨rfl,aS _⟩
variable(n:Nat)
theorem zz3(a:aq)(i:Nat)(hi:i<n):ao aj 249 [aa i,.ax [bx n a]]<|ay<|cv a i:=by
 refine bt ?_;refine sL (bc i zo hi) ?_;exact .refl _
theorem vC(h6:W.next.length<=1000000)(a:aq):ao aj 195 [kU W,bx W.next.length a]<|bx W.next.length<|cv a:=by
 have hE:=EB W h6 (cv a) 249 [.ax [bx W.next.length a]] zp λi hi=>zz3 W.next.length a i hi;refine bt ?_;refine sV hE ?_;exact .refl _
theorem QP(a b:aq)(i:Nat)(hi:i<n):ao aj 250 [aa i,.ax [bx n a],.ax [bx n b]]<|ay<|ia a b i:=by
 refine bS fZ ?_;have e:ia a b i=(a i&&b i):=rfl;refine sR ?_;refine sL (bc i zo hi) ?_;cases r:a i
 ·rw[r] at e;refine sW ?_;rw[e];exact .refl _
 rw[r] at e;refine sW ?_;refine sL (bc i zo hi) ?_;rw[e];exact .refl _
theorem Zb(h6:W.next.length<=1000000)(a b:aq):ao aj 196 [kU W,bx W.next.length a,bx W.next.length b]<|bx W.next.length<|ia a b:=by
 have hE:=EB W h6 (ia a b) 250 [.ax [bx W.next.length a],.ax [bx W.next.length b]] zp λi hi=>QP W.next.length a b i hi;refine bt ?_;refine sV hE ?_;exact .refl _
theorem XU(h6:W.next.length<=1000000)(a b:aq):bZ aj 196 [kU W,bx W.next.length a,bx W.next.length b] [] (.own 2 0 0 W.next.length) [.row true [bx W.next.length a],.row true [bx W.next.length b],.vec true 0 1<|bF W.next.length<|ia a b]:=by
 have hE:=zxe W h6 (ia a b) 250 (bx W.next.length a) (bx W.next.length b) (lg _ _) (lg _ _) λi hi=>QP W.next.length a b i hi;refine jb fZ zs zs ?_ zu (by simp[al.under,aG,bm _<|uj _ _]);refine sR ?_;refine sA hE ?_;exact aS _
theorem zBG(hW:W.Fits)(hc:W.aU=0)(a:aq)(i:Nat)(hi:i<W.next.length):ao aj 251 [aa i,.ax [kU W],.ax [bx W.next.length a]]<|ay<|fp W a i:=by
 obtain⟨_,qs,xC,_,gR,iW⟩:=qH W hc;have cR:=λk=>ft (g:=W.next) (λl hl=>(gR l hl).2) k;have vJ:iu W.next:=⟨hW.next,hW.yu⟩;have Cj:=vJ.at i;refine bS fZ ?_;have e:fp W a i=(W.next.getD i []).any λx=>a x.toNat&&jT W x.toNat:=rfl;rw[e];have hr:=cR i;unfold kU vY;generalize jT W=f at *;refine sR ?_;refine sL (eV (g:=W.next) (k:=i) zo hi) ?_;rw[aI];generalize W.next.getD i []=l at *;refine bb [1,2,14,15] (λk:Nat=>[(16,aa k)]) (λ_=>[]) (λk=>k<=l.length/\∀j (hj:j<l.length),j<k->(a l[j].toNat&&f l[j].toNat)=false) (λk=>l.length-k) 0 ?_;refine sW ?_;refine⟨⟨zo,λj hj h=>zo⟩,by exact sK,rfl,?_⟩;rintro k ⟨hk,cg⟩;refine bf (λq0=>?_) λq0=>?_
 ·have q0:k<l.length:=sO;have hx:=cZ hr<|df q0;have next:(a (l.getD k 0).toNat&&f (l.getD k 0).toNat)=false->∀j (hj:j<l.length),j<k+1->(a l[j].toNat&&f l[j].toNat)=false:=λh j hj Fy=>by
   by_cases e:j=k
   ·subst e;rw[a8,aX q0] at h;exact h
   exact cg j hj zo
  have yes:(a (l.getD k 0).toNat&&f (l.getD k 0).toNat)->(l.any λx=>a x.toNat&&f x.toNat)=true:=λh=>mJ.2 ⟨_,df q0,h⟩;refine sL (bV (l:=l) (k:=k) zo q0) ?_;generalize l.getD k 0=x at *;refine sL (bc x.toNat zo zo) ?_;cases r:a x.toNat
  ·rw[r] at next
   refine aQ ?_;exact⟨k+1,⟨zo,next rfl⟩,zd,aC (by exact sK) rfl⟩
  rw[r] at next yes
  refine sW ?_;refine sL (bc x.toNat zo zo) ?_;cases r2:f x.toNat
  ·rw[r2] at next
   refine aQ ?_;exact⟨k+1,⟨zo,next rfl⟩,zd,aC (by exact sK) rfl⟩
  rw[r2] at yes;refine sW ?_;rw[yes rfl];exact .refl _
 have q0:k=l.length:=sO;rw[ND λj hj=>cg j hj zo];exact .refl _
theorem RC(hW:W.Fits)(hc:W.aU=0)(a:aq):ao aj 198 [kU W,bx W.next.length a]<|bx W.next.length<|fp W a:=by
 obtain⟨_,qs,_⟩:=qH W hc;have hE:=EB W zo (fp W a) 251 [.ax [kU W],.ax [bx W.next.length a]] zp λi hi=>zBG W hW hc a i hi;refine bt ?_;refine sV hE ?_;exact .refl _
theorem Nc(hW:W.Fits)(hc:W.aU=0)(a:aq):ao aj 200 [kU W,bx W.next.length a]<|bx W.next.length<|egF W a:=by
 have h:=YA W hW hc a;refine bS fZ ?_;unfold gh bg.cells at h;refine sR ?_;refine sC h ?_;exact .refl _
end
section
theorem LS(c:aq):∀n,(jl c n).length+cQ c n=n
 |0=>rfl
 |n+1=>by
  have:=LS c n;unfold cQ at this⊢;rw[Jd];simp only[jO];cases h:c n<;>simp<;>omega
theorem Nx(hc:W.aU=0)(a b:aq):ao aj 199 [kU W,bx W.next.length a,bx W.next.length b]<|bx W.next.length<|euF W a b:=by
 obtain⟨_,qs,xC,_,gR,iW⟩:=qH W hc;have iM:∀l∈W.next,bq l W.next.length:=λl hl=>(gR l hl).2;have cR:=λk=>ft iM k;have yl:∀v y,y∈W.next.getD v []->y.toNat<W.next.length:=λv x hx=>by have:=cZ (cR v) hx;omega
 have hB:=XU W zo b<|jT W;have e0:euF W a b=euB W.next a (ia b<|jT W):=rfl;rw[e0];clear e0;generalize ia b (jT W)=c at *;refine bS fZ ?_;unfold kU vY at *;generalize hT:dR W.next W.next.length=T at *;have lT:T.length=W.next.length:=by rw[<-hT,qJ]
 have mT:∀(m:Nat) (x:Int),x∈T.getD m []↔∃k,k<W.next.length/\x=(k:Int)/\∃y,y∈W.next.getD k []/\y.toNat=m:=λm x=>by rw[<-hT];exact zL yl<|aS _
 have rT:∀m,(T.getD m []).length<=W.next.length:=λm=>by rw[<-hT];exact zv W.next W.next.length m
 refine sR ?_;refine sA hB ?_;refine bQ (eo 8 1 zs rfl) ?_;refine bb [0,1,7,21,22] (λk:Nat=>[(8,.own 3 (jl c k).length 0 (jl c k).length),(23,aa k)]) (λk=>[(3,.vec true (jl c k).length 1<|aw<|jl c k)]) (λk=>k<=W.next.length) (λk=>W.next.length-k) 0 ?_;refine dd ?_;rintro k hk;have fN:=Jr c k;have eS:=Jd c k;refine bf (λq0=>?_) λq0=>?_
 ·have q0:k<W.next.length:=sO;refine sB ?_;refine⟨_,bc k zo q0,?_⟩;refine sW ?_;cases r:c k
  ·rw[r,ab zc] at eS;refine aQ ?_;refine⟨k+1,zo,zd,?_⟩;dsimp only;rw[eS];exact aC (by exact sK) rfl
  rw[r,ae rfl] at eS;refine ke ?_;refine⟨k+1,zo,zd,?_⟩;dsimp only;rw[eS,show(jl c k++[(k:Int)]).length=(jl c k).length+1 by simp];refine aL 4 zs rfl sQ (sU ?_);exact aV<|by rw[KY,dM]
 have q0:k=W.next.length:=sO;subst q0;clear eS
 refine bb [0,1,7] (λ((s,Z,lo,hi,ar):aq×ah×Nat×Nat×Nat)=>[(8,.own 3 ar lo hi)]) (λ(s,Z,lo,hi,ar)=>[(2,.vec true 0 1<|bF W.next.length s),(3,.vec true ar 1<|aw Z)])
  (λ(s,Z,lo,hi,ar)=>lo<=hi/\hi<=Z.length/\(∀x∈Z,0<=x/\x<(W.next.length:Int))/\hi-lo+cQ s W.next.length<=W.next.length/\EuI W.next a c s (kf<|(Z.take hi).drop lo)) (λ(s,Z,lo,hi,ar)=>hi-lo+cQ s W.next.length) (c,jl c W.next.length,0,(jl c W.next.length).length,(jl c W.next.length).length) ?_
 refine sW ?_;refine⟨⟨zo,zo,λx hx=>⟨(uU.1 hx).1,(uU.1 hx).2.1⟩,by rw[ua];exact Nat.le_of_eq<|LS c _,?_⟩,by exact sK,rfl,?_⟩
 ·rw[dM,dP];refine⟨λv hv=>.base hv,λv hv=>hv,λv hv=>?_,λv hv=>?_⟩
  ·obtain⟨x,hx,rfl⟩:=zH.1 hv;exact(uU.1 hx).2.2
  by_cases q:v<W.next.length
  ·exact .inl<|zH.2 ⟨(v:Int),uU.2 ⟨zo,zo,by rw[bO];exact hv⟩,zs⟩
  exact .inr λk x hx e=>absurd (e▸yl k x hx) q
 rintro⟨s,Z,lo,hi,ar⟩ ⟨G5,n4,Aw,hu,hI⟩;refine bf (λh1=>?_) λh1=>?_
 ·have h1:lo<hi:=sO;rw[DF h1 n4,Qv] at hI;have hx:=Aw (Z.getD lo 0)<|df zo;generalize hX:Z.getD lo 0=x at hI hx;refine sB ?_;refine⟨_,bV (l:=Z) (k:=lo) zo zo,?_⟩;refine sW ?_;rw[hX];refine⟨zo,zo,zo,?_⟩;refine sW ?_;rw[show lo+(hi-lo)=hi by omega];refine sL (eV (g:=T) (k:=x.toNat) zo zo) ?_;rw[aI];have hL:=rT x.toNat;have mL:=mT x.toNat;generalize T.getD x.toNat []=L at hL mL
  refine bb [0,1,7,48,49] (λ((s',Z',cj,aT,bY,k):aq×ah×Nat×Nat×Nat×Nat)=>[(8,.own 3 bY cj aT),(50,aa k)]) (λ(s',Z',cj,aT,bY,k)=>[(2,.vec true 0 1<|bF W.next.length s'),(3,.vec true bY 1<|aw Z')])
   (λ(s',Z',cj,aT,bY,k)=>k<=L.length/\cj<=aT/\aT<=Z'.length/\(∀x∈Z',0<=x/\x<(W.next.length:Int))/\aT-cj+cQ s' W.next.length<hi-lo+cQ s W.next.length/\EuJ W.next a c s' (kf<|(Z'.take aT).drop cj) x.toNat (kf<|L.take k)) (λ(s',Z',cj,aT,bY,k)=>L.length-k) (s,Z,lo+1,hi,ar,0) ?_
  refine sW ?_;refine⟨⟨zo,zo,n4,Aw,zo,hI.pop⟩,by exact sK,rfl,?_⟩;rintro⟨s',Z',cj,aT,bY,k⟩ ⟨hk,mC,mA,yO,sH,hJ⟩;refine bf (λh3=>?_) λh3=>?_
  ·have ai:k<L.length:=sO;obtain⟨v,rj,rr,y,HG,Bv⟩:=(mL<|L.getD k 0).1<|df ai;have eT:kf (L.take<|k+1)=kf (L.take k)++[v]:=by
    rw[jP,aX ai,DE];rw[a8,aX ai] at rr;simp at rr;simp[kf,rr]
   refine sL (bV (l:=L) (k:=k) zo ai) ?_;rw[rr];refine sL (bc v zo rj) ?_;cases av:a v
   ·refine aQ ?_;refine⟨(s',Z',cj,aT,bY,k+1),⟨zo,mC,mA,yO,sH,by rw[eT];exact hJ.skip λq=>by rw[av] at q;cases q⟩,zd,aC (by exact sK) rfl⟩
   refine bC ?_;refine⟨_,bc v zo rj,?_⟩;refine sW ?_;cases sv:s' v
   ·refine bC ?_;refine⟨_,bc v zo rj,?_⟩;refine ke ?_;have GU:=nK (s:=s') (s':=mark s' v) rj (λj _ q=>fo q) sv<|km _ _;refine⟨(mark s' v,(Z'.take aT).drop cj++[(v:Int)],0,aT-cj+1,bY+1,k+1),⟨zo,zo,zq,λz hz=>?_,zo,?_⟩,zd,?_⟩
    ·rcases dz.1 hz with q|q
     ·exact yO z<|xR<|List.mem_of_mem_drop q
     rw[cV] at q;omega
    ·rw[dP,fG zq,DE,eT];exact hJ.push HG Bv av
    refine aL 4 zs rfl sG (sZ2 ?_ ?_)
    ·exact aV<|nV zo
    exact aV zz
   refine aQ ?_;refine⟨(s',Z',cj,aT,bY,k+1),⟨zo,mC,mA,yO,sH,by rw[eT];exact hJ.skip λ_=>sv⟩,zd,aC (by exact sK) rfl⟩
  have ai:k=L.length:=by have:¬k<L.length:=sO
                         omega
  subst ai;refine⟨(s',Z',cj,aT,bY),⟨mC,mA,yO,zo,hJ.fin λk y h1 h2=>?_⟩,zd,aC (by exact sK) rfl⟩;have hk:k<W.next.length:=by
   rcases gK k W.next.length with q|q
   ·exact q
   rw[a8,dG q] at h1;cases h1
  rw[dM];exact zH.2 ⟨(k:Int),(mL k).2 ⟨k,hk,rfl,y,h1,h2⟩,zs⟩
 have h0:hi=lo:=sO;subst h0;rw[DA<|by rw[fg];omega] at hI;rw[iI (g':=euB W.next a c) λi _=>hI.end_ i];exact qi rfl
theorem zBj(hc:W.aU=0)(a b:aq):bZ aj 199 [kU W,bx W.next.length a,bx W.next.length b] [] (.own 2 0 0 W.next.length) [.row true [bx W.next.length b],.row true [bx W.next.length<|jT W],.vec true 0 1<|bF W.next.length<|euF W a b]:=by
 obtain⟨_,qs,xC,_,gR,iW⟩:=qH W hc;have iM:∀l∈W.next,bq l W.next.length:=λl hl=>(gR l hl).2;have cR:=λk=>ft iM k;have yl:∀v y,y∈W.next.getD v []->y.toNat<W.next.length:=λv x hx=>by have:=cZ (cR v) hx;omega
 have hB:=XU W zo b<|jT W;have e0:euF W a b=euB W.next a (ia b<|jT W):=rfl;rw[e0];clear e0;generalize ia b (jT W)=c at *;refine jb fZ zs zs ?_ zu (by simp[al.under,aG,bm _<|uj _ _]);unfold kU vY at *;generalize hT:dR W.next W.next.length=T at *;have lT:T.length=W.next.length:=by rw[<-hT,qJ]
 have mT:∀(m:Nat) (x:Int),x∈T.getD m []↔∃k,k<W.next.length/\x=(k:Int)/\∃y,y∈W.next.getD k []/\y.toNat=m:=λm x=>by rw[<-hT];exact zL yl<|aS _
 have rT:∀m,(T.getD m []).length<=W.next.length:=λm=>by rw[<-hT];exact zv W.next W.next.length m
 refine sR ?_;refine sA hB ?_;refine bQ (eo 8 1 zs rfl) ?_;refine bb [0,1,7,21,22] (λk:Nat=>[(8,.own 3 (jl c k).length 0 (jl c k).length),(23,aa k)]) (λk=>[(3,.vec true (jl c k).length 1<|aw<|jl c k)]) (λk=>k<=W.next.length) (λk=>W.next.length-k) 0 ?_;refine dd ?_;rintro k hk;have fN:=Jr c k;have eS:=Jd c k;refine bf (λq0=>?_) λq0=>?_
 ·have q0:k<W.next.length:=sO;refine sB ?_;refine⟨_,bc k zo q0,?_⟩;refine sW ?_;cases r:c k
  ·rw[r,ab zc] at eS;refine aQ ?_;refine⟨k+1,zo,zd,?_⟩;dsimp only;rw[eS];exact aC (by exact sK) rfl
  rw[r,ae rfl] at eS;refine ke ?_;refine⟨k+1,zo,zd,?_⟩;dsimp only;rw[eS,show(jl c k++[(k:Int)]).length=(jl c k).length+1 by simp];refine aL 4 zs rfl sQ (sU ?_);exact aV<|by rw[KY,dM]
 have q0:k=W.next.length:=sO;subst q0;clear eS
 refine bb [0,1,7] (λ((s,Z,lo,hi,ar):aq×ah×Nat×Nat×Nat)=>[(8,.own 3 ar lo hi)]) (λ(s,Z,lo,hi,ar)=>[(2,.vec true 0 1<|bF W.next.length s),(3,.vec true ar 1<|aw Z)])
  (λ(s,Z,lo,hi,ar)=>lo<=hi/\hi<=Z.length/\(∀x∈Z,0<=x/\x<(W.next.length:Int))/\hi-lo+cQ s W.next.length<=W.next.length/\EuI W.next a c s (kf<|(Z.take hi).drop lo)) (λ(s,Z,lo,hi,ar)=>hi-lo+cQ s W.next.length) (c,jl c W.next.length,0,(jl c W.next.length).length,(jl c W.next.length).length) ?_
 refine sW ?_;refine⟨⟨zo,zo,λx hx=>⟨(uU.1 hx).1,(uU.1 hx).2.1⟩,by rw[ua];exact Nat.le_of_eq<|LS c _,?_⟩,by exact sK,rfl,?_⟩
 ·rw[dM,dP];refine⟨λv hv=>.base hv,λv hv=>hv,λv hv=>?_,λv hv=>?_⟩
  ·obtain⟨x,hx,rfl⟩:=zH.1 hv;exact(uU.1 hx).2.2
  by_cases q:v<W.next.length
  ·exact .inl<|zH.2 ⟨(v:Int),uU.2 ⟨zo,zo,by rw[bO];exact hv⟩,zs⟩
  exact .inr λk x hx e=>absurd (e▸yl k x hx) q
 rintro⟨s,Z,lo,hi,ar⟩ ⟨G5,n4,Aw,hu,hI⟩;refine bf (λh1=>?_) λh1=>?_
 ·have h1:lo<hi:=sO;rw[DF h1 n4,Qv] at hI;have hx:=Aw (Z.getD lo 0)<|df zo;generalize hX:Z.getD lo 0=x at hI hx;refine sB ?_;refine⟨_,bV (l:=Z) (k:=lo) zo zo,?_⟩;refine sW ?_;rw[hX];refine⟨zo,zo,zo,?_⟩;refine sW ?_;rw[show lo+(hi-lo)=hi by omega];refine sL (eV (g:=T) (k:=x.toNat) zo zo) ?_;rw[aI];have hL:=rT x.toNat;have mL:=mT x.toNat;generalize T.getD x.toNat []=L at hL mL
  refine bb [0,1,7,48,49] (λ((s',Z',cj,aT,bY,k):aq×ah×Nat×Nat×Nat×Nat)=>[(8,.own 3 bY cj aT),(50,aa k)]) (λ(s',Z',cj,aT,bY,k)=>[(2,.vec true 0 1<|bF W.next.length s'),(3,.vec true bY 1<|aw Z')])
   (λ(s',Z',cj,aT,bY,k)=>k<=L.length/\cj<=aT/\aT<=Z'.length/\(∀x∈Z',0<=x/\x<(W.next.length:Int))/\aT-cj+cQ s' W.next.length<hi-lo+cQ s W.next.length/\EuJ W.next a c s' (kf<|(Z'.take aT).drop cj) x.toNat (kf<|L.take k)) (λ(s',Z',cj,aT,bY,k)=>L.length-k) (s,Z,lo+1,hi,ar,0) ?_
  refine sW ?_;refine⟨⟨zo,zo,n4,Aw,zo,hI.pop⟩,by exact sK,rfl,?_⟩;rintro⟨s',Z',cj,aT,bY,k⟩ ⟨hk,mC,mA,yO,sH,hJ⟩;refine bf (λh3=>?_) λh3=>?_
  ·have ai:k<L.length:=sO;obtain⟨v,rj,rr,y,HG,Bv⟩:=(mL<|L.getD k 0).1<|df ai;have eT:kf (L.take<|k+1)=kf (L.take k)++[v]:=by
    rw[jP,aX ai,DE];rw[a8,aX ai] at rr;simp at rr;simp[kf,rr]
   refine sL (bV (l:=L) (k:=k) zo ai) ?_;rw[rr];refine sL (bc v zo rj) ?_;cases av:a v
   ·refine aQ ?_;refine⟨(s',Z',cj,aT,bY,k+1),⟨zo,mC,mA,yO,sH,by rw[eT];exact hJ.skip λq=>by rw[av] at q;cases q⟩,zd,aC (by exact sK) rfl⟩
   refine bC ?_;refine⟨_,bc v zo rj,?_⟩;refine sW ?_;cases sv:s' v
   ·refine bC ?_;refine⟨_,bc v zo rj,?_⟩;refine ke ?_;have GU:=nK (s:=s') (s':=mark s' v) rj (λj _ q=>fo q) sv<|km _ _;refine⟨(mark s' v,(Z'.take aT).drop cj++[(v:Int)],0,aT-cj+1,bY+1,k+1),⟨zo,zo,zq,λz hz=>?_,zo,?_⟩,zd,?_⟩
    ·rcases dz.1 hz with q|q
     ·exact yO z<|xR<|List.mem_of_mem_drop q
     rw[cV] at q;omega
    ·rw[dP,fG zq,DE,eT];exact hJ.push HG Bv av
    refine aL 4 zs rfl sG (sZ2 ?_ ?_)
    ·exact aV<|nV zo
    exact aV zz
   refine aQ ?_;refine⟨(s',Z',cj,aT,bY,k+1),⟨zo,mC,mA,yO,sH,by rw[eT];exact hJ.skip λ_=>sv⟩,zd,aC (by exact sK) rfl⟩
  have ai:k=L.length:=by have:¬k<L.length:=sO
                         omega
  subst ai;refine⟨(s',Z',cj,aT,bY),⟨mC,mA,yO,zo,hJ.fin λk y h1 h2=>?_⟩,zd,aC (by exact sK) rfl⟩;have hk:k<W.next.length:=by
   rcases gK k W.next.length with q|q
   ·exact q
   rw[a8,dG q] at h1;cases h1
  rw[dM];exact zH.2 ⟨(k:Int),(mL k).2 ⟨k,hk,rfl,y,h1,h2⟩,zs⟩
 have h0:hi=lo:=sO;subst h0;rw[DA<|by rw[fg];omega] at hI;rw[iI (g':=euB W.next a c) λi _=>hI.end_ i];exact⟨rfl,zs⟩
end
section
def yv(W:bg)(num:Int):Nat->Bool:=λi=>oO (W.label.getD i 0) num
noncomputable def dH(W:bg)(kind num:Int)(K:Nat->Nat->Bool):Nat->Bool :=
 if kind=1 then iK else if kind=3 then yv W num else if kind=4 then cv<|K 0 else if kind=5 then ia (K 0)<|K 1 else if kind=6 then orF (K 0)<|K 1
 else if kind=7 then fp W<|K 0 else if kind=8 then euF W iK<|K 0 else if kind=9 then egF W<|K 0 else if kind=10 then euF W (K 0)<|K 1
 else if kind=11 then cv<|fp W<|cv<|K 0 else if kind=12 then cv<|egF W<|cv<|K 0 else if kind=13 then cv<|euF W iK<|cv<|K 0 else if kind=14 then auF W (K 0)<|K 1 else cv iK
mutual
noncomputable def ni(W:bg):Tree->Nat->Bool
 | .node k n ks=>dH W k n<|br W ks
noncomputable def br(W:bg):List Tree->Nat->Nat->Bool
 |[],_=>noT
 |t::_,0=>ni W t
 |_::ts,j+1=>br W ts j
end
theorem Tu(W:bg):∀(ts:List Tree) (j:Nat),j<ts.length->br W ts j=ni W (ts.getD j default)
 |[],j,h=>by simp at h
 |t::_,0,_=>by simp[br]
 |_::ts,j+1,h=>by
  rw[br,Tu W ts j<|by simpa using h];rfl
theorem VS(h:j<t.width):br W t.kids j=ni W (t.aD j):=Tu W t.kids j h
theorem UA(t:Tree):ni W t=dH W t.kind t.num (br W t.kids):=by cases t;rw[ni];rfl
noncomputable def iX(W:bg)(t:Tree)(k:Nat):fc:=(List.range k).map λj=>[bx W.next.length<|br W t.kids j]
@[simp] theorem zCi(t:Tree)(k:Nat):(iX W t k).length=k:=by simp[iX]
@[simp] theorem ZB(t:Tree)(k:Nat):dF<|iX W t k:=c6 _ (λj=>by simp[aA,lg]) _
@[simp] theorem zyf(t:Tree)(k:Nat):bB m (iX W t k)↔True:=⟨λ_=>trivial,λ_=>bm _<|ZB W t k⟩
theorem jA{W:bg}(hz:z=j)(h:j<k):(iX W t k)[z]? = some [bx W.next.length<|br W t.kids j]:=by
 subst hz;rw[aX<|by simpa using h];simp[iX]
theorem XV(t:Tree)(k:Nat):List.drop 0 (List.take k<|iX W t k)++List.drop 0 (List.take 1 [[bx W.next.length<|br W t.kids k]])=iX W t (k+1):=by
 rw[cB zs];simp[iX,qf]
theorem Sa(h:¬eY c9 t):((t.kind=1\/t.kind=2\/t.kind=3)/\t.width=0\/(t.kind=4\/t.kind=7\/t.kind=8\/t.kind=9\/t.kind=11\/t.kind=12\/t.kind=13)/\t.width=1\/(t.kind=5\/t.kind=6\/t.kind=10\/t.kind=14)/\t.width=2)/\0<=t.num/\t.num<=63:=by
 unfold eY c9 at h
 grind
theorem zz2{v:Int}(h:0<=v/\v<18446744073709551616)(a:Int):(kh .and .u64 (v.fdiv<|2^min a.toNat 64) 1==1)=oO v a:=by
 have hr:=zpw h.1 h.2<|min a.toNat 64;rw[zyO hr.1 hr.2];rfl
theorem UJ{l:ah}(hz:z=k)(h:k<l.length):(l.map λn=>[D.sc (.int .u64 n)])[z]? = some [.sc (.int .u64<|l.getD k 0)]:=by
 grind
theorem zCy(hW:W.Fits)(hc:W.aU=0)(a b:aq):ao aj 201 [kU W,bx W.next.length a,bx W.next.length b]<|bx W.next.length<|auF W a b:=by
 obtain⟨_,qs,_⟩:=qH W hc;have n1:=vC W zo a;have n2:=vC W zo b;have bo:=Zb W zo (cv a)<|cv b;have eO:=zBj W hc (cv b)<|ia (cv a)<|cv b;have eg:=Nc W hW hc<|cv b;have n3:=vC W zo<|orF (euF W (cv b)<|ia (cv a)<|cv b)<|egF W<|cv b;have e0:auF W a b=cv (orF (euF W (cv b)<|ia (cv a)<|cv b)<|egF W<|cv b):=rfl;refine bS fZ ?_;rw[e0];clear e0;generalize euF W (cv b) (ia (cv a)<|cv b)=e at *;generalize egF W (cv b)=f at *;refine sR ?_;refine sC n2 ?_;refine sC n1 ?_;refine sC n2 ?_;refine sC bo ?_;refine sA eO ?_;refine sC n2 ?_;refine sC eg ?_;rw[Ep];refine bb [0,7,27,28] (λk:Nat=>[(29,aa k)]) (λk=>[(2,.vec true 0 1<|bF W.next.length λi=>if i<k then orF e f i else e i)]) (λk=>k<=W.next.length) (λk=>W.next.length-k) 0 ?_;refine sW ?_;refine⟨zo,by exact sK,by simp;rfl,?_⟩;rintro k hk;refine bf (λq0=>?_) λq0=>?_
 ·have q0:k<W.next.length:=sO;have eat:(if k<k then orF e f k else e k)=e k:=ab zo;have eput:∀v,v<W.next.length->(if v<k+1 then orF e f v else e v)=if v=k then (e k||f k) else if v<k then orF e f v else e v:=λv _=>by
   by_cases q:v=k
   ·subst q;rw[ae zo,ae rfl];rfl
   rw[ab q];by_cases e2:v<k
   ·rw[ae e2,ae zo]
   rw[ab e2,ab zo]
  refine sL (bc k zo q0) ?_;refine sB ?_;refine⟨_,bc k zo q0,?_⟩;rw[eat];cases r:e k
  ·rw[r,vW] at eput;refine bC ?_;refine⟨_,bc k zo q0,?_⟩;refine aQ ?_;refine⟨k+1,zo,zd,aC (by exact sK) ?_⟩;rw[n8 (i:=k) zo eput];rfl
  rw[r,y8] at eput;refine bC ?_;refine⟨_,bc k zo q0,?_⟩;refine aQ ?_;refine⟨k+1,zo,zd,aC (by exact sK) ?_⟩;rw[n8 (i:=k) zo eput];rfl
 have q0:k=W.next.length:=sO;subst q0;rw[iI (g':=orF e f) λi hi=>ae hi];rw[show bx W.next.length (orF e f)=D.aM 1 (List.drop 0<|List.take W.next.length<|bF W.next.length<|orF e f) from by rw[Cv];rfl] at n3;refine sE (wO (pre:=[_]) (post:=[]) n3 (lg _ _) ⟨MP W,trivial⟩ trivial (uj _ _) rfl) ?_;exact .refl _
theorem zxJ(hW:W.Fits)(hc:W.aU=0):ao aj 147 [gh W]<|kU W:=by
 obtain⟨_,qs,xC,_,gR,iW⟩:=qH W hc;have hF:=zzF W hW hc;have hT:=MB W.next (oP.2 ⟨zo,λl hl=>(gR l hl).2⟩) ⟨hW.next,hW.yu⟩;refine dh fZ zs zp ?_<|MP W;unfold gh bg.cells kU vY at *;refine sR ?_;refine sC hF ?_;refine sC hT ?_;exact .loc _ _ _ _ _ rfl (mE _)
theorem zzM(i:Int):ao aj 193 [aa i]<|ay true:=by
 refine bt ?_;exact .refl _
theorem zzH(hl:W.label.length=W.next.length)(hL:tS W.label)(t:Tree)(hn:0<=t.num/\t.num<=63)(i:Nat)(hi:i<W.next.length):ao aj 194 [aa i,.ax [kU W],.ax<|aO t]<|ay<|yv W t.num i:=by
 have hv:0<=W.label.getD i 0/\W.label.getD i 0<18446744073709551616:=hL _<|df zo;have hb:=zz2 hv t.num;refine bS fZ ?_;have e:yv W t.num i=oO (W.label.getD i 0) t.num:=rfl;rw[e,<-hb];unfold kU vY iw;refine sR ?_;refine sL (UJ (k:=i) zo zo) ?_;refine⟨hn.1,?_⟩;refine sW ?_;exact .refl _
theorem zyY(t:Tree)(h2:t.width=2)(i:Nat)(hi:i<W.next.length):ao aj 197 [aa i,.ax [.aM 1<|iX W t t.width]]<|ay<|orF (br W t.kids 0) (br W t.kids 1) i:=by
 refine bS fZ ?_;have e:orF (br W t.kids 0) (br W t.kids 1) i=(br W t.kids 0 i||br W t.kids 1 i):=rfl;rw[e];refine sR ?_;refine sL (jA (j:=0) zo zo) ?_;refine sL (bc i zo hi) ?_;cases r:br W t.kids 0 i
 ·refine sW ?_;refine sL (jA (j:=1) zo zo) ?_;refine sL (bc i zo hi) ?_;exact .refl _
 refine sW ?_;exact .refl _
theorem zvt(hW:W.Fits)(hc:W.aU=0)(hL:tS W.label):∀t:Tree,t.wf c9->ao aj 148 [kU W,ba t] (bx W.next.length<|ni W t):=by
 obtain⟨hl,qs,_⟩:=qH W hc;have h6:W.next.length<=1000000:=zo;have zGl:=EB W h6 iK 193 [] zp λi hi=>zzM i;intro t
 induction t using Tree.ind with
 |h t ih =>
  intro cy;obtain⟨tX,uO⟩:=Sa ((jD _ _).1 cy).1;have OV:t.width<=2:=zo;have hA:=EB W h6 (yv W t.num) 194 [.ax [kU W],.ax<|aO t] zp λi hi=>zzH W hl hL t uO i hi;have hO:=λ(h:t.width=2)=>EB W h6 (orF (br W t.kids 0)<|br W t.kids 1) 197 [.ax [.aM 1<|iX W t t.width]] zp λi hi=>zyY W t h i hi;refine bS fZ ?_;rw[UA];refine sR ?_;refine sC zGl ?_;refine bQ (gG 2 0 1 zs rfl rfl) ?_;refine cq [2,3,5,6,12,13] (λk:Nat=>[(14,aa k)]) (λk=>[.row true [kU W],.row true<|aO t,.row true [.own 3 k 0 k],.vec true k 1<|iX W t k]) (λk=>k<=t.width) (λk=>t.width-k) 0 ?_;refine dd ?_;rintro k hk;refine bf (λh1=>?_) λh1=>?_
  ·have ai:k<t.width:=(by simpa [Tree.width] using h1);refine sL (by rw[bO];exact db ai) ?_;have GL:=ih k ai<|gB cy ai;rw[<-VS W ai] at GL;refine sC GL ?_;refine⟨by unfold iF;simp;omega,?_⟩;refine aQ ?_;refine⟨k+1,zo,zd,?_⟩;dsimp only;refine aL 4 zs rfl sQ (sU ?_);exact aV<|XV W t k
  have BG:k=t.width:=(by have:¬k<t.width:=(by simpa [Tree.width] using h1);omega);subst BG;clear ih h1 hk;refine sS (λg1=>?_) λg1=>?_
  ·have g1:t.kind=1:=sO;rw[show dH W t.kind t.num (br W t.kids)=iK from by unfold dH;simp[g1]];exact .refl _
  have g1:¬t.kind=1:=sO;refine sS (λg3=>?_) λg3=>?_
  ·have g3:t.kind=3:=sO;rw[show dH W t.kind t.num (br W t.kids)=yv W t.num from by unfold dH;simp[g3]];refine sV hA ?_;exact .refl _
  have g3:¬t.kind=3:=sO;refine sS (λg4=>?_) λg4=>?_
  ·have g4:t.kind=4:=sO;rw[show dH W t.kind t.num (br W t.kids)=cv (br W t.kids 0) from by unfold dH;simp[g4]];refine sB ?_;refine⟨_,jA (j:=0) zo zo,?_⟩;refine sW ?_;refine sC (vC W h6<|br W t.kids 0) ?_;exact .refl _
  have g4:¬t.kind=4:=sO;refine sS (λg5=>?_) λg5=>?_
  ·have g5:t.kind=5:=sO;rw[show dH W t.kind t.num (br W t.kids)=ia (br W t.kids 0) (br W t.kids 1) from by unfold dH;simp[g5]];refine sB ?_;refine⟨_,jA (j:=0) zo zo,?_⟩;refine bC ?_;refine⟨_,jA (j:=1) zo zo,?_⟩;refine sW ?_;refine sC (Zb W h6 (br W t.kids 0)<|br W t.kids 1) ?_;exact .refl _
  have g5:¬t.kind=5:=sO;refine sS (λg6=>?_) λg6=>?_
  ·have g6:t.kind=6:=sO;rw[show dH W t.kind t.num (br W t.kids)=orF (br W t.kids 0) (br W t.kids 1) from by unfold dH;simp[g6]];have hdd:∀{H:aE},oy H (List.drop 0<|List.take t.width<|iX W t t.width)<|iX W t t.width:=(by intro H;rw[cB zs];exact gw _);refine .inr (.inr (.inr (.inr (.inr (.inl ⟨rfl,_,_,.cons _ _ _ _ (.refl _) (.cons _ _ _ _ (.fn _ _ _ _ _ .nil (.cons _ _ _ _ (.loc _ _ _ _ _ rfl (.cons _ _ _ _ (.own _ _ _ _ _ _ _ _ rfl hdd) .nil)) .nil)) .nil),hO zo,?_⟩)))));refine sW ?_;exact .refl _
  have g6:¬t.kind=6:=sO;refine sS (λg7=>?_) λg7=>?_
  ·have g7:t.kind=7:=sO;rw[show dH W t.kind t.num (br W t.kids)=fp W (br W t.kids 0) from by unfold dH;simp[g7]];refine sB ?_;refine⟨_,jA (j:=0) zo zo,?_⟩;refine sW ?_;refine sC (RC W hW hc<|br W t.kids 0) ?_;exact .refl _
  have g7:¬t.kind=7:=sO;refine sS (λg8=>?_) λg8=>?_
  ·have g8:t.kind=8:=sO;rw[show dH W t.kind t.num (br W t.kids)=euF W iK (br W t.kids 0) from by unfold dH;simp[g8]];refine sB ?_;refine⟨_,jA (j:=0) zo zo,?_⟩;refine sW ?_;refine sC (Nx W hc iK<|br W t.kids 0) ?_;exact .refl _
  have g8:¬t.kind=8:=sO;refine sS (λg9=>?_) λg9=>?_
  ·have g9:t.kind=9:=sO;rw[show dH W t.kind t.num (br W t.kids)=egF W (br W t.kids 0) from by unfold dH;simp[g9]];refine sB ?_;refine⟨_,jA (j:=0) zo zo,?_⟩;refine sW ?_;refine sC (Nc W hW hc<|br W t.kids 0) ?_;exact .refl _
  have g9:¬t.kind=9:=sO;refine sS (λg10=>?_) λg10=>?_
  ·have g10:t.kind=10:=sO;rw[show dH W t.kind t.num (br W t.kids)=euF W (br W t.kids 0) (br W t.kids 1) from by unfold dH;simp[g10]];refine sB ?_;refine⟨_,jA (j:=0) zo zo,?_⟩;refine bC ?_;refine⟨_,jA (j:=1) zo zo,?_⟩;refine sW ?_;refine sC (Nx W hc (br W t.kids 0)<|br W t.kids 1) ?_;exact .refl _
  have g10:¬t.kind=10:=sO;refine sS (λg11=>?_) λg11=>?_
  ·have g11:t.kind=11:=sO;rw[show dH W t.kind t.num (br W t.kids)=cv (fp W<|cv<|br W t.kids 0) from by unfold dH;simp[g11]];refine sB ?_;refine⟨_,jA (j:=0) zo zo,?_⟩;refine sW ?_;refine sC (vC W h6<|br W t.kids 0) ?_;refine sC (RC W hW hc<|cv<|br W t.kids 0) ?_;refine sC (vC W h6<|fp W<|cv<|br W t.kids 0) ?_;exact .refl _
  have g11:¬t.kind=11:=sO;refine sS (λg12=>?_) λg12=>?_
  ·have g12:t.kind=12:=sO;rw[show dH W t.kind t.num (br W t.kids)=cv (egF W<|cv<|br W t.kids 0) from by unfold dH;simp[g12]];refine sB ?_;refine⟨_,jA (j:=0) zo zo,?_⟩;refine sW ?_;refine sC (vC W h6<|br W t.kids 0) ?_;refine sC (Nc W hW hc<|cv<|br W t.kids 0) ?_;refine sC (vC W h6<|egF W<|cv<|br W t.kids 0) ?_;exact .refl _
  have g12:¬t.kind=12:=sO;refine sS (λg13=>?_) λg13=>?_
  ·have g13:t.kind=13:=sO;rw[show dH W t.kind t.num (br W t.kids)=cv (euF W iK<|cv<|br W t.kids 0) from by unfold dH;simp[g13]];refine sB ?_;refine⟨_,jA (j:=0) zo zo,?_⟩;refine sW ?_;refine sC (vC W h6<|br W t.kids 0) ?_;refine sC (Nx W hc iK<|cv<|br W t.kids 0) ?_;refine sC (vC W h6<|euF W iK<|cv<|br W t.kids 0) ?_;exact .refl _
  have g13:¬t.kind=13:=sO;refine sS (λg14=>?_) λg14=>?_
  ·have g14:t.kind=14:=sO;rw[show dH W t.kind t.num (br W t.kids)=auF W (br W t.kids 0) (br W t.kids 1) from by unfold dH;simp[g14]];refine sB ?_;refine⟨_,jA (j:=0) zo zo,?_⟩;refine bC ?_;refine⟨_,jA (j:=1) zo zo,?_⟩;refine sW ?_;refine sC (zCy W hW hc (br W t.kids 0)<|br W t.kids 1) ?_;exact .refl _
  have g14:¬t.kind=14:=sO;rw[show dH W t.kind t.num (br W t.kids)=cv iK from by unfold dH;simp[g1,g3,g4,g5,g6,g7,g8,g9,g10,g11,g12,g13,g14]];refine sC (vC W h6 iK) ?_;exact .refl _
end
def Ix(W:bg)(t:Tree):Int:=if W.aU=0 then aU c9 t else W.aU
theorem zuJ(hW:W.Fits)(t:Tree)(hs:Small t):ao aj 146 [gh W,ba t]<|aa<|Ix W t:=by
 have hC:=J5 W hW;have hT:=Tw t hs;refine bS fZ ?_;unfold Ix;generalize W.aU=c at *;unfold gh at *;refine sR ?_;refine sC hC ?_;refine sS (λq=>?_) λq=>?_
 ·have q:¬c=0:=sO;rw[ab q];exact .refl _
 have q:c=0:=sO;rw[ae q];refine sC hT ?_;exact .refl _
theorem zu5(hW:W.Fits)(hL:tS W.label)(t:Tree)(hs:Small t)(hc:W.aU=0)(h:aU c9 t=0):ao aj 78 [gh W,ba t] (.aJ [bx W.next.length<|ni W t,aa 0]):=by
 have hC:=zuJ W hW t hs;rw[show Ix W t=0 by unfold Ix;rw[ae hc,h]] at hC;have hB:=zxJ W hW hc;have hT:=zvt W hW hc hL t ((rW _ _).1 h).2.2;refine bS fZ ?_;unfold gh at *;refine sR ?_;refine sC hC ?_;refine sC hB ?_;refine sC hT ?_;exact .refl _
theorem Uc{N:List<|List aZ}{x:Int}:∀{n:Nat},x∈lJ N n->∃m,m<n/\x∈nu N m
 |0,h=>by simp[lJ] at h
 |n+1,h=>by
  simp only[lJ,dz] at h;rcases h with h|h
  ·obtain⟨m,h1,h2⟩:=Uc h;exact⟨m,zo,h2⟩
  exact⟨n,zo,h⟩
variable{M:ak}{N:List<|List aZ}
theorem zy8{s:Nat}(h:SpN M N s)(hm:m<N.length)(hx:x∈nu N m):0<=x/\x.toNat<N.length:=by
 unfold nu at hx;split at hx
 ·rw[cV] at hx;subst hx;omega
 obtain⟨e,he,rfl⟩:=dq.1 hx;have hr:N.getD m []∈N:=by rw[a8,aX hm];simp
 have:=h.IX _ hr e he;have:=h.len;omega
theorem Ya{t:Nat}(ht:t<n)(hx:x∈jG N t):0<=x/\x<(bu N n:Int):=by
 obtain⟨i,hi,rfl⟩:=dq.1 hx;have hi:=jz.1 hi;have:=vQ (N:=N) (show t+1<=n by omega);rw[o4] at this;omega
noncomputable def dW(P:af)(tok st:Int):bg:=⟨jG (P.cu tok st) 0,ko<|P.cu tok st,oi P.aR<|P.cu tok st,o9 P.aR<|P.cu tok st⟩
theorem zF(P:af)(tok st:Int):gh (dW P tok st)=vm (jG (P.cu tok st) 0) (ko<|P.cu tok st) (oi P.aR<|P.cu tok st) (o9 P.aR<|P.cu tok st):=rfl
theorem P7{N:List<|List aZ}{of:List aZ}{s x:Int}:∀{i:Nat},x∈mZ N of s i->0<=x/\x<(i:Int)
 |0,h=>by simp[mZ] at h
 |i+1,h=>by
  simp only[mZ] at h;split at h
  ·rcases dz.1 h with h|h
   ·have:=P7 h;omega
   rw[cV] at h;subst h;omega
  have:=P7 h;omega
structure RnOK(W:bg):Prop where
 fits:W.Fits
 aU:W.aU=0
 lett:tS W.label
 start:W.start.length<=1048576
 rows:∀l∈W.next,l.length<=1048576
variable{P:af}
theorem zpS(h:P.ew=0)(z:Int):0<=tm P.aR z/\tm P.aR z<18446744073709551616:=by
 unfold tm;split
 ·omega
 have hp:∀k:Nat,k<=63->(0:Int)<=2^k/\(2:Int)^k<18446744073709551616:=λk hk=>by
  have h1:(2:Nat)^k<=2^63:=Bq zo hk;have h3:(2:Nat)^63=9223372036854775808:=zc;rw[Fq k];generalize (2:Nat)^k=z at *;omega
 refine hp _ ?_;by_cases hz:z.toNat<P.aR.length
 ·have h1:=(af.yW h hz).node;have:=(jo (af.kB h).1).1;omega
 rw[a8,dG zo];simp
variable{tok st:Int}
theorem Jo(he:P.c7 tok st=0)(hA:bu (P.cu tok st) (P.cu tok st).length<=600):RnOK<|dW P tok st:=by
 have hF:=mP he;have hS:=hF.sp;obtain⟨_,_,xo⟩:=af.kB hF.steps;have F6:=λz=>zpS (P:=P) hF.steps z;have lO:1<=(P.cu tok st).length:=by have:=hS.len;have:=hS.pos;omega
 unfold dW;generalize P.cu tok st=N at *;generalize P.exM tok st=M at *;have D2:=KU N;have C7:=NV P.aR N;have s9:=LG P.aR N;have hm:∀t,t<N.length->iA N t<=600:=λt ht=>by
  have:=vQ (N:=N) (show t+1<=N.length by omega);rw[o4] at this;omega
 have gR:∀l∈ko N,l≠[]/\l.length<=600/\bq l (ko N).length:=λl hl=>by
  obtain⟨x,hx,rfl⟩:=dq.1 hl;obtain⟨m,m1,m2⟩:=Uc hx;obtain⟨x1,x2⟩:=zy8 hS m1 m2;refine⟨λh=>?_,?_,iS λy hy=>?_⟩
  ·have h1:=Ho N x.toNat;have h2:=zxA N x.toNat
   grind
  ·rw[Ho];exact hm _ x2
  rw[D2];exact Ya x2 hy
 have bW:bq (jG N 0) (ko N).length:=iS λy hy=>by rw[D2];exact Ya lO hy
 have qh:(jG N 0).length<=600:=by rw[Ho];exact hm 0 lO
 have iW:∀l∈o9 P.aR N,bq l (ko N).length/\l.length<=600:=λl hl=>by
  obtain⟨k,hk,rfl⟩:=dq.1 hl;refine⟨iS λy hy=>?_,?_⟩
  ·rw[D2];exact P7 hy
  have:=Zt N (cc N N.length) (k:Int)<|bu N N.length;omega
 refine⟨⟨?_,?_,?_,?_,?_,?_⟩,?_,?_,?_,?_⟩
 ·show(jG N 0).length<=_;omega
 ·show(ko N).length<=_;omega
 ·show(oi P.aR N).length<=_;omega
 ·show(o9 P.aR N).length<=_;omega
 ·intro l hl;have:=gR l hl;omega
 ·intro l hl;have:=iW l hl;omega
 ·unfold bg.aU;dsimp only;rw[ab zo,ab<|by rw[bW];simp;omega,ab,ab]
  ·rw[uQ,yK];intro l hl;rw[(iW l hl).1];decide
  rw[uQ,yK];intro l hl;obtain⟨h1,_,h2⟩:=gR l hl;rw[h2];simpa using h1
 ·intro x hx;obtain⟨e,_,rfl⟩:=dq.1 hx;exact F6 e.1
 ·show(jG N 0).length<=_;omega
 intro l hl;have:=gR l hl;omega
theorem TD:∀{a b:ah},aF a=aF b->a=b:=λ{a b} h=>by
 unfold aF at h;injection h with _ h
 induction a generalizing b with
 |nil=>cases b with
  |nil=>rfl
  |cons y b=>simp at h
 |cons x a ih=>cases b with
  |nil=>simp at h
  |cons y b =>
   simp only[fR,List.cons.injEq,D.sc.injEq,Value.int.injEq,true_and,and_true] at h;rw[h.1,ih h.2]
variable{l:ah}{W:bg}
theorem zwI(hb:n6 W A)(ha:iO W A){s:ah}(e:vp W A (cU W A).1 (cU W A).2 (jq W A).2=.aJ [.agg [aF s,aF l],ay<|iO W A,aa 0]) :
  ¬pE (cU W A).2 (jZ W A (cU W A).1)<0/\s=uX (cU W A).1 ((iB (cU W A).2 (jZ W A (cU W A).1) (jq W A).2).take<|(iB (cU W A).2 (jZ W A (cU W A).1) (jq W A).2).length-1) /\
   l=uX (cU W A).1 (s6 (cU W A).2 (jZ W A (cU W A).1) (fu<|iB (cU W A).2 (jZ W A (cU W A).1) (jq W A).2).toNat):=by
 rw[ha] at e;unfold vp at e;split at e
 ·simp at e
 rename_i hp;simp only[D.aJ.injEq,List.cons.injEq,D.agg.injEq,and_true,true_and] at e;exact⟨hp,(TD e.1).symm,(TD e.2).symm⟩
theorem X9(hb:n6 W A)(h:bq l (cU W A).2.length):bq (uX (cU W A).1 l) W.next.length:=iS λx hx=>by
 obtain⟨hN,hg⟩:=zA hb;obtain⟨n,hn,rfl⟩:=dq.1 hx;have h1:=cZ h hn;have:=hN.len;exact(hg _<|pL<|show n.toNat<(cU W A).1.length by omega).1
theorem zwd(hb:n6 W A)(ha:iO W A){s:ah}(e:vp W A (cU W A).1 (cU W A).2 (jq W A).2=.aJ [.agg [aF s,aF l],ay<|iO W A,aa 0]) :
  bq s W.next.length=true/\bq l W.next.length/\s.length<=1000000000/\l.length<=1000000000:=by
 obtain⟨hp,rfl,rfl⟩:=zwI hb ha e;obtain⟨h1,h2,h3,h4⟩:=QQ hb hp;obtain⟨h5,h6⟩:=VQ h4;have hG:=(zA hb).1.fits hb (zA hb).2;have hS:(jZ W A (cU W A).1).length<=160:=by
  obtain⟨_,_,xC,_⟩:=uw W hb.two.cw;obtain⟨_,_,_,zQw,_⟩:=xE A hb.two.ca;unfold jZ;rw[cL,As<|aS _,As<|aS _];omega
 refine⟨X9 hb<|iS λx hx=>cZ h1<|xR hx,X9 hb h5,?_,?_⟩
 ·unfold uX;rw[aI,fg];omega
 unfold uX;rw[aI];have:=Bk hS (show(cU W A).2.length<=1228800 by omega);omega
def rI(h:Bool)(s l:ah):D:=.agg [ay h,aF s,aF l]
@[simp] theorem zBw(h:Bool)(s l:ah):Pure<|rI h s l:=by simp[rI,Pure,aA,cX]
theorem YC(h:k<P.nodes.length):List.drop 0 (List.take k<|((P.nodes.take k).map λx=>x.1).map λs=>[D.sc (.string s)])++[[D.sc (.string<|P.name k)]]=((P.nodes.take<|k+1).map λx=>x.1).map λs=>[D.sc (.string s)]:=by
 rw[cB zq,jP,aX h];unfold af.name;rw[a8,aX h];simp only[oD,fR,jc,Option.toList_some,sj]
def fL(P:af):List aB:=P.nodes.map λx=>x.1
theorem Je(P:af)(hP:P.nodes.length<=1000000):ao aj 77 [b7 P]<|dr<|fL P:=by
 refine bt ?_;rw[aI];refine bQ (eo 3 1 zs rfl) ?_;refine bb [7,8] (λk:Nat=>[(3,.own 1 k 0 k),(9,aa k)]) (λk=>[(1,.vec true k 1<|((P.nodes.take k).map λx=>x.1).map λs=>[.sc (.string s)])]) (λk=>k<=P.nodes.length) (λk=>P.nodes.length-k) 0 ?_;refine dd ?_;rintro k hk;refine bf (λh=>?_) λh=>?_
 ·have ai:k<P.nodes.length:=sO;refine sL (jv P (k:=k) zo ai) ?_;refine ee ?_;refine⟨k+1,zo,zd,?_⟩;refine aL 2 zs rfl sQ (sU ?_);exact aV<|YC ai
 have ai:k=P.nodes.length:=by have:¬k<P.nodes.length:=sO
                              omega
 subst ai;refine .own _ _ _ _ _ _ _ _ rfl ?_;rw[cB zs,dM];exact gw _
theorem SG(of:List aZ)(hof:of.length<=1000000)(l:ah)(hl:l.length<=1000000000000)(aY:bq l of.length):ao aj 81 [mo of,aF l]<|aF<|l.map λn=>(of.getD n.toNat (0,0)).1:=by
 refine bS fZ ?_;unfold mo aF;refine sR ?_;rw[aI];refine bQ (eo 5 1 zs rfl) ?_;refine bb [0,8,9] (λk:Nat=>[(5,.own 0 k 0 k),(10,aa k)]) (λk=>[(0,.vec true k 1<|aw<|(l.take k).map λn=>(of.getD n.toNat (0,0)).1)]) (λk=>k<=l.length) (λk=>l.length-k) 0 ?_;refine dd ?_;rintro k hk;refine bf (λh=>?_) λh=>?_
 ·have ai:k<l.length:=sO;have hx:=cZ aY<|df ai;refine sL (bV (k:=k) zo ai) ?_;refine sL (lu (k:=(l.getD k 0).toNat) zo zo) ?_;refine ee ?_;refine⟨k+1,zo,zd,?_⟩;refine aL 1 zs rfl sQ (sU ?_);refine aV<|(kJ zq).trans ?_;have e:l.getD k 0=l[k]:=(by rw[a8,aX ai];rfl);rw[jP,aX ai,e,oD];rfl
 have ai:k=l.length:=by have:¬k<l.length:=sO
                        omega
 subst ai;rw[dM];exact oY zs rfl
section
variable(P:af)(tok st:Int)(name:aB)(sort:Int)(x:cA)(k a b c:Int)(f g:Tree)
noncomputable def Gj(l:ah):ah:=l.map λn=>((cc (P.cu tok st) (P.cu tok st).length).getD n.toNat (0,0)).1
end
theorem FW{e:Int}:Deep H (.aJ [.agg [ay false,au,au],aa e]) (.aJ [rI false [] [],aa e]) :=
 .aJ _ _ (.cons _ _ _ _ (.agg _ _ (.cons _ _ _ _ (.refl _) (.cons _ _ _ _ (.none _) (.cons _ _ _ _ (.none _) .nil)))) (.cons _ _ _ _ (.refl _) .nil))
section
variable{P:af}(hP:P.Fits){tok st:Int}{name:aB}(gg:name.size<=9223372036854775807){sort:Int}{x:cA}{k a b c:Int}{f g:Tree}(hf:Small f)(hg:Small g)
include hP in
theorem zzc(h1:P.c7 tok st≠0):ao aj 35 [b7 P,cK name sort x k a b c f g,aa tok,aa st] (.aJ [rI false [] [],aa<|P.c7 tok st]):=by
 have hR:=zvw P hP tok st h1;refine bS fZ ?_;generalize P.c7 tok st=e at *;unfold b7 af.cells vm at *;refine sR ?_;refine sC hR ?_;refine sS (λh=>?_) λh=>?_
 ·exact FW
 exfalso;exact sO
include hP in
theorem zzW(h1:P.c7 tok st=0)(h2:¬bu (P.cu tok st) (P.cu tok st).length<=600):ao aj 35 [b7 P,cK name sort x k a b c f g,aa tok,aa st] (.aJ [rI false [] [],aa 2]):=by
 have hR:=FQ P hP tok st h1<|mP h1;rw[ab h2] at hR;refine bS fZ ?_;unfold b7 af.cells vm at *;refine sR ?_;refine sC hR ?_;exact FW
theorem Q3(h:gu sort x k a b c f=0):aU bw (cr sort x k a b c f)=0:=by
 unfold gu at h;unfold cr;split at h
 ·rename_i h1;rw[ae h1];unfold uR at h;split at h
  ·exact h
  rename_i q;exact absurd h q
 rename_i h1;rw[ab h1];split at h
 ·rename_i h2;rw[ae h2];unfold vL at h;split at h
  ·exact h
  rename_i q;exact absurd h q
 rename_i h2;rw[ab h2];split at h
 ·exact h
 cases h
include hP in
theorem zxg(hC:ao aj 76 [cK name sort x k a b c f g,dr<|fL P]<|aa<|ff (fL P) name sort x k a b c f g)(h1:P.c7 tok st=0)(h2:bu (P.cu tok st) (P.cu tok st).length<=600)(h3:ff (fL P) name sort x k a b c f g≠0):ao aj 35 [b7 P,cK name sort x k a b c f g,aa tok,aa st] (.aJ [rI false [] [],aa<|ff (fL P) name sort x k a b c f g]):=by
 have hR:=FQ P hP tok st h1<|mP h1;rw[ae h2,<-zF] at hR;have hc:=af.kB (mP h1).steps;have zB:=(jo hc.1).1;have nJ:=Je P zo;generalize ff (fL P) name sort x k a b c f g=e at *;refine bS fZ ?_;unfold b7 af.cells cK ji cm iV aO gh bg.cells at *;refine sR ?_;refine sC hR ?_;refine sC nJ ?_;refine sC hC ?_;refine sS (λh=>?_) λh=>?_
 ·exact FW
 exfalso;exact sO
include hP in
theorem zvh(hC:ao aj 76 [cK name sort x k a b c f g,dr<|fL P]<|aa<|ff (fL P) name sort x k a b c f g)(hM:ao aj 79 [cK name sort x k a b c f g]<|oH (gu sort x k a b c f)<|cr sort x k a b c f)(h1:P.c7 tok st=0)(h2:bu (P.cu tok st) (P.cu tok st).length<=600)(h4:sort≠4)(h3:ff (fL P) name sort x k a b c f g=0)(h5:gu sort x k a b c f≠0) :
  ao aj 35 [b7 P,cK name sort x k a b c f g,aa tok,aa st] (.aJ [rI false [] [],aa<|gu sort x k a b c f]):=by
 have hR:=FQ P hP tok st h1<|mP h1;rw[ae h2,<-zF] at hR;have hc:=af.kB (mP h1).steps;have zB:=(jo hc.1).1;have nJ:=Je P zo;rw[h3] at hC;unfold oH at hM;rw[ab h5] at hM;generalize gu sort x k a b c f=e at *;refine bS fZ ?_;unfold b7 af.cells cK ji cm iV aO gh bg.cells at *;refine sR ?_;refine sC hR ?_;refine sC nJ ?_;refine sC hC ?_;rw[dp h4];refine sW ?_;refine sC hM ?_;refine sS (λh=>?_) λh=>?_
 ·exact FW
 exfalso;exact sO
include hP hf in
theorem ZI(hC:ao aj 76 [cK name sort x k a b c f g,dr<|fL P]<|aa<|ff (fL P) name sort x k a b c f g)(hM:ao aj 79 [cK name sort x k a b c f g]<|oH (gu sort x k a b c f)<|cr sort x k a b c f)(h1:P.c7 tok st=0)(h2:bu (P.cu tok st) (P.cu tok st).length<=600)(h4:sort≠4)(h3:ff (fL P) name sort x k a b c f g=0)(h5:gu sort x k a b c f=0) :
  ∃s l,ao aj 35 [b7 P,cK name sort x k a b c f g,aa tok,aa st]
   (.aJ [rI (decide (gU (cr sort x k a b c f)=0)&&!(iO (dW P tok st)<|fX<|cr sort x k a b c f)) (Gj P tok st s)<|Gj P tok st l,aa<|gU<|cr sort x k a b c f]) /\
   (gU (cr sort x k a b c f)=0->iO (dW P tok st) (fX<|cr sort x k a b c f)->vp (dW P tok st) (fX<|cr sort x k a b c f) (cU (dW P tok st)<|fX<|cr sort x k a b c f).1 (cU (dW P tok st)<|fX<|cr sort x k a b c f).2 (jq (dW P tok st)<|fX<|cr sort x k a b c f).2=.aJ [.agg [aF s,aF l],ay<|iO (dW P tok st)<|fX<|cr sort x k a b c f,aa 0]) /\
   (¬(gU (cr sort x k a b c f)=0/\iO (dW P tok st) (fX<|cr sort x k a b c f))->s=[]/\l=[]):=by
 have hR:=FQ P hP tok st h1<|mP h1;rw[ae h2,<-zF] at hR;have hW:=Jo h1 h2;have hc:=af.kB (mP h1).steps;have zB:=(jo hc.1).1;have nJ:=Je P zo;rw[h3] at hC;unfold oH at hM;rw[ae h5,h5] at hM;have Bg:=Q3 h5;obtain⟨s,l,hH,lq,lk⟩:=zxi (dW P tok st) hW.fits hW.start hW.rows (cr sort x k a b c f)<|WT _ _ _ _ _ _ _ hf;rw[ab<|by simpa using hW.aU,ab<|by simpa using Bg] at hH;have hd:decide ((dW P tok st).aU=0/\aU bw (cr sort x k a b c f)=0/\gU (cr sort x k a b c f)=0)=decide (gU (cr sort x k a b c f)=0):=by rw[decide_eq_decide];exact⟨λh=>h.2.2,λh=>⟨hW.aU,Bg,h⟩⟩
 rw[hd] at hH;refine⟨s,l,?_,λq q2=>lq hW.aU Bg q,λq=>lk λq2=>q q2.2.2⟩
 have aY:gU (cr sort x k a b c f)=0->iO (dW P tok st) (fX<|cr sort x k a b c f)->bq s (dW P tok st).next.length/\bq l (dW P tok st).next.length/\s.length<=1000000000/\l.length<=1000000000:=λq q2 =>
  zwd (L8 hW.fits hW.aU hW.start hW.rows q) q2 (lq hW.aU Bg q)
 have oZ:(cc (P.cu tok st) (P.cu tok st).length).length=(dW P tok st).next.length:=by rw[ym];exact(KU _).symm
 have b9:¬(gU (cr sort x k a b c f)=0/\iO (dW P tok st) (fX<|cr sort x k a b c f))->s=[]/\l=[]:=λq=>lk λq2=>q q2.2.2;have qs:(cc (P.cu tok st) (P.cu tok st).length).length<=600:=h2;unfold Gj;clear lq lk hd hW Bg h3 h5;generalize cc (P.cu tok st) (P.cu tok st).length=of at *;generalize dW P tok st=W at *;generalize cr sort x k a b c f=T at *;generalize hA:iO W (fX T)=A at *;generalize gU T=e at *;refine bS fZ ?_;unfold b7 af.cells cK ji cm iV aO gh bg.cells at *;by_cases he:e=0
 ·subst he;cases A
  ·obtain⟨rfl,rfl⟩:=b9 zs;refine sR ?_;refine sC hR ?_;refine sC nJ ?_;refine sC hC ?_;rw[dp h4];refine sW ?_;refine sC hM ?_;refine sC hH ?_;exact .aJ _ _ (.cons _ _ _ _ (.agg _ _ (.cons _ _ _ _ (.refl _) (.cons _ _ _ _ (.none _) (.cons _ _ _ _ (.none _) .nil)))) (.cons _ _ _ _ (.refl _) .nil))
  obtain⟨i1,i2,i3,i4⟩:=aY rfl rfl;have hL1:=SG of zo s zo (by rw[oZ];exact i1);have MW:=SG of zo l zo (by rw[oZ];exact i2);refine sR ?_;refine sC hR ?_;refine sC nJ ?_;refine sC hC ?_;rw[dp h4];refine sW ?_;refine sC hM ?_;refine sC hH ?_;refine sC hL1 ?_;refine sC MW ?_;exact .refl _
 obtain⟨rfl,rfl⟩:=b9 λq=>he q.1;refine sR ?_;refine sC hR ?_;refine sC nJ ?_;refine sC hC ?_;rw[dp h4];refine sW ?_;refine sC hM ?_;refine sC hH ?_;rw[show(e != 0)=true by simpa using he];refine sW ?_;rw[gI he];exact .aJ _ _ (.cons _ _ _ _ (.agg _ _ (.cons _ _ _ _ (.refl _) (.cons _ _ _ _ (.none _) (.cons _ _ _ _ (.none _) .nil)))) (.cons _ _ _ _ (.refl _) .nil))
end
theorem zQ(hP:P.Fits)(h1:P.c7 tok st=0):pq<|fL P:=by
 have hc:=af.kB (mP h1).steps;have zB:=(jo hc.1).1;exact⟨by simp[fL];omega,λs hs=>by obtain⟨z,hz,rfl⟩:=dq.1 hs;exact hP.name z hz⟩
section
variable{P:af}(hP:P.Fits){tok st:Int}{name:aB}{sort:Int}{x:cA}{k a b c:Int}{f g:Tree}(hg:Small g)
theorem SS{names:List aB}(h:ff names name 4 x k a b c f g=0):aU c9 g=0:=by
 unfold ff at h;split at h
 ·cases h
 split at h
 ·rename_i q;exact absurd h q
 rename_i q;have q:=Classical.not_not.1 q;unfold dU at q;rw[ab zc,ab zc,ab zc,ae rfl] at q;split at q
 ·assumption
 exact q
include hP hg in
theorem zz5(hC:ao aj 76 [cK name sort x k a b c f g,dr<|fL P]<|aa<|ff (fL P) name sort x k a b c f g)(h1:P.c7 tok st=0)(h2:bu (P.cu tok st) (P.cu tok st).length<=600)(h4:sort=4)(h3:ff (fL P) name sort x k a b c f g=0) :
  ao aj 35 [b7 P,cK name sort x k a b c f g,aa tok,aa st] (.aJ [rI ((dW P tok st).start.all λn=>ni (dW P tok st) g n.toNat) [] [],aa 0]):=by
 have hR:=FQ P hP tok st h1<|mP h1;rw[ae h2,<-zF] at hR;have hW:=Jo h1 h2;have hc:=af.kB (mP h1).steps;have zB:=(jo hc.1).1;have nJ:=Je P zo;rw[h3] at hC;subst h4;have hL:=zu5 (dW P tok st) hW.fits hW.lett g hg hW.aU<|SS h3;obtain⟨w1,w2,w3,w4,w5,w6⟩:=uw _ hW.aU;have qh:=hW.start;clear hW h3;generalize dW P tok st=W at *;refine bS fZ ?_;generalize hb:(W.start.all λn=>ni W g n.toNat)=B;unfold b7 af.cells cK ji cm iV aO gh bg.cells at *;refine sR ?_;refine sC hR ?_;refine sC nJ ?_;refine sC hC ?_;refine sC hL ?_;rw[aI];refine bb [8,14,56,57] (λi:Nat=>[(58,aa i)]) (λ_=>[]) (λi=>i<=W.start.length/\∀j,j<i->ni W g (W.start.getD j 0).toNat=true) (λi=>W.start.length-i) 0 ?_;refine sW ?_;refine⟨⟨zo,λj hj=>zo⟩,by exact sK,rfl,?_⟩;rintro i ⟨hi,bR⟩;refine bf (λh=>?_) λh=>?_
 ·have aT:i<W.start.length:=sO;have hx:=cZ w4<|df aT;refine sL (bV (k:=i) zo aT) ?_;refine sL (bc (W.start.getD i 0).toNat zo zo) ?_;cases r:ni W g (W.start.getD i 0).toNat
  ·refine sW ?_;have:B=false:=by rw[<-hb,Gi];exact⟨_,df aT,by rw[r];simp⟩
   rw[this];exact FW
  refine aQ ?_;refine⟨i+1,⟨zo,λj hj=>?_⟩,zd,aC (by exact sK) rfl⟩;by_cases e:j=i
  ·subst e;exact r
  exact bR j zo
 have aT:i=W.start.length:=by have:¬i<W.start.length:=sO
                              omega
 subst aT;have:B:=by
  rw[<-hb,kb];intro y hy;obtain⟨j,hj,rfl⟩:=pd hy;exact bR j hj
 rw[this];exact .aJ _ _ (.cons _ _ _ _ (.agg _ _ (.cons _ _ _ _ (.refl _) (.cons _ _ _ _ (.none _) (.cons _ _ _ _ (.none _) .nil)))) (.cons _ _ _ _ (.refl _) .nil))
end
section
variable(P:af)(tok st:Int)(name:aB)(sort:Int)(x:cA)(k a b c:Int)(f g:Tree)
noncomputable def jE:Int :=
 if P.c7 tok st≠0 then P.c7 tok st else if ¬bu (P.cu tok st) (P.cu tok st).length<=600 then 2
 else if ff (fL P) name sort x k a b c f g≠0 then ff (fL P) name sort x k a b c f g
 else if sort=4 then 0 else if gu sort x k a b c f≠0 then gu sort x k a b c f else gU<|cr sort x k a b c f
noncomputable def jB:Bool :=
 decide (jE P tok st name sort x k a b c f g=0)&&if sort=4 then (dW P tok st).start.all λn=>ni (dW P tok st) g n.toNat else !(iO (dW P tok st)<|fX<|cr sort x k a b c f)
end
section
variable{P:af}(hP:P.Fits){tok st:Int}{name:aB}(gg:name.size<=9223372036854775807){sort:Int}{x:cA}{k a b c:Int}{f g:Tree}(hf:Small f)(hg:Small g)
include hP gg hf hg in
theorem zyT(h1:P.c7 tok st=0)(h2:bu (P.cu tok st) (P.cu tok st).length<=600)(h3:ff (fL P) name sort x k a b c f g≠0):ao aj 35 [b7 P,cK name sort x k a b c f g,aa tok,aa st] (.aJ [rI false [] [],aa<|ff (fL P) name sort x k a b c f g]) :=
 zxg hP (Jm (fL P) (zQ hP h1) name gg sort x k a b c f g hf hg) h1 h2 h3
include hP gg hf hg in
theorem zB1(h1:P.c7 tok st=0)(h2:bu (P.cu tok st) (P.cu tok st).length<=600)(h4:sort=4)(h3:ff (fL P) name sort x k a b c f g=0) :
  ao aj 35 [b7 P,cK name sort x k a b c f g,aa tok,aa st] (.aJ [rI ((dW P tok st).start.all λn=>ni (dW P tok st) g n.toNat) [] [],aa 0]) :=
 zz5 hP hg (Jm (fL P) (zQ hP h1) name gg sort x k a b c f g hf hg) h1 h2 h4 h3
include hP gg hf hg in
theorem zzf(h1:P.c7 tok st=0)(h2:bu (P.cu tok st) (P.cu tok st).length<=600)(h4:sort≠4)(h3:ff (fL P) name sort x k a b c f g=0)(h5:gu sort x k a b c f≠0) :
  ao aj 35 [b7 P,cK name sort x k a b c f g,aa tok,aa st] (.aJ [rI false [] [],aa<|gu sort x k a b c f]) :=
 zvh hP (Jm (fL P) (zQ hP h1) name gg sort x k a b c f g hf hg) (UB name sort x k a b c f g hf) h1 h2 h4 h3 h5
include hP gg hf hg in
theorem zBr(h1:P.c7 tok st=0)(h2:bu (P.cu tok st) (P.cu tok st).length<=600)(h4:sort≠4)(h3:ff (fL P) name sort x k a b c f g=0)(h5:gu sort x k a b c f=0) :
  ∃s l,ao aj 35 [b7 P,cK name sort x k a b c f g,aa tok,aa st]
   (.aJ [rI (decide (gU (cr sort x k a b c f)=0)&&!(iO (dW P tok st)<|fX<|cr sort x k a b c f)) (Gj P tok st s)<|Gj P tok st l,aa<|gU<|cr sort x k a b c f]) /\
   (gU (cr sort x k a b c f)=0->iO (dW P tok st) (fX<|cr sort x k a b c f)->vp (dW P tok st) (fX<|cr sort x k a b c f) (cU (dW P tok st)<|fX<|cr sort x k a b c f).1 (cU (dW P tok st)<|fX<|cr sort x k a b c f).2 (jq (dW P tok st)<|fX<|cr sort x k a b c f).2=.aJ [.agg [aF s,aF l],ay<|iO (dW P tok st)<|fX<|cr sort x k a b c f,aa 0]) /\
   (¬(gU (cr sort x k a b c f)=0/\iO (dW P tok st) (fX<|cr sort x k a b c f))->s=[]/\l=[]) :=
 ZI hP hf (Jm (fL P) (zQ hP h1) name gg sort x k a b c f g hf hg) (UB name sort x k a b c f g hf) h1 h2 h4 h3 h5
include hP gg hf hg in
end
mutual
theorem Sf(kd:Int->Int):∀(t:Tree) (d n:Int),0<=(dj kd t d n).1/\(dj kd t d n).1<=9
 | .node k x ks,d,n=>by
  have:=XO kd ks (d+1)<|n+1;rw[dj]
  (repeat' split)<;>first|exact this|simp
theorem XO(kd:Int->Int):∀(l:List Tree) (d n:Int),0<=(iN kd l d n).1/\(iN kd l d n).1<=9
 |[],_,n=>by rw[iN];simp
 |t::ts,d,n=>by
  have h1:=Sf kd t d n;have h2:=XO kd ts d (dj kd t d n).2;rw[iN];split<;>assumption
end
section
variable(P:af)(tok st:Int)(name:aB)(sort:Int)(x:cA)(k a b c:Int)(f g:Tree)
theorem Nv(h:P.c7 tok st=0):0<=jE P tok st name sort x k a b c f g/\jE P tok st name sort x k a b c f g<=9:=by
 have hc:∀kd t,0<=aU kd t/\aU kd t<=9:=λkd t=>Sf kd t 1 0;have h1:=hc bw f;have h2:=hc c9 g;have h3:=hc bw<|tc x;have h4:=hc bw<|r8 k a b c;have h5:=hc bw<|bK 4<|cr sort x k a b c f;have h6:=hc bw<|cY<|bK 4<|cr sort x k a b c f;have p1:0<=dJ x/\dJ x<=9:=by unfold dJ;split<;>simp
 have p2:0<=jm k a b c/\jm k a b c<=9:=by unfold jm;(repeat' split)<;>simp
 have q1:0<=ff (fL P) name sort x k a b c f g/\ff (fL P) name sort x k a b c f g<=9:=by
  unfold ff dU
  grind
 have q2:0<=gu sort x k a b c f/\gu sort x k a b c f<=9:=by
  unfold gu uR vL
  grind
 have q3:0<=gU (cr sort x k a b c f)/\gU (cr sort x k a b c f)<=9:=by
  have:0<=(mN (bK 4<|cr sort x k a b c f)<|cY<|bK 4<|cr sort x k a b c f).2/\(mN (bK 4<|cr sort x k a b c f)<|cY<|bK 4<|cr sort x k a b c f).2<=9:=by
   unfold mN
   grind
  unfold gU
  grind
 unfold jE
 grind
noncomputable def vdW:aB :=
 if jE P tok st name sort x k a b c f g≠0 then (if fF name=true then name else ⟨#[63]⟩)++⟨#[32,101,114,114,111,114,32]⟩++x6 (jE P tok st name sort x k a b c f g)
 else if jB P tok st name sort x k a b c f g=true then (if fF name=true then name else ⟨#[63]⟩)++⟨#[32,104,111,108,100,115]⟩
 else (if fF name=true then name else ⟨#[63]⟩)++⟨#[32,98,114,111,107,101,110]⟩
end
theorem Ig{s:aB}(h:fF s):s.size<=8:=by
 unfold fF at h
 grind
theorem zw3(P:af)(tok st:Int)(name:aB)(sort:Int)(x:cA)(k a b c:Int)(f g:Tree)(he:P.c7 tok st=0):(vdW P tok st name sort x k a b c f g).size<=40:=by
 have hE:=Nv P tok st name sort x k a b c f g he;have hz:=BZ (n:=jE P tok st name sort x k a b c f g) zo zo;unfold vdW;generalize jE P tok st name sort x k a b c f g=e at *;have h1:(if fF name=true then name else ⟨#[63]⟩:aB).size<=8:=by
  split
  ·rename_i h;exact Ig h
  decide
 have z6:(⟨#[32,104,111,108,100,115]⟩:aB).size=6:=rfl;have z7:(⟨#[32,98,114,111,107,101,110]⟩:aB).size=7:=rfl;have z8:(⟨#[32,101,114,114,111,114,32]⟩:aB).size=7:=rfl
 grind
section
variable{P:af}(hP:P.Fits){name:aB}(gg:name.size<=9223372036854775807){f g:Tree}(hf:Small f)(hg:Small g)
include hP gg hf hg in
theorem zzb(tok st:Int)(sort:Int)(x:cA)(k a b c:Int):∃s l,ao aj 35 [b7 P,cK name sort x k a b c f g,aa tok,aa st] (.aJ [rI (jB P tok st name sort x k a b c f g) s l,aa<|jE P tok st name sort x k a b c f g]):=by
 have bad:∀{e},jE P tok st name sort x k a b c f g=e->e≠0->jB P tok st name sort x k a b c f g=false:=λh q=>by unfold jB;rw[h,gI q,pT]
 by_cases h1:P.c7 tok st=0
 ·by_cases h2:bu (P.cu tok st) (P.cu tok st).length<=600
  ·by_cases h3:ff (fL P) name sort x k a b c f g=0
   ·by_cases h4:sort=4
    ·have e:jE P tok st name sort x k a b c f g=0:=(by unfold jE;rw[ab<|by simpa using h1,ab<|by simpa using h2,ab<|by simpa using h3,ae h4]);have hb:jB P tok st name sort x k a b c f g=((dW P tok st).start.all λn=>ni (dW P tok st) g n.toNat):=(by unfold jB;rw[e,ae h4];simp);rw[e,hb];exact⟨[],[],zB1 hP gg hf hg h1 h2 h4 h3⟩
    by_cases h5:gu sort x k a b c f=0
    ·have e:jE P tok st name sort x k a b c f g=gU (cr sort x k a b c f):=(by unfold jE;rw[ab<|by simpa using h1,ab<|by simpa using h2,ab<|by simpa using h3,ab h4,ab<|by simpa using h5]);obtain⟨s,l,this,_⟩:=zBr hP gg hf hg h1 h2 h4 h3 h5;have hb:jB P tok st name sort x k a b c f g=(decide (gU (cr sort x k a b c f)=0)&&!(iO (dW P tok st)<|fX<|cr sort x k a b c f)):=by unfold jB;rw[e,ab h4]
     grind
    have e:jE P tok st name sort x k a b c f g=gu sort x k a b c f:=(by unfold jE;rw[ab<|by simpa using h1,ab<|by simpa using h2,ab<|by simpa using h3,ab h4,ae h5]);rw[bad e h5,e];exact⟨_,_,zzf hP gg hf hg h1 h2 h4 h3 h5⟩
   have e:jE P tok st name sort x k a b c f g=ff (fL P) name sort x k a b c f g:=(by unfold jE;rw[ab<|by simpa using h1,ab<|by simpa using h2,ae h3]);rw[bad e h3,e];exact⟨_,_,zyT hP gg hf hg h1 h2 h3⟩
  have e:jE P tok st name sort x k a b c f g=2:=(by unfold jE;rw[ab<|by simpa using h1,ae h2]);rw[bad e zc,e];exact⟨_,_,zzW hP h1 h2⟩
 have e:jE P tok st name sort x k a b c f g=P.c7 tok st:=by unfold jE;rw[ae h1]
 rw[bad e h1,e];exact⟨_,_,zzc hP h1⟩
include hP gg hf hg in
theorem zq8(h8:∀k,k<P.nodes.length->(P.name k).size<=8){L:List bP}{s:Nat×aB}(he:P.c7 tok st=0)(sort:Int)(x:cA)(k a b c:Int)(hs:s.2.size+100<1000000) :
  bZ aj 12 [.loc 0 0,cK name sort x k a b c f g,aa tok,aa st] (wrH P L (.loc 0 3) s.1 s.2) (.aJ []) [wrO P L (.loc 0 3) 1<|gV P s (vdW P tok st name sort x k a b c f g) [],wrV<|gV P s (vdW P tok st name sort x k a b c f g) []]:=by
 obtain⟨s0,l0,hJ⟩:=zzb hP gg hf hg tok st sort x k a b c;have hE:=Nv P tok st name sort x k a b c f g he;have hN:=DL name gg;have hI:=DH (n:=jE P tok st name sort x k a b c f g) zo zo;have hz:=BZ (n:=jE P tok st name sort x k a b c f g) zo zo;unfold vdW;generalize jE P tok st name sort x k a b c f g=e at *;generalize jB P tok st name sort x k a b c f g=ok at *;have h1:fF name->name.size<=8:=Ig;refine oQ fZ zs (aS _) ?_ zu;have at_:=λ(w:aB) (h:w.size<=60) (x y:al)=>Ev (LU h8 (L:=L) (s:=s) (w:=w) (.inr rfl) (.inr ⟨rfl,rfl⟩) zs<|by rw[fy];omega) zp zp (BE _) (.inr ⟨rfl,rfl⟩) (i:=0) (j:=1) (H:=[wrO P L (.loc 0 3) 1 s,wrV s,x,y]) rfl rfl;unfold wrH cK ji;cases hn:fF name<;>by_cases h0:e=0<;>cases ok
 all_goals
  rw[hn] at hN h1;have h2:((⟨#[63]⟩:aB)).size=1:=rfl;have z6:(⟨#[32,104,111,108,100,115]⟩:aB).size=6:=rfl;have z7:(⟨#[32,98,114,111,107,101,110]⟩:aB).size=7:=rfl;have z8:(⟨#[32,101,114,114,111,114,32]⟩:aB).size=7:=rfl
  first|rw[ae (show e≠0 from h0)]|rw[ab (λq=>q h0)]
  simp only[xt,reduceIte,true_implies] at h1⊢;refine sR ?_;refine sC hN ?_;refine sC hJ ?_
  repeat' (first
   |(refine wJ (by(try simp only[oo]);omega) ?_;refine sW ?_)
   |(refine ue (by(try simp only[oo]);omega) ?_;refine sW ?_)
   |(refine⟨by(try rw[mW]);omega,?_⟩;refine sW ?_)
   |refine sC hI ?_
   |(refine .inr (.inr (.inr (.inr (.inl ⟨_,_,_,(at_ _ (by simp only[mW];omega) _ _),?_⟩))));((conv=>whnf);repeat(refine⟨rfl,?_⟩;conv=>whnf))))
  unfold wrO wrV;exact sQ
end
theorem Oj(P:af)(s:aq):∀k,∀x∈nA P s k,0<=x/\x<(k:Int)
 |0,x,h=>by simp[nA] at h
 |k+1,x,h=>by
  have ih:=Oj P s k;unfold nA at h;split at h
  ·rcases dz.1 h with h|h
   ·have:=ih x h;omega
   rw[cV] at h;omega
  have:=ih x h;omega
theorem SX{N:List<|List aZ}{s:Int}{dk:ah}(he:∀i,i+1<dk.length->dk.getD (i+1) 0∈(gN N).getD (dk.getD i 0).toNat [])(hN:∀l∈N,∀x∈l,0<=x.1/\x.1<s):∀k,k<=dk.length-1->∀x∈ur N dk k,0<=x/\x<s
 |0,_,x,h=>by simp[ur] at h
 |k+1,hk,x,h=>by
  rcases dz.1 h with h|h
  ·exact SX he hN k zo x h
  rw[cV] at h;subst h;have hm:=he k zo;rw[Qg] at hm;obtain⟨e,he1,he2⟩:=dq.1 hm;unfold C9
  cases q:(N.getD (dk.getD k 0).toNat []).find? λx=>x.2==dk.getD (k+1) 0 with
  |none=>exact absurd (List.find?_eq_none.1 q e he1)<|by simp[he2]
  |some y =>
   have hy:=List.mem_of_find?_eq_some q;refine hN _ ?_ y hy;rw[a8] at hy⊢
   cases z:N[(dk.getD k 0).toNat]? with
   |none=>rw[z] at hy;cases hy
   |some l=>exact o7 z
theorem RP(hF:B5 P M N)(t:Int):(ly N t).length<=200/\∀x∈ly N t,0<=x/\x<(P.aR.length:Int):=by
 have hf:=hF.sp.few;have hl:=hF.sp.len;obtain⟨g1,_⟩:=hF.sp.graph;obtain⟨w1,_,w3⟩:=Nk (oP.1 g1).2 (from_:=[0]) (iS λx hx=>by rw[cV] at hx;subst hx;rw[oU];have:=hF.sp.pos;omega) (to:=λi=>decide ((i:Int)=t));rw[oU] at w3;unfold ly;split
 ·simp
 unfold CD;rw[Rz];exact⟨zo,SX w1 (λl h x hx=>by have:=hF.sp.IX l h x hx;omega) _<|aS _⟩
theorem Q7(h:P.aU=0)(hi:i<P.nodes.length):(P.name i).size<=8:=by
 unfold af.aU at h;split at h
 ·cases h
 split at h
 ·grind
 rename_i g1;have:=af.Br.1 (Classical.not_not.1 g1) i hi;unfold af.mg at this;split at this
 ·cases this
 rename_i g3;refine Ig ?_
 grind
structure kj where
 name:aB
 sort:Int
 x:cA
 k:Int
 a:Int
 b:Int
 c:Int
 f:Tree
 g:Tree
structure kj.OK(r:kj):Prop where
 name:r.name.size<=9223372036854775807
 f:Small r.f
 g:Small r.g
def kj.cells(r:kj):bj:=ji r.name r.sort r.x r.k r.a r.b r.c r.f r.g
def p'(l:List kj):D:=.aM 19<|l.map kj.cells
variable(l:List kj)
@[simp] theorem zol:Pure<|p' l:=by
 refine c6 _ (λr=>?_) l;have:=zqg r.name r.sort r.x r.k r.a r.b r.c r.f r.g;simpa only[cK,Pure,kj.cells] using this
@[simp] theorem zyn:aK m (p' l)↔True:=⟨λ_=>trivial,λ_=>bz _<|zol l⟩
variable{l:List kj}
theorem Hv(hz:z=k)(h:k<l.length):(l.map kj.cells)[z]? = some (kj.cells l[k]):=by
 grind
def tp(N:List<|List aZ)(k:Nat):Nat:=((N.take k).map List.length).sum
theorem Pn(h:k<N.length):tp N (k+1)=tp N k+(N.getD k []).length:=by
 unfold tp;rw[jP,aX h,oD,List.sum_append,a8,aX h];simp
theorem LD{N:List<|List aZ}(h:∀i,(N.getD i []).length<=60):∀k,k<=N.length->tp N k<=60*k
 |0,_=>by simp[tp]
 |k+1,hk=>by rw[Pn hk];have:=LD h k zo;have:=h k;omega
def hdT(M:ak)(N:List<|List aZ):aB:=⟨#[109,97,114,107,105,110,103,115,32]⟩++x6 M.length++⟨#[32,101,100,103,101,115,32]⟩++x6 (tp N N.length)
noncomputable def JI(P:af)(M:ak)(N:List<|List aZ):Nat×aB :=
 fdS P P.aR (xu P N) (gm (lf M N) M.length M.length) (gm (lY M N) M.length M.length) (ly N<|gm (lf M N) M.length M.length) (ly N<|gm (lY M N) M.length M.length) (gV P (0,⟨#[]⟩) (hdT M N) [])
noncomputable def pn(P:af)(tok st:Int)(s:Nat×aB)(l:List kj):Nat×aB:=l.foldl (λs r=>gV P s (vdW P tok st r.name r.sort r.x r.k r.a r.b r.c r.f r.g) []) s
variable{s:Nat×aB}
theorem VG(h:k<l.length):pn P tok st s (l.take<|k+1)=gV P (pn P tok st s<|l.take k) (vdW P tok st l[k].name l[k].sort l[k].x l[k].k l[k].a l[k].b l[k].c l[k].f l[k].g) []:=by
 unfold pn;rw[jP,aX h,List.foldl_append];rfl
theorem PU{P:af}(h8:∀k,k<P.nodes.length->(P.name k).size<=8){tok st:Int}(he:P.c7 tok st=0):∀(l:List kj) (s:Nat×aB),(pn P tok st s l).2.size<=s.2.size+100*l.length
 |[],s=>by simp[pn]
 |r::l,s=>by
  have h1:=PU h8 he l<|gV P s (vdW P tok st r.name r.sort r.x r.k r.a r.b r.c r.f r.g) [];have h2:=wW h8 s (vdW P tok st r.name r.sort r.x r.k r.a r.b r.c r.f r.g) (l:=[]) zs;have h3:=zw3 P tok st r.name r.sort r.x r.k r.a r.b r.c r.f r.g he;rw[fy] at h2;rw[dC];show(pn P tok st (gV P s (vdW P tok st r.name r.sort r.x r.k r.a r.b r.c r.f r.g) []) l).2.size<=_;omega
theorem OX(s:Nat×aB)(w:aB)(l:ah):(gV P s w l).2.size≠0:=by
 unfold gV lnT;rw[mW];exact Nat.succ_ne_zero _
variable{L:List bP}
theorem zza(dead:ah)(still never:Int)(ts tn:ah)(h:s.2.size≠0):(fdS P L dead still never ts tn s).2.size≠0:=by
 unfold fdS;cases decide (dead.length=0)<;>cases decide (still<0)<;>cases decide (never<0)<;>first|exact OX _ _ _|exact h
theorem Y'{P:af}(tok st:Int):∀(l:List kj) {s:Nat×aB},s.2.size≠0->(pn P tok st s l).2.size≠0
 |[],_,h=>h
 |_::l,_,_=>Y' tok st l<|OX _ _ _
theorem Rm(h8:∀k,k<P.nodes.length->(P.name k).size<=8)(hL:∀x∈L,0<=x.1/\x.1<P.nodes.length){s:Nat×aB}{dead ts tn:ah}{still never:Int}(hd:∀n∈dead,0<=n/\n<P.nodes.length)(ht:∀n∈ts,0<=n/\n<L.length)(hn:∀n∈tn,0<=n/\n<L.length) :
  (fdS P L dead still never ts tn s).2.size<=s.2.size+30+9*(dead.length+ts.length+tn.length):=by
 have z:=λs w l h=>wW h8 s w (l:=l) h;have e4:(⟨#[100,101,97,100]⟩:aB).size=4:=rfl;have e5:(⟨#[115,116,105,108,108]⟩:aB).size=5:=rfl;have e6:(⟨#[115,111,117,110,100]⟩:aB).size=5:=rfl;have e7:(⟨#[110,101,118,101,114]⟩:aB).size=5:=rfl;have nl:∀l:ah,(ndL L l).length=l.length:=λl=>aI _;have z1:=z s ⟨#[115,111,117,110,100]⟩ [] zs;have z2:=z s ⟨#[100,101,97,100]⟩ dead hd;have z3:=λs=>z s ⟨#[115,116,105,108,108]⟩ _<|C8 hL ht;have z4:=λs=>z s ⟨#[110,101,118,101,114]⟩ _<|C8 hL hn;simp only[nl,e4,e5,e6,e7,fy] at z1 z2 z3 z4;have y1:=z3 s;have y2:=z3<|gV P s ⟨#[100,101,97,100]⟩ dead;have y3:=z4 s;have y4:=z4<|gV P s ⟨#[100,101,97,100]⟩ dead;have y5:=z4<|gV P s ⟨#[115,116,105,108,108]⟩<|ndL L ts;have y6:=z4<|gV P (gV P s ⟨#[100,101,97,100]⟩ dead) ⟨#[115,116,105,108,108]⟩<|ndL L ts;unfold fdS;cases decide (dead.length=0)<;>cases decide (still<0)<;>cases decide (never<0)<;>simp only[C0]<;>omega
theorem zxX(hP:P.Fits)(tok st:Int)(l:List kj)(he:P.c7 tok st≠0):ao aj 4 [b7 P,p' l,aa tok,aa st] (.aJ [.sc (.string ⟨#[]⟩),aa<|P.c7 tok st]):=by
 refine bt ?_;refine sC (Ee P hP tok st) ?_;refine sS (λh=>?_) λh=>?_
 ·exact .refl _
 exfalso;exact sO
theorem zvM(hP:P.Fits)(tok st:Int)(l:List kj)(he:P.c7 tok st=0)(hl:20<l.length):ao aj 4 [b7 P,p' l,aa tok,aa st] (.aJ [.sc (.string ⟨#[]⟩),aa 2]):=by
 have hE:=Ee P hP tok st;rw[he] at hE;refine bS fZ ?_;unfold p';refine sR ?_;refine sC hE ?_;rw[aI];refine sS (λh=>?_) λh=>?_
 ·exact .refl _
 exfalso;exact sO
theorem zvk(hP:P.Fits)(tok st:Int)(l:List kj)(he:P.c7 tok st=0)(hl:l.length<=20)(hr:∀r∈l,r.OK):ao aj 4 [b7 P,p' l,aa tok,aa st] (.aJ [.sc (.string (pn P tok st (JI P (P.exM tok st)<|P.cu tok st) l).2),aa 0]):=by
 have hE:=Ee P hP tok st;have hF:=mP he;have hK:=zwO P hP tok st he hF;rw[he] at hE;obtain⟨hc,hL,zJe⟩:=af.kB hF.steps;have hS:=AQ P hP;rw[hF.steps] at hS;have h8:∀k,k<P.nodes.length->(P.name k).size<=8:=λk hk=>Q7 hc hk;have DN:=jo hc;have eJ:=PU h8 he;have jw:=λs k h=>VG (P:=P) (tok:=tok) (st:=st) (s:=s) (l:=l) (k:=k) h;have hvd:=λ(s:Nat×aB) (r:kj) (h:r.OK)=>zq8 hP h.name h.f h.g h8 (L:=P.aR) (s:=s) he r.sort r.x r.k r.a r.b r.c;generalize P.exM tok st=M at *;generalize P.cu tok st=N at *;have zOM:=hF.sp.few;have hlen:=hF.sp.len;have OY:=LD hF.sp.rowAt;have bW:∀x∈P.aR,0<=x.1/\x.1<P.nodes.length:=λx hx=>(af.Kh DN.2 (aS _)<|hL▸hx).node;have hd:=Oj P (mz P.aR N N.length) P.nodes.length;have ml:=PK P (mz P.aR N N.length) P.nodes.length;have ht:=λt=>RP hF t;unfold JI findD at *;unfold xu at *;generalize nA P (mz P.aR N N.length) P.nodes.length=dead at *;generalize gm (lf M N) M.length M.length=still at *;generalize gm (lY M N) M.length M.length=never at *;have lq:=ht still;have lk:=ht never;generalize ly N still=ts at *;generalize ly N never=tn at *;refine bt ?_;refine sC hE ?_;rw[aI];refine ue (by simp only[oo];omega) ?_;refine sW ?_;refine sC hS ?_;rw[D'];refine bQ (gG 2 4 1 zs rfl rfl true) ?_;refine bb [1,2,3,4,10,12,45,46] (λk:Nat=>[(13,aa<|tp N k),(47,aa k)]) (λ_=>[]) (λk=>k<=N.length) (λk=>N.length-k) 0 ?_;refine dd ?_;rintro k hk;have hek:=OY k hk;refine bf (λh1=>?_) λh1=>?_
 ·have ai:k<N.length:=sO;have zCq:=hF.sp.rowAt k;refine sL (ru (k:=k) zo ai) ?_;rw[show(iy<|N.getD k []).length=(N.getD k []).length by simp[iy]];refine sI ?_;refine sI ?_;refine⟨k+1,zo,zd,?_⟩;dsimp only;rw[Pn ai,Int.natCast_add];exact aL 4 zs rfl sQ sQ
 have ai:k=N.length:=sO;subst ai;have q1:=BZ (n:=M.length) zo zo;have q2:=BZ (n:=tp N N.length) zo zo;have q3:(⟨#[109,97,114,107,105,110,103,115,32]⟩:aB).size=9:=rfl;have q4:(⟨#[32,101,100,103,101,115,32]⟩:aB).size=7:=rfl;have q5:(hdT M N).size<=60:=by
  unfold hdT;simp only[mW];omega
 have q6:=wW h8 (0,⟨#[]⟩) (hdT M N) (l:=[]) zs;have q7:(⟨#[]⟩:aB).size=0:=rfl;rw[fy,q7] at q6;refine sW ?_;rw[aI];refine sC (DH (n:=M.length) zo zo) ?_;refine⟨zo,?_⟩;refine sW ?_;refine⟨by rw[mW];omega,?_⟩;refine sW ?_;refine sC (DH (n:=tp N N.length) zo zo) ?_;refine⟨by simp only[mW];omega,?_⟩;refine sW ?_;refine sE (Ev (LU h8 (A:=.sc (.pointer none)) (L:=P.aR) (s:=(0,⟨#[]⟩)) (w:=hdT M N) (.inl rfl) (.inr ⟨rfl,rfl⟩) zs<|by rw[fy,q7];omega) zp zp (BE _) (.inl ⟨rfl,rfl⟩) (i:=2) (j:=3) rfl rfl) ?_;refine sC hK ?_;have q8:(gV P (0,⟨#[]⟩) (hdT M N) []).2.size<=61:=zo;refine sE (Ev (zpu h8 bW (s:=gV P (0,⟨#[]⟩) (hdT M N) []) (dead:=dead) (still:=still) (never:=never) (ts:=ts) (tn:=tn) hd lq.2 lk.2 zo) zp zp (BE _) (.inr ⟨rfl,rfl⟩) (i:=2) (j:=3) rfl rfl) ?_;have q9:=Rm h8 bW (s:=gV P (0,⟨#[]⟩) (hdT M N) []) (still:=still) (never:=never) hd lq.2 lk.2;have lO:=Y' (P:=P) tok st l<|zza (P:=P) (L:=P.aR) dead still never ts tn (s:=gV P (0,⟨#[]⟩) (hdT M N) [])<|OX _ _ _;generalize Kc:fdS P P.aR dead still never ts tn (gV P (0,⟨#[]⟩) (hdT M N) [])=S0 at *;rw[aI];refine cq [2,3,12,77,78] (λk:Nat=>[(79,aa k)]) (λk=>[.row true P.cells,.row true [bN M,.aM 1<|jR N],wrO P P.aR (.loc 2 3) 3<|pn P tok st S0<|l.take k,wrV<|pn P tok st S0<|l.take k,.row true [aF dead,aa still,aa never,aF ts,aF tn]]) (λk=>k<=l.length) (λk=>l.length-k) 0 ?_;refine dd ?_;rintro k hk;have N0:=eJ (l.take k) S0;rw[fg] at N0;refine bf (λh2=>?_) λh2=>?_
 ·have ai:k<l.length:=sO;refine sL (Hv zo ai) ?_;refine sE (Ev (hvd (pn P tok st S0<|l.take k) l[k] (hr _<|iZ ai) zo) zp zp (BE _) (.inr ⟨rfl,rfl⟩) (i:=2) (j:=3) rfl rfl) ?_;rw[<-jw _ _ ai];refine sI ?_;refine⟨k+1,zo,zd,?_⟩;unfold wrO wrV;exact aL 5 zs rfl sQ sQ
 have ai:k=l.length:=sO;subst ai;rw[dM] at *;refine sW ?_;refine sE (Ev (s':=pn P tok st S0 l) (zqS (ar:=(pn P tok st S0 l).1) (t:=(pn P tok st S0 l).2) lO zo) zp zp (by simp[dF]) (.inr ⟨rfl,rfl⟩) (i:=2) (j:=3) rfl rfl) ?_;exact .refl _
theorem cutG{G A:Prop}(m:(Unit->G)->A)(pf:G):A:=m λ_=>pf
section
variable{P:af}
theorem zwC{n:Int}(h:0<=n/\n<L.length):ao aj 18 [aa n,.ax [jx L]] (.sc (.int .i64 (L.getD n.toNat (0,0,0)).1)):=by
 refine bt ?_;refine⟨h.1,_,uZ rfl zo,?_⟩;refine sW ?_;exact .refl _
theorem zxH(n:Int):ao aj 19 [aa n]<|aa n:=by
 refine bt ?_;exact .refl _
variable{l:ah}{dl:D}{caps:bj}
theorem zxZ(h8:∀k,k<P.nodes.length->(P.name k).size<=8){t w:aB}{is:Bool}(ml:dl=aF l\/dl=au/\l=[]){m:FuncId}{g:Int->Int}(hc:aA caps)
  (hl:is->∀n∈l,ao aj m (aa n::caps) (aa<|g n)/\0<=g n/\g n<P.nodes.length) (hs:t.size+w.size+9*l.length<1000000) :
  bZ aj 17 [.sc (.string w),ay is,dl,.fn (.func m) [] caps,.loc 0 0,.ax P.cells] [.row true [.sc (.string t)]] (.aJ []) [.row true [.sc (.string<|if is=true then lnT P t w<|l.map g else t)]]:=by
 refine oQ fZ zs (aS _) ?_ zu;refine bQ (nX (λ_=>false) (env':=params 0 [.sc (.string w),ay is,aF l,.fn (.func m) [] caps,.loc 0 0,.ax P.cells]) (H':=[.row true [.sc (.string t)]]) ⟨.refl _,.refl _,?_,.refl _,.refl _,.refl _,trivial⟩ ⟨⟨.inl rfl,(λh=>by cases h),.refl _⟩,trivial⟩) ?_
 ·rcases ml with rfl|⟨rfl,rfl⟩
  ·exact .refl _
  exact .none _
 cases is
 ·refine sR ?_;exact sQ
 replace hl:=hl rfl;have hlm:∀n∈l.map g,0<=n/\n<P.nodes.length:=λn hn=>by
  obtain⟨k,hk,rfl⟩:=dq.1 hn;exact(hl k hk).2
 unfold aF;refine sR ?_;refine⟨zo,?_⟩;refine sW ?_;refine cq [2,3,4,5] (λk:Nat=>[(10,aa k)]) (λk=>[.row true [.sc (.string<|fT P (t++w)<|(l.map g).take k)]]) (λk=>k<=l.length) (λk=>l.length-k) 0 ?_;refine dd ?_;rintro k hk;have hf:=F7 h8 ((l.map g).take k) (t++w) λn hn=>hlm n<|xR hn;rw[mW,fg,aI] at hf;refine ck ?_;rw[aI];refine sS (λh1=>?_) λh1=>?_
 ·have ai:k<l.length:=sO;have hm:=hl (l.getD k 0) (by rw[a8,aX ai];exact iZ ai);have h9:=h8 (g<|l.getD k 0).toNat zo;have e9:(l.map g).getD k 0=g (l.getD k 0):=by
   rw[a8,fx,aX ai,a8,aX ai];rfl
  refine sW ?_;refine sL (bV (k:=k) zo ai) ?_;refine sC hm.1 ?_;refine⟨hm.2.1,_,jv P rfl zo,?_⟩;refine sW ?_;refine⟨by have e:(⟨#[32]⟩:aB).size=1:=rfl;omega,?_⟩;refine sW ?_;refine⟨by rw[O4];omega,?_⟩;refine sW ?_;rw[<-e9,<-Rc P (by rw[aI];exact ai)];refine sI ?_;refine⟨k+1,zo,zd,?_⟩
  (refine aL 1 zs rfl ?_ ?_<;>(repeat' (first|exact trivial|exact rfl|exact .refl _|refine And.intro ?_ ?_|(simp[aK,aG,bB,-List.map_take,-List.map_drop];done))))
  exact bI _ hc
 have ai:k=l.length:=sO;subst ai;rw[fG zs] at *;refine sW ?_;refine⟨by have e:(⟨#[10]⟩:aB).size=1:=rfl;omega,?_⟩;refine sW ?_;exact sQ
theorem Ym(h8:∀k,k<P.nodes.length->(P.name k).size<=8){t w:aB}{is:Bool}(ml:dl=aF l\/dl=au/\l=[]){m:FuncId}{g:Int->Int}(hc:aA caps)
  (hl:is->∀n∈l,ao aj m (aa n::caps) (aa<|g n)/\0<=g n/\g n<P.nodes.length) (hs:t.size+w.size+9*l.length<1000000) {H:aE} {i:Nat} (hi:H[i]? = some (.row true [.sc (.string t)])) :
  ov aj 17 [.sc (.string w),ay is,dl,.fn (.func m) [] caps,.loc i 0,.ax P.cells] H (.aJ []) (H.set i (.row true [.sc (.string<|if is=true then lnT P t w<|l.map g else t)])) [i] :=
 uh (pre:=[.sc (.string w),ay is,dl,.fn (.func m) [] caps]) (post:=[.ax P.cells]) (zxZ h8 ml hc hl hs) (by rcases ml with rfl|⟨rfl,_⟩<;>simp[aA,Pure,cX,hc]) zp zp zp zp hi
variable{is:Bool}
theorem HS{t w:aB}(hb:is=false)(ml:dl=aF l\/dl=au/\l=[]){m:FuncId}(hc:aA caps)(h8:∀k,k<P.nodes.length->(P.name k).size<=8)(hs:t.size+w.size+9*l.length<1000000)(hi:H[i]? = some (.row true [.sc (.string t)])) :
  ov aj 17 [.sc (.string w),ay is,dl,.fn (.func m) [] caps,.loc i 0,.ax P.cells] H (.aJ []) (H.set i (.row true [.sc (.string t)])) [i]:=by
 subst hb;exact Ym h8 ml hc (g:=λn=>n) (λh=>by cases h) hs hi
theorem H3{S:Nat×aB}{w:aB}(hb:is){l':ah}(ml:dl=aF l\/dl=au/\l=[]){m:FuncId}(hc:aA caps)(h8:∀k,k<P.nodes.length->(P.name k).size<=8)(g:Int->Int)(he:l.map g=l')
  (hl:∀n∈l,ao aj m (aa n::caps) (aa<|g n)/\0<=g n/\g n<P.nodes.length) (hs:S.2.size+w.size+9*l.length<1000000) {H:aE} {i:Nat} (hi:H[i]? = some (.row true [.sc (.string S.2)])) :
  ov aj 17 [.sc (.string w),ay is,dl,.fn (.func m) [] caps,.loc i 0,.ax P.cells] H (.aJ []) (H.set i (.row true [.sc (.string (gV P S w l').2)])) [i]:=by
 subst hb he;exact Ym h8 ml hc (λ_=>hl) hs hi
end
def AK(x:cA):ah:=x.p::((if 5<=x.kind then [x.s] else [])++((if 3<=x.scope then [x.q] else [])++(if x.scope=2\/4<=x.scope then [x.r] else [])))
def wA(sort:Int)(x:cA)(k a b:Int):ah:=if sort=1 then AK x else if sort=2 then (if 4<k then [a,b] else [a]) else []
def xa(names:List aB)(sort:Int)(x:cA)(k a b c:Int)(f g:Tree):Int :=
 if sort=1 then dJ x else if sort=2 then jm k a b c else if sort=3 then (if aU bw f=0 then (if cJ names f then 0 else 4) else aU bw f) else (if aU c9 g=0 then (if cJ names g then 0 else 4) else aU c9 g)
def nI(names:List aB)(n:Int):Bool:=dZ (nm names n) ⟨#[]⟩
variable{n:Int}{names:List aB}
theorem EG{silent:Bool}(h0:0<=n)(h:n<=62\/silent/\n<=63):gP names silent n=nI names n:=by
 unfold gP nI rnm nm;by_cases e:n=63
 ·have hs:silent:=by
   rcases h with h|h
   ·omega
   exact h.1
  rw[ae ⟨e,hs⟩,ae e]
 rw[ab λq=>e q.1,ab e];by_cases q:(names.length:Int)<=n
 ·rw[ae (.inr (.inl q)),ae q]
 rw[ab zo,ab q]
variable{x:cA}
theorem TH(h:dJ x=0):(1<=x.kind/\x.kind<=6/\1<=x.scope/\x.scope<=5)/\(0<=x.p/\x.p<=63)/\(0<=x.s/\x.s<=63)/\(0<=x.q/\x.q<=63)/\0<=x.r/\x.r<=63:=by
 unfold dJ at h;split at h
 ·cases h
 omega
variable{k:Int}
theorem WE{a b c:Int}(h:jm k a b c=0):(0<=a/\a<=62)/\0<=b/\b<=62:=by
 unfold jm at h;split at h
 ·cases h
 omega
variable{sort:Int}
theorem zuh{a b c:Int}{g:Tree}(h:xa names sort x k a b c f g=0):∀n∈wA sort x k a b,0<=n:=by
 intro n hn;unfold wA at hn;unfold xa at h;by_cases h1:sort=1
 ·rw[ae h1] at h hn;have:=TH h;unfold AK at hn;rw[eQ,dz,dz] at hn;rcases hn with rfl|hn|hn|hn
  ·omega
  all_goals
   split at hn
   ·rw[cV] at hn;omega
   cases hn
 rw[ab h1] at h hn;by_cases h2:sort=2
 ·rw[ae h2] at h hn;have:=WE h;split at hn
  ·simp only[eQ,uH,or_false] at hn;omega
  simp only[eQ,uH,or_false] at hn;omega
 rw[ab h2] at hn;cases hn
theorem zsZ(sort:Int)(x:cA)(k a b:Int):(wA sort x k a b).length<=4:=by
 unfold wA AK;repeat' split
 all_goals simp
theorem ztI{names:List aB}(hs:1<=sort/\sort<=4)(x:cA)(k a b c:Int)(f g:Tree) :
  dU names sort x k a b c f g=if xa names sort x k a b c f g=0/\(wA sort x k a b).any (nI names)=true then 4 else xa names sort x k a b c f g:=by
 unfold dU xa wA;by_cases h1:sort=1
 ·simp only[ae h1];by_cases h:dJ x=0
  ·obtain⟨⟨a1,a2,a3,a4⟩,⟨b1,b2⟩,⟨c1,c2⟩,⟨d1,d2⟩,e1,e2⟩:=TH h;have np:=EG (names:=names) (silent:=true) b1 (.inr ⟨rfl,b2⟩);have ns:=EG (names:=names) (silent:=true) c1 (.inr ⟨rfl,c2⟩);have nq:=EG (names:=names) (silent:=true) d1 (.inr ⟨rfl,d2⟩);have nr:=EG (names:=names) (silent:=true) e1 (.inr ⟨rfl,e2⟩);have e:(kD x++kG x).any (gP names true)=(AK x).any (nI names):=by
    unfold kD kG AK;by_cases hk:x.kind=5\/x.kind=6
    ·rw[ae hk,ae<|show 5<=x.kind by omega];rcases (by omega:x.scope=1\/x.scope=2\/x.scope=3\/x.scope=4\/x.scope=5) with q|q|q|q|q<;>simp only[q,tZ,List.any_cons,List.any_nil,np,ns,nq,nr,reduceIte,Int.reduceEq,Int.reduceLE,or_self,or_true,true_or,or_false,false_or]<;>cases nI names x.p<;>cases nI names x.s<;>cases nI names x.q<;>cases nI names x.r<;>rfl
    rw[ab hk,ab<|show ¬5<=x.kind by omega];rcases (by omega:x.scope=1\/x.scope=2\/x.scope=3\/x.scope=4\/x.scope=5) with q|q|q|q|q<;>simp only[q,tZ,List.any_cons,List.any_nil,np,ns,nq,nr,reduceIte,Int.reduceEq,Int.reduceLE,or_self,or_true,true_or,or_false,false_or]<;>cases nI names x.p<;>cases nI names x.s<;>cases nI names x.q<;>cases nI names x.r<;>rfl
   rw[e]
  rw[ab λq=>h q.1,ab λq=>h q.1]
 simp only[ab h1];by_cases h2:sort=2
 ·simp only[ae h2];by_cases h:jm k a b c=0
  ·obtain⟨⟨a1,a2⟩,b1,b2⟩:=WE h;have na:=EG (names:=names) (silent:=false) a1 (.inl a2);have nb:=EG (names:=names) (silent:=false) b1 (.inl b2);have e:(x5 k a b).any (gP names false)=(if 4<k then [a,b] else [a]).any (nI names):=by
    unfold x5;by_cases q:k<=4
    ·rw[ae q,ab<|show ¬4<k by omega];simp only[List.any_cons,List.any_nil,na]
    rw[ab q,ae<|show 4<k by omega];simp only[List.any_cons,List.any_nil,na,nb]
   rw[e]
  rw[ab λq=>h q.1,ab λq=>h q.1]
 have q:∀e:Int,(if e=0/\false=true then (4:Int) else e)=e:=λe=>ab λq=>Bool.noConfusion q.2;simp only[ab h2,List.any_nil];rw[q];by_cases h3:sort=3
 ·rw[ae h3,ae h3]
 rw[ab h3,ab h3,ae zo]
noncomputable def Hk(x:cA)(k a b c:Int)(f g:Tree):List Bool :=
 [x.kind==0&&(x.scope==0&&(x.p==0&&(x.s==0&&(x.q==0&&(x.r==0&&(x.count==0&&true)))))),k==0&&(a==0&&(b==0&&(c==0&&true))),dI f<|cx 0 0,dI g<|cx 0 0]
theorem VP(t:Tree):dI t (cx 0 0)=!(t.kind != 0||t.num != 0||decide (t.width>0)):=by
 rcases t with⟨k,n,ks⟩;unfold dI cx;simp only[Tree.kind,Tree.num,Tree.width,Tree.kids,Tree.node.injEq]
 cases ks with
 |nil=>simp only[fy,and_true,gt_iff_lt,Nat.lt_irrefl,decide_false,wM];by_cases h1:k=0<;>by_cases h2:n=0<;>simp[h1,h2]
 |cons y r=>simp
theorem zuz(hs:1<=sort/\sort<=4)(x:cA)(k a b c:Int)(f g:Tree):yc sort x k a b c f g↔∃j:Nat,j<4/\((j:Int)+1≠sort)/\(Hk x k a b c f g).getD j true=false:=by
 have key:∀{p:Nat->Prop},(∃j:Nat,j<4/\p j)↔(p 0\/p 1\/p 2\/p 3):=λ{p}=>⟨λ⟨j,h,q⟩=>by
   rcases (by omega:j=0\/j=1\/j=2\/j=3) with rfl|rfl|rfl|rfl<;>simp[q],λh=>by
   rcases h with h|h|h|h
   ·exact⟨0,zo,h⟩
   ·exact⟨1,zo,h⟩
   ·exact⟨2,zo,h⟩
   exact⟨3,zo,h⟩⟩
 rw[key];unfold yc Hk;rw[VP f,VP g];generalize (f.kind != 0||f.num != 0||decide (f.width>0))=F;generalize (g.kind != 0||g.num != 0||decide (g.width>0))=G;have e1:(x.kind==0&&x.scope==0&&x.p==0&&x.s==0&&x.q==0&&x.r==0&&x.count==0)=(x.kind==0&&(x.scope==0&&(x.p==0&&(x.s==0&&(x.q==0&&(x.r==0&&(x.count==0&&true))))))):=by simp[Bool.and_assoc]
 have e2:(k==0&&a==0&&b==0&&c==0)=(k==0&&(a==0&&(b==0&&(c==0&&true)))):=by simp[Bool.and_assoc]
 rw[e1,e2];generalize (x.kind==0&&(x.scope==0&&(x.p==0&&(x.s==0&&(x.q==0&&(x.r==0&&(x.count==0&&true)))))))=X;generalize (k==0&&(a==0&&(b==0&&(c==0&&true))))=K;rcases (by omega:sort=1\/sort=2\/sort=3\/sort=4) with rfl|rfl|rfl|rfl<;>cases X<;>cases K<;>cases F<;>cases G<;>simp
theorem zo3(x:cA):ao aj 88 [jg x]<|aF<|AK x:=by
 refine bS fZ ?_;unfold jg cm AK;refine sR ?_;by_cases hk:5<=x.kind
 ·rw[ae hk];rw[show decide (x.kind>=5)=true from gQ zo];refine sWJ ?_;by_cases h2:x.scope=2
  ·rw[ab<|show ¬3<=x.scope by omega,ae (.inl h2)];rw[show decide (x.scope>=3)=false from gI zo];refine sW ?_;rw[show(x.scope==2)=true from gX zo];refine sWJ ?_;exact oY rfl rfl
  by_cases h3:3<=x.scope
  ·rw[ae h3];rw[show decide (x.scope>=3)=true from gQ zo];refine sWJ ?_;rw[show(x.scope==2)=false from dp zo];refine sW ?_;by_cases h4:4<=x.scope
   ·rw[ae (.inr h4)];rw[show decide (x.scope>=4)=true from gQ zo];refine sWJ ?_;exact oY rfl rfl
   rw[ab<|show ¬(x.scope=2\/4<=x.scope) by omega];rw[show decide (x.scope>=4)=false from gI zo];refine sW ?_;exact oY rfl rfl
  rw[ab h3,ab<|show ¬(x.scope=2\/4<=x.scope) by omega];rw[show decide (x.scope>=3)=false from gI zo];refine sW ?_;rw[show(x.scope==2)=false from dp zo];refine sW ?_;rw[show decide (x.scope>=4)=false from gI zo];refine sW ?_;exact oY rfl rfl
 rw[ab hk];rw[show decide (x.kind>=5)=false from gI zo];refine sW ?_;by_cases h2:x.scope=2
 ·rw[ab<|show ¬3<=x.scope by omega,ae (.inl h2)];rw[show decide (x.scope>=3)=false from gI zo];refine sW ?_;rw[show(x.scope==2)=true from gX zo];refine sWJ ?_;exact oY rfl rfl
 by_cases h3:3<=x.scope
 ·rw[ae h3];rw[show decide (x.scope>=3)=true from gQ zo];refine sWJ ?_;rw[show(x.scope==2)=false from dp zo];refine sW ?_;by_cases h4:4<=x.scope
  ·rw[ae (.inr h4)];rw[show decide (x.scope>=4)=true from gQ zo];refine sWJ ?_;exact oY rfl rfl
  rw[ab<|show ¬(x.scope=2\/4<=x.scope) by omega];rw[show decide (x.scope>=4)=false from gI zo];refine sW ?_;exact oY rfl rfl
 rw[ab h3,ab<|show ¬(x.scope=2\/4<=x.scope) by omega];rw[show decide (x.scope>=3)=false from gI zo];refine sW ?_;rw[show(x.scope==2)=false from dp zo];refine sW ?_;rw[show decide (x.scope>=4)=false from gI zo];refine sW ?_;exact oY rfl rfl
def zCY:PC:=.seq (SO [qm 89 11,qm 90 6,Ln 91 90,Bi 92 .lss 89 91,qm 93 92,GT 94 93 (.move 5),GT 95 93 (.bin .eql 94 K0),Pk 96 93 95 cF]<|CX 96 1) (.seq (.block 2<|SO [qm 99 6,qm 100 11,Ia 101 1 99 100,Lo 102 101,qm 103 1,Ca 104 94 [102,103],Bi 105 .eql 104<|cS #[]]<|If 105<|OP [Mv 5 K4])<|OP [qm 97 11,Bi 98 .add 97 K1,qm 11 98])
def zCS:PC:=.seq (SO [qm 126 13,Bi 127 .lss 126 K4]<|CX 127 3) (.seq (.block 4<|SO [qm 130 13,Bi 131 .add 130 K1,Fa 132 1 2,Lo 133 132,Bi 134 .neq 131 133,qm 135 134,GT 136 135 (.move 12),GT 137 135 (.move 13),GT 138 135 (.DJ 1 136 137),GT 139 135 (.nv 138),GT 140 135 (.un .not 139),Pk 141 135 140 cF]<|If 141<|SO [Mv 4 K1] .ret)<|OP [qm 128 13,Bi 129 .add 128 K1,qm 13 129])
def c48:PC:=SO [Bx 2 0,Mv 4 K0] (.seq (SO [Fa 14 0 2,Lo 15 14,Ca 16 20 [15],Nt 17 16,qm 18 17,GF 19 18 (.kM 1 2),GF 20 18 (.nv 19),GF 21 18 (.bin .lss 20 K1),Pk 22 18 cT 21,qm 23 22,GF 24 23 (.kM 1 2),GF 25 23 (.nv 24),GF 26 23 (.bin .gtr 25 K4),Pk 27 23 cT 26]<|If 27<|SO [Mv 4 K1] .ret)<|SO [Mv 5 K0]<|SO [Mv 6 cN] (.seq (SO [Fa 28 1 2,Lo 29 28] (.stop (.block 0<|SO [Bi 31 .eql 29 K1,qm 30 31] (.cond 30 (SO [Fa 32 2 2,LA 33 7 32,Ca 34 87 [33],qm 5 34]<|OP [Fa 35 2 2,LA 36 7 35,Ca 37 88 [36],qm 6 37])<|SO [Bi 39 .eql 29 K2,qm 38 39] (.cond 38 (SO [Fa 40 9 2,LA 41 4 40,Ca 42 89 [41],qm 5 42]<|SO [Fa 43 9 2,Fa 44 1 43,Lo 45 44,Bs 46 1 1 [45],qm 6 46]<|SO [Fa 47 9 2,Fa 48 0 47,Lo 49 48,Bi 50 .gtr 49 K4]<|If 50<|OP [qm 51 6,Fa 52 9 2,Fa 53 2 52,Lo 54 53,Bs 55 1 1 [54],Ap 56 1 8 51 55,qm 6 56])<|SO [Bi 58 .eql 29 K3,qm 57 58] (.cond 57 (SO [Fa 59 13 2,LA 60 3 59,Ca 61 90 [60],qm 5 61]<|SO [qm 62 5,Bi 63 .eql 62 K0]<|If 63<|SO [Fa 65 13 2,LA 66 3 65,qm 67 1,Ca 68 91 [66,67],qm 64 68,Xt 69 0 64,Xt 70 1 64,qm 7 69,qm 8 70]<|SO [qm 71 8,Nt 72 71]<|If 72<|OP [Mv 5 K4])<|SO [Bi 74 .eql 29 K4,qm 73 74]<|If 73<|SO [Fa 75 16 2,LA 76 3 75,Ca 77 92 [76],qm 5 77]<|SO [qm 78 5,Bi 79 .eql 78 K0]<|If 79<|SO [Fa 81 16 2,LA 82 3 81,qm 83 1,Ca 84 93 [82,83],qm 80 84,Xt 85 0 80,Xt 86 1 80,qm 9 85,qm 10 86]<|SO [qm 87 10,Nt 88 87]<|If 88<|OP [Mv 5 K4])))))) (.seq (SO [Mv 11 K0] (.stop<|BL 1 zCY)) (.seq (SO [qm 106 5,Bi 107 .neq 106 K0]<|If 107<|SO [qm 108 5,qm 4 108] .ret) (.seq (.ops [Fa 109 2 2,qd 110 (.xI 7 109) 1,q 111 (.build [v0,v0,v0,v0,v0,v0,v0] []),qd 112 (.eqa false [0,0,0,0,0,0,0] 110 111) 7,Fa 113 9 2,qd 114 (.xI 4 113) 16,q 115 (.build [v0,v0,v0,v0] []),qd 116 (.eqa false [0,0,0,0] 114 115) 112,Fa 117 13 2,qd 118 (.xI 3 117) 256,q 119 (.build [v0,v0,vN] []),Cd 120 95 [118,119] 1792,Fa 121 16 2,qd 122 (.xI 3 121) 4096,q 123 (.build [v0,v0,vN] []),Cd 124 96 [122,123] 32512,qd 125 (.GH 1 4 [112,116,120,124]) 65535,qw 12 125 131071] true) (.seq (SO [Mv 13 K0]<|BL 3 zCS)<|SO [Mv 4 K0] .ret))))))
section
variable(names:List aB)(hn:pq names)(name:aB)(gg:name.size<=9223372036854775807)(sort:Int)(x:cA)(k a b c:Int)(f g:Tree)(hf:Small f)(hg:Small g)
theorem zw4{z:List Bool}(h:z.length=4)(hj:j=i)(hi:i<4):(z.map λy=>[ay y])[j]? = some [ay<|z.getD i true]:=by
 subst hj;rw[fx,aX zo,a8,aX zo];rfl
def tD(names:List aB)(E0:Int)(Ls:ah)(i:Nat):Int:=if E0=0/\(Ls.take i).any (nI names)=true then 4 else E0
include hn gg hf hg
theorem Ka:ao aj 48 [cK name sort x k a b c f g,dr names]<|aa<|ff names name sort x k a b c f g:=by
 have hN:=JV name gg;refine bS (fJ 142 [.tmp 4] c48 Tryz.func48) ?_;have fin:∀{H:aE} {z:Int},z=ff names name sort x k a b c f g->Deep H (aa z) (aa<|ff names name sort x k a b c f g):=λh=>h▸.refl _;by_cases hs:1<=sort/\sort<=4
 ·have lO:=zuh (names:=names) (sort:=sort) (x:=x) (k:=k) (a:=a) (b:=b) (c:=c) (f:=f) (g:=g);have xW:=ztI (names:=names) hs x k a b c f g;have JC:=zuz hs x k a b c f g;have BS:=zsZ sort x k a b;have SK:=VL x;have wQ:=zo3 x;have U3:=Q4 k a b c;have RQ:=yJ f hf;have u5:=zzt g hg;have JB:=zlA f hf;have Jn:=zmz g hg;unfold cK ji cm iV aO at *;unfold jg cm vn ba aO at *;refine sR ?_;refine sC hN ?_;cases e1:fF name
  ·refine sW ?_;exact fin<|by unfold ff;rw[ae (.inl e1)]
  have hE:ff names name sort x k a b c f g=if dU names sort x k a b c f g≠0 then dU names sort x k a b c f g else if yc sort x k a b c f g=true then 1 else 0:=by unfold ff;rw[ab<|by rw[e1];simp;omega]
  refine sW ?_;rw[show decide (sort<1)=false from gI zo];refine sW ?_;rw[show decide (sort>4)=false from gI zo];refine sW ?_;generalize Hj:xa names sort x k a b c f g=E0 at *;generalize hL:wA sort x k a b=Ls at *;refine pj (λ_:Unit=>[(1,dr names),(2,.loc 0 0),(5,aa E0),(6,aF Ls)]) (λ_=>[.row true (.sc (.string name)::aa sort::(cm x++(iV k a b c++(aO f++aO g))))]) (λ_=>True) ?_ ?_
  ·clear lO xW JC hE fin JB Jn;refine sR ?_;by_cases h1:sort=1
   ·have e:E0=dJ x:=(by rw[<-Hj];unfold xa;rw[ae h1]);have e2:Ls=AK x:=(by rw[<-hL];unfold wA;rw[ae h1]);subst e e2;rw[gX h1];refine sW ?_;refine sC SK ?_;refine sC wQ ?_;exact⟨(),trivial,aC (by exact sK) rfl⟩
   rw[dp h1];refine sW ?_;by_cases h2:sort=2
   ·have e:E0=jm k a b c:=(by rw[<-Hj];unfold xa;rw[ab h1,ae h2]);have e2:Ls=if 4<k then [a,b] else [a]:=by rw[<-hL];unfold wA;rw[ab h1,ae h2]
    subst e;rw[gX h2];refine sW ?_;refine sC U3 ?_;by_cases h4:4<k
    ·rw[ae h4] at e2;subst e2;rw[show decide (k>4)=true from gQ zo];refine sWJ ?_;refine⟨(),trivial,?_⟩
     (refine aL 1 zs rfl ?_ ?_<;>(repeat' (first|exact trivial|exact rfl|exact .refl _|refine And.intro ?_ ?_|(simp[aK,aG,bB,-List.map_take,-List.map_drop];done))))
     ·exact bz _<|qL _
     exact .own _ _ _ _ _ _ _ _ rfl rfl (aV rfl)
    rw[ab h4] at e2;subst e2;rw[show decide (k>4)=false from gI zo];refine sW ?_;refine⟨(),trivial,?_⟩
    (refine aL 1 zs rfl ?_ ?_<;>(repeat' (first|exact trivial|exact rfl|exact .refl _|refine And.intro ?_ ?_|(simp[aK,aG,bB,-List.map_take,-List.map_drop];done))))
    ·exact bz _<|qL _
    exact .own _ _ _ _ _ _ _ _ rfl rfl (aV rfl)
   rw[dp h2];refine sW ?_;have e2:Ls=[]:=(by rw[<-hL];unfold wA;rw[ab h1,ab h2]);subst e2;by_cases h3:sort=3
   ·have e:E0=if aU bw f=0 then (if cJ names f then 0 else 4) else aU bw f:=by rw[<-Hj];unfold xa;rw[ab h1,ab h2,ae h3]
    rw[gX h3];refine sW ?_;have hK:=RQ;refine sC hK ?_;refine sS (λq=>?_) λq=>?_
    ·have q:aU bw f=0:=sO;obtain⟨q1,q2,q3⟩:=(rW _ _).1 q;rw[ae q] at e;have hT:=znB names hn f q3 q1;unfold yY ba aO at hT;refine sC hT ?_;cases o:cJ names f
     ·rw[o,ab zc] at e;subst e;refine sW ?_;refine⟨(),trivial,?_⟩
      (refine aL 1 zs rfl ?_ ?_<;>(repeat' (first|exact trivial|exact rfl|exact .refl _|refine And.intro ?_ ?_|(simp[aK,aG,bB,-List.map_take,-List.map_drop];done))))
      ·exact bz _<|qL _
      exact .none _
     rw[o,ae rfl] at e;subst e;refine sW ?_;rw[q];refine⟨(),trivial,?_⟩
     (refine aL 1 zs rfl ?_ ?_<;>(repeat' (first|exact trivial|exact rfl|exact .refl _|refine And.intro ?_ ?_|(simp[aK,aG,bB,-List.map_take,-List.map_drop];done))))
     ·exact bz _<|qL _
     exact .none _
    have q:¬aU bw f=0:=sO;rw[ab q] at e;subst e;refine⟨(),trivial,?_⟩
    (refine aL 1 zs rfl ?_ ?_<;>(repeat' (first|exact trivial|exact rfl|exact .refl _|refine And.intro ?_ ?_|(simp[aK,aG,bB,-List.map_take,-List.map_drop];done))))
    ·exact bz _<|qL _
    exact .none _
   have e:E0=if aU c9 g=0 then (if cJ names g then 0 else 4) else aU c9 g:=by rw[<-Hj];unfold xa;rw[ab h1,ab h2,ab h3]
   have h4:sort=4:=zo;rw[dp h3];refine sW ?_;rw[gX h4];refine sW ?_;have hK:=u5;refine sC hK ?_;refine sS (λq=>?_) λq=>?_
   ·have q:aU c9 g=0:=sO;obtain⟨q1,q2,q3⟩:=(rW _ _).1 q;rw[ae q] at e;have hT:=zoZ names hn g q3 q1;unfold yp ba aO at hT;refine sC hT ?_;cases o:cJ names g
    ·rw[o,ab zc] at e;subst e;refine sW ?_;refine⟨(),trivial,?_⟩
     (refine aL 1 zs rfl ?_ ?_<;>(repeat' (first|exact trivial|exact rfl|exact .refl _|refine And.intro ?_ ?_|(simp[aK,aG,bB,-List.map_take,-List.map_drop];done))))
     ·exact bz _<|qL _
     exact .none _
    rw[o,ae rfl] at e;subst e;refine sW ?_;rw[q];refine⟨(),trivial,?_⟩
    (refine aL 1 zs rfl ?_ ?_<;>(repeat' (first|exact trivial|exact rfl|exact .refl _|refine And.intro ?_ ?_|(simp[aK,aG,bB,-List.map_take,-List.map_drop];done))))
    ·exact bz _<|qL _
    exact .none _
   have q:¬aU c9 g=0:=sO;rw[ab q] at e;subst e;refine⟨(),trivial,?_⟩
   (refine aL 1 zs rfl ?_ ?_<;>(repeat' (first|exact trivial|exact rfl|exact .refl _|refine And.intro ?_ ?_|(simp[aK,aG,bB,-List.map_take,-List.map_drop];done))))
   ·exact bz _<|qL _
   exact .none _
  intro _ _;clear SK wQ U3 RQ u5 Hj hL;refine sW ?_;refine pj (λ_:Unit=>[(2,.loc 0 0),(5,aa<|dU names sort x k a b c f g)]) (λ_=>[.row true (.sc (.string name)::aa sort::(cm x++(iV k a b c++(aO f++aO g))))]) (λ_=>True) ?_ ?_
  ·rw[xW];clear xW JC hE fin JB Jn
   (apply ry;focus (repeat' constructor))
   refine bb [1,2,6] (λi:Nat=>[(5,aa<|tD names E0 Ls i),(11,aa i)]) (λ_=>[]) (λi=>i<=Ls.length) (λi=>Ls.length-i) 0 ?_;refine sW ?_;refine⟨zo,?_,rfl,?_⟩
   ·rw[show tD names E0 Ls 0=E0 by unfold tD;rw[ab λw=>by simp at w]];exact sK
   rintro i hi;refine ck ?_;rw[aI];have done:∀{H:aE},True:=trivial;cases q1:decide ((i:Int)<Ls.length)
   ·have q1:i=Ls.length:=(by have:=of_decide_eq_false q1;omega);subst q1;refine sW ?_;unfold tD;rw[dM];exact⟨(),trivial,aC (by exact sK) rfl⟩
   have q1:i<Ls.length:=(by have:=pH q1;omega);refine sWS (λq2=>?_) λq2=>?_
   ·have q2:tD names E0 Ls i=0:=sO;have h0:E0=0:=by
     unfold tD at q2;split at q2
     ·cases q2
     exact q2
    refine sL (bV (k:=i) zo q1) ?_;refine sC (PH names hn (Ls.getD i 0)<|lO h0 _<|df q1) ?_;have yz:tD names E0 Ls (i+1)=if nI names (Ls.getD i 0)=true then 4 else 0:=by
     unfold tD at q2⊢;have e:Ls.getD i 0=Ls[i]:=(by rw[a8,aX q1];rfl);rw[jP,aX q1,tZ,e];cases u:(Ls.take i).any (nI names)
     ·simp[h0]
     rw[u,ae ⟨h0,rfl⟩] at q2;cases q2
    have hq:∀m,((nm names m).toList==(⟨#[]⟩:aB).toList)=nI names m:=λ_=>rfl;rw[hq];cases q3:nI names<|Ls.getD i 0
    ·rw[q3,ab zc] at yz;refine aQ ?_;refine⟨i+1,zo,zd,aC ?_ rfl⟩;dsimp only;rw[yz,q2];exact sK
    rw[q3,ae rfl] at yz;refine aQ ?_;refine⟨i+1,zo,zd,aC ?_ rfl⟩;dsimp only;rw[yz];exact sK
   have q2:tD names E0 Ls i≠0:=sO;have Js:tD names E0 Ls i=tD names E0 Ls Ls.length:=by
    unfold tD at q2⊢;by_cases h0:E0=0
    ·cases u:(Ls.take i).any (nI names)
     ·rw[ab<|by rw[u];simp] at q2;exact absurd h0 q2
     have u2:(Ls.take Ls.length).any<|nI names:=by
      rw[mJ] at u⊢;obtain⟨y,y1,y2⟩:=u;exact⟨y,by rw[dM];exact xR y1,y2⟩
     rw[ae ⟨h0,rfl⟩,ae ⟨h0,u2⟩]
    rw[ab λw=>h0 w.1,ab λw=>h0 w.1]
   rw[Js];unfold tD;rw[dM];exact⟨(),trivial,aC (by exact sK) rfl⟩
  intro _ _;refine sWS (λq1=>?_) λq1=>?_
  ·have q1:dU names sort x k a b c f g≠0:=(by simpa using q1);exact fin<|by rw[hE,ae q1]
  have q1:dU names sort x k a b c f g=0:=(by simpa using q1);rw[ab<|by simpa using q1] at hE;refine sC JB ?_;refine sC Jn ?_;have hz:[[ay<|ub false<|x.kind==0&&(x.scope==0&&(x.p==0&&(x.s==0&&(x.q==0&&(x.r==0&&(x.count==0&&true))))))],[ay<|ub false<|k==0&&(a==0&&(b==0&&(c==0&&true)))],[ay<|dI f<|cx 0 0],[ay<|dI g<|cx 0 0]]=(Hk x k a b c f g).map λy=>[ay y]:=rfl;have M4:(Hk x k a b c f g).length=4:=rfl;rw[hz];generalize Hk x k a b c f g=Z at *;clear JB Jn hz;refine bb [2,12] (λi:Nat=>[(13,aa i)]) (λ_=>[]) (λi=>i<=4/\∀j,j<i->(j:Int)+1≠sort->Z.getD j true=true) (λi=>4-i) 0 ?_;refine sW ?_;refine⟨⟨zo,λj hj=>zo⟩,by exact sK,rfl,?_⟩;rintro i ⟨hi,bR⟩;refine bf (λq=>?_) λq=>?_
  ·have q:i<4:=sO;refine sI ?_;cases u:((i:Int)+1 != sort)
   ·have u:(i:Int)+1=sort:=(by simpa using u);refine aQ ?_;refine⟨i+1,⟨zo,λj hj b9=>?_⟩,zd,aC (by exact sK) rfl⟩;by_cases e:j=i
    ·subst e;exact absurd u b9
    exact bR j zo b9
   have u:(i:Int)+1≠sort:=(by simpa using u);refine bC ?_;refine⟨_,zw4 M4 (i:=i) zo q,?_⟩;refine sW ?_;cases r:Z.getD i true
   ·refine sW ?_;have:yc sort x k a b c f g=true:=JC.2 ⟨i,q,u,r⟩;exact fin<|by rw[hE,this,ae rfl]
   refine aQ ?_;refine⟨i+1,⟨zo,λj hj b9=>?_⟩,zd,aC (by exact sK) rfl⟩;by_cases e:j=i
   ·subst e;exact r
   exact bR j zo b9
  have q:i=4:=sO;subst q;have:yc sort x k a b c f g=false:=by
   cases u:yc sort x k a b c f g
   ·rfl
   obtain⟨j,j1,j2,j3⟩:=JC.1 u;rw[bR j j1 j2] at j3;cases j3
  exact fin<|by rw[hE,this,ab zc]
 have hE:ff names name sort x k a b c f g=1:=by unfold ff;rw[ae zo]
 unfold cK ji cm iV aO at *;refine sR ?_;refine sC hN ?_;cases e1:fF name
 ·refine sW ?_;exact fin hE.symm
 refine sW ?_;cases e2:decide (sort<1)
 ·refine sW ?_;rw[show decide (sort>4)=true from gQ<|by have:=of_decide_eq_false e2;omega];refine sW ?_;exact fin hE.symm
 refine sW ?_;exact fin hE.symm
end
theorem zsB(k n:Int):ao aj 167 [aa k,aa n] (.agg [aa k,aa n,au]):=by
 refine bt ?_;exact sP
theorem zs7{f:Tree->Tree}(ht:t=.node k n (ks.map f))(ho:H[id]? = some (.vec true m 3<|(ks.take m).map λu=>aO<|f u))(hm:m=ks.length) :
  Deep H (.agg [aa k,aa n,.own id m 0 m]) (ba t):=by
 subst ht hm;refine .agg _ _ (.cons _ _ _ _ (.refl _) (.cons _ _ _ _ (.refl _) (.cons _ _ _ _ (.own id _ _ _ _ _ _ _ ho ?_) .nil)));rw[dP,fG zs,dM,Tree.kids,yD];exact(vj (λu _=>(wY<|f u).symm:∀u∈ks,aO (f u)=(gF∘f) u))▸gw _
theorem Qb:∀t:Tree,t.wf bw->ao aj 115 [ba t] (ba<|cY t):=by
 intro t
 induction t using Tree.ind with
 |h t ih =>
  intro cy;have hs:=vl t cy;have eJ:=hs.width;have tX:=tT ((jD _ _).1 cy).1;have hE:=KI t λh=>qO cy zo;refine bt ?_
  refine wc (λk:Nat=>[(1,.loc 0 0),(2,.loc 1 0),(3,.own 2 k 0 k),(4,aa k)])
   (λk=>[.row true<|aO t,.row true [aa 0,aa 0,au],.vec true k 3<|(t.kids.take k).map λu=>aO<|cY u])
   (λk=>k<=t.width) (λk=>t.width-k) 0 zo (kY (eo 3 3 zs rfl)<|pN ⟨rfl,rfl,rfl,rfl,trivial⟩) ?_
  rintro k hk;refine sRS (λh1=>?_) λh1=>?_
  ·have ai:k<t.width:=(by simpa [Tree.width] using h1);refine sL (db ai) ?_;refine sC (ih k ai<|gB cy ai) ?_;refine⟨by unfold iF;simp only[dP,vy,s5,dC,fy];omega,?_⟩;refine sW ?_;refine .inl ⟨zW,?_⟩;refine sW ?_
   refine⟨k+1,zo,zd,aL 3 zs rfl ⟨.refl _,zu,.refl _,zu,.refl _,zu,.refl _,zu,trivial⟩
    ⟨⟨rfl,.refl _,bI _<|eU t⟩,⟨rfl,.refl _,zu⟩,⟨rfl,rfl,rfl,aV<|Lc _<|kid_get? ai,bm _<|c6 _ (λu=>eU _) _⟩,trivial⟩⟩
  have ai:k=t.width:=by have:¬k<t.width:=by simpa [Tree.width] using h1
                        omega
  subst ai;refine sS (λfh=>?_) λfh=>?_
  ·have fh:t.kind=10:=(by simpa using fh);have h0:=qO cy (show t.kind=4\/t.kind=7\/t.kind=10\/t.kind=11 by omega);rw[ae fh] at hE;refine sC (Qn 1 0) ?_;refine⟨zo,zo,?_⟩;refine sW ?_;refine⟨_,Zo _ h0,?_⟩;refine sW ?_;refine sC (xH 8 (cx 1 0)<|cY<|t.aD 0) ?_;exact nB hE (.refl _)
  have fh:¬t.kind=10:=(by simpa using fh);rw[ab fh] at hE;refine sS (λny=>?_) λny=>?_
  ·have ny:t.kind=11:=(by simpa using ny);have h0:=qO cy (show t.kind=4\/t.kind=7\/t.kind=10\/t.kind=11 by omega);rw[ae ny] at hE;refine sC (Qn 2 0) ?_;refine⟨zo,zo,?_⟩;refine sW ?_;refine⟨_,Zo _ h0,?_⟩;refine sW ?_;refine sC (xH 9 (cx 2 0)<|cY<|t.aD 0) ?_;exact nB hE (.refl _)
  have ny:¬t.kind=11:=(by simpa using ny);rw[ab ny] at hE;exact zs7 (id:=2) hE rfl rfl
end Go.Proofs.YtmajadpcpohneaaGreatDoor
