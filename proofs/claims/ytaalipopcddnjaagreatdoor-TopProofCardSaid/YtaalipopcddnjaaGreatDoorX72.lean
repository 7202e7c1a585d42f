/-
  Parts of a proof, joined. No statement is proved here.
-/
import Derived.Test.YtaalipopcddnjaaGreatDoorX71
import Derived.DeepKeys4
import Derived.Test.YtaalipopcddnjaaGreatDoorProg
import Derived.Shelf.Sort.Plain
import Derived.Test.YtaalipopcddnjaaGreatDoorX70
namespace Go.Proofs.YtaalipopcddnjaaGreatDoor
set_option linter.unusedSimpArgs false
set_option linter.unusedVariables false
set_option maxRecDepth 100000
set_option linter.unusedSectionVars false
open Go.RowKit
def pz(l:List<|Nat×Nat):fp:=l.map λq=>[ab q.1,ab q.2]
variable(l:List<|Nat×Nat)
@[simp] theorem Zf:dX<|pz l:=cO _ (λl=>by simp[ao,Pure]) l
variable{m:Nat}
@[simp] theorem zCd:bN m (pz l)↔True:=⟨λ_=>trivial,λ_=>bP _<|Zf l⟩
variable{l:List<|Nat×Nat}{z k:Nat}
theorem Kv(hz:z=k)(h:k<l.length):(pz l)[z]? = some [.sc (.int .i64 (l.getD k (0,0)).1),.sc (.int .i64 (l.getD k (0,0)).2)]:=by
 subst hz;rw[ay,aG h];simp[pz,h]
variable{a:Nat}
theorem Y4{b:Nat}(hz:z=k):(pz l).set z [ab a,ab b]=pz (l.set k (a,b)):=by
 subst hz;simp[pz,List.map_set]
theorem zCc{Z:List<|Nat×Nat}{h:Nat}:List.drop 0 (List.take h<|pz Z)++List.drop 0 (List.take 1 [[ab a,ab 0]])=pz (Z.take h++[(a,0)]):=by simp[pz,List.map_take]
structure POK(pa:List<|Nat×Nat)(PZ:List<|Nat×Nat):Prop where
 len:pa.length<=PZ.length
 eq:PZ.take pa.length=pa.reverse
variable{r PZ:List<|Nat×Nat}
theorem POK.top{q:Nat×Nat}(h:POK (q::r) PZ):PZ.getD r.length (0,0)=q:=by
 have h1:=h.len;have h2:=h.eq;simp only[cj,List.reverse_cons] at h1 h2;have h3:(PZ.take<|r.length+1).getD r.length (0,0)=(r.reverse++[q]).getD r.length (0,0):=by rw[h2]
 rw[ay,ay,xv,ae zo,fc zs] at h3;rw[ay,h3];simp
theorem POK.set{q q':Nat×Nat}{r PZ:List<|Nat×Nat}(h:POK (q::r) PZ):POK (q'::r) (PZ.set r.length q') where
 len:=by have:=h.len;simpa using this
 eq:=by
  have h1:=h.len;have h2:=h.eq;simp only[cj,List.reverse_cons] at h1 h2⊢;rw[List.take_set,h2,List.set_append_right _ _ zs];simp
theorem POK.push(h:POK r PZ)(q:Nat×Nat):POK (q::r) (PZ.take r.length++[q]) where
 len:=by have:=h.len;simp;omega
 eq:=by
  have h1:=h.len;rw[fF<|by simp;omega,h.eq];simp
theorem POK.pop{q:Nat×Nat}(h:POK (q::r) PZ):POK r PZ where
 len:=by have:=h.len;simp at this;omega
 eq:=by
  have h2:=h.eq;simp only[cj,List.reverse_cons] at h2;have h3:(PZ.take<|r.length+1).take r.length=(r.reverse++[q]).take r.length:=(by rw[h2]);rw[List.take_take,tJ zo,List.take_left' zs] at h3;exact h3
def qP(g:ak)(R:TR):aB:=gX g R.S.num R.S.low R.S.part R.Z R.S.stack.length R.aw R.S.count R.S.dF
theorem UZ{g:ak}{num low:Nat->Nat}{part:Nat->Int}{Z:af}{h aw count dF:Nat}(X:aB) :
  []++((gX g num low part Z h aw count dF).map (an.aO λi=>([]:aB).length+i)++X)=gX g num low part Z h aw count dF++X:=by
 have e:(λi=>([]:aB).length+i)=λi=>0+i:=rfl;have hg:=λρ=>iK (ρ:=ρ) _<|lu g;have h1:=λρ l=>jb (ρ:=ρ) _<|cO (λn:Int=>[ab n]) (λl=>by simp[ao,Pure]) l;simp only[gX,dR,gP,an.aO,bO,hg,aE,h1,m9,mJ];simp only[D.aO,jP,dE]
variable{g:ak}
theorem zl1{num low:Nat->Nat}{part:Nat->Int}{Z:af}{h aw count dF:Nat}:kl 5<|gX g num low part Z h aw count dF:=by
 simp[gX,kl,an.under,aK,az,cp _<|lu g]
theorem KV{g:ak}{f:FuncId}{v:Int}{num low Q9 Sr:Nat->Nat}{part Sm:Nat->Int}{Z Z':af}{h aw count dF h' bY U' VB:Nat}
  (hA:cd aj f [.loc 3 0,ab v] (gX g num low part Z h aw count dF) (.aJ [])<|gX g Q9 Sr Sm Z' h' bY U' VB) (X:aB) :
  cd aj f [.loc 3 0,ab v] (gX g num low part Z h aw count dF++X) (.aJ []) (gX g Q9 Sr Sm Z' h' bY U' VB++X) :=
 sF hA [] X (by simp[gX]) (by simp[gX,aK,az]) zl1 (by simp[bO,D.aO]) (by simp[D.aO,bO]) (UZ X) (UZ X)
variable{R:TR}
theorem TRI.bounds(h:TRI g R)(hn:g.length<=1000000000):R.S.stack.length<=1000000000/\R.S.count<=1000000000/\R.S.dF<=1000000000/\R.S.path.length<=1000000000:=by
 have h1:=h.tj.size;have h2:=h.tj.seen;have h3:=h.tj.deep;omega
theorem PL(hn:g.length<=1000000000)(hI:TRI g R){p:Nat}(hp:p∈R.S.stack)(low:Nat->Nat)(path:List<|Nat×Nat)(X:aB) :
  cd aj 254 [.loc 3 0,ab p] (gX g R.S.num low R.S.part R.Z R.S.stack.length R.aw R.S.count R.S.dF++X) (.aJ []) (qP g ⟨R.S.shut p path low,R.Z,R.aw⟩++X):=by
 have hb:=hI.bounds hn;obtain⟨pre,post,e,e1,e2,e3⟩:=hI.tj.split hp;have b8:∀v∈pre++p::post,v<g.length:=λv hv=>hI.tj.node v ((hI.tj.stk v).1<|e▸hv).1;have hl:=hI.zok.len;have ha:=hI.zok.at_;rw[e] at hl ha hb;have hC:=Zq g hn R.S.num low R.S.part R.Z pre post p R.aw R.S.count R.S.dF hl hb.1 hb.2.2.1 ha b8 e1;have ep:xI R.S.part (pre++[p]) R.S.dF=(R.S.shut p path low).part:=by
  funext v;show(if v∈pre++[p] then _ else _)=if v∈R.S.stack/\R.S.num p<=R.S.num v then _ else _
  by_cases q:v∈pre++[p]
  ·rw[ae q,ae<|(e2 v).1 q]
  rw[aa q,aa λz=>q<|(e2 v).2 z]
 have es:(R.S.shut p path low).stack=post:=e3;have:=KV hC X;rw[ep,<-e,<-es] at this;exact this
variable(g:ak)
theorem zv5(hn:g.length<=1000000000)(kS:∀l∈g,bq l g.length)(hF:kL g)(R:TR)(hR:TRI g R)(hp:R.S.path=[])(v:Nat)(hv:v<g.length)(h0:R.S.num v=0) :
  cd aj 197 [.loc 3 0,ab v] (qP g R) (.aJ []) (qP g<|wJ g R v):=by
 have dV:=λk=>iO kS k;have bg:∀v x,x∈g.getD v []->x.toNat<g.length:=λv x hx=>by have:=dn (dV v) hx;omega
 have hb:=hR.bounds hn;have hB:=KV (VJ g hn R.S.num R.S.low R.S.part R.Z R.S.stack.length R.aw R.S.count R.S.dF hR.zok.len hb.1 hb.2.1 v hv) [.vec true 0 2 (pz [(v,0)])];refine gm fZ zs (by simp[qP,gX]) ?_ (by simp[az,aK]) KL;have We:=hR.root hp hv h0;have eF:wJ g R v=runT g (TJ.fuel g (R.open v []).S) (R.open v []):=rfl;generalize wJ g R v=Fin at *;have eO:qP g (R.open v [])=gX g (up R.S.num v (R.S.count+1)) (up R.S.low v (R.S.count+1)) R.S.part (R.Z.take R.S.stack.length++[(v:Int)]) (R.S.stack.length+1) (R.aw+1) (R.S.count+1) R.S.dF:=rfl;rw[<-eO] at hB;clear eO;have ep:(R.open v []).S.path=[(v,0)]:=rfl;generalize R.open v []=R0 at *;unfold qP gX at hB⊢;refine sR ?_;refine sA hB ?_
 refine fy [0] (λ((R,PZ,pver,k):TR×List (Nat×Nat)×Nat×Nat)=>[(4,.own 5 pver 0 R.S.path.length)]) (λ(R,PZ,pver,k)=>qP g R++[.vec true pver 2<|pz PZ])
  (λ(R,PZ,pver,k)=>TRI g R/\POK R.S.path PZ/\TJ.fuel g R.S<=k/\runT g k R=Fin) (λ(R,PZ,pver,k)=>TJ.fuel g R.S) (R0,[(v,0)],0,TJ.fuel g R0.S) ?_
 refine sW ?_;refine⟨⟨We,by rw[ep];exact⟨zs,rfl⟩,aI _,eF.symm⟩,⟨by rw[ep];rfl,by exact sK⟩,rfl,?_⟩;clear hB We ep eF;rintro⟨R,PZ,pver,k⟩ ⟨hI,DV,hk,DA⟩;have hb:=hI.bounds hn
 cases ep:R.S.path with
 |nil =>
  rw[zxu ep] at DA;subst DA;have LR:R.S.path.length=0:=(by rw[ep];rfl);unfold qP gX;refine sWR ?_;rw[LR];refine sW ?_;show(5:Nat)<=6;omega
 |cons q r =>
  obtain⟨p,i⟩:=q;have b8:=hI.tj.seg;rw[ep] at b8 DV;have nR:=b8.1;have o8:=hI.tj.node p ((hI.tj.stk p).1 nR).1;have JA:=WC bg hI (by rw[ep];simp);obtain⟨k',rfl⟩:∃k',k=k'+1:=⟨k-1,by have:=JA.2.1;omega⟩;have Cq:runT g k' (stepT g R)=Fin:=(by rw[<-DA];simp only[runT];rw[aa<|by rw[ep];simp]);have bF:=JA.2.1;have kQ:=JA.1;have htop:=DV.top;have JL:=DV.len;rw[ep] at hb;simp only[cj] at hb JL;have QI:=hF.at p;have LR:R.S.path.length=r.length+1:=(by rw[ep];rfl);generalize mI:stepT g R=R' at *;unfold qP gX bW;refine sWR ?_;rw[LR];refine sS (λq0=>?_) λq0=>?_
  ·have gR:(pz PZ)[r.length]? = some [ab p,ab i]:=(by rw[Kv rfl zo,htop]);refine sIB ?_;rw[show 0+(((r.length+1-0:Nat):Int)-1).toNat=r.length by omega];refine⟨_,gR,?_⟩;refine sW ?_;refine⟨_,gR,?_⟩;refine sW ?_;refine sL (me (k:=p) zo o8) ?_;rw[aS];refine sS (λhi=>?_) λhi=>?_
   ·have hi:i<(g.getD p []).length:=sO;have hx:=dn (dV p)<|fV hi;refine⟨_,gR,?_⟩;refine sW ?_;refine sL (me (k:=p) zo o8) ?_;refine⟨_,gR,?_⟩;refine sW ?_;refine sL (eY (l:=g.getD p []) (k:=i) zo hi) ?_;refine⟨_,gR,?_⟩;refine bJ ?_;refine⟨_,gR,?_⟩;refine sW ?_;rw[show(i:Int)+1=((i+1:Nat):Int) from rfl,Y4 (k:=r.length) rfl];have Jg:=DV.set (q':=(p,i+1));have hSl:(PZ.set r.length (p,i+1)).length=PZ.length:=zs;have hto:stepT g R=if R.S.num ((g.getD p []).getD i 0).toNat=0 then R.open ((g.getD p []).getD i 0).toNat<|(p,i+1)::r else ⟨R.S.skip p i r ((g.getD p []).getD i 0).toNat,R.Z,R.aw⟩:=by
     unfold stepT;rw[ep];simp only[ae hi]
    have xC:∀k,k=i->(g.getD p []).getD k 0=(g.getD p []).getD i 0:=λk e=>by rw[e]
    generalize (g.getD p []).getD i 0=x at *;obtain⟨to,rfl⟩:∃to:Nat,x=to:=⟨x.toNat,zo⟩;rw[bS] at hto;have IS:to<g.length:=zo;refine sB ?_;refine⟨_,dh to zo IS,?_⟩;refine sW ?_;rw[show gn R.S.num to=(R.S.num to:Int) from rfl];refine sS (λh1=>?_) λh1=>?_
    ·have h1:R.S.num to=0:=sO;rw[ae h1,mI] at hto;subst hto;have hB:=KV (VJ g hn R.S.num R.S.low R.S.part R.Z R.S.stack.length R.aw R.S.count R.S.dF hI.zok.len hb.1 hb.2.1 to IS) [.vec true pver 2<|pz<|PZ.set r.length (p,i+1)];unfold gX bW at hB;refine sA hB ?_;refine sJ ?_;refine⟨(R.open to<|(p,i+1)::r,(PZ.set r.length (p,i+1)).take (r.length+1)++[(to,0)],pver+1,k'),⟨kQ,Jg.push (to,0),zo,Cq⟩,zd,?_⟩;refine br 6 zs rfl sQ (sU ?_);exact bM zCc
    have h1:R.S.num to≠0:=sO;rw[aa h1,mI] at hto;subst hto;have Ns:=hI.tj.bc to;have m5:=hI.tj.bc p;refine sB ?_;refine⟨_,dh to zo IS,?_⟩;refine sWS (λh2=>?_) λh2=>?_
    ·have h2:R.S.part to<0:=sO;have PE:(pz<|PZ.set r.length (p,i+1))[r.length]? = some [ab p,ab ((i+1:Nat):Int)]:=by
      rw[Kv rfl zo,Jg.top]
     refine⟨_,PE,?_⟩;refine sW ?_;refine⟨_,PE,?_⟩;refine ew ?_;refine⟨_,dh p zo o8,?_⟩;refine ew ?_;refine⟨_,dh to zo IS,?_⟩;refine ew ?_;refine⟨_,dh p zo o8,?_⟩;refine sW ?_;have el:(R.S.skip p i r to).low=up R.S.low p (min (R.S.low p)<|R.S.num to):=ae h2;refine⟨(⟨R.S.skip p i r to,R.Z,R.aw⟩,PZ.set r.length (p,i+1),pver,k'),⟨kQ,Jg,zo,Cq⟩,zd,bf (by exact sK) ?_⟩;dsimp only;rw[el,show min (gn R.S.low p) (gn R.S.num to)=((min (R.S.low p) (R.S.num to):Nat):Int) by unfold gn;omega,nA (k:=p) zo,Iz];rfl
    have h2:¬R.S.part to<0:=sO;have el:(R.S.skip p i r to).low=R.S.low:=aa h2;refine⟨(⟨R.S.skip p i r to,R.Z,R.aw⟩,PZ.set r.length (p,i+1),pver,k'),⟨kQ,Jg,zo,Cq⟩,zd,bf (by exact sK) ?_⟩;dsimp only;rw[el];rfl
   have hi:(g.getD p []).length≤i:=by have:¬i<(g.getD p []).length:=sO
                                      omega
   refine⟨_,gR,?_⟩;refine bJ ?_;refine⟨zo,zo,zo,?_⟩;refine sW ?_;rw[show 0+(((r.length+1-0:Nat):Int)-1).toNat=r.length by omega];have II:=DV.pop;have iN:=hI.tj.bc p;have rv:R.S.low p<=R.S.num p:=b8.2.2.2.2.1
   cases r with
   |nil =>
    have hto:stepT g R=⟨R.S.shut p [] R.S.low,R.Z,R.aw⟩:=by
     unfold stepT;rw[ep];simp only[aa<|Nat.not_lt.2 hi]
    rw[mI] at hto;refine ew ?_;refine⟨_,dh p zo o8,?_⟩;refine ew ?_;refine⟨_,dh p zo o8,?_⟩;refine sW ?_;rw[show gn R.S.low p=(R.S.low p:Int) from rfl,show gn R.S.num p=(R.S.num p:Int) from rfl];have oi:=hI.tj.PK ep;refine sS (λh3=>?_) λh3=>?_
    ·have hC:=PL hn hI nR R.S.low [] [.vec true pver 2<|pz PZ];unfold qP gX bW at hC;refine sA hC ?_;subst hto;refine⟨(⟨R.S.shut p [] R.S.low,R.Z,R.aw⟩,PZ,pver,k'),⟨kQ,II,zo,Cq⟩,zd,bf (by exact sK) rfl⟩
    exfalso;exact sO
   |cons q r =>
    obtain⟨q,j⟩:=q;have TB:=b8.2.2.2.2.2.2.2.2;have hqs:=TB.1;have PJ:=hI.tj.node q ((hI.tj.stk q).1 hqs).1;have b7:p≠q:=λe=>by
     have:=TB.2.1;rw[e] at this;omega
    have hto:stepT g R=if R.S.low p=R.S.num p then ⟨R.S.shut p ((q,j)::r)<|up R.S.low q<|min (R.S.low q)<|R.S.low p,R.Z,R.aw⟩ else ⟨R.S.back p q j r,R.Z,R.aw⟩:=by
     unfold stepT;rw[ep];simp only[aa<|Nat.not_lt.2 hi]
    rw[mI] at hto;have Zv:(pz PZ)[r.length]? = some [ab q,ab j]:=(by rw[Kv rfl (by simp at JL;omega),II.top]);rw[cj] at JL hb;rw[cj];refine sS (λq5=>?_) λq5=>?_
    ·refine sIB ?_;rw[show 0+(((r.length+1-(0+0):Nat):Int)-1).toNat=r.length by omega];refine⟨_,Zv,?_⟩;refine ew ?_;refine⟨_,dh q zo PJ,?_⟩;refine ew ?_;refine⟨_,dh p zo o8,?_⟩;refine ew ?_;refine⟨_,dh q zo PJ,?_⟩;refine sW ?_;rw[show min (gn R.S.low q) (gn R.S.low p)=((min (R.S.low q) (R.S.low p):Nat):Int) by unfold gn;omega,nA (k:=q) zo,Iz];refine sB ?_;refine⟨_,dh p zo o8,?_⟩;refine ew ?_;refine⟨_,dh p zo o8,?_⟩;refine sW ?_;rw[show gn (up R.S.low q<|min (R.S.low q)<|R.S.low p) p=(R.S.low p:Int) by unfold gn;rw[jK b7],show gn R.S.num p=(R.S.num p:Int) from rfl];refine sS (λh3=>?_) λh3=>?_
     ·have h3:R.S.low p=R.S.num p:=sO;rw[ae h3] at hto;have hC:=PL hn hI nR (up R.S.low q<|min (R.S.low q)<|R.S.low p) ((q,j)::r) [.vec true pver 2<|pz PZ];unfold qP gX bW at hC;refine sA hC ?_;subst hto;refine⟨(⟨R.S.shut p ((q,j)::r)<|up R.S.low q<|min (R.S.low q)<|R.S.low p,R.Z,R.aw⟩,PZ,pver,k'),⟨kQ,II,zo,Cq⟩,zd,bf (by exact sK) rfl⟩
     have h3:R.S.low p≠R.S.num p:=sO;rw[aa h3] at hto;subst hto;refine⟨(⟨R.S.back p q j r,R.Z,R.aw⟩,PZ,pver,k'),⟨kQ,II,zo,Cq⟩,zd,bf (by exact sK) rfl⟩
    exfalso;exact sO
  exfalso;exact sO
noncomputable def bp(g:ak):Nat->Int:=gn<|ni<|pL g
noncomputable def lL(g:ak):af:=gl g.length<|bp g
def Ex(same:Nat->Nat->Bool)(part:Nat->Int)(name:Nat->Int)(k:Nat):Prop:=∀i:Nat,(∃b,b<k/\part b=(i:Int)/\name i=(ni same b:Int)+1)\/((∀b,b<k->part b≠(i:Int))/\name i=0)
variable{same:Nat->Nat->Bool}{n:Nat}
theorem YP{part:Nat->Int}{name:Nat->Int}(hk:k<n)(h:Ex same part name k)(hp:∀i,i<n->0<=part i)(hs:∀i j,i<n->j<n->(part i=part j↔same i j))(h0:name (part k).toNat=0) :
  ni same k=ju same k/\ju same (k+1)=ju same k+1/\Ex same part (kD name (part k).toNat<|(ju same k:Int)+1) (k+1):=by
 have pV:=hp k hk;have cJ:∀c,c<k->same c k=false:=λc hc=>by
  rw[th];intro q;have e:=(hs c k zo hk).2 q;rcases h (part k).toNat with⟨b,b1,b2,b3⟩|⟨b1,b2⟩
  ·omega
  exact b1 c hc zo
 obtain⟨e1,e2⟩:=Kh cJ;refine⟨e1,by simp[ju,e2],λi=>?_⟩;unfold kD;by_cases e:i=(part k).toNat
 ·left;refine⟨k,zo,zo,by rw[ae e,e1]⟩
 rw[aa e];rcases h i with⟨b,b1,b2,b3⟩|⟨b1,b2⟩
 ·exact .inl ⟨b,zo,b2,b3⟩
 refine .inr ⟨λb hb q=>?_,b2⟩;by_cases eb:b=k
 ·subst eb;omega
 exact b1 b zo q
theorem ztc{part:Nat->Int}{name:Nat->Int}(he:Eqv same n)(hk:k<n)(h:Ex same part name k)(hp:∀i,i<n->0<=part i)(hs:∀i j,i<n->j<n->(part i=part j↔same i j))(h0:name (part k).toNat≠0) :
  name (part k).toNat=(ni same k:Int)+1/\ju same (k+1)=ju same k/\Ex same part name (k+1):=by
 have pV:=hp k hk;rcases h (part k).toNat with⟨b,b1,b2,b3⟩|⟨b1,b2⟩
 ·obtain⟨e1,e2⟩:=KH he hk b1<|(hs b k zo hk).1 zo;refine⟨by rw[b3,e1],by simp[ju,e2],λi=>?_⟩;rcases h i with⟨c,c1,c2,c3⟩|⟨c1,c2⟩
  ·exact .inl ⟨c,zo,c2,c3⟩
  refine .inr ⟨λc hc q=>?_,c2⟩;by_cases ec:c=k
  ·subst ec;have:i=(part c).toNat:=zo;subst this;exact h0 c2
  exact c1 c zo q
 exact absurd b2 h0
theorem WT(hn:g.length<=1000000000)(kS:∀l∈g,bq l g.length)(hF:kL g):ar aj 124 [bW g]<|aL<|lL g:=by
 have dV:=λk=>iO kS k;have bg:∀v x,x∈g.getD v []->x.toNat<g.length:=λv x hx=>by have:=dn (dV v) hx;omega
 refine bz fZ ?_;have hV:=λk (hk:k<g.length) h0=>zv5 g hn kS hF (iq g k) (Fo bg k zo).1 (Fo bg k zo).2.1 k hk h0;have u9:=λk hk=>Fo bg k hk;have e00:∀k,List.replicate k (List.map D.sc [Value.int .i64 0])=aE (gl k λ_=>0):=A2;unfold bW;refine sR ?_;rw[aS];refine⟨zo,zo,zo,?_⟩;rw[bS];refine sW ?_;refine⟨zo,zo,zo,?_⟩;rw[bS];refine sW ?_;refine⟨zo,zo,zo,?_⟩;rw[bS];refine sW ?_;refine bT [3,4,22] (λk:Nat=>[(23,ab k)]) (λk=>[(2,.vec true 0 1<|aE<|gl g.length λi=>if i<k then -1 else 0)]) (λk=>k<=g.length) (λk=>g.length-k) 0 ?_;refine sW ?_;refine⟨zo,by exact sK,by rw[e00];simp;rfl,?_⟩;rintro k hk;refine bl (λq0=>?_) λq0=>?_
 ·have q0:k<g.length:=sO;refine sB ?_;refine⟨_,dh k zo q0,?_⟩;refine bJ ?_;refine⟨k+1,zo,zd,bf (by exact sK) ?_⟩;rw[nA (k:=k) zo,vW (g':=λi=>if i<k+1 then -1 else 0) λi _=>by
   show kD (λi=>if i<k then -1 else 0) k (-1) i=if i<k+1 then -1 else 0
   unfold kD;by_cases e:i=k
   ·subst e;simp
   by_cases e2:i<k
   ·rw[aa e,ae<|show i<k+1 by omega];exact ae e2
   rw[aa e,aa<|show ¬i<k+1 by omega];exact aa e2]
  rfl
 have q0:k=g.length:=by have:¬k<g.length:=sO
                        omega
 subst q0;rw[vW (g':=λ_=>-1) λi hi=>ae hi];refine dk (jN 3 4 1 zs rfl rfl) ?_;have e0:List.replicate g.length (List.map D.sc [Value.int .i64 0])=aE (gl g.length (gn λ_=>0)):=A2 _;rw[e0];refine fy [3,4,33] (λk:Nat=>[(34,ab k)]) (λk=>qP g (iq g k)) (λk=>k<=g.length) (λk=>g.length-k) 0 ?_;refine gp ?_;rintro k hk;obtain⟨s1,s2,s3⟩:=u9 k hk;unfold qP gX bW at hV⊢;refine bl (λq0=>?_) λq0=>?_
 ·have q0:k<g.length:=sO;have hVk:=hV k q0;refine sB ?_;refine⟨_,dh k zo q0,?_⟩;refine sW ?_;rw[show gn (iq g k).S.num k=((iq g k).S.num k:Int) from rfl];refine sS (λh0=>?_) λh0=>?_
  ·have h0:(iq g k).S.num k=0:=sO;refine sA (hVk h0) ?_;refine sI ?_;refine⟨k+1,zo,zd,bf (by exact sK) ?_⟩;dsimp only;rw[show iq g (k+1)=wJ g (iq g k) k from ae h0]
  have h0:¬(iq g k).S.num k=0:=sO;refine sI ?_;refine⟨k+1,zo,zd,bf (by exact sK) ?_⟩;dsimp only;rw[show iq g (k+1)=iq g k from aa h0]
 have q0:k=g.length:=by have:¬k<g.length:=sO
                        omega
 subst q0;obtain⟨f1,f2,f3⟩:=zsy bg;clear hV u9 s1 s2 s3 e0;generalize (iq g g.length).S.num=num at *;generalize (iq g g.length).S.low=low at *;generalize (iq g g.length).S.part=part at *;generalize (iq g g.length).S.dF=dF at *;generalize (iq g g.length).S.count=count at *;generalize (iq g g.length).S.stack.length=h at *;generalize (iq g g.length).aw=aw at *;generalize (iq g g.length).Z=Z at *;refine⟨zo,zo,zo,?_⟩;rw[bS];refine sW ?_;refine⟨zo,zo,zo,?_⟩;rw[bS];refine sW ?_;have e0:∀k,List.replicate k (List.map D.sc [Value.int .i64 0])=aE (gl k λ_=>0):=A2;rw[e0,e0];have hq:=JZ g g.length;have hp:=λi hi=>(f1 i hi).1
 refine bT [4,7,9,56] (λ((k,name):Nat×(Nat->Int))=>[(8,ab ((ju (pL g) k:Nat):Int)),(57,ab k)]) (λ(k,name)=>[(5,.vec true 0 1<|aE<|gl dF name),(6,.vec true 0 1<|aE<|gl g.length λi=>if i<k then bp g i else 0)])
  (λ(k,name)=>k<=g.length/\Ex (pL g) part name k) (λ(k,name)=>g.length-k) (0,λ_=>0) ?_
 refine sW ?_;refine⟨⟨zo,λi=>.inr ⟨λb hb=>zo,rfl⟩⟩,by exact sK,by simp;rfl,?_⟩;rintro⟨k,name⟩ ⟨hk,hN⟩;have hpc:=NN (pL g) k;refine bl (λq0=>?_) λq0=>?_
 ·have q0:k<g.length:=sO;have hpk:=f1 k q0;have lX:=YP q0 hN hp f2;have hold:=ztc hq q0 hN hp f2;obtain⟨pk,E0⟩:∃pk:Nat,part k=pk:=⟨(part k).toNat,zo⟩;rw[E0] at hpk lX hold;rw[bS] at lX hold;refine sB ?_;refine⟨_,dh k zo q0,?_⟩;rw[E0];refine ew ?_;refine⟨_,dh pk zo zo,?_⟩;refine sW ?_;have F3:∀v,v=bp g k->aE (gl g.length<|kD (λi=>if i<k then bp g i else 0) k v)=aE (gl g.length λi=>if i<k+1 then bp g i else 0):=λv hv=>by
   rw[vW λi _=>?_];show kD (λi=>if i<k then bp g i else 0) k v i=if i<k+1 then bp g i else 0
   unfold kD;by_cases e:i=k
   ·subst e;rw[ae rfl,ae zo,hv]
   by_cases e2:i<k
   ·rw[aa e,ae<|show i<k+1 by omega];exact ae e2
   rw[aa e,aa<|show ¬i<k+1 by omega];exact aa e2
  refine sS (λh0=>?_) λh0=>?_
  ·have h0:name pk=0:=sO;obtain⟨n1,n2,n3⟩:=lX h0;refine sIB ?_;refine⟨_,dh k zo q0,?_⟩;rw[E0];refine ew ?_;refine⟨_,dh pk zo zo,?_⟩;refine sW ?_;rw[nA (k:=pk) zo];refine sB ?_;refine⟨_,dh k zo q0,?_⟩;rw[E0];refine ew ?_;refine⟨_,dh pk zo zo,?_⟩;refine sW ?_;rw[tu];refine sIB ?_;refine⟨_,dh k zo q0,?_⟩;refine bJ ?_;have e8:ab (((ju (pL g) k:Nat):Int)+1)=ab ((ju (pL g) (k+1):Nat):Int):=(by rw[n2];rfl);refine⟨(k+1,kD name pk<|(ju (pL g) k:Int)+1),⟨zo,n3⟩,zd,bf ⟨e8,by exact sK⟩ ?_⟩;dsimp only;rw[nA (k:=k) zo,F3 _<|by unfold bp gn;rw[n1];omega];rfl
  have h0:¬name pk=0:=sO;obtain⟨n1,n2,n3⟩:=hold h0;refine sB ?_;refine⟨_,dh k zo q0,?_⟩;rw[E0];refine ew ?_;refine⟨_,dh pk zo zo,?_⟩;refine sW ?_;have iN:=QM hq q0;rw[n1];refine sIB ?_;refine⟨_,dh k zo q0,?_⟩;refine bJ ?_;have e8:ab ((ju (pL g) k:Nat):Int)=ab ((ju (pL g) (k+1):Nat):Int):=(by rw[n2]);refine⟨(k+1,name),⟨zo,n3⟩,zd,bf ⟨e8,by exact sK⟩ ?_⟩;dsimp only;rw[nA (k:=k) zo,F3 _<|by unfold bp gn;omega];rfl
 have q0:k=g.length:=by have:¬k<g.length:=sO
                        omega
 subst q0;rw[vW (g':=bp g) λi hi=>ae hi];exact HW rfl
def tY(L:ak)(n t:Nat):ak :=
 if (L.getD t []).length=0\/(L.getD t []).getD ((L.getD t []).length-1) 0≠(n:Int) then L.set t<|L.getD t []++[(n:Int)] else L
theorem zuf(L:ak)(n t:Nat):(tY L n t).length=L.length:=by unfold tY;split<;>simp
variable{l:af}{L:ak}{t:Nat}
theorem Vk(h:t<L.length):(L.set t l).getD m []=if m=t then l else L.getD m []:=by
 rw[ay,wG];by_cases e:t=m
 ·subst e;simp[h]
 rw[aa e,aa λq=>e q.symm,ay]
variable{x:Int}
theorem zto(h:t<L.length):x∈(tY L n t).getD m []↔x∈L.getD m []\/(m=t/\x=(n:Int)):=by
 unfold tY;split
 ·rw[Vk h];split
  ·rename_i e;subst e;rw[de,cM];constructor
   ·rintro(q|q)
    ·exact .inl q
    exact .inr ⟨rfl,q⟩
   rintro(q|⟨_,q⟩)
   ·exact .inl q
   exact .inr q
  rename_i e;exact⟨.inl,λq=>q.elim id λw=>absurd w.1 e⟩
 rename_i q;refine⟨.inl,λw=>w.elim id ?_⟩;rintro⟨rfl,rfl⟩;have q1:(L.getD m []).length≠0:=λe=>q (.inl e);have q2:(L.getD m []).getD ((L.getD m []).length-1) 0=(n:Int):=by
  by_cases e:(L.getD m []).getD ((L.getD m []).length-1) 0=(n:Int)
  ·exact e
  exact absurd (.inr e) q
 have:=fV (l:=L.getD m []) (k:=(L.getD m []).length-1) zo;rw[q2] at this;exact this
def nM(g:ak)(n:Nat):Nat->ak->ak
 |0,L=>L
 |k+1,L=>tY (nM g n k L) n ((g.getD n []).getD k 0).toNat
def fk(g:ak):Nat->ak
 |0=>List.replicate g.length []
 |n+1=>nM g n (g.getD n []).length<|fk g n
theorem GB(g:ak)(n:Nat):∀(k:Nat) (L:ak),(nM g n k L).length=L.length
 |0,_=>rfl
 |k+1,L=>by simp only[nM];rw[zuf,GB g n k L]
theorem sb(g:ak):∀n,(fk g n).length=g.length
 |0=>by simp[fk]
 |n+1=>by simp only[fk];rw[GB,sb g n]
theorem Tz{g:ak}{n m:Nat}{x:Int}(hg:∀v y,y∈g.getD v []->y.toNat<g.length){L:ak}(hL:L.length=g.length):∀{k:Nat},k<=(g.getD n []).length ->
  (x∈(nM g n k L).getD m []↔x∈L.getD m []\/(x=(n:Int)/\∃j,j<k/\((g.getD n []).getD j 0).toNat=m))
 |0,_=>⟨.inl,λh=>h.elim id λ⟨_,j,hj,_⟩=>zo⟩
 |k+1,hk=>by
  simp only[nM];have hm:=fV (l:=g.getD n []) (k:=k) zo;rw[zto<|by rw[GB,hL];exact hg n _ hm,Tz hg hL zo];constructor
  ·rintro((h|⟨h,j,hj,e⟩)|⟨e,h⟩)
   ·exact .inl h
   ·exact .inr ⟨h,j,zo,e⟩
   exact .inr ⟨h,k,zo,e.symm⟩
  rintro(h|⟨h,j,hj,e⟩)
  ·exact .inl (.inl h)
  by_cases q:j=k
  ·subst q;exact .inr ⟨e.symm,h⟩
  exact .inl (.inr ⟨h,j,zo,e⟩)
theorem Bw{g:ak}{m:Nat}{x:Int}(hg:∀v y,y∈g.getD v []->y.toNat<g.length):∀{n:Nat},n<=g.length ->
  (x∈(fk g n).getD m []↔∃k,k<n/\x=(k:Int)/\∃y,y∈g.getD k []/\y.toNat=m)
 |0,_=>by
  simp only[fk];rw[ay,sy];constructor
  ·intro h;split at h<;>simp at h
  rintro⟨k,h,_⟩;omega
 |n+1,hn=>by
  simp only[fk];rw[Tz hg (sb g n)<|aI _,Bw hg zo];constructor
  ·rintro(⟨k,h1,h2,h3⟩|⟨h,j,hj,e⟩)
   ·exact⟨k,zo,h2,h3⟩
   exact⟨n,zo,h,_,fV hj,e⟩
  rintro⟨k,h1,h2,y,h3,h4⟩;by_cases q:k=n
  ·subst q;obtain⟨j,hj,e⟩:=xd h3;exact .inr ⟨h2,j,hj,by rw[e];exact h4⟩
  exact .inl ⟨k,zo,h2,y,h3,h4⟩
theorem ztZ:(tY L n t).getD m []=L.getD m []\/((tY L n t).getD m []=L.getD m []++[(n:Int)]/\((L.getD m []).length=0\/(L.getD m []).getD ((L.getD m []).length-1) 0≠(n:Int))):=by
 unfold tY;split
 ·rename_i q;by_cases h:t<L.length
  ·rw[Vk h];split
   ·rename_i e;subst e;exact .inr ⟨rfl,q⟩
   exact .inl rfl
  rw[List.set_eq_of_length_le zo];exact .inl rfl
 exact .inl rfl
theorem GD{g:ak}{n m:Nat}{L:ak}:∀k,(nM g n k L).getD m []=L.getD m []\/(nM g n k L).getD m []=L.getD m []++[(n:Int)]
 |0=>.inl rfl
 |k+1=>by
  simp only[nM];rcases ztZ (L:=nM g n k L) (n:=n) (t:=((g.getD n []).getD k 0).toNat) (m:=m) with h|⟨h,q⟩
  ·rw[h];exact GD k
  rcases GD (g:=g) (n:=n) (m:=m) (L:=L) k with w|w
  ·rw[h,w];exact .inr rfl
  rw[w] at q;exfalso;rcases q with q|q
  ·simp at q
  apply q;rw[cL,jt,Nat.add_sub_cancel,ay,fc<|aI _,mE];rfl
theorem C2(g:ak):∀n m,((fk g n).getD m []).length<=n
 |0,m=>by
  simp only[fk];rw[ay,sy];split<;>simp
 |n+1,m=>by
  simp only[fk];have:=C2 g n m;rcases GD (g:=g) (n:=n) (m:=m) (L:=fk g n) (g.getD n []).length with h|h
  ·rw[h];omega
  rw[h,cL,jt];omega
theorem fx.one(v:Nat):fx g [(v:Int)] v:=by
 have:=fx.base (g:=g) (from_:=[(v:Int)]) (x:=(v:Int)) zs;rwa [bS] at this
variable{g:ak}{u v:Nat}
theorem fx.trans{a:af}(h:fx g a u)(k:fx g [(u:Int)] v):fx g a v:=by
 induction k with
 |base hx =>
  rw[cM] at hx;subst hx;simpa using h
 |step _ hx ih=>exact .step ih hx
theorem zw8(bg:∀v y,y∈g.getD v []->0<=y/\y.toNat<g.length)(hu:u<g.length):fx g [(u:Int)] v->fx (fk g g.length) [(v:Int)] u:=by
 intro h;have key:∀w,fx g [(u:Int)] w->w<g.length/\fx (fk g g.length) [(w:Int)] u:=by
  intro w hw
  induction hw with
  |base hx =>
   rw[cM] at hx;subst hx;exact⟨by simpa using hu,by rw[bS];exact fx.one _ u⟩
  |@step a x ha hx ih =>
   have Ik:=bg a x hx;refine⟨Ik.2,?_⟩;have e:(a:Int)∈(fk g g.length).getD x.toNat []:=(Bw (λv y hy=>(bg v y hy).2)<|aI _).2 ⟨a,ih.1,rfl,x,hx,rfl⟩;have s:fx (fk g g.length) [((x.toNat:Nat):Int)] a:=by
    have:=fx.step (g:=fk g g.length) (from_:=[((x.toNat:Nat):Int)]) (u:=x.toNat) (fx.one _ x.toNat) e;rwa [bS] at this
   exact s.trans ih.2
 exact(key v h).2
theorem zwC(bg:∀v y,y∈g.getD v []->0<=y/\y.toNat<g.length):fx (fk g g.length) [(v:Int)] u->fx g [(u:Int)] v:=by
 intro h;have key:∀w,fx (fk g g.length) [(v:Int)] w->fx g [(w:Int)] v:=by
  intro w hw
  induction hw with
  |base hx =>
   rw[cM] at hx;subst hx;rw[bS];exact fx.one g v
  |@step a x ha hx ih =>
   obtain⟨k,hk,rfl,y,hy,hya⟩:=(Bw (λv y hy=>(bg v y hy).2)<|aI _).1 hx;rw[bS];have s:fx g [(k:Int)] y.toNat:=fx.step (u:=k) (fx.one g k) hy;rw[hya] at s;exact s.trans ih
 exact key u h
theorem ZC(hl:∀x∈l,0<=x):fx g l v↔∃x∈l,fx g [x] v:=by
 constructor
 ·intro h
  induction h with
  |@base x hx=>exact⟨x,hx,.base zs⟩
  |step _ hx ih=>obtain⟨x,h1,h2⟩:=ih;exact⟨x,h1,.step h2 hx⟩
 rintro⟨x,hx,h⟩;have e:x=((x.toNat:Nat):Int):=by have:=hl x hx;omega
 rw[e] at h;exact fx.trans (.base hx) h
def kK(l:af):Nat->Bool:=λv=>l.contains (v:Int)
noncomputable def xj(g:ak)(n:Nat):Bool:=(g.getD n []).any λx=>bp g x.toNat==bp g n
noncomputable def okT(g:ak)(k i:Nat):Bool:=(List.range k).any λn=>bp g n==(i:Int)&&xj g n
noncomputable def mC(g:ak)(l:af)(i:Nat):Bool:=l.any λx=>bp g x.toNat==(i:Int)
noncomputable def y0(g:ak)(F:ak)(i:Nat):Bool:=okT g g.length i&&F.all λl=>mC g l i
theorem parts_eq{b:Nat}(ha:a<g.length)(hb:b<g.length):bp g a=bp g b↔pL g a b:=by
 rw[<-ZS (JZ g g.length) ha hb];unfold bp gn;omega
theorem uD(ha:a<g.length):0<=bp g a/\bp g a<(g.length:Int):=by
 have:=QM (JZ g g.length) ha;unfold bp gn;omega
theorem DZ(bg:∀v x,x∈g.getD v []->x.toNat<g.length)(hn:n<g.length):xj g n↔xJ g n:=by
 unfold xj;rw[iR];constructor
 ·rintro⟨x,hx,e⟩;rw[gC,parts_eq (bg n x hx) hn,lk] at e;exact⟨x,hx,e.1⟩
 rintro⟨x,hx,e⟩;exact⟨x,hx,by rw[gC,parts_eq (bg n x hx) hn,lk];exact⟨e,y6 hx⟩⟩
variable{F:ak}{i:Nat}
theorem MP(bg:∀v x,x∈g.getD v []->x.toNat<g.length)(hF:∀l∈F,bq l g.length){e:Nat}(he:e<g.length)(hi:bp g e=(i:Int)) :
  y0 g F i=true↔xJ g e/\∀S,S∈F.map kK->∃d,S d/\To g e d/\To g d e:=by
 unfold y0;rw[dL,kv];have h1:okT g g.length i=true↔xJ g e:=by
  unfold okT;rw[iR];constructor
  ·rintro⟨n,hn,q⟩;have hn:=eW.1 hn;rw[dL,gC,<-hi,parts_eq hn he,lk,DZ bg hn] at q;exact Ko q.2 q.1.1 q.1.2
  intro q;exact⟨e,eW.2 he,by rw[dL,gC];exact⟨hi,(DZ bg he).2 q⟩⟩
 rw[h1];refine and_congr_right λ_=>?_;constructor
 ·intro h S hS;obtain⟨l,hl,rfl⟩:=cU.1 hS;have:=h l hl;unfold mC at this;rw[iR] at this;obtain⟨x,hx,q⟩:=this;have Ik:=dn (hF l hl) hx;rw[gC,<-hi,parts_eq zo he,lk] at q;refine⟨x.toNat,?_,q.2,q.1⟩;unfold kK;rw[nb,w7 Ik.1];exact hx
 intro h l hl;obtain⟨d,d1,d2,d3⟩:=h (kK l)<|cU.2 ⟨l,hl,rfl⟩;unfold kK at d1;rw[nb] at d1;have Ik:=dn (hF l hl) d1;unfold mC;rw[iR];refine⟨(d:Int),d1,?_⟩;rw[bS,gC,<-hi,parts_eq zo he,lk];exact⟨d3,d2⟩
theorem zso(bg:∀l∈g,bq l g.length)(hF:∀l∈F,bq l g.length){ends:af}(he:∀x,x∈ends↔0<=x/\x<(g.length:Int)/\y0 g F (bp g x.toNat).toNat)(hv:v<g.length) :
  rS (fk g g.length) ends v=fwB g (F.map kK) v:=by
 have dV:=λk=>iO bg k;have FJ:∀v x,x∈g.getD v []->x.toNat<g.length:=λv x hx=>by have:=dn (dV v) hx;omega
 have S2:∀v x,x∈g.getD v []->0<=x/\x.toNat<g.length:=λv x hx=>by have:=dn (dV v) hx;omega
 refine zBj ?_;rw[AO,ZC λx hx=>((he x).1 hx).1];constructor
 ·rintro⟨x,hx,h⟩;obtain⟨a1,a2,a3⟩:=(he x).1 hx;obtain⟨e,rfl⟩:∃e:Nat,x=e:=⟨x.toNat,zo⟩;rw[bS] at a3;have OI:e<g.length:=zo;have hp:=uD OI;exact⟨e,zwC S2 h,(MP FJ hF OI zo).1 a3⟩
 rintro⟨c,h1,h2⟩;have iQ:=Hx FJ hv h1;have hp:=uD iQ;exact⟨(c:Int),(he _).2 ⟨zo,zo,by rw[bS];exact(MP FJ hF iQ zo).2 h2⟩,zw8 S2 hv h1⟩
theorem U2(g:ak)(k i:Nat):okT g (k+1) i=(okT g k i||(bp g k==(i:Int)&&xj g k)):=by
 unfold okT;rw[qa,BG];simp
theorem zux(h:k<l.length):mC g (l.take<|k+1) i=(mC g (l.take k) i||bp g (l.getD k 0).toNat==(i:Int)):=by
 unfold mC;rw[ld,aG h,BG,ay,aG h];simp
theorem V1{α:Type}{p:α->Bool}{l:List α}(h:k<l.length)(d:α):(l.take<|k+1).all p=((l.take k).all p&&p (l.getD k d)):=by
 rw[ld,aG h,Dn,ay,aG h];simp
theorem oZ{f f':aq}{b:Bool}(hz:z=i)(h:∀v,v<n->f' v=if v=i then b else f v):(bU n f).set z [aF b]=bU n f':=by
 subst hz;rw[wW];exact iw λv hv=>(h v hv).symm
theorem zzT(g:ak)(x:Int)(hx:0<=x/\x<(g.length:Int))(n:Nat)(hn:n<g.length):ar aj 266 [ab x,.aN [aL<|lL g],.aN [ab n]]<|aF<|bp g x.toNat==bp g n:=by
 refine bz fZ ?_;unfold lL aL;refine sR ?_;refine sL (dh x.toNat zo zo) ?_;refine sL (dh n zo hn) ?_;exact .refl _
theorem zv7(g:ak)(hn:g.length<=1000000)(kS:∀l∈g,bq l g.length)(hF:kL g)(F:ak)(G7:kL F)(Zs:∀l∈F,bq l g.length):ar aj 234 [bW g,aL<|lL g,bW F]<|bI g.length<|y0 g F:=by
 have dV:=λk=>iO kS k;have zOl:=λk=>iO Zs k;have rZ:=G7.len;refine bz fZ ?_;have hc:=λk (hk:k<g.length)=>kY (λn=>ab n) (λa=>by simp[Pure]) (g.getD k []) (by have:=hF.at k;omega) (λx=>bp g x.toNat==bp g k) 266 [.aN [aL<|lL g],.aN [ab k]] (by simp[ao,Pure,c9]) λa ha=>zzT g a (dn (dV k) ha) k hk;unfold bW;refine sR ?_;rw[aS];refine⟨zo,zo,zo,?_⟩;rw[bS,show List.map D.sc [Value.bool false]=[aF false] from rfl,n5];refine sW ?_;rw[aS];refine bT [0,2,4,7,19,20] (λk:Nat=>[(21,ab k)]) (λk=>[(1,.vec true 0 1<|bU g.length<|okT g k)]) (λk=>k<=g.length) (λk=>g.length-k) 0 ?_;refine gp ?_;rintro k hk;refine bl (λq0=>?_) λq0=>?_
 ·have q0:k<g.length:=sO;have hp:=uD q0;have e1:=U2 g k;refine sL (me (k:=k) zo q0) ?_;refine sN (hc k q0) ?_;rw[show((g.getD k []).any λx=>bp g x.toNat==bp g k)=xj g k from rfl];cases r:xj g k
  ·refine bJ ?_;refine⟨k+1,zo,zd,?_⟩;refine br 2 zs rfl sQ (sU ?_);exact bM<|iw λi _=>by rw[e1,r,Bool.and_false,uL]
  refine sW ?_;refine sL (dh k zo q0) ?_;refine sB ?_;refine⟨_,cX (bp g k).toNat zo zo,?_⟩;refine bJ ?_;refine⟨k+1,zo,zd,?_⟩;rw[oZ (i:=(bp g k).toNat) (f':=okT g<|k+1) zo λv _=>by
   rw[e1,r,yE];by_cases e:v=(bp g k).toNat
   ·rw[ae e,show(bp g k==(v:Int))=true by rw[gC];omega,Bool.or_true]
   rw[aa e,show(bp g k==(v:Int))=false by rw[beq_eq_false_iff_ne];omega,uL]]
  exact br 2 zs rfl sQ sQ
 have q0:k=g.length:=by have:¬k<g.length:=sO
                        omega
 subst q0;clear hc;rw[aS];refine bT [0,4,7,36,37] (λk:Nat=>[(38,ab k)]) (λk=>[(1,.vec true 0 1<|bU g.length λi=>okT g g.length i&&(F.take k).all λl=>mC g l i)]) (λk=>k<=F.length) (λk=>F.length-k) 0 ?_;refine sW ?_;refine⟨zo,by exact sK,by simp only[zC,List.all_nil,yE];rfl,?_⟩;rintro k hk;refine bl (λq0=>?_) λq0=>?_
 ·have q0:k<F.length:=sO;have TA:=G7.at k;refine sL (me (g:=F) (k:=k) zo q0) ?_;rw[aS];refine⟨zo,zo,zo,?_⟩;rw[bS,show List.map D.sc [Value.bool false]=[aF false] from rfl,n5];refine sW ?_;rw[aS];have D8:=λj (hj:j<(F.getD k []).length)=>dn (zOl k)<|fV hj;have eall:=λi=>V1 (p:=λl=>mC g l i) q0 [];generalize hle:F.getD k []=l at *;refine bT [0,4,7,12,36,37,38,45,46] (λj:Nat=>[(47,ab j)]) (λj=>[(2,.vec true 0 1<|bU g.length<|mC g<|l.take j)]) (λj=>j<=l.length) (λj=>l.length-j) 0 ?_;refine gp ?_;rintro j hj;refine bl (λq1=>?_) λq1=>?_
  ·have q1:j<l.length:=sO;have hx:=D8 j q1;have e1:=λi=>zux (g:=g) (i:=i) q1;refine sL (eY (l:=l) (k:=j) zo q1) ?_;generalize l.getD j 0=x at *;have hp:=uD (g:=g) (a:=x.toNat) zo;refine sL (dh x.toNat zo zo) ?_;refine sB ?_;refine⟨_,cX (bp g x.toNat).toNat zo zo,?_⟩;refine bJ ?_;refine⟨j+1,zo,zd,bf (by exact sK) ?_⟩;rw[oZ (i:=(bp g x.toNat).toNat) (f':=mC g<|l.take<|j+1) zo λv _=>by
    rw[e1];by_cases e:v=(bp g x.toNat).toNat
    ·rw[ae e,show(bp g x.toNat==(v:Int))=true by rw[gC];omega,Bool.or_true]
    rw[aa e,show(bp g x.toNat==(v:Int))=false by rw[beq_eq_false_iff_ne];omega,uL]]
   rfl
  have q1:j=l.length:=by have:¬j<l.length:=sO
                         omega
  subst q1;rw[gz];generalize hA:(λi=>okT g g.length i&&(F.take k).all λl=>mC g l i)=A at *;have eA:∀i,(okT g g.length i&&(F.take<|k+1).all λl=>mC g l i)=(A i&&mC g l i):=λi=>by rw[eall,<-hA,Bool.and_assoc]
  refine bT [0,4,7,12,36,37,38,59] (λi:Nat=>[(60,ab i)]) (λi=>[(1,.vec true 0 1<|bU g.length λv=>if v<i then A v&&mC g l v else A v)]) (λi=>i<=g.length) (λi=>g.length-i) 0 ?_;refine gp ?_;rintro i hi;refine bl (λq2=>?_) λq2=>?_
  ·have q2:i<g.length:=sO;have eat:(if i<i then A i&&mC g l i else A i)=A i:=aa zo;have eput:∀b,b=(A i&&mC g l i)->∀v,v<g.length->(if v<i+1 then A v&&mC g l v else A v)=if v=i then b else if v<i then A v&&mC g l v else A v:=λb hb v _=>by
    by_cases e:v=i
    ·subst e;rw[ae zo,ae rfl,hb]
    rw[aa e];by_cases e2:v<i
    ·rw[ae e2,ae zo]
    rw[aa e2,aa zo]
   refine sB ?_;refine⟨_,cX i zo q2,?_⟩;rw[eat];cases r:A i
   ·refine ew ?_;refine⟨_,cX i zo q2,?_⟩;refine bJ ?_;refine⟨i+1,zo,zd,bf (by exact sK) ?_⟩;rw[oZ (i:=i) zo<|eput false<|by rw[r];rfl];rfl
   refine ew ?_;refine⟨_,cX i zo q2,?_⟩;refine ew ?_;refine⟨_,cX i zo q2,?_⟩;refine bJ ?_;refine⟨i+1,zo,zd,bf (by exact sK) ?_⟩;rw[oZ (i:=i) zo<|eput (mC g l i)<|by rw[r];rfl];rfl
  have q2:i=g.length:=by have:¬i<g.length:=sO
                         omega
  subst q2;refine sI ?_;refine⟨k+1,zo,zd,?_⟩;dsimp only;refine br 2 zs rfl sQ (sU ?_);exact bM<|iw λi hi=>by rw[ae hi,eA]
 have q0:k=F.length:=by have:¬k<F.length:=sO
                        omega
 subst q0;rw[gz];exact zW rfl

structure ba where
 start:af
 next:ak
 label:af
 fair:ak
def ba.cells(W:ba):aZ:=[aL W.start,bW W.next,cY W.label,bW W.fair]
def jQ(W:ba):D:=.agg W.cells
variable(W:ba)
@[simp] theorem Du:ao W.cells:=by simp[ba.cells,ao,c9,lu,qR]
@[simp] theorem Ur:Pure<|jQ W:=by simp[jQ,Pure,Du]
structure ba.Fits(W:ba):Prop where
 start:W.start.length<=17592186043904
 next:W.next.length<=17592186043904
 label:W.label.length<=17592186043904
 fair:W.fair.length<=17592186043904
 AS:∀l∈W.next,l.length<=17592186043904
 AY:∀l∈W.fair,l.length<=17592186043904
def ba.aV(W:ba):Int :=
 if 600<W.next.length\/80<W.fair.length then 2
 else if W.label.length≠W.next.length\/bq W.start W.next.length=false then 1
 else if (W.next.any λl=>l.isEmpty||!(bq l W.next.length))=true then 1
 else if (W.fair.any λl=>!(bq l W.next.length))=true then 1
 else 0
theorem zyF(x:Int)(n:Nat):ar aj 185 [ab x,.aN [ab n]]<|aF<|decide (x<0)||decide (x>=(n:Int)):=by
 refine bz fZ ?_;refine sRS (λh=>?_) λh=>?_
 ·exact bL zs
 exact bL zs
variable(l:af)
theorem JO(hl:l.length<=9223372036854775807)(n:Nat):ar aj 110 [aL l,ab n] (.sc (.bool !(bq l n))):=by
 refine bV ?_;refine sN (kY (λn=>ab n) (λa=>by simp[Pure]) l hl (λx=>decide (x<0)||decide (x>=(n:Int))) 185 [.aN [ab n]] (by simp[ao,Pure]) λa _=>zyF a n) ?_;rw[OR];exact .refl _
theorem zui(hl:l.length<=9223372036854775807)(n:Nat):ar aj 112 [aL l,.aN [ab n]] (.sc (.bool !(bq l n))):=by
 refine bV ?_;refine sC (JO l hl n) ?_;exact .refl _
theorem G1(hW:W.Fits):ar aj 52 [jQ W]<|ab W.aV:=by
 have b1:=hW.start;have b2:=hW.next;have b3:=hW.label;have b4:=hW.fair;refine bV ?_;rw[aS];have fin:∀{H:aB} {z:Int},z=W.aV->Deep H (ab z) (ab W.aV):=λh=>h▸.refl _;refine sS (λh1=>?_) λh1=>?_
 ·exact fin<|by unfold ba.aV;rw[ae<|sO]
 rw[aS];refine sS (λh2=>?_) λh2=>?_
 ·exact fin<|by unfold ba.aV;rw[ae<|sO]
 have c1:¬(600<W.next.length\/80<W.fair.length):=sO;rw[aS];refine sS (λh3=>?_) λh3=>?_
 ·exact fin<|by unfold ba.aV;rw[aa c1,ae<|sO]
 refine sC (JO W.start zo W.next.length) ?_;refine sS (λh4=>?_) λh4=>?_
 ·exact fin<|by unfold ba.aV;rw[aa c1,ae (.inr<|by simpa using h4)]
 have c2:¬(W.label.length≠W.next.length\/bq W.start W.next.length=false):=by
  rintro(q|q)
  ·exact sO
  rw[q] at h4;cases h4
 refine bT [1,3,29,30] (λk:Nat=>[(31,ab k)]) (λ_=>[]) (λk=>k<=W.next.length/\∀j (hj:j<k) (hl:j<W.next.length),(W.next[j].isEmpty||!(bq W.next[j] W.next.length))=false) (λk=>W.next.length-k) 0 ?_;refine sW ?_;refine⟨⟨zo,λj hj=>zo⟩,by exact sK,rfl,?_⟩;rintro k ⟨hk,dg⟩;refine bl (λg=>?_) λg=>?_
 ·have au:k<W.next.length:=sO;refine sL (Nv (k:=k) zo au) ?_;rw[aS];have bk:=hW.AS _<|ig au;refine sS (λg1=>?_) λg1=>?_
  ·have e1:(W.next[k]).isEmpty:=(by rw[List.isEmpty_iff_length_eq_zero];exact sO);exact fin<|by unfold ba.aV;rw[aa c1,aa c2,ae<|L3 au<|by rw[e1];rfl]
  have e1:(W.next[k]).isEmpty=false:=(by rw[<-mP,List.isEmpty_iff_length_eq_zero];exact sO);refine sC (JO W.next[k] zo W.next.length) ?_;refine sS (λg2=>?_) λg2=>?_
  ·exact fin<|by unfold ba.aV;rw[aa c1,aa c2,ae<|L3 au<|by rw[g2,e1];rfl]
  refine sI ?_;refine⟨k+1,⟨zo,λj hj hl=>?_⟩,zd,bf (by exact sK) rfl⟩;by_cases e:j=k
  ·subst e;rw[e1,g2];rfl
  exact dg j zo hl
 have au:¬k<W.next.length:=sO;have c3:¬(W.next.any λl=>l.isEmpty||!(bq l W.next.length))=true:=by rw[MJ λj hj=>dg j zo hj];simp
 refine sN (Nq aL c9 W.fair zo (λl=>!(bq l W.next.length)) 112 [.aN [ab W.next.length]] (by simp[ao,Pure]) λa ha=>zui a (by have:=hW.AY a ha;omega) _) ?_;refine sS (λg3=>?_) λg3=>?_
 ·exact fin<|by unfold ba.aV;rw[aa c1,aa c2,aa c3,ae g3]
 exact fin<|by unfold ba.aV;rw[aa c1,aa c2,aa c3,aa<|by rw[g3];simp]
theorem vm(h:W.aV=0):W.label.length=W.next.length/\W.next.length<=600/\W.fair.length<=80/\bq W.start W.next.length/\(∀l∈W.next,l.length≠0/\bq l W.next.length)/\∀l∈W.fair,bq l W.next.length:=by
 unfold ba.aV at h;split at h
 ·exact absurd h zc
 split at h
 ·exact absurd h zc
 split at h
 ·exact absurd h zc
 split at h
 ·exact absurd h zc
 rename_i h1 h2 h3 h4;refine⟨zo,zo,zo,?_,λl hl=>?_,λl hl=>?_⟩
 ·have:=not_or.1 h2;simpa using this.2
 ·rw[mP,oP] at h3;have:=h3 l hl;simp only[jh,oG,not_or,Bool.not_eq_false,List.isEmpty_iff_length_eq_zero] at this;exact this
 rw[mP,oP] at h4;simpa using h4 l hl
section
def zg(n:Int):aZ:=[ab n]
@[simp] theorem Uf(n:Int):aK m<|zg n:=by simp[zg,aK,az]
theorem zsb(g:ak)(hg:od g=0)(hF:kL g):ar aj 181 [bW g]<|bW<|fk g g.length:=by
 obtain⟨hn,bg⟩:=zv.1 hg;refine bz fZ ?_;unfold bW;refine sR ?_;rw[aS];refine⟨zo,zo,zo,?_⟩;rw[bS];refine sW ?_;refine dk (Gb 0 1 g.length 0 zs rfl) ?_;refine fy [3,12,13] (λn:Nat=>[(14,ab n)]) (λn=>.vec true 0 1 (lr 1<|fk g n)::gw 1 zg (fk g n)) (λn=>n<=g.length) (λn=>g.length-n) 0 ?_;refine sW ?_;refine⟨zo,by exact sK,?_,?_⟩
 ·show _::_=_::_;rw[GI 1 _ zg];exact bK (λx=>an.vec true 0 1 x::_)<|IX (α:=Int) 1 _
 rintro n hnn;refine sWR ?_;rw[aS];have lG:=sb g n;refine sS (λh1=>?_) λh1=>?_
 ·have jx:n<g.length:=sO;refine sL (me (k:=n) zo jx) ?_;rw[aS];have lx:=hF.at n;have lR:∀k,(nM g n k<|fk g n).length=g.length:=λk=>by rw[GB,lG]
  refine fy [3,4,12,13,14,19,20] (λk:Nat=>[(21,ab k)]) (λk=>.vec true 0 1 (lr 1<|nM g n k<|fk g n)::gw 1 zg (nM g n k<|fk g n)) (λk=>k<=(g.getD n []).length) (λk=>(g.getD n []).length-k) 0 ?_;refine gp ?_;rintro k hk;have hl:=lR k;refine bl (λh2=>?_) λh2=>?_
  ·have au:k<(g.getD n []).length:=sO;have hx:=U4 (iO bg n) au;refine sL (eY (k:=k) zo au) ?_;have et:nM g n (k+1) (fk g n)=tY (nM g n k (fk g n)) n ((g.getD n []).getD k 0).toNat:=rfl;generalize (g.getD n []).getD k 0=x at hx et;refine sB ?_;refine⟨_,pH (i:=x.toNat) zo zo,?_⟩;refine sW ?_;refine MW zo ?_;refine sW ?_;generalize hR:nM g n k (fk g n)=R at hl et⊢;rw[xS];have dV:(R.getD x.toNat []).length<=n+1:=by
    have h5:=C2 g n x.toNat;rcases GD (g:=g) (n:=n) (m:=x.toNat) (L:=fk g n) k with h|h
    ·rw[<-hR,h];omega
    rw[<-hR,h,cL,jt];omega
   have eE:tY R n x.toNat=if (R.getD x.toNat []).length=0\/(R.getD x.toNat []).getD ((R.getD x.toNat []).length-1) 0≠(n:Int) then R.set x.toNat<|R.getD x.toNat []++[(n:Int)] else R:=rfl
   cases h3:(((R.getD x.toNat []).length:Int)==0)
   ·refine sW ?_;have b7:(R.getD x.toNat []).length≠0:=sO;refine sB ?_;refine⟨_,pH (i:=x.toNat) zo zo,?_⟩;refine bJ ?_;refine MW zo ?_;refine sW ?_;refine⟨zo,zo,?_⟩;refine sW ?_;refine MW zo ?_;refine sW ?_;refine⟨_,eY (l:=R.getD x.toNat []) (k:=(R.getD x.toNat []).length-1) zo zo,?_⟩;refine sWS (λh4=>?_) λh4=>?_
    ·have rW:(R.getD x.toNat []).length=0\/(R.getD x.toNat []).getD ((R.getD x.toNat []).length-1) 0≠(n:Int):=.inr<|sO;refine sB ?_;refine⟨_,pH (i:=x.toNat) zo zo,?_⟩;refine sW ?_;refine D0 ?_;refine sW ?_
     (repeat (first|(refine kM 0 rfl ?_;((conv=>whnf);repeat(refine⟨rfl,?_⟩;conv=>whnf)))|(refine kP 0 rfl ?_;((conv=>whnf);repeat(refine⟨rfl,?_⟩;conv=>whnf)))|(refine kM 1 rfl ?_;((conv=>whnf);repeat(refine⟨rfl,?_⟩;conv=>whnf)))|(refine kP 1 rfl ?_;((conv=>whnf);repeat(refine⟨rfl,?_⟩;conv=>whnf)))))
     refine Dm zo ?_;refine sW ?_;refine⟨by unfold mu;simp only[mi,gO,cj,dE];omega,?_⟩;refine sW ?_;refine Io (R.getD x.toNat []++[(n:Int)]) zo ?_ ?_
     ·exact FD
     refine ew ?_;refine⟨_,pH (i:=x.toNat) zo zo,?_⟩;refine bJ ?_;refine⟨k+1,zo,zd,?_⟩;dsimp only;rw[et,eE,ae rW];refine br (g.length+1) (by simp[lG]) (by simp[hl]) (by exact sQ) ⟨⟨rfl,rfl,rfl,bM<|Ep zo zo _ zs,EA<|by simp;omega⟩,EG Uf⟩
    have rW:¬((R.getD x.toNat []).length=0\/(R.getD x.toNat []).getD ((R.getD x.toNat []).length-1) 0≠(n:Int)):=by
     rintro(q|q)
     ·exact b7 q
     exact sO
    refine sI ?_;refine⟨k+1,zo,zd,?_⟩;dsimp only;rw[et,eE,aa rW];exact bf (by exact sK) rfl
   refine sW ?_;have b7:(R.getD x.toNat []).length=0:=sO;have rW:(R.getD x.toNat []).length=0\/(R.getD x.toNat []).getD ((R.getD x.toNat []).length-1) 0≠(n:Int):=.inl b7;refine sB ?_;refine⟨_,pH (i:=x.toNat) zo zo,?_⟩;refine sW ?_;refine D0 ?_;refine sW ?_
   (repeat (first|(refine kM 0 rfl ?_;((conv=>whnf);repeat(refine⟨rfl,?_⟩;conv=>whnf)))|(refine kP 0 rfl ?_;((conv=>whnf);repeat(refine⟨rfl,?_⟩;conv=>whnf)))|(refine kM 1 rfl ?_;((conv=>whnf);repeat(refine⟨rfl,?_⟩;conv=>whnf)))|(refine kP 1 rfl ?_;((conv=>whnf);repeat(refine⟨rfl,?_⟩;conv=>whnf)))))
   refine Dm zo ?_;refine sW ?_;refine⟨by unfold mu;simp only[mi,gO,cj,dE];omega,?_⟩;refine sW ?_;refine Io (R.getD x.toNat []++[(n:Int)]) zo ?_ ?_
   ·exact FD
   refine ew ?_;refine⟨_,pH (i:=x.toNat) zo zo,?_⟩;refine bJ ?_;refine⟨k+1,zo,zd,?_⟩;dsimp only;rw[et,eE,ae rW];refine br (g.length+1) (by simp[lG]) (by simp[hl]) (by exact sQ) ⟨⟨rfl,rfl,rfl,bM<|Ep zo zo _ zs,EA<|by simp;omega⟩,EG Uf⟩
  have au:k=(g.getD n []).length:=by have:¬k<(g.getD n []).length:=sO
                                     omega
  subst au;refine sI ?_;refine⟨n+1,zo,zd,?_⟩;exact bf (by exact sK) rfl
 have jx:n=g.length:=by have:¬n<g.length:=sO
                        omega
 subst jx;have:=Zd (H:=an.vec true 0 1 (lr 1<|fk g g.length)::gw 1 zg (fk g g.length)) (b:=1) (ai:=1) (c:=zg) (L:=fk g g.length) (λi hi=>by
  rw[show i+1=i+1 from rfl,Fv];exact Bn hi)
 refine .own _ _ _ _ _ _ _ _ rfl ?_;rw[dt<|by simp[lG]];exact this
end
section
variable{Z:af}{lo hi:Nat}
open Classical in
theorem F9(h1:lo<hi)(h2:hi<=Z.length):(Z.take hi).drop lo=Z.getD lo 0::(Z.take hi).drop (lo+1):=by
 rw[uu<|by rw[gO];omega,List.getElem_take,ay,aG zo];rfl
theorem Bh{k:Int}:((aE Z).take hi).drop lo++[[ab k]]=aE ((Z.take hi).drop lo++[k]):=by
 simp[aE]
end
section
def lQ(l:af):List Nat:=l.map Int.toNat
theorem Gw(l r:af):lQ (l++r)=lQ l++lQ r:=by simp[lQ]
theorem Cw{l:af}:n∈lQ l↔∃x∈l,x.toNat=n:=by simp[lQ]
theorem W0(x:Int)(r:af):lQ (x::r)=x.toNat::lQ r:=rfl
end
section
end
variable{f:FuncId}{P:bt}{args':aZ}{d:D}{H:aB}
theorem zsx{args:aZ}(hd:im H args args')(h:ar P f args' d):cd P f args H d<|vU H:=by
 obtain⟨hf,hp⟩:=h;refine⟨hf,by rw[vj,aS];exact aI _,λJ F w vs aA jm gM=>?_⟩;have bF:∀b,F b\/iU J b->b<w.heap.size:=λb hb=>hb.elim (aA.lt b) λ⟨i,s,hi,hs⟩=>aA.iH hi hs;refine(hp J (λb=>F b\/iU J b) w _ (aA.lt.mono (λ_ h=>.inl h) (λ_ _=>rfl) bF)<|wT aA (λ_ _ h=>h) _ _ _ hd gM).mono λe w' hR=>?_;obtain⟨v,F',rfl,h1,h2,h3⟩:=hR;have jr:∀b,b<w.heap.size->w'.heap[b]? = w.heap[b]?:=λb hb=>h3.block b hb<|pI b;refine⟨v,J,F',rfl,⟨λi s hs=>?_,aA.one,λi s b o g1 g2 g3 g4=>?_,aA.lt.mono (λb hb=>h3.grow b (.inl hb)) (λb hb=>jr b<|aA.lt b hb) h1⟩,λid hid=>?_,js (Ii J) (λ_ h=>h) (λ_ _=>rfl) _ _ h2,?_⟩
 ·obtain⟨o,q1,q2⟩:=aA.obj i s hs;refine⟨o.frozen,?_,?_⟩
  ·rw[vj,cy,q1];rfl
  have q3:=qO (J':=J) (F':=F') (w':=w') (aX.le_refl J) (λb hb=>h3.grow b (.inl hb)) (λb hb=>jr b<|aA.lt b hb) (λb hb=>jr b<|aA.iH hs hb) q2
  cases o with
  |row m cs =>
   obtain⟨k1,k2,k3,k4,k5,b,vals,te,t1,t2,t3,t4,t5⟩:=q3;exact⟨k1,k2,k3,k4,k5,b,vals,te,t1,t2,t3,t4,λ_=>h3.grow b (.inr ⟨i,s,hs,by simp[Site.cP,k1,t1]⟩)⟩
  |vec m v e xs =>
   obtain⟨k1,k2,k3,k4,k5,k6⟩:=q3;refine⟨k1,k2,k3,k4,k5,?_⟩;by_cases hz:s.cap=0
   ·exact .inl hz
   rcases k6 with k6|⟨b,o,vals,te,t1,t2,t3,t4,t5⟩
   ·exact .inl k6
   exact .inr ⟨b,o,vals,te,t1,t2,t3,t4,λ_=>h3.grow b (.inr ⟨i,s,hs,by simp[Site.cP,k1,hz,t1]⟩)⟩
  |dI m I=>exact q3
 ·exfalso;rw[vj,cy] at g3
  cases e:H[i]? with
  |none=>rw[e] at g3;cases g3
  |some x =>
   rw[e] at g3;cases x<;>cases g3<;>cases g4
 ·rw[vj,aS];exact jm id hid
 exact⟨h3.os,h3.tape,h3.output,h3.size,λb hb _=>jr b hb,λb hb=>jr b<|aA.lt b hb,aX.le_refl J,λb hb=>h3.grow b (.inl hb),λb hb=>.inl hb,λb hb=>by
  rcases h3.oa b hb with q|q|q
  ·rcases q with q|q
   ·exact .inl q
   exact .inr (.inl q)
  ·exact absurd q<|pI b
  exact .inr (.inr q)⟩
theorem HZ{args0 args:aZ}{H0 H:aB}(hd:im H0 args0 args')(h:ar P f args' d)(hp:Pure d)(L:List Nat)(hL:L.length=H0.length)(dO:L.Nodup)
  (gM:aK H0.length args0) (oM:kl H0.length H0) (e1:bO (λi=>L.getD i 0) args0=args)
  (h1:∀i o,H0[i]? = some o->H[L.getD i 0]? = some (o.aO λi=>L.getD i 0)):qx P f args H d (lh H L<|(vU H0).map<|an.aO λi=>L.getD i 0) L :=
 M3 (zsx hd h) (by rw[vj,aS]) L hL dO gM oM e1 (iK _ hp) h1
theorem BB{pre post:aZ}{H:aB}{id aw lo hi ai:Nat}{q:Bool}{xs:fp}(h:ar P f (pre++.a8 ai ((xs.take hi).drop lo)::post) d)(hp:Pure d)(tD:ao pre)(xw:ao post)(l4:dX xs)
  (hid:H[id]? = some (.vec q aw ai xs)):qx P f (pre++.own id aw lo hi::post) H d (H.set id (.vec false aw ai xs)) [id]:=by
 have rW:∀(a b:aZ) (ρ:Nat->Nat),bO ρ (a++b)=bO ρ a++bO ρ b:=λa b ρ=>by
  induction a with
  |nil=>simp only[bO,m9]
  |cons x r ih=>simp only[mJ,bO,ih]
 have EM:∀(a b:aZ),aK 1 a->aK 1 b->aK 1 (a++b):=λa b ha hb=>by
  induction a with
  |nil=>exact hb
  |cons x r ih=>simp only[aK,mJ] at ha⊢;exact⟨ha.1,ih ha.2⟩
 have hda:∀(a b c e:aZ),im [.vec q aw ai xs] a b->im [.vec q aw ai xs] c e->im [.vec q aw ai xs] (a++c) (b++e):=λa b c e ha hc=>by
  induction a generalizing b with
  |nil=>cases ha;exact hc
  |cons x r ih=>cases ha with|cons _ _ _ _ h k=>exact .cons _ _ _ _ h<|ih _ k
 have:=HZ (args0:=pre++.own 0 aw lo hi::post) (H0:=[.vec q aw ai xs]) (H:=H) (args:=pre++.own id aw lo hi::post)
  (hda _ _ _ _ (oX pre) (.cons _ _ _ _ (.own _ _ _ _ _ _ _ _ rfl (fW _))<|oX post)) h hp [id] rfl zs (EM _ _ (cu _ tD) ⟨by simp[az],cu _ xw⟩) ⟨bP _ l4,trivial⟩
  (by rw[rW,l6 _ tD];simp only[bO,D.aO,l6 _ xw];rfl) (λi o ho=>by
   cases i with
   |zero =>
    simp at ho;subst ho;show H[id]? = _;rw[hid];simp only[an.aO,jb _ l4]
   |succ i=>simp at ho)
 simpa [vU,an.frozen,an.aO,jb _ l4,lh] using this
def jq(N:Nat)(T:Nat->af)(k:Nat)(c:af):ak:=(List.range N).map λi=>if i<k then T i else if i=k then c else []
@[simp] theorem zu8(N:Nat)(T:Nat->af)(k:Nat)(c:af):(jq N T k c).length=N:=by simp[jq]
variable{N:Nat}{T:Nat->af}{c:af}
theorem zvi(h:i<N):(jq N T k c).getD i []=if i<k then T i else if i=k then c else []:=by
 rw[ay,aG<|by simpa using h];simp[jq]
theorem zyM(h:k<N):(jq N T k c).getD k []=c:=by
 rw[zvi h,aa zo,ae rfl]
theorem zxy{c':af}(h:k<N):(jq N T k c).set k c'=jq N T k c':=by
 refine qX λi=>?_;rw[wG];by_cases e:k=i
 ·subst e;rw[ae rfl,ae<|by simpa using h,aG<|by simpa using h];simp[jq]
 rw[aa e];by_cases hi:i<N
 ·rw[aG<|by simpa using hi,aG<|by simpa using hi];simp only[jq,List.getElem_map,List.getElem_range]
  congr 1
  by_cases q:i<k
  ·rw[ae q,ae q]
  rw[aa q,aa q,aa λz=>e z.symm,aa λz=>e z.symm]
 rw[db<|by simp;omega,db<|by simp;omega]
theorem zue:jq N T k (T k)=jq N T (k+1) []:=by
 unfold jq;refine uy λi _=>?_;by_cases q:i<k
 ·rw[ae q,ae zo]
 rw[aa q];by_cases e:i=k
 ·subst e;rw[ae rfl,ae zo]
 rw[aa e,aa zo];split<;>rfl
variable(N:Nat)
theorem ztV(T:Nat->af):jq N T 0 []=List.replicate N []:=by
 refine qX λi=>?_;by_cases h:i<N
 ·rw[aG<|by simpa using h,aG<|by simpa using h];simp[jq]
 rw[db<|by simp;omega,db<|by simp;omega]
theorem zs5(T:Nat->af)(c:af):jq N T N c=(List.range N).map T:=by
 unfold jq;exact uy λi hi=>ae<|eW.1 hi
theorem zyl(bg:∀l∈g,bq l g.length)(z:aq):∀l∈gQ g z,bq l (gQ g z).length:=by
 intro l hl;obtain⟨v,hv,rfl⟩:=cU.1 hl;rw[Lg];split
 ·exact j9 λx hx=>dn (iO bg v) (nG.1 hx).1
 rfl
theorem zsA(hF:kL g)(z:aq):kL<|gQ g z:=by
 refine⟨by rw[Lg];exact hF.len,λl hl=>?_⟩;obtain⟨v,hv,rfl⟩:=cU.1 hl;have:=hF.at v;split
 ·exact ia (zr _ _) this
 simp
theorem ZT(hg:od g=0):od (fk g g.length)=0/\kL (fk g g.length)/\rN (fk g g.length) (λ_=>false)<=g.length*g.length:=by
 obtain⟨hn,bg⟩:=zv.1 hg;have FJ:∀v x,x∈g.getD v []->x.toNat<g.length:=λv x hx=>by have:=dn (iO bg v) hx;omega
 have hr:∀l∈fk g g.length,∃m,l=(fk g g.length).getD m []:=λl hl=>by
  obtain⟨m,hm,rfl⟩:=kn.1 hl;exact⟨m,by rw[ay,aG hm];rfl⟩
 refine⟨zv.2 ⟨by rw[sb];exact hn,λl hl=>?_⟩,⟨by rw[sb];omega,λl hl=>?_⟩,?_⟩
 ·obtain⟨m,rfl⟩:=hr l hl;rw[sb];refine j9 λx hx=>?_;obtain⟨k,hk,rfl,_⟩:=(Bw FJ<|aI _).1 hx;omega
 ·obtain⟨m,rfl⟩:=hr l hl;have:=C2 g g.length m;omega
 have key:∀n,iV (λv=>if false=true then 0 else ((fk g g.length).getD v []).length) n<=n*g.length:=λn=>by
  induction n with
  |zero=>simp[iV]
  |succ n ih =>
   simp only[iV] at ih⊢;have:=C2 g g.length n;rw[iJ,Nat.one_mul];simp only[yQ,if_false] at ih⊢;omega
 have:=key (fk g g.length).length;rw[sb] at this;unfold rN;rw[sb];exact this
theorem QU(g:ak)(hg:od g=0)(hF:kL g):ar aj 99 [bW g] (.aJ [bW<|fk g g.length,ab 0]):=by
 refine bV ?_;refine sC (Pz g hF) ?_;refine sS (λh1=>?_) λh1=>?_
 ·exfalso;exact sO
 refine sC (zsb g hg hF) ?_;exact .refl _
theorem ZY(hn:n=L.length):D.a8 1 (((L.map λl=>[aL l]).take n).drop 0)=bW L:=by
 subst hn;unfold bW;rw[dt zs]
@[simp] theorem zAG:az m (cY l)↔True:=⟨λ_=>trivial,λ_=>cp _<|qR l⟩
def gA(g:ak)(z:aq)(v k:Nat):af:=if z v=true then ((g.getD v []).take k).filter λx=>z x.toNat else []
theorem zsP{z:aq}(h:k<(g.getD v []).length):gA g z v (k+1)=if z v=true/\z ((g.getD v []).getD k 0).toNat=true then gA g z v k++[(g.getD v []).getD k 0] else gA g z v k:=by
 unfold gA;generalize g.getD v []=L at h⊢;cases hz:z v
 ·simp
 rw[ae rfl,ae rfl,ld,aG h,Da,ay,aG h];simp only[A3,pe,true_and,yF,List.filter_nil];split<;>simp
variable(g:ak)
theorem zwb(z:aq)(v k:Nat):(gA g z v k).length<=k:=by
 unfold gA;split
 ·exact ia (zr _ _)<|by simp;omega
 simp
theorem zwV(z:aq):(List.range g.length).map (λv=>gA g z v (g.getD v []).length)=gQ g z:=by
 unfold gQ gA;exact uy λv _=>by rw[gz]
def gV(fB:aq)(k:Nat):af:=((List.range k).filter fB).map λn:Nat=>(n:Int)
variable(fB:aq)
theorem HT(k:Nat):gV fB (k+1)=if fB k=true then gV fB k++[(k:Int)] else gV fB k:=by
 unfold gV;rw[qa,Da,mq];simp only[yF,List.filter_nil];split<;>simp
theorem IF(k:Nat):(gV fB k).length<=k:=by
 unfold gV;rw[aS];exact ia (zr _ _) zs
theorem ta{fB:aq}:x∈gV fB k↔0<=x/\x<(k:Int)/\fB x.toNat:=by
 unfold gV;rw[cU];constructor
 ·rintro⟨n,hn,rfl⟩;obtain⟨h1,h2⟩:=nG.1 hn;have:=eW.1 h1;exact⟨zo,zo,by rw[bS];exact h2⟩
 rintro⟨h1,h2,h3⟩;exact⟨x.toNat,nG.2 ⟨eW.2 zo,h3⟩,zo⟩
def zA4:PC:=SO [Bi 33 .lss 32 31] (.seq (CX 33 2) (.seq (.block 3<|SO [Ia 34 1 30 32,Lo 35 34,qm 9 35]<|SO [qm 36 1,qm 37 6,Ia 38 1 36 37,Lo 39 38,qm 40 39,GT 41 40 (.move 1),GT 42 40 (.move 9),GT 43 40 (.lg 1 41 42),GT 44 40 (.fu 43),Pk 45 40 44 cF]<|If 45<|OP [qm 46 5,qm 47 6,qm 48 5,qm 49 6,Ia 50 1 48 49,Lo 51 50,qm 52 9,Bs 53 1 1 [52],Ap 54 1 8 51 53,Ia 55 1 46 47,So 1 55 54])<|OP [Bi 56 .add 32 K1,qm 32 56]))
def zCo:PC:=SO [Bi 26 .lss 25 24] (.seq (CX 26 0) (.seq (.block 1<|SO [qm 27 25,Ia 28 1 23 25,Lo 29 28,qm 6 27,qm 7 29]<|SO [qm 30 7,Ln 31 30,Mv 32 K0]<|BL 2 zA4)<|OP [Bi 57 .add 25 K1,qm 25 57]))
def YR:PC:=SO [Bi 68 .lss 67 66] (.seq (CX 68 4) (.seq (.block 5<|SO [qm 69 67,qm 13 69]<|SO [qm 70 1,qm 71 13,Ia 72 1 70 71,Lo 73 72,qm 74 73,GT 75 74 (.move 11),GT 76 74 (.move 10),GT 77 74 (.move 13),GT 78 74 (.lg 1 76 77),GT 79 74 (.fu 78),GT 80 74 (.lg 1 75 79),GT 81 74 (.fu 80),Pk 82 74 81 cF]<|If 82<|OP [qm 83 12,qm 84 13,Bs 85 1 1 [84],Ap 86 1 8 83 85,qm 12 86])<|OP [Bi 87 .add 67 K1,qm 67 87]))
def c179:PC:=SO [Bx 2 0,Mv 4 cN]<|SO [Fa 18 1 2,Lo 19 18,Ln 20 19,q 21 (.wo 1 24 [vN] 20 20),qm 5 21] (.seq (SO [Fa 22 1 2,Lo 23 22,Ln 24 23,Mv 25 K0] (.stop<|BL 0 zCo))<|SO [qm 58 5,Ca 59 124 [58],qm 10 59]<|SO [qm 60 5,qm 61 10,Fa 62 3 2,Lo 63 62,Ca 64 234 [60,61,63],qm 11 64]<|SO [Mv 12 cN] (.seq (SO [qm 65 5,Ln 66 65,Mv 67 K0]<|BL 4 YR)<|SO [qm 89 5,Ca 90 99 [89],qm 88 90,Xt 91 0 88,Xt 92 1 88,qm 14 91,qm 15 92]<|SO [qm 94 14,qm 95 12,Ca 96 163 [94,95],qm 93 96,Xt 97 0 93,Xt 98 1 93,qm 16 97,qm 17 98]<|SO [qm 99 16,qm 4 99] .ret))
theorem Wf(hW:W.Fits)(hc:W.aV=0)(z:aq):ar aj 179 [jQ W,bI W.next.length z]<|bI W.next.length<|fwB (gQ W.next z)<|W.fair.map kK:=by
 obtain⟨_,v7,CN,_,iZ,iX⟩:=vm W hc;have kS:∀l∈W.next,bq l W.next.length:=λl hl=>(iZ l hl).2;have Jl:kL W.next:=⟨hW.next,hW.AS⟩;have G7:kL W.fair:=⟨hW.fair,hW.AY⟩;have dV:=λk=>iO kS k;refine bz (fJ 100 [.tmp 4] c179 Tryz.func179) ?_;unfold jQ;refine sR ?_;rw[aS];refine⟨zo,zo,zo,?_⟩;rw[bS];refine sW ?_;rw[aS];refine Bo (λ_:Unit=>[(1,bI W.next.length z),(2,.loc 0 0),(5,.own 1 0 0 W.next.length)]) (λ_=>[.row true W.cells,.vec true 0 1<|(gQ W.next z).map λl=>[aL l]]) (λ_=>True) ?_ ?_
 ·refine sR ?_;refine dk (Gb 1 1 W.next.length 0 zs rfl) ?_;refine fy [1,2,5,23,24] (λk:Nat=>[(25,ab k)]) (λk=>.row true W.cells::.vec true 0 1 (lr 2<|jq W.next.length (λv=>gA W.next z v (W.next.getD v []).length) k [])::gw 1 sY (jq W.next.length (λv=>gA W.next z v (W.next.getD v []).length) k [])) (λk=>k<=W.next.length) (λk=>W.next.length-k) 0 ?_;refine sW ?_;refine⟨zo,by exact sK,?_,?_⟩
  ·rw[ztV];show _::_::_=_::_::_;rw[GI 1 _ sY];exact bK (λx=>an.row true W.cells::an.vec true 0 1 x::_)<|IX (α:=Int) 2 _
  rintro k hk;refine bl (λq0=>?_) λq0=>?_
  ·have q0:k<W.next.length:=sO;have QI:=Jl.at k;refine sL (me (g:=W.next) (k:=k) zo q0) ?_;rw[aS]
   refine fy [1,2,5,6,23,24,25,30,31] (λj:Nat=>[(32,ab j)]) (λj=>.row true W.cells::.vec true 0 1 (lr 2<|jq W.next.length (λv=>gA W.next z v (W.next.getD v []).length) k<|gA W.next z k j)::gw 1 sY (jq W.next.length (λv=>gA W.next z v (W.next.getD v []).length) k<|gA W.next z k j))
    (λj=>j<=(W.next.getD k []).length) (λj=>(W.next.getD k []).length-j) 0 ?_
   refine sW ?_;refine⟨zo,by exact sK,by rw[show gA W.next z k 0=[] by unfold gA;split<;>simp],?_⟩;rintro j hj;refine bl (λq1=>?_) λq1=>?_
   ·have q1:j<(W.next.getD k []).length:=sO;have eS:=zsP (z:=z) q1;have hx:=dn (dV k)<|fV q1;have Cg:=zwb W.next z k j;refine sL (eY (l:=W.next.getD k []) (k:=j) zo q1) ?_;refine sL (cX k zo q0) ?_;generalize (W.next.getD k []).getD j 0=x at *;have same:(z k=true/\z x.toNat->False)->gA W.next z k (j+1)=gA W.next z k j:=λh=>by rw[eS,aa h]
    cases zk:z k
    ·refine bJ ?_;refine⟨j+1,zo,zd,bf (by exact sK) ?_⟩;dsimp only;rw[same λq=>by rw[zk] at q;cases q.1]
    refine sW ?_;refine sL (cX x.toNat zo zo) ?_;cases zx:z x.toNat
    ·refine bJ ?_;refine⟨j+1,zo,zd,bf (by exact sK) ?_⟩;dsimp only;rw[same λq=>by rw[zx] at q;cases q.2]
    rw[ae ⟨zk,zx⟩] at eS;refine ew ?_;refine⟨_,pH (i:=k) zo<|by simp;omega,?_⟩;refine sW ?_;have nE:(jq W.next.length (λv=>gA W.next z v (W.next.getD v []).length) k<|gA W.next z k j).set k (gA W.next z k j++[x])=jq W.next.length (λv=>gA W.next z v (W.next.getD v []).length) k (gA W.next z k<|j+1):=(by rw[zxy q0,<-eS]);have hlen:(jq W.next.length (λv=>gA W.next z v (W.next.getD v []).length) k<|gA W.next z k j).length=W.next.length:=zu8 ..;have hgk:(jq W.next.length (λv=>gA W.next z v (W.next.getD v []).length) k<|gA W.next z k j).getD k []=gA W.next z k j:=zyM q0;generalize jq W.next.length (λv=>gA W.next z v (W.next.getD v []).length) k (gA W.next z k j)=R at *;refine D0 ?_;refine sW ?_
    (repeat (first|(refine kM 0 rfl ?_;((conv=>whnf);repeat(refine⟨rfl,?_⟩;conv=>whnf)))|(refine kP 0 rfl ?_;((conv=>whnf);repeat(refine⟨rfl,?_⟩;conv=>whnf)))|(refine kM 1 rfl ?_;((conv=>whnf);repeat(refine⟨rfl,?_⟩;conv=>whnf)))|(refine kP 1 rfl ?_;((conv=>whnf);repeat(refine⟨rfl,?_⟩;conv=>whnf)))))
    refine Dm zo ?_;refine sW ?_;rw[hgk];refine⟨by unfold mu;simp only[mi,gO,cj,dE];omega,?_⟩;refine sW ?_;refine Io (gA W.next z k j++[x]) zo ?_ ?_
    ·exact FD
    refine ew ?_;refine⟨_,pH (i:=k) zo zo,?_⟩;refine bJ ?_;refine⟨j+1,zo,zd,?_⟩;dsimp only;rw[nE];refine br (W.next.length+2) zs zs (by exact sQ) ⟨⟨rfl,.refl _,cu _<|Du W⟩,⟨rfl,rfl,rfl,bM ?_,EA<|by simp;omega⟩,EG VZ⟩;exact(Ep zo zo (gA W.next z k j++[x]) zs).trans (by rw[nE])
   have q1:j=(W.next.getD k []).length:=by have:¬j<(W.next.getD k []).length:=sO
                                           omega
   subst q1;rw[show jq W.next.length (λv=>gA W.next z v (W.next.getD v []).length) k (gA W.next z k (W.next.getD k []).length)=jq W.next.length (λv=>gA W.next z v (W.next.getD v []).length) (k+1) [] from zue];refine sI ?_;exact⟨k+1,zo,zd,bf (by exact sK) rfl⟩
  have q0:k=W.next.length:=by have:¬k<W.next.length:=sO
                              omega
  subst q0;rw[zs5,zwV];refine⟨(),trivial,br 2 zs rfl (by exact sQ) ⟨⟨rfl,.refl _,cu _<|Du W⟩,⟨rfl,rfl,rfl,Ms (c:=sY) (λi hi=>by simp[lF]) λi hi=>?_,bP _<|uT _⟩,Of _⟩⟩;show(gw 1 sY<|gQ W.next z)[i]? = _;exact Bn hi
 intro _ _;have g1:=zyl kS z;have g2:=zsA Jl z;have hl:=Lg W.next z;have g3:od (gQ W.next z)=0:=zv.2 ⟨zo,g1⟩;obtain⟨t1,t2,t3⟩:=ZT g3;have u9:=WT (gQ W.next z) zo g1 g2;have Ru:=zv7 (gQ W.next z) zo g1 g2 W.fair G7 (λl jY=>by rw[hl];exact iX l jY);have Wi:=QU (gQ W.next z) g3 g2;have iN:=λk (hk:k<(gQ W.next z).length)=>uD hk;obtain⟨fB,ER⟩:∃fB:Nat->Bool,fB=λv=>z v&&y0 (gQ W.next z) W.fair (bp (gQ W.next z) v).toNat:=⟨_,rfl⟩;have Tx:∀v,v<(gQ W.next z).length->rS (fk (gQ W.next z) (gQ W.next z).length) (gV fB W.next.length) v=fwB (gQ W.next z) (W.fair.map kK) v:=λv hv=>zso g1 (λl jY=>by rw[hl];exact iX l jY) (λx=>by
  rw[ta,hl,ER];refine and_congr_right λ_=>and_congr_right λhx=>?_;show(z x.toNat&&y0 _ _ _)=true↔_;rw[dL];refine⟨λq=>q.2,λq=>⟨?_,q⟩⟩;have j0:x.toNat<(gQ W.next z).length:=(by have:=hx;omega);have hp:=iN _ j0;obtain⟨⟨y,y1,_⟩,_⟩:=(MP (λv x hx=>by have:=dn (iO g1 v) hx;omega) (λl jY=>by rw[hl];exact iX l jY) j0 zo).1 q;exact(zwR.1 y1).2.1) hv
 have Nx:=Sq _ t1 t2 (gV fB W.next.length) (by rw[sb,hl];exact j9 λx hx=>⟨(ta.1 hx).1,(ta.1 hx).2.1⟩) (by have:=IF fB W.next.length;have:=yg (show(gQ W.next z).length<=600 by omega) (show(gQ W.next z).length<=600 by omega);omega);rw[sb,TU λi hi=>Tx i hi] at Nx;have cut:=ZY (L:=gQ W.next z) hl.symm;rw[<-cut] at u9 Ru Wi;clear Tx g1 g2 g3 t1 t2 t3;refine sW ?_;refine sE (BB (pre:=[]) (post:=[]) u9 (c9 _) trivial trivial (uT _) rfl) ?_;refine sE (BB (pre:=[]) (post:=[_,_]) Ru (ke _ _) trivial ⟨c9 _,lu _,trivial⟩ (uT _) rfl) ?_;refine dk (iF 12 1 zs rfl) ?_;refine bT [1,5,10,11,66] (λ((k,c):Nat×Nat)=>[(12,.own 2 c 0 c),(67,ab k)]) (λ(k,c)=>[(2,.vec true c 1<|aE<|gV fB k)]) (λ(k,c)=>k<=W.next.length/\c=(gV fB k).length) (λ(k,c)=>W.next.length-k) (0,0) ?_;refine sW ?_;refine⟨⟨zo,rfl⟩,by exact sK,rfl,?_⟩;rintro⟨k,c⟩ ⟨hk,qZ⟩;have iQ:=IF fB k;have eS:=HT fB k;refine bl (λq0=>?_) λq0=>?_
 ·have q0:k<W.next.length:=sO;have hp:=iN k zo;have egk:fB k=(z k&&y0 (gQ W.next z) W.fair (bp (gQ W.next z) k).toNat):=(by rw[ER]);refine sL (cX k zo q0) ?_;cases zk:z k
  ·rw[zk,qG] at egk;rw[egk,aa zc] at eS;refine bJ ?_;refine⟨(k+1,c),⟨zo,by rw[eS];exact qZ⟩,zd,bf (by exact sK) ?_⟩;dsimp only;rw[eS];rfl
  rw[zk,jZ] at egk;refine sW ?_;refine sL (dh k zo zo) ?_;refine sL (cX (bp (gQ W.next z) k).toNat zo zo) ?_;rw[<-egk];cases gk:fB k
  ·rw[gk,aa zc] at eS;refine bJ ?_;refine⟨(k+1,c),⟨zo,by rw[eS];exact qZ⟩,zd,bf (by exact sK) ?_⟩;dsimp only;rw[eS];rfl
  rw[gk,ae rfl] at eS;refine mQ ?_;refine⟨(k+1,c+1),⟨zo,by rw[eS,cL,<-qZ];rfl⟩,zd,?_⟩;dsimp only;rw[eS];refine br 3 zs rfl sQ (sU ?_);exact bM<|by rw[qZ,IA,gz]
 have q0:k=W.next.length:=by have:¬k<W.next.length:=sO
                             omega
 subst q0;refine sE (BB (pre:=[]) (post:=[]) Wi (by simp[Pure,ao,lu]) trivial trivial (uT _) rfl) ?_;rw[show aL (gV fB W.next.length)=D.a8 1 (List.drop 0<|List.take c<|aE<|gV fB W.next.length) from by rw[dt<|by simp[aE];omega];rfl] at Nx;refine sE (BB (pre:=[_]) (post:=[]) Nx (by simp[Pure,ao,ke]) ⟨lu _,trivial⟩ trivial (cO _ (λl=>by simp[ao,Pure]) _) rfl) ?_;rw[hl];exact .refl _
section
open Go.RowKit Go.ChangeShapes Go.WideShapes Go.ChangeAt
end
section
open Go.RowKit Go.ChangeShapes Go.WideShapes Go.ChangeAt
end
section
noncomputable def ow(g:ak)(S:aq)(k i:Nat):Bool:=(List.range k).any λv=>bp g v==(i:Int)&&S v
noncomputable def oj(g:ak)(sets:List aq)(i:Nat):Bool:=okT g g.length i&&sets.all λS=>ow g S g.length i
theorem zsa(S:aq)(k i:Nat):ow g S (k+1) i=(ow g S k i||(bp g k==(i:Int)&&S k)):=by
 unfold ow;rw[qa,BG];simp
theorem zur{g:ak}(bg:∀v x,x∈g.getD v []->x.toNat<g.length)(sets:List aq):(∃i,i<g.length/\oj g sets i)↔∃v,v<g.length/\Fw g sets v:=by
 constructor
 ·rintro⟨i,hi,h⟩;unfold oj at h;rw[dL,kv] at h;obtain⟨h1,h2⟩:=h;unfold okT at h1;rw[iR] at h1;obtain⟨n,hn,q⟩:=h1;have hn:=eW.1 hn;rw[dL,gC] at q;refine⟨n,hn,n,tO g n,(DZ bg hn).1 q.2,λS hS=>?_⟩;have:=h2 S hS;unfold ow at this;rw[iR] at this;obtain⟨d,hd,r⟩:=this;have hd:=eW.1 hd;rw[dL,gC,<-q.1,parts_eq hd hn,lk] at r;exact⟨d,r.2,r.1.2,r.1.1⟩
 rintro⟨v,hv,c,h1,h2,h3⟩;have hc:=Hx bg hv h1;have hp:=uD hc;refine⟨(bp g c).toNat,zo,?_⟩;unfold oj;rw[dL,kv];have e:((bp g c).toNat:Int)=bp g c:=zo;refine⟨?_,λS hS=>?_⟩
 ·unfold okT;rw[iR];exact⟨c,eW.2 hc,by rw[dL,gC,e];exact⟨rfl,(DZ bg hc).2 h2⟩⟩
 obtain⟨d,d1,d2,d3⟩:=h3 S hS;have hd:=Hx bg hc d2;unfold ow;rw[iR];exact⟨d,eW.2 hd,by rw[dL,gC,e,parts_eq hd hc,lk];exact⟨⟨d3,d2⟩,d1⟩⟩
end
section
end
section
end
section
end
section
end
section
end
section
theorem H6:∀(n m:Nat) (h:Nat->Nat),(∀i,i<m->h i<n)->(∀i j,i<m->j<m->h i=h j->i=j)->m<=n
 |0,m,h,h1,_=>by
  rcases vM m with e|e
  ·omega
  have:=h1 0 e;omega
 |n+1,m,h,h1,h2=>by
  by_cases q:∃i,i<m/\h i=n
  ·obtain⟨i0,q1,q2⟩:=q;have:=H6 n (m-1) (λi=>h<|if i=i0 then m-1 else i) (λi hi=>by
    split
    ·rename_i e;have a1:=h1 (m-1) zo;have a2:h (m-1)≠n:=λe2=>by have:=h2 (m-1) i0 zo q1 (by rw[e2,q2]);omega
     omega
    ·rename_i e;have a1:=h1 i zo;have a2:h i≠n:=λe2=>e<|h2 i i0 zo q1 (by rw[e2,q2]);omega) (λi j hi hj e=>by
    have:=h2 _ _ (by split<;>omega) (by split<;>omega) e;split at this<;>split at this<;>omega)
   omega
  have:=H6 n m h (λi hi=>by have:=h1 i hi;have:h i≠n:=λe=>q ⟨i,hi,e⟩;omega) h2;omega
end
section
end
def nZ(a b:Int):aZ:=[ab a,ab b]
def qC(l:List Pr):fp:=l.map λo=>nZ o.1 o.2
def yq(l:List Pr):D:=.a8 2<|qC l
variable(l:List Pr)
@[simp] theorem HC:(qC l).length=l.length:=by simp[qC]
@[simp] theorem Nk:dX<|qC l:=cO _ (λl=>by simp[nZ,ao,Pure]) l
@[simp] theorem JD:Pure<|yq l:=by simp only[yq,Pure];exact Nk l
@[simp] theorem zx4:bN m (qC l)↔True:=⟨λ_=>trivial,λ_=>bP _<|Nk l⟩
@[simp] theorem zzB:az m (yq l)↔True:=⟨λ_=>trivial,λ_=>cp _<|JD l⟩
variable{l:List Pr}
theorem F8(hz:z=k)(h:k<l.length):(qC l)[z]? = some (nZ (l.getD k (0,0)).1 (l.getD k (0,0)).2):=by
 subst hz;unfold qC;rw[cy,aG h,ay,aG h];rfl
def lI(L:ak):fp:=L.map λl=>[aL l]
@[simp] theorem zBR(L:ak):(lI L).length=L.length:=by simp[lI]
@[simp] theorem y4(L:ak):dX<|lI L:=cO _ (λl=>by simp[ao,c9]) L
@[simp] theorem zvv(l:ak):bN m (lI l)↔True:=⟨λ_=>trivial,λ_=>bP _<|y4 l⟩
theorem zor{c:Nat}{l:af}(h:c=L.length):List.drop 0 (List.take c<|lI L)++[[aL l]]=lI (L++[l]):=by
 subst h;rw[dt zs];simp[lI]
theorem pT(l:af)(x:Int):List.drop 0 (List.take l.length<|aE l)++List.drop 0 (List.take 1 [[ab x]])=aE (l++[x]):=by
 rw[dt<|by simp[aE]];simp[aE]
variable(L:List Pr)
theorem znS(p:Pr):List.drop 0 (List.take L.length<|qC L)++List.drop 0 (List.take 1 [[ab p.1,ab p.2]])=qC (L++[p]):=by
 rw[dt zs];simp[qC,nZ]
theorem zsQ {P : Program} {k e : TypeId} {f0 f1 : Field} (gT : 0 < P.types.size) (hk : P.keyType k = true) (hu : P.underlying k = some (.struct #[f0, f1])) (h0 : f0.type = e) (h1 : f1.type = e) (o0 : f0.offset = 0) (o1 : f1.offset = 1) (n0 : (f0.name != "_") = true) (n1 : (f1.name != "_") = true) (he : P.underlying e = some (.int .i64)) (Oj : P.cellsOf e = 1) (m8 : P.cellsOf k = 2) (a b : Int) (ha : (Lit.int .i64 a).wf = true) (hb : (Lit.int .i64 b).wf = true) :
  ∃l,keyOf P k (.agg #[.int .i64 a,.int .i64 b])=some l:=by
 obtain⟨d,hd⟩:∃d,P.types.size=d+1:=⟨P.types.size-1,zo⟩;unfold keyOf;rw[hu];simp only[hk,Value.formed,hu,m8,jZ];rw[ae zs,hd];show ∃l,(P.keyLits (d+1+1) k [.int .i64 a,.int .i64 b]).map _=some l;rw[Program.keyLits.eq_def];simp only[hu];rw[ae ⟨by simp[m8],by simp[n0,n1]⟩];simp[List.mapM_cons,h0,h1,o0,o1,Oj,Program.keyLits,he,ha,hb]
def uj(p:Pr):aH:=.agg #[.int .i64 p.1,.int .i64 p.2]
variable{p:Pr}
theorem Wx{q:Pr}(h:uj p=uj q):p=q:=by
 unfold uj at h;have h:=(Value.agg.injEq _ _).mp h;have h:=bK Array.toList h;simp at h;exact Prod.ext h.1 h.2
noncomputable def uN(L:List Pr):Nat->aH->Option aH
 |0=>λ_=>none
 |k+1=>ox (uN L k) (uj<|L.getD k (0,0)) (.int .i64 k)
noncomputable def fP(L:List Pr):aH->Option aH:=uN L L.length
theorem VS{L:List Pr}{m:Pr}:∀k,k<=L.length->uN (L++[m]) k=uN L k
 |0,_=>rfl
 |k+1,h=>by
  simp only[uN];rw[VS k zo,ay,dJ zo,<-ay]
theorem zB6(m:Pr):fP (L++[m])=ox (fP L) (uj m) (.int .i64 L.length):=by
 unfold fP;rw[cL,jt];simp only[uN];rw[VS _<|aI _,ay,fc<|aI _,mE];rfl
theorem G3(h:k<l.length):l.getD k (0,0)∈l:=by
 rw[ay,aG h];simp
theorem Ry{L:List Pr}{m:Pr}(hm:¬m∈L):∀k,k<=L.length->uN L k (uj m)=none
 |0,_=>rfl
 |k+1,h=>by
  simp only[uN,ox];rw[aa ?_,Ry hm k zo];intro e;exact hm<|Wx e▸G3 zo
theorem XE{L:List Pr}{m:Pr}(hn:L.Nodup){i:Nat}(hi:i<L.length)(hm:L.getD i (0,0)=m):∀k,i<k->k<=L.length->uN L k (uj m)=some (.int .i64 i)
 |0,h,_=>zo
 |k+1,h,hk=>by
  simp only[uN,ox];by_cases e:i=k
  ·subst e;rw[hm,ae rfl]
  rw[aa ?_,XE hn hi hm k zo zo];intro q;have:=Wx q;rw[<-hm,ay,ay,aG hi,aG zo] at this;exact xc.1 hn i k hi zo zo this
variable{m:Pr}{L:List Pr}
theorem ztk(h:m∈L):fq L m<L.length/\L.getD (fq L m) (0,0)=m:=by
 have h1:=xb h;refine⟨h1,?_⟩;unfold fq at h1⊢;rw[ay,aG h1,List.getElem_idxOf h1];rfl
theorem UJ(hn:L.Nodup)(h:m∈L):fP L (uj m)=some (.int .i64<|fq L m):=by
 obtain⟨h1,h2⟩:=ztk h;exact XE hn h1 h2 _ h1<|aI _
theorem XX(h:¬m∈L):fP L (uj m)=none:=Ry h _<|aI _
def WfP(p:Pr):Prop:=(Lit.int .i64 p.1).wf=true/\(Lit.int .i64 p.2).wf=true
theorem zBq(h:0<=p.1/\p.1<=1000000000/\0<=p.2/\p.2<=1000000000):WfP p:=by
 have h1:IntKind.min .i64=-9223372036854775808:=zc;have h2:IntKind.max .i64=9223372036854775807:=zc;constructor
 ·simp only[Lit.wf,dL,c6];omega
 simp only[Lit.wf,dL,c6];omega
def tz:D:=bC
variable{m:Nat}
@[simp] theorem zBA:az m tz↔True:=⟨λ_=>trivial,λ_=>trivial⟩
def lV:Nat->Bool:=λ_=>true
def noT:Nat->Bool:=λ_=>false
def yv(n:Nat)(F:List aq):D:=.a8 1<|F.map λS=>[bI n S]
@[simp] theorem Ky(n:Nat)(F:List aq):Pure<|yv n F:=by simp only[yv,Pure];exact cO _ (λS=>by simp[ao,ke]) F
theorem Wk{F:List aq}(hz:z=k)(h:k<F.length):(F.map λS=>[bI n S])[z]? = some [bI n<|F.getD k noT]:=by
 subst hz;rw[cy,aG h,ay,aG h];rfl
section
def gq:List Pr->List Pr->af->List Pr×af
 |[],L,o=>(L,o)
 |p::r,L,o=>gq r (iW L p)<|o++[(fq (iW L p) p:Int)]
theorem zwe(L:List Pr)(p:Pr):∃X,iW L p=L++X:=by
 unfold iW;split
 ·exact⟨[],zs⟩
 exact⟨[p],rfl⟩
theorem KQ{X:List Pr}(h:p∈L):fq (L++X) p=fq L p:=by
 unfold fq;rw[List.idxOf_append,ae h]
theorem AR:∀(ps L:List Pr) (o:af),∃X,(gq ps L o).1=L++X
 |[],L,o=>⟨[],by simp[gq]⟩
 |p::r,L,o=>by
  obtain⟨X,hX⟩:=zwe L p;obtain⟨Y,hY⟩:=AR r (iW L p)<|o++[(fq (iW L p) p:Int)];exact⟨X++Y,by rw[gq,hY,hX,l8]⟩
theorem CF:∀(ps L:List Pr) (o:af) (q:Pr),q∈(gq ps L o).1↔q∈L\/q∈ps
 |[],L,o,q=>by simp[gq]
 |p::r,L,o,q=>by
  rw[gq,CF r,Og,dD];constructor
  ·rintro((h|h)|h)
   ·exact .inl h
   ·exact .inr (.inl h)
   exact .inr (.inr h)
  rintro(h|h|h)
  ·exact .inl (.inl h)
  ·exact .inl (.inr h)
  exact .inr h
theorem GH:∀(ps:List Pr) {L:List Pr} (o:af),L.Nodup->(gq ps L o).1.Nodup
 |[],_,_,h=>h
 |p::r,_,_,h=>GH r _<|QA h p
theorem J9:∀(ps L:List Pr) (o:af),(gq ps L o).2=o++ps.map λp=>(fq (gq ps L o).1 p:Int)
 |[],L,o=>by simp[gq]
 |p::r,L,o=>by
  rw[gq,J9 r];obtain⟨X,hX⟩:=AR r (iW L p)<|o++[(fq (iW L p) p:Int)];have:fq (gq r (iW L p)<|o++[(fq (iW L p) p:Int)]).1 p=fq (iW L p) p:=by
   rw[hX];exact KQ<|Og.2 (.inr rfl)
  rw[dR,this,l8];rfl
theorem Yp{ps:List Pr}{o:af}(h:i<L.length):(gq ps L o).1.getD i (0,0)=L.getD i (0,0):=by
 obtain⟨X,hX⟩:=AR ps L o;rw[hX,ay,dJ h,<-ay]
theorem zt4(ps L:List Pr)(o:af):L.length<=(gq ps L o).1.length:=by
 obtain⟨X,hX⟩:=AR ps L o;rw[hX];simp
def qS(nx:Pr->List Pr):Nat->Nat->List Pr->ak->List Pr×ak
 |0,_,L,T=>(L,T)
 |k+1,n,L,T=>if n<L.length then qS nx k (n+1) (gq (nx<|L.getD n (0,0)) L []).1<|T++[(gq (nx<|L.getD n (0,0)) L []).2] else (L,T)
structure sz(start:List Pr)(nx:Pr->List Pr)(n:Nat)(L:List Pr)(T:ak):Prop where
 nd:L.Nodup
 st:∀p∈start,p∈L
 len:T.length=n
 le:n<=L.length
 row:∀i,i<n->T.getD i []=(nx<|L.getD i (0,0)).map λq=>(fq L q:Int)
 cl:∀i,i<n->∀q∈nx (L.getD i (0,0)),q∈L
 fr:∀j,j<L.length->L.getD j (0,0)∈start\/∃i,i<n/\i<j/\L.getD j (0,0)∈nx (L.getD i (0,0))
theorem n6{j:Nat}(h:j<L.length):L.getD j (0,0)∈L:=by
 rw[ay,aG h];simp
theorem sz.begin(start:List Pr)(nx:Pr->List Pr):sz start nx 0 (gq start [] []).1 [] where
 nd:=GH start [] .nil
 st p hp:=(CF start [] [] p).2 (.inr hp)
 len:=rfl
 le:=b9 _
 row i hi:=zo
 cl i hi:=zo
 fr j hj:=.inl<|((CF start [] [] _).1<|n6 hj).resolve_left zs
theorem sz.next{start:List Pr}{nx:Pr->List Pr}{T:ak}(h:sz start nx n L T)(hn:n<L.length) :
  sz start nx (n+1) (gq (nx<|L.getD n (0,0)) L []).1 (T++[(gq (nx<|L.getD n (0,0)) L []).2]):=by
 generalize hp:L.getD n (0,0)=p;have hm:=CF (nx p) L [];have ho:=J9 (nx p) L [];have hold:=λi (hi:i<L.length)=>Yp (ps:=nx p) (o:=[]) hi;have zPv:=zt4 (nx p) L [];obtain⟨X,hX⟩:=AR (nx p) L [];refine⟨GH _ _ h.nd,λq hq=>(hm q).2 (.inl<|h.st q hq),by simp[h.len],zo,λi hi=>?_,λi hi q hq=>?_,λj hj=>?_⟩
 ·by_cases e:i=n
  ·subst e;rw[hold _ hn,hp,ay,fc<|by rw[h.len];exact aI _,h.len,mE];show(gq (nx p) L []).2=_;rw[ho,m9]
  have hi:i<n:=zo;rw[hold i zo,ay,dJ<|by rw[h.len];exact hi,<-ay,h.row i hi,hX];refine uy λq hq=>?_;rw[KQ<|h.cl i hi q hq]
 ·by_cases e:i=n
  ·subst e;rw[hold _ hn,hp] at hq;exact(hm q).2 (.inr hq)
  rw[hold i zo] at hq;exact(hm q).2 (.inl<|h.cl i zo q hq)
 by_cases hl:j<L.length
 ·rw[hold j hl];rcases h.fr j hl with k|⟨i,k1,k2,k3⟩
  ·exact .inl k
  exact .inr ⟨i,zo,k2,by rw[hold i zo];exact k3⟩
 refine .inr ⟨n,zo,zo,?_⟩;rw[hold n hn,hp];have hq:(gq (nx p) L []).1.getD j (0,0)∈X:=by
  rw[hX,ay,fc zo];rw[hX,cL] at hj;rw[aG zo];simp
 have dO:=GH (nx p) [] h.nd;rw[hX] at dO;have Ay:¬(gq (nx p) L []).1.getD j (0,0)∈L:=λq=>(zn.1 dO).2.2 _ q _ hq rfl;exact((hm _).1<|n6 hj).resolve_left Ay
structure qU(start:List Pr)(nx:Pr->List Pr)(L:List Pr)(G:ak):Prop where
 nd:L.Nodup
 st:∀p∈start,p∈L
 len:G.length=L.length
 row:∀i,i<L.length->G.getD i []=(nx<|L.getD i (0,0)).map λq=>(fq L q:Int)
 cl:∀i,i<L.length->∀q∈nx (L.getD i (0,0)),q∈L
 fr:∀j,j<L.length->L.getD j (0,0)∈start\/∃i,i<j/\L.getD j (0,0)∈nx (L.getD i (0,0))
theorem sz.fin{start:List Pr}{nx:Pr->List Pr}{n:Nat}{L:List Pr}{T:ak}(h:sz start nx n L T)(hn:¬n<L.length):qU start nx L T:=by
 have e:n=L.length:=by have:=h.le;omega
 subst e;exact⟨h.nd,h.st,h.len,h.row,h.cl,λj hj=>(h.fr j hj).imp_right λ⟨i,_,k2,k3⟩=>⟨i,k2,k3⟩⟩
theorem zxt(dO:L.Nodup)(h:∀p∈L,(0<=p.1/\p.1<(n:Int))/\0<=p.2/\p.2<(m:Int)):L.length<=n*m:=by
 refine H6 (n*m) L.length (λi=>(L.getD i (0,0)).1.toNat * m+(L.getD i (0,0)).2.toNat) (λi hi=>?_) λi j hi hj he=>?_
 ·obtain⟨⟨a,b⟩,c,d⟩:=h _<|n6 hi;generalize L.getD i (0,0)=p at *;have:(p.1.toNat+1)*m<=n*m:=tE _ zo;rw[iJ,Nat.one_mul] at this;omega
 obtain⟨⟨a,b⟩,c,d⟩:=h _<|n6 hi;obtain⟨⟨a',b'⟩,c',d'⟩:=h _<|n6 hj;have A4:L.getD i (0,0)=L.getD j (0,0):=by
  generalize L.getD i (0,0)=p at *;generalize L.getD j (0,0)=q at *;have e1:p.2.toNat=q.2.toNat:=by
   have:=bK (·%m) he;simp only[Nat.mul_add_mod_self_right] at this;rwa [ya zo,ya zo] at this
  have e2:p.1.toNat=q.1.toNat:=by
   rw[e1] at he;exact Nat.eq_of_mul_eq_mul_right zo<|Nat.add_right_cancel he
  exact Prod.ext zo zo
 rw[ay,ay,aG hi,aG hj] at A4;simp only[pe] at A4;rcases ue i j with q|q|q
 ·exact absurd A4<|xc.1 dO i j hi hj q
 ·exact q
 exact absurd A4.symm<|xc.1 dO j i hj hi q
theorem so{q:Pr}(h:q∈L):L.getD (fq L q) (0,0)=q:=by
 have h1:=xb h;unfold fq at h1⊢;rw[ay,aG h1,List.getElem_idxOf h1];rfl
section
variable{start:List Pr}{nx:Pr->List Pr}{L:List Pr}{G:ak}
theorem qU.Ef(h:qU start nx L G)(hx:x∈G.getD v []):v<L.length/\∃q,q∈nx (L.getD v (0,0))/\q∈L/\x=(fq L q:Int)/\fq L q<L.length:=by
 have hv:v<L.length:=by
  rcases c7 v L.length with q|q
  ·exact q
  rw[ay,db<|by have:=h.len;omega] at hx;cases hx
 rw[h.row v hv] at hx;obtain⟨q,hq,rfl⟩:=cU.1 hx;have:=h.cl v hv q hq;exact⟨hv,q,hq,this,rfl,xb this⟩
theorem qU.inG(h:qU start nx L G):∀l∈G,bq l G.length:=λl hl=>by
 obtain⟨v,hv,rfl⟩:=kn.1 hl;refine j9 λx hx=>?_;obtain⟨_,q,_,_,rfl,k⟩:=h.Ef (v:=v) (x:=x) (by rw[ay,aG hv];exact hx);have:=h.len;omega
theorem qU.come(h:qU start nx L G):∀j,j<L.length->∃p∈start,To G (fq L p) j:=by
 intro j
 induction j using Nat.strongRecOn with
 |ind j ih =>
  intro hj;have hid:fq L (L.getD j (0,0))=j:=by
   have h1:=xb<|n6 hj;have h2:=so<|n6 hj;have hx:L[fq L<|L.getD j (0,0)]'h1=L[j]:=by
    rw[ay,aG h1] at h2;simp only[pe] at h2;rw[h2,ay,aG hj];rfl
   rcases ue (fq L<|L.getD j (0,0)) j with q|q|q
   ·exact absurd hx<|xc.1 h.nd _ _ h1 hj q
   ·exact q
   exact absurd hx.symm<|xc.1 h.nd _ _ hj h1 q
  rcases h.fr j hj with k|⟨i,k2,k3⟩
  ·exact⟨_,k,by rw[hid];exact tO G j⟩
  obtain⟨p,hp,hT⟩:=ih i k2 zo;refine⟨p,hp,rH hT ?_⟩;have:((j:Nat):Int)∈G.getD i []:=by
   rw[h.row i zo];exact cU.2 ⟨_,k3,by rw[hid]⟩
  have:=y6 this;simpa using this
end
end
section
def xo(W:ba)(A:bZ)(p:Pr):Bool:=uO A p.2.toNat<|W.label.getD p.1.toNat 0
def vk(W:ba)(A:bZ)(n t:Nat)(S:D):aZ:=[aL W.start,bW W.next,cY W.label,bW W.fair,aL A.start,bW A.next,cY A.kq,cY A.lC,bW A.fair,.mp 0,.own 2 n 0 n,.own 3 t 0 t,S]
noncomputable def je(W:ba)(A:bZ)(L:List Pr)(S:D)(T:ak):aB :=
 [.dI true<|kF aj 226<|fP L,.row true<|vk W A L.length T.length S,.vec true L.length 2<|qC L,.vec true T.length 1<|lI T]
variable{W:ba}{A:bZ}{S:D}{T:ak}
theorem N7(hS:Pure S)(hm:4<=m):∀o∈je W A L S T,o.under m:=by
 have:=cp (m:=m) S hS;have h1:=λl=>cp (m:=m) _<|c9 l;have h2:=λl=>cp (m:=m) _<|lu l;have h3:=λl=>cp (m:=m) _<|qR l;intro o ho;simp only[je,dD,tt,or_false] at ho;rcases ho with rfl|rfl|rfl|rfl<;>simp[an.under,vk,aK,az,this,h1,h2,h3]<;>omega
theorem MZ(hS:Pure S)(hm:4<=m):kl m<|je W A L S T:=by
 have:=N7 (W:=W) (A:=A) (L:=L) hS (T:=T) hm;unfold je at *;exact⟨this _ zs,this _ zs,this _ zs,this _ zs,trivial⟩
theorem Zi:laidOutB aj:=by kernel_rfl
theorem PB:Maps.Keyed aj 226:=Maps.Keyed.of_law<|deep_law_laid Zi (m:=2) zo (tk<|by kernel_rfl) (by kernel_rfl)<|by rw[Tryz.underlying226]
theorem znH(hp:WfP p):∃l,keyOf aj 226 (uj p)=some l :=
 zsQ (tk<|by kernel_rfl) (by kernel_rfl) Tryz.underlying226 rfl rfl rfl rfl zc zc Tryz.underlying3 (by kernel_rfl) (by kernel_rfl) _ _ hp.1 hp.2
structure yK(W:ba)(A:bZ):Prop where
 fw:W.Fits
 fa:A.Fits
 cw:W.aV=0
 ca:A.aV=0
def jJ(W:ba)(A:bZ)(p:Pr):Prop:=(0<=p.1/\p.1<(W.next.length:Int))/\0<=p.2/\p.2<(A.next.length:Int)
theorem vy(W:ba)(h:W.aV=0):W.label.length=W.next.length/\W.next.length<=600/\W.fair.length<=80/\bq W.start W.next.length/\(∀l∈W.next,bq l W.next.length)/\∀l∈W.fair,bq l W.next.length:=by
 unfold ba.aV at h;split at h
 ·exact absurd h zc
 split at h
 ·exact absurd h zc
 split at h
 ·exact absurd h zc
 split at h
 ·exact absurd h zc
 rename_i h1 h2 h3 h4;have Di:=not_or.1 h2;refine⟨zo,zo,zo,by simpa using Di.2,λl hl=>?_,λl hl=>?_⟩
 ·rw[mP,oP] at h3;have:=h3 l hl;simp only[jh,oG,not_or,Bool.not_eq_false] at this;exact this.2
 rw[mP,oP] at h4;simpa using h4 l hl
theorem jJ.wf(h:yK W A)(hp:jJ W A p):WfP p:=by
 obtain⟨⟨a,b⟩,c,d⟩:=hp;have:=(vy W h.cw).2.1;have:=(yk A h.ca).2.2.1;exact zBq ⟨a,zo,c,zo⟩
theorem zBL(nK:yK W A)(L:List Pr)(dO:L.Nodup)(hL:L.length<=2000000)(S:D)(hS:Pure S)(T:ak)(p:Pr)(hg:jJ W A p) :
  cd aj 196 [.loc 1 0,.agg<|nZ p.1 p.2] (je W A L S T) (ab<|if xo W A p=true then (fq (iW L p) p:Int) else -1) (je W A (if xo W A p=true then iW L p else L) S T):=by
 have hp:=jJ.wf nK hg;have jV:=znH hp;obtain⟨⟨g1,g2⟩,g3,g4⟩:=hg;obtain⟨IK,_⟩:=vy W nK.cw;obtain⟨hm,hn,_⟩:=yk A nK.ca;have hF:=ZZ A hm hn p.2.toNat zo<|W.label.getD p.1.toNat 0;rw[show((p.2.toNat:Nat):Int)=p.2 by omega] at hF;refine gm fZ zs (by simp[je]) ?_ (by simp[az]) (by
  intro x hx;exact N7 hS (by simp[je]) x hx)
 have ef:xo W A p=uO A p.2.toNat (W.label.getD p.1.toNat 0):=rfl;rw[<-ef] at hF;generalize xo W A p=fit at *;unfold je vk nZ;unfold rk bZ.cells at hF;refine sR ?_;refine sL (GX (l:=W.label) (k:=p.1.toNat) zo zo) ?_;refine sC hF ?_;cases fit
 ·refine sW ?_;simp
 refine sW ?_;refine⟨fP L,rfl,PB,jV,λv hv=>?_,λhv=>?_⟩
 ·by_cases h2:p∈L
  ·have hs:=UJ dO h2;have lS:some v=some (Value.int .i64<|fq L p):=hv.symm.trans hs;cases lS;have eA:iW L p=L:=ae h2;have eI:fq (iW L p) p=fq L p:=(by rw[eA]);rw[eI,eA];refine sW ?_;simp
  exfalso;have lS:some v=none:=hv.symm.trans<|XX h2;cases lS
 have h2:¬p∈L:=λh2=>by
  have lS:(none:Option aH)=some (Value.int .i64<|fq L p):=hv.symm.trans<|UJ dO h2;cases lS
 have eA:iW L p=L++[p]:=aa h2;have eI:fq (iW L p) p=L.length:=by rw[zwU,aa h2]
 rw[eI,eA];refine sW ?_;refine⟨fP L,rfl,PB,jV,hv,?_⟩;refine sWJ ?_;refine⟨?_,zs⟩;rw[ae rfl,zB6,show(L++[p]).length=L.length+1 by simp,<-znS];rfl
def rq(W:ba)(A:bZ)(x:Int)(k:af):List Pr:=(k.filter λy=>xo W A (x,y)).map λy=>(x,y)
def iP(W:ba)(A:bZ)(l k:af):List Pr:=l.flatMap λx=>rq W A x k
variable(W:ba)
theorem zsH(A:bZ)(x y:Int)(k:af):rq W A x (y::k)=if xo W A (x,y)=true then (x,y)::rq W A x k else rq W A x k:=by
 unfold rq;rw[yF];split<;>simp
theorem zwy(A:bZ)(x:Int)(k:af):(rq W A x k).length<=k.length:=by unfold rq;rw[aS];exact zr _ _
theorem PN(A:bZ)(l k:af):(iP W A l k).length<=l.length*k.length:=by
 induction l with
 |nil=>simp[iP]
 |cons x r ih =>
  have:=zwy W A x k;simp only[iP,List.flatMap_cons,cL,cj] at ih⊢;rw[iJ,Nat.one_mul];omega
variable{W:ba}{l:af}
theorem Wa{k:af}(hl:bq l W.next.length)(hk:bq k A.next.length):∀p∈iP W A l k,jJ W A p:=by
 intro p hp;obtain⟨x,hx,hp⟩:=D1.1 hp;obtain⟨y,hy,rfl⟩:=cU.1 hp;exact⟨dn hl hx,dn hk (nG.1 hy).1⟩
theorem Ba(h:k<l.length):l.drop k=l.getD k 0::l.drop (k+1):=by
 rw[uu h,ay,aG h];rfl
theorem jJ.le(nK:yK W A)(dO:L.Nodup)(hg:∀p∈L,jJ W A p):L.length<=W.next.length*A.next.length:=zxt dO hg
theorem KI(nK:yK W A):W.next.length*A.next.length<=1228800 :=
 ia (yg (vy W nK.cw).2.1 (yk A nK.ca).2.2.1) zc
theorem V4(nK:yK W A)(l k:af)(hl:l.length<=1048576)(hk:k.length<=1048576)(il:bq l W.next.length)(ik:bq k A.next.length)(L:List Pr)(dO:L.Nodup)(xz:∀p∈L,jJ W A p)(S:D)(hS:Pure S)(T:ak) :
  cd aj 123 [.loc 1 0,aL l,aL k] (je W A L S T) (aL (gq (iP W A l k) L []).2) (je W A (gq (iP W A l k) L []).1 S T):=by
 refine vp fZ zs (by simp[je]) ?_<|cp _<|c9 _;have N':=λm=>cp (m:=m) S hS;have Ll:=λm l=>cp (m:=m) _<|c9 l;have M0:=λm l=>cp (m:=m) _<|lu l;have MM:=λm l=>cp (m:=m) _<|qR l;have h2:=KI nK;generalize hR:gq (iP W A l k) L []=R;have hlk:l.length*k.length<=1048576*1048576:=yg hl hk;unfold je vk;refine sR ?_;rw[aS];refine dk (iF 7 1 zs rfl) ?_
 refine fy [0,2,13,14] (λ((i,M,o):Nat×List Pr×af)=>[(7,.own 4 o.length 0 o.length),(15,ab i)]) (λ(i,M,o)=>je W A M S T++[.vec true o.length 1<|aE o])
  (λ(i,M,o)=>i<=l.length/\M.Nodup/\(∀p∈M,jJ W A p)/\o.length<=i*k.length/\gq (iP W A (l.drop i) k) M o=R) (λ(i,M,o)=>l.length-i) (0,L,[]) ?_
 refine sW ?_;refine⟨⟨zo,dO,xz,zs,hR⟩,by exact sK,rfl,?_⟩;rintro⟨i,M,o⟩ ⟨hi,yU,nV,qV,hF⟩;unfold je vk;refine bl (λq0=>?_) λq0=>?_
 ·have q0:i<l.length:=sO;have hx:=dn il<|fV q0;refine⟨zo,_,eY (l:=l) (k:=i) zo q0,?_⟩;rw[Ba q0,iP,List.flatMap_cons] at hF;rw[show(l.drop<|i+1).flatMap (λx=>rq W A x k)=iP W A (l.drop<|i+1) k from rfl] at hF;have hik:(i+1)*k.length<=1048576*1048576:=ia (tE _ zo) hlk;have zQD:(i+1)*k.length=i*k.length+k.length:=(by rw[iJ,Nat.one_mul]);refine sW ?_;rw[aS];generalize l.getD i 0=x at *
  refine fy [0,2,9,13,14,15,19,20] (λ((j,M,o):Nat×List Pr×af)=>[(7,.own 4 o.length 0 o.length),(21,ab j)]) (λ(j,M,o)=>je W A M S T++[.vec true o.length 1<|aE o])
   (λ(j,M,o)=>j<=k.length/\M.Nodup/\(∀p∈M,jJ W A p)/\o.length<=i*k.length+j/\gq (rq W A x (k.drop j)++iP W A (l.drop<|i+1) k) M o=R) (λ(j,M,o)=>k.length-j) (0,M,o) ?_
  refine sW ?_;refine⟨⟨zo,yU,nV,zo,hF⟩,by exact sK,rfl,?_⟩;rintro⟨j,M,o⟩ ⟨hj,yU,nV,qV,hF⟩;unfold je vk;refine bl (λq1=>?_) λq1=>?_
  ·have q1:j<k.length:=sO;have hy:=dn ik<|fV q1;refine sL (eY (l:=k) (k:=j) zo q1) ?_;rw[Ba q1,zsH] at hF;generalize k.getD j 0=y at *;have GA:jJ W A (x,y):=⟨hx,hy⟩;have Fq:=jJ.le nK yU nV;have hA:=sl (zBL nK M yU zo S hS T (x,y) GA) [.vec true o.length 1<|aE o] (by simp[je]) (by simp[je,aK,az,nZ])<|MZ hS (by simp[je]);have rW:=zxe M (x,y);cases r:xo W A (x,y)
   ·rw[r,aa zc,aa zc] at hA;rw[r,aa zc] at hF;unfold je vk nZ at hA;refine sA hA ?_;refine sI ?_;refine⟨(j+1,M,o),⟨zo,yU,nV,zo,hF⟩,zd,?_⟩;dsimp only
    (refine br 5 zs rfl ?_ ?_<;>(repeat' (first|exact trivial|exact rfl|exact bR.refl _|exact ck.refl _|exact cg.refl _|refine And.intro ?_ ?_|(simp[az,aK,bN,-List.map_take,-List.map_drop];done))))
    all_goals first|exact N' _|exact Ll _ _|exact M0 _ _|exact MM _ _|skip
   rw[r,ae rfl,ae rfl] at hA;rw[r,ae rfl,mJ,gq] at hF;unfold je vk nZ at hA;refine sA hA ?_;refine sJI ?_;refine⟨(j+1,iW M (x,y),o++[(fq (iW M (x,y)) (x,y):Int)]),⟨zo,QA yU _,λq hq=>(Og.1 hq).elim (nV q) λe=>e▸GA,by simp;omega,hF⟩,zd,?_⟩;dsimp only;rw[show(o++[(fq (iW M (x,y)) (x,y):Int)]).length=o.length+1 by simp]
   (refine br 5 zs rfl ?_ ?_<;>(repeat' (first|exact trivial|exact rfl|exact bR.refl _|exact ck.refl _|exact cg.refl _|refine And.intro ?_ ?_|(simp[az,aK,bN,-List.map_take,-List.map_drop];done))))
   all_goals first|exact N' _|exact Ll _ _|exact M0 _ _|exact MM _ _|exact bM (pT o _)|skip
  have q1:j=k.length:=by have:¬j<k.length:=sO
                         omega
  subst q1;rw[wX] at hF;refine sI ?_;refine⟨(i+1,M,o),⟨zo,yU,nV,zo,hF⟩,zd,?_⟩;dsimp only
  (refine br 5 zs rfl ?_ ?_<;>(repeat' (first|exact trivial|exact rfl|exact bR.refl _|exact ck.refl _|exact cg.refl _|refine And.intro ?_ ?_|(simp[az,aK,bN,-List.map_take,-List.map_drop];done))))
  all_goals first|exact N' _|exact Ll _ _|exact M0 _ _|exact MM _ _|skip
 have q0:i=l.length:=by have:¬i<l.length:=sO
                        omega
 subst q0;rw[wX] at hF;have hF:(M,o)=R:=hF;subst hF;exact⟨.own _ _ _ _ _ _ _ _ rfl rfl (bM<|dt<|by simp[aE]),nJ _ [_]<|N7 hS<|aI _⟩
end
section
def iA(W:ba)(A:bZ)(L:List Pr)(G:ak)(fr:af):aZ:=[aL W.start,bW W.next,cY W.label,bW W.fair,aL A.start,bW A.next,cY A.kq,cY A.lC,bW A.fair,.dB,yq L,bW G,aL fr]
@[simp] theorem xM(A:bZ)(L:List Pr)(G:ak)(fr:af):ao<|iA W A L G fr:=by simp[iA,ao,Pure,c9,lu,qR,JD]
@[simp] theorem xZ{cs:aZ}(h:ao cs):Pure (.aN cs):=by simpa only[Pure] using h
theorem Bk{g:ak}{L:Nat}(h:∀l∈g,l.length<=L)(k:Nat):(g.getD k []).length<=L:=by
 rw[ay]
 cases e:g[k]? with
 |none=>simp
 |some l=>exact h l<|kI e
def tf(n:Nat)(F:List aq):fp:=F.map λS=>[bI n S]
@[simp] theorem zCY(n:Nat)(F:List aq):(tf n F).length=F.length:=by simp[tf]
@[simp] theorem Qr(n:Nat)(F:List aq):dX<|tf n F:=cO _ (λS=>by simp[ao,ke]) F
@[simp] theorem zxZ(F:List aq):bN m (tf n F)↔True:=⟨λ_=>trivial,λ_=>bP _<|Qr n F⟩
def wi(L:List Pr)(sel:Pr->Int)(l:af):Nat->Bool:=λi=>kK l (sel<|L.getD i (0,0)).toNat
theorem zsM{l:af}(bg:bq l n)(hk:k<l.length)(v:Nat):kK (l.take<|k+1) v=if v=(l.getD k 0).toNat then true else kK (l.take k) v:=by
 have hx:=dn bg (fV hk);unfold kK;rw[ay,aG hk] at hx⊢;simp only[pe] at hx⊢;rw[kj,nb,ld,aG hk];split
 ·rename_i q;rw[de,A3,cM];exact⟨λ_=>rfl,λ_=>.inr zo⟩
 rename_i q;rw[nb,de,A3,cM];exact⟨λh=>h.resolve_right zo,.inl⟩
theorem TY(A:bZ)(L:List Pr)(G:ak)(fr l:af)(hl:l.length<=1000000000000)(bg:bq l L.length):ar aj 130 [.aN<|iA W A L G fr,aL l]<|aL<|l.map λn=>(L.getD n.toNat (0,0)).1:=by
 have hp:=xM W A L G fr;refine fi fZ zs (by simp[ao,Pure,c9,hp]) ?_<|c9 _;unfold iA yq;refine sR ?_;rw[aS];refine dk (iF 5 1 zs rfl) ?_;refine bT [0,8,9] (λk:Nat=>[(5,.own 0 k 0 k),(10,ab k)]) (λk=>[(0,.vec true k 1<|aE<|(l.take k).map λn=>(L.getD n.toNat (0,0)).1)]) (λk=>k<=l.length) (λk=>l.length-k) 0 ?_;refine gp ?_;rintro k hk;refine bl (λq0=>?_) λq0=>?_
 ·have q0:k<l.length:=sO;have hx:=dn bg<|fV q0;have eS:(l.take<|k+1).map (λn=>(L.getD n.toNat (0,0)).1)=(l.take k).map (λn=>(L.getD n.toNat (0,0)).1)++[(L.getD (l.getD k 0).toNat (0,0)).1]:=by
   rw[ld,aG q0,ay (l:=l),aG q0,mq];rfl
  refine sL (eY (l:=l) (k:=k) zo q0) ?_;generalize l.getD k 0=x at *;refine sL (F8 (l:=L) (k:=x.toNat) zo zo) ?_;refine sJI ?_;refine⟨k+1,zo,zd,?_⟩;dsimp only;rw[eS];refine br 1 zs rfl sQ (sU ?_);exact bM (by
   have:=pT ((l.take k).map λn=>(L.getD n.toNat (0,0)).1) (L.getD x.toNat (0,0)).1;rw[aS,gO,tJ hk] at this;exact this)
 have q0:k=l.length:=by have:¬k<l.length:=sO
                        omega
 subst q0;rw[gz];exact .own _ _ _ _ _ _ _ _ rfl (by rw[dt<|by simp[aE]];exact fW _)
theorem Ww(W:ba)(A:bZ)(L:List Pr)(hL:L.length<=2000000)(G:ak)(fr:af)(g:FuncId)(sel:Pr->Int)(n:Nat)(hn:n<=2048)(zEy:∀p∈L,ar aj g [.agg<|nZ p.1 p.2]<|ab<|sel p)(bg:∀p∈L,0<=sel p/\sel p<(n:Int))
  (l:af) (hl:l.length<=17592186043904) (WE:bq l n) (F:List aq) (hF:F.length<=1000) :
  cd aj 198 [aL l,.fn (.func g) [] [],ab n,.loc 0 0,.loc 1 0] [.row true [.aN<|iA W A L G fr],.row true [.own 2 F.length 0 F.length],.vec true F.length 1<|tf L.length F]
   (.aJ []) [.row true [.aN<|iA W A L G fr],.row true [.own 2 (F.length+1) 0<|F.length+1],.vec true (F.length+1) 1<|tf L.length<|F++[wi L sel l]]:=by
 have hp:=xM W A L G fr;have Bj:=λm=>cp (m:=m) _<|xZ hp;refine vp fZ zs zs ?_ (by simp[az,aK]);obtain⟨sd,mw⟩:∃sd:D,sd=.aN (iA W A L G fr):=⟨_,rfl⟩;have pZ:ao [sd]:=by subst mw;exact⟨xZ hp,trivial⟩
 rw[<-mw] at Bj⊢;refine sR ?_;refine⟨zo,zo,zo,?_⟩;rw[bS,show List.map D.sc [Value.bool false]=[aF false] from rfl,n5];refine sW ?_;rw[aS];refine bT [1,3,4,8,16,17] (λk:Nat=>[(18,ab k)]) (λk=>[(3,.vec true 0 1 (bU n (kK (l.take k))))]) (λk=>k<=l.length) (λk=>l.length-k) 0 ?_;refine gp ?_;rintro k hk;refine bl (λq0=>?_) λq0=>?_
 ·have q0:k<l.length:=sO;have hx:=dn WE<|fV q0;have e:=zsM WE q0;refine sL (eY (l:=l) (k:=k) zo q0) ?_;generalize l.getD k 0=x at *;refine sB ?_;refine⟨_,cX x.toNat zo zo,?_⟩;refine bJ ?_;refine⟨k+1,zo,zd,bf (by exact sK) ?_⟩;rw[oZ (i:=x.toNat) (f':=kK<|l.take<|k+1) zo λv _=>e v];rfl
 have q0:k=l.length:=by have:¬k<l.length:=sO
                        omega
 subst q0;rw[gz];subst mw;unfold iA yq;refine sW ?_;rw[HC];refine⟨zo,zo,zo,?_⟩;rw[bS,show List.map D.sc [Value.bool false]=[aF false] from rfl,n5];refine sW ?_;rw[HC];refine bT [1,4,8,11,35,36] (λk:Nat=>[(37,ab k)]) (λk=>[(4,.vec true 0 1<|bU L.length λv=>decide (v<k)&&wi L sel l v)]) (λk=>k<=L.length) (λk=>L.length-k) 0 ?_;refine sW ?_;refine⟨zo,by exact sK,by rw[show(λv=>decide (v<0)&&wi L sel l v)=λ_=>false from funext λv=>zs];rfl,?_⟩;rintro k hk;refine bl (λq0=>?_) λq0=>?_
 ·have q0:k<L.length:=sO;have hse:=zEy _<|G3 q0;have hii:=bg _<|G3 q0;have eS:wi L sel l k=kK l (sel<|L.getD k (0,0)).toNat:=rfl;refine sL (F8 (k:=k) zo q0) ?_;generalize L.getD k (0,0)=p at *;refine sC hse ?_;generalize sel p=x at *;refine sB ?_;refine⟨_,cX x.toNat zo zo,?_⟩;refine ew ?_;refine⟨_,cX k zo q0,?_⟩;refine bJ ?_;refine⟨k+1,zo,zd,?_⟩;rw[oZ (i:=k) (f':=λv=>decide (v<k+1)&&wi L sel l v) zo λv _=>by
   by_cases e:v=k
   ·subst e;rw[ae rfl,<-eS];simp
   rw[aa e];by_cases e2:v<k
   ·rw[gb e2,gb<|show v<k+1 by omega]
   rw[gx e2,gx<|show ¬v<k+1 by omega]]
  (refine br 5 zs rfl ?_ ?_<;>(repeat' (first|exact trivial|exact rfl|exact bR.refl _|exact ck.refl _|exact cg.refl _|refine And.intro ?_ ?_|(simp[az,aK,bN,-List.map_take,-List.map_drop];done))))
  all_goals first|exact cu _ hp|simp[c9,lu,qR,zoi,znu]|skip
 have q0:k=L.length:=by have:¬k<L.length:=sO
                        omega
 subst q0;refine sJ ?_;refine⟨.refl _,⟨rfl,.refl _,Bj _,trivial⟩,⟨rfl,.refl _,by simp[aK,az]⟩,⟨rfl,rfl,rfl,?_,bP _<|Qr _ _⟩,trivial⟩;rw[show tf L.length (F++[wi L sel l])=tf L.length F++[[bI L.length<|wi L sel l]] by simp[tf]];exact .append _ _ _ _ (bM<|dt zs) (.cons _ _ _ _ (.cons _ _ _ _ (.own _ _ _ _ _ _ _ _ rfl rfl (bM<|by rw[dt zs];exact iw λv hv=>by rw[gb hv];simp)) (.refl _)) (.refl _))
variable(p:Pr)
theorem Yg:ar aj 199 [.agg<|nZ p.1 p.2]<|ab p.1:=by
 refine fi fZ zs (by simp[ao,Pure,nZ]) ?_ (by simp[Pure]);unfold nZ;refine sR ?_;exact .refl _
theorem zsV:ar aj 200 [.agg<|nZ p.1 p.2]<|ab p.2:=by
 refine fi fZ zs (by simp[ao,Pure,nZ]) ?_ (by simp[Pure]);unfold nZ;refine sR ?_;exact .refl _
def kU(L:List Pr)(sel:Pr->Int)(G:ak)(k:Nat):List aq:=(G.take k).map<|wi L sel
variable{sel:Pr->Int}{G:ak}
theorem Tp(h:k<G.length):kU L sel G (k+1)=kU L sel G k++[wi L sel<|G.getD k []]:=by
 unfold kU;rw[ld,aG h,mq,ay,aG h];rfl
theorem x9(h:k<=G.length):(kU L sel G k).length=k:=by simp[kU];omega
def gh(W:ba)(A:bZ)(L:List Pr):List aq:=kU L (·.1) W.fair W.fair.length++kU L (·.2) A.fair A.fair.length
theorem zyz{W:ba}{A:bZ}(nK:yK W A)(L:List Pr)(hL:L.length<=2000000)(hg:∀p∈L,jJ W A p)(G:ak)(fr:af):ar aj 125 [.aN<|iA W A L G fr]<|yv L.length<|gh W A L:=by
 have hp:=xM W A L G fr;obtain⟨w1,w2,w3,w4,w5,w6⟩:=vy W nK.cw;obtain⟨a1,a2,a3,a4,a5,a6,a7⟩:=yk A nK.ca;have mc:=λk (hk:k<W.fair.length) F (hF:F.length<=1000)=>Ww W A L hL G fr 199 (·.1) W.next.length zo (λp _=>Yg p) (λp hp=>(hg p hp).1) (W.fair.getD k []) (Bk nK.fw.AY k) (iO w6 k) F hF;have Uu:=λk (hk:k<A.fair.length) F (hF:F.length<=1000)=>Ww W A L hL G fr 200 (·.2) A.next.length zo (λp _=>zsV p) (λp hp=>(hg p hp).2) (A.fair.getD k []) (Bk nK.fa.AY k) (iO a7 k) F hF;refine fi fZ zs (by simp[ao,xZ hp]) ?_ (Ky _ _);have Bj:=λm=>cp (m:=m) _ (xZ hp);obtain⟨sd,mw⟩:∃sd:aZ,sd=iA W A L G fr:=⟨_,rfl⟩;rw[<-mw] at hp Bj mc Uu⊢;refine sR ?_;subst mw;unfold iA;refine sW ?_;rw[aS];refine dk (jN 1 0 1 zs rfl rfl) ?_;refine fy [1,3,4,14,15] (λk:Nat=>[(16,ab k)]) (λk=>[.row true [.aN (iA W A L G fr)],.row true [.own 2 (kU L (·.1) W.fair k).length 0 (kU L (·.1) W.fair k).length],.vec true (kU L (·.1) W.fair k).length 1 (tf L.length (kU L (·.1) W.fair k))]) (λk=>k<=W.fair.length) (λk=>W.fair.length-k) 0 ?_;refine gp ?_;rintro k hk;have eL:=x9 (L:=L) (sel:=(·.1)) hk;refine bl (λq0=>?_) λq0=>?_
 ·have q0:k<W.fair.length:=sO;have hP:=mc k q0 (kU L (·.1) W.fair k) zo;have eS:=Tp (L:=L) (sel:=(·.1)) q0;refine⟨zo,_,me (g:=W.fair) (k:=k) zo q0,?_⟩;rw[<-eS] at hP;refine sW ?_;rw[aS];unfold iA at hP;refine sA hP ?_;refine sI ?_;refine⟨k+1,zo,zd,?_⟩;have eL2:=x9 (L:=L) (sel:=(·.1)) (k:=k+1) (show k+1<=W.fair.length by omega);dsimp only;rw[eL2,eL]
  (refine br 3 zs rfl ?_ ?_<;>(repeat' (first|exact trivial|exact rfl|exact bR.refl _|exact ck.refl _|exact cg.refl _|refine And.intro ?_ ?_|(simp[az,aK,bN,-List.map_take,-List.map_drop];done))))
  all_goals first|exact Bj _|skip
 have q0:k=W.fair.length:=by have:¬k<W.fair.length:=sO
                             omega
 subst q0;generalize Js:kU L (·.1) W.fair W.fair.length=F0 at *;refine sW ?_;rw[aS];refine fy [1,3,4,34,35] (λk:Nat=>[(36,ab k)]) (λk=>[.row true [.aN<|iA W A L G fr],.row true [.own 2 (F0++kU L (·.2) A.fair k).length 0 (F0++kU L (·.2) A.fair k).length],.vec true (F0++kU L (·.2) A.fair k).length 1 (tf L.length (F0++kU L (·.2) A.fair k))]) (λk=>k<=A.fair.length) (λk=>A.fair.length-k) 0 ?_;refine sW ?_;refine⟨zo,by exact sK,by simp[kU],?_⟩;rintro k hk;have eL':=x9 (L:=L) (sel:=(·.2)) hk;refine bl (λq0=>?_) λq0=>?_
 ·have q0:k<A.fair.length:=sO;have hP:=Uu k q0 (F0++kU L (·.2) A.fair k) (by rw[cL];omega);have eS:=Tp (L:=L) (sel:=(·.2)) q0;refine⟨zo,_,me (g:=A.fair) (k:=k) zo q0,?_⟩;rw[l8,<-eS] at hP;refine sW ?_;rw[aS];unfold iA at hP;refine sA hP ?_;refine sI ?_;refine⟨k+1,zo,zd,?_⟩;have eL2:(F0++kU L (·.2) A.fair (k+1)).length=(F0++kU L (·.2) A.fair k).length+1:=(by rw[cL,cL,x9 zo,eL'];rfl);dsimp only;rw[eL2]
  (refine br 3 zs rfl ?_ ?_<;>(repeat' (first|exact trivial|exact rfl|exact bR.refl _|exact ck.refl _|exact cg.refl _|refine And.intro ?_ ?_|(simp[az,aK,bN,-List.map_take,-List.map_drop];done))))
  all_goals first|exact Bj _|skip
 have q0:k=A.fair.length:=by have:¬k<A.fair.length:=sO
                             omega
 subst q0;unfold gh;rw[Js];exact .own _ _ _ _ _ _ _ _ rfl (by rw[dt zs];exact fW _)
end
section
noncomputable def ml(g:ak)(F:List aq)(k:Nat):Nat->Bool:=λi=>okT g g.length i&&(F.take k).all λS=>ow g S g.length i
variable{F:List aq}
theorem zpX{g:ak}(h:k<F.length)(i:Nat):ml g F (k+1) i=(ml g F k i&&ow g (F.getD k noT) g.length i):=by
 unfold ml;rw[V1 h noT,Bool.and_assoc]
theorem zt5{g:ak}:ml g F F.length=oj g F:=by
 funext i;unfold ml oj;rw[gz]
theorem zz1(x:Int)(hx:0<=x/\x<(g.length:Int))(n:Nat)(hn:n<g.length):ar aj 201 [ab x,.aN [aL<|lL g],.aN [ab n]]<|aF<|bp g x.toNat==bp g n:=by
 refine bz fZ ?_;unfold lL aL;refine sR ?_;refine sL (dh x.toNat zo zo) ?_;refine sL (dh n zo hn) ?_;exact .refl _
theorem zzO(W:ba)(A:bZ)(L:List Pr)(g:ak)(xz:g.length=L.length)(fr:af)(hn:g.length<=2000000)(kS:∀l∈g,bq l g.length)(hF:kL g)(F:List aq)(zJ:F.length<=1000) :
  ar aj 126 [.aN<|iA W A L g fr,aL<|lL g,yv g.length F] (ab<|ee (λb=>true==b)<|(List.range g.length).map<|oj g F):=by
 have dV:=λk=>iO kS k;have hp:=xM W A L g fr;have hc:=λk (hk:k<g.length)=>kY (λn=>ab n) (λa=>by simp[Pure]) (g.getD k []) (by have:=hF.at k;omega) (λx=>bp g x.toNat==bp g k) 201 [.aN [aL<|lL g],.aN [ab k]] (by simp[ao,Pure,c9]) λa ha=>zz1 g a (dn (dV k) ha) k hk;have hI:=UR ((List.range g.length).map<|oj g F) (by simp;omega) true;refine fi fZ zs (by simp[ao,Pure,c9,hp,Ky]) ?_ (by simp[Pure]);unfold iA yq yv bW;refine sR ?_;rw[HC,<-xz];refine⟨zo,zo,zo,?_⟩;rw[bS,show List.map D.sc [Value.bool false]=[aF false] from rfl,n5];refine sW ?_;rw[aS];refine bT [0,2,4,7,25,26] (λk:Nat=>[(27,ab k)]) (λk=>[(1,.vec true 0 1<|bU g.length<|okT g k)]) (λk=>k<=g.length) (λk=>g.length-k) 0 ?_;refine gp ?_;rintro k hk;refine bl (λq0=>?_) λq0=>?_
 ·have q0:k<g.length:=sO;have iN:=uD q0;have e1:=U2 g k;refine sL (me (k:=k) zo q0) ?_;refine sN (hc k q0) ?_;rw[show((g.getD k []).any λx=>bp g x.toNat==bp g k)=xj g k from rfl];cases r:xj g k
  ·refine bJ ?_;refine⟨k+1,zo,zd,?_⟩
   (refine br 2 zs rfl ?_ ?_<;>(repeat' (first|exact trivial|exact rfl|exact bR.refl _|exact ck.refl _|exact cg.refl _|refine And.intro ?_ ?_|(simp[az,aK,bN,-List.map_take,-List.map_drop];done))))
   all_goals first|exact cu _ hp|exact bM (iw λi _=>by rw[e1,r,Bool.and_false,uL])|skip
  refine sW ?_;refine sL (dh k zo q0) ?_;refine sB ?_;refine⟨_,cX (bp g k).toNat zo zo,?_⟩;refine bJ ?_;refine⟨k+1,zo,zd,?_⟩;rw[oZ (i:=(bp g k).toNat) (f':=okT g<|k+1) zo λv _=>by
   rw[e1,r,yE];by_cases e:v=(bp g k).toNat
   ·rw[ae e,show(bp g k==(v:Int))=true by rw[gC];omega,Bool.or_true]
   rw[aa e,show(bp g k==(v:Int))=false by rw[beq_eq_false_iff_ne];omega,uL]]
  (refine br 2 zs rfl ?_ ?_<;>(repeat' (first|exact trivial|exact rfl|exact bR.refl _|exact ck.refl _|exact cg.refl _|refine And.intro ?_ ?_|(simp[az,aK,bN,-List.map_take,-List.map_drop];done))))
  all_goals first|exact cu _ hp|skip
 have q0:k=g.length:=by have:¬k<g.length:=sO
                        omega
 subst q0;clear hc;rw[aS];refine bT [0,4,7,42,43] (λk:Nat=>[(44,ab k)]) (λk=>[(1,.vec true 0 1<|bU g.length<|ml g F k)]) (λk=>k<=F.length) (λk=>F.length-k) 0 ?_;refine sW ?_;refine⟨zo,by exact sK,by rw[show ml g F 0=okT g g.length from funext λi=>by simp[ml]];rfl,?_⟩;rintro k hk;refine bl (λq0=>?_) λq0=>?_
 ·have q0:k<F.length:=sO;have eG:=λi=>zpX (g:=g) q0 i;refine sL (Wk (n:=g.length) (F:=F) (k:=k) zo q0) ?_;generalize F.getD k noT=S at *;rw[HC,<-xz];refine⟨zo,zo,zo,?_⟩;rw[bS,show List.map D.sc [Value.bool false]=[aF false] from rfl,n5];refine sW ?_;rw[C4];refine bT [0,4,7,12,42,43,44,54,55] (λj:Nat=>[(56,ab j)]) (λj=>[(2,.vec true 0 1<|bU g.length<|ow g S j)]) (λj=>j<=g.length) (λj=>g.length-j) 0 ?_;refine sW ?_;refine⟨zo,by exact sK,by rw[show ow g S 0=λ_=>false from funext λi=>rfl];rfl,?_⟩;rintro j hj;refine bl (λq2=>?_) λq2=>?_
  ·have q2:j<g.length:=sO;have eH:=λi=>zsa g S j i;have G0:=uD (g:=g) q2;refine sL (cX j zo q2) ?_;refine sL (dh j zo q2) ?_;refine sL (dh j zo q2) ?_;refine sB ?_;refine⟨_,cX (bp g j).toNat zo zo,?_⟩;refine sW ?_
   have fin:∀v,(v=true↔ow g S j (bp g j).toNat\/S j)->(bU g.length<|ow g S j).set (bp g j).toNat [aF v]=bU g.length (ow g S<|j+1):=λv hv =>
    oZ rfl λq _=>by
     rw[eH];by_cases e:q=(bp g j).toNat
     ·subst e;rw[ae rfl,show(bp g j==(((bp g j).toNat:Nat):Int))=true by rw[gC];omega,jZ,kj,jh,hv]
     rw[aa e,show(bp g j==(q:Int))=false by rw[beq_eq_false_iff_ne];omega,qG,uL]
   cases r:ow g S j (bp g j).toNat
   ·refine ew ?_;refine⟨_,cX (bp g j).toNat zo zo,?_⟩;refine bJ ?_;refine⟨j+1,zo,zd,bf (by exact sK) ?_⟩;have:=fin (S j) (by rw[r];simp);rw[jP,this];rfl
   refine ew ?_;refine⟨_,cX (bp g j).toNat zo zo,?_⟩;refine bJ ?_;refine⟨j+1,zo,zd,bf (by exact sK) ?_⟩;have:=fin true (by rw[r];simp);rw[jP,this];rfl
  have q2:j=g.length:=by have:¬j<g.length:=sO
                         omega
  rw[q2];clear q2;refine bT [0,4,7,12,42,43,44,79] (λi:Nat=>[(80,ab i)]) (λi=>[(1,.vec true 0 1<|bU g.length λx=>if x<i then ml g F (k+1) x else ml g F k x)]) (λi=>i<=g.length) (λi=>g.length-i) 0 ?_;refine sW ?_;refine⟨zo,by exact sK,by simp;rfl,?_⟩;rintro i hi;refine bl (λq3=>?_) λq3=>?_
  ·have q3:i<g.length:=sO
   have fin:(bU g.length λx=>if x<i then ml g F (k+1) x else ml g F k x).set i [aF<|ml g F (k+1) i]=bU g.length λx=>if x<i+1 then ml g F (k+1) x else ml g F k x :=
    oZ rfl λq _=>by
     by_cases e:q=i
     ·subst e;rw[ae zo,ae rfl]
     rw[aa e];by_cases e2:q<i
     ·rw[ae e2,ae zo]
     rw[aa e2,aa zo]
   have eGi:=eG i;have gR:(bU g.length λx=>if x<i then ml g F (k+1) x else ml g F k x)[i]? = some [aF<|ml g F k i]:=by
    rw[cX i rfl q3,aa zo]
   refine sB ?_;refine⟨_,by rw[jP];exact gR,?_⟩;refine sW ?_;cases r:ml g F k i
   ·rw[r,qG] at eGi;rw[eGi] at fin;refine ew ?_;refine⟨_,by rw[jP];exact gR,?_⟩;refine bJ ?_;refine⟨i+1,zo,zd,bf (by exact sK) ?_⟩;rw[jP,show(i:Int).toNat=i from bS i,fin];rfl
   rw[r,jZ] at eGi;rw[eGi] at fin;refine ew ?_;refine⟨_,cX i zo q3,?_⟩;refine ew ?_;refine⟨_,by rw[jP];exact gR,?_⟩;refine bJ ?_;refine⟨i+1,zo,zd,bf (by exact sK) ?_⟩;rw[jP,show(i:Int).toNat=i from bS i,fin];rfl
  have q3:i=g.length:=by have:¬i<g.length:=sO
                         omega
  subst q3;refine sI ?_;refine⟨k+1,zo,zd,?_⟩;dsimp only
  (refine br 2 zs rfl ?_ ?_<;>(repeat' (first|exact trivial|exact rfl|exact bR.refl _|exact ck.refl _|exact cg.refl _|refine And.intro ?_ ?_|(simp[az,aK,bN,-List.map_take,-List.map_drop];done))))
  all_goals first|exact cu _ hp|exact bP _ (cO _ (λS=>by simp[ao,ke]) F)|exact bM (iw λv hv=>by rw[ae hv])|skip
 have q0:k=F.length:=by have:¬k<F.length:=sO
                        omega
 subst q0;rw[zt5];rw[show((List.range g.length).map<|oj g F).map (λa=>[aF a])=List.drop 0 (List.take g.length<|bU g.length<|oj g F) by rw[Af,XN]] at hI;refine sN hI ?_;exact .refl _
end
def wS(Z:af)(i:Nat)(p:Nat):Int:=if p<i\/Z.length-i<=p then Z.getD (Z.length-1-p) 0 else Z.getD p 0
variable(Z:af)
theorem Zr:gl Z.length (λp=>Z.getD p 0)=Z:=by
 apply AT zs;intro i h1 h2;have:=A9 (n:=Z.length) (g:=λp=>Z.getD p 0) h2;rw[ay,aG h1,ay,aG h2] at this;exact this
theorem zBJ{Z:af}{g:Nat->Int}(h:∀p,p<Z.length->g p=Z.getD (Z.length-1-p) 0):gl Z.length g=Z.reverse:=by
 apply AT zs;intro i h1 h2;have hi:i<Z.length:=by simpa using h1
 have:=A9 (n:=Z.length) (g:=g) hi;rw[ay,aG h1,h i hi,ay,aG zo] at this;rw[List.getElem_reverse];exact this
theorem U7(hl:Z.length<=17592186044416)(v:Nat):cd aj 203 [.own 0 v 0 Z.length] [.vec true v 1<|aE Z] (.aJ []) [.vec true v 1<|aE Z.reverse]:=by
 refine gm fZ zs zs ?_ (by simp[az,aK]) (by simp[an.under]);refine sR ?_;rw[xS];refine sI ?_;refine bT [0] (λi:Nat=>[(2,ab i),(3,ab<|(Z.length:Int)-1-i)]) (λi=>[(0,.vec true v 1<|aE<|gl Z.length<|wS Z i)]) (λi=>2*i<=Z.length+1) (λi=>Z.length+1-i) 0 ?_;refine sW ?_;refine⟨zo,⟨rfl,by show D.sc _=D.sc _;simp,trivial⟩,by
  rw[vW (g':=λp=>Z.getD p 0) λp hp=>by unfold wS;rw[aa zo],Zr];rfl,?_⟩
 rintro i hi;refine bl (λh1=>?_) λh1=>?_
 ·have h1:(i:Int)<(Z.length:Int)-1-i:=sO;refine sB ?_;refine⟨_,dh (Z.length-1-i) zo zo,?_⟩;refine ew ?_;refine⟨_,dh i zo zo,?_⟩;refine ew ?_;refine⟨_,dh i zo zo,?_⟩;refine ew ?_;rw[nA (k:=i) zo];refine⟨_,dh (Z.length-1-i) zo zo,?_⟩;refine bJ ?_;refine sI ?_;refine⟨i+1,zo,zd,?_⟩;refine bf ⟨rfl,by show D.sc _=D.sc _;simp;omega,by exact sK⟩ ?_;rw[nA (k:=Z.length-1-i) zo,vW (g':=wS Z<|i+1) λp hp=>?_]
  ·rfl
  by_cases e1:p=Z.length-1-i
  ·subst e1;rw[tu];unfold wS;rw[aa zo,ae zo]
   congr 1
   omega
  rw[wj e1];by_cases e2:p=i
  ·subst e2;rw[tu];unfold wS;rw[aa zo,ae zo]
  rw[wj e2];unfold wS;by_cases q:p<i\/Z.length-i<=p
  ·rw[ae q,ae zo]
  rw[aa q,aa zo]
 have h1:¬(i:Int)<(Z.length:Int)-1-i:=sO;refine⟨?_,zs⟩;rw[<-zBJ (Z:=Z) (g:=wS Z i) λp hp=>?_]
 ·rfl
 unfold wS;split
 ·rfl
 congr 1
 omega
section
def cB(M:List Pr):af:=M.map (·.1)
def lz(ok:aq)(n:Int):af->List Pr->List Pr
 |[],M=>M
 |k::r,M=>lz ok n r<|if (cB M).contains k=false/\ok k.toNat=true then M++[(k,n)] else M
def wSt:af->List Pr->List Pr
 |[],M=>M
 |k::r,M=>wSt r<|if (cB M).contains k=false then M++[(k,-1)] else M
def dj(M:List Pr)(h:Nat):Int:=(M.getD h (0,0)).1
def nN(g:ak)(to ok:aq):Nat->Nat->List Pr->Option (List Pr×Nat)
 |0,_,_=>none
 |f+1,h,M=>if h<M.length then (if to (dj M h).toNat=true then some (M,h) else nN g to ok f (h+1)<|lz ok (dj M h) (g.getD (dj M h).toNat []) M) else none
def upM(M:List Pr)(n:Int):Int:=((M.find? λp=>p.1==n).map (·.2)).getD (-1)
def kC(M:List Pr):Nat->Int->af
 |0,_=>[]
 |f+1,n=>if n<0 then [] else n::kC M f (upM M n)
def ku(g:ak)(to ok:aq)(from_:af):af :=
 match nN g to ok (g.length+1) 0 (wSt from_ []) with
 |some (M,h)=>(kC M (M.length+1)<|dj M h).reverse
 |none=>[]
structure iT(g:ak)(ok:aq)(from_:af)(M:List Pr):Prop where
 nd:(cB M).Nodup
 rng:∀p∈M,0<=p.1/\p.1<(g.length:Int)
 par:∀j,j<M.length->(M.getD j (0,0)).2=-1\/∃i,i<j/\(M.getD j (0,0)).2=dj M i
 okF:∀p∈M,p.1∈from_\/ok p.1.toNat=true
variable(M:List Pr)
theorem wD:(cB M).length=M.length:=by simp[cB]
theorem Ar(p:Pr):cB (M++[p])=cB M++[p.1]:=by simp[cB]
variable{M:List Pr}
theorem yP(h:i<M.length):dj (M++[p]) i=dj M i:=by
 unfold dj;rw[ay,dJ h,<-ay]
variable{g:ak}{ok:aq}{from_:af}
theorem iT.len(h:iT g ok from_ M):M.length<=g.length:=by
 rw[<-wD];have dO:=h.nd;refine H6 g.length (cB M).length (λi=>((cB M).getD i 0).toNat) (λi hi=>?_) λi j hi hj he=>?_
 ·have hm:(cB M).getD i 0∈cB M:=(by rw[ay,aG hi];simp);obtain⟨p,hp,e⟩:=cU.1 hm;have:=h.rng p hp;rw[<-e];omega
 have bu:(cB M).getD i 0∈cB M:=by rw[ay,aG hi];simp
 have jC:(cB M).getD j 0∈cB M:=by rw[ay,aG hj];simp
 obtain⟨p,hp,e1⟩:=cU.1 bu;obtain⟨q,hq,e2⟩:=cU.1 jC;have a:=h.rng p hp;have b:=h.rng q hq;have hx:(cB M).getD i 0=(cB M).getD j 0:=by rw[<-e1,<-e2] at he⊢;omega
 rw[ay,ay,aG hi,aG hj] at hx;simp only[pe] at hx;rcases ue i j with q|q|q
 ·exact absurd hx<|xc.1 dO i j hi hj q
 ·exact q
 exact absurd hx.symm<|xc.1 dO j i hj hi q
variable{k:Int}
theorem iT.push(h:iT g ok from_ M){n:Int}(hk:0<=k/\k<(g.length:Int))(hn:¬k∈cB M)(hp:n=-1\/∃i,i<M.length/\n=dj M i)(hf:k∈from_\/ok k.toNat):iT g ok from_ (M++[(k,n)]) where
 nd:=by
  rw[Ar,zn];exact⟨h.nd,zs,λa ha b hb=>by rw[cM] at hb;subst hb;exact λe=>hn<|e▸ha⟩
 rng p hp:=by
  rcases de.1 hp with q|q
  ·exact h.rng p q
  rw[cM] at q;subst q;exact hk
 par j hj:=by
  by_cases e:j<M.length
  ·rw[ay,dJ e,<-ay];rcases h.par j e with k1|⟨i,k1,k2⟩
   ·exact .inl k1
   exact .inr ⟨i,k1,by rw[k2,yP zo]⟩
  have ej:j=M.length:=(by simp at hj;omega);subst ej;rw[ay,fc<|aI _,mE];show n=-1\/_;rcases hp with k1|⟨i,k1,k2⟩
  ·exact .inl k1
  exact .inr ⟨i,k1,by show n=_;rw[k2,yP k1]⟩
 okF p hp:=by
  rcases de.1 hp with q|q
  ·exact h.okF p q
  rw[cM] at q;subst q;exact hf
variable{l:af}
theorem ru(h:l.contains k=false):¬k∈l:=λq=>by rw[nb.2 q] at h;cases h
theorem Ul(h:¬l.contains k=false):k∈l:=nb.1<|by cases e:l.contains k<;>simp_all
theorem GS{g:ak}{ok:aq}{from_:af}:∀(r:af) {M:List Pr},iT g ok from_ M->(∀x∈r,x∈from_/\0<=x/\x<(g.length:Int)) ->
  iT g ok from_ (wSt r M)/\(∀x∈r,x∈cB (wSt r M))/\∃X,wSt r M=M++X
 |[],M,h,_=>⟨h,zs,[],by simp[wSt]⟩
 |k::r,M,h,hr=>by
  rw[wSt];by_cases q:(cB M).contains k=false
  ·rw[ae q];obtain⟨a,b,X,hX⟩:=GS r (h.push (hr k zs).2 (ru q) (.inl rfl) (.inl (hr k zs).1)) λx hx=>hr x (by simp[hx]);refine⟨a,λx hx=>?_,(k,-1)::X,by rw[hX];simp⟩;rcases dD.1 hx with rfl|hx
   ·rw[hX];simp[cB]
   exact b x hx
  rw[aa q];obtain⟨a,b,X,hX⟩:=GS r h λx hx=>hr x (by simp[hx]);refine⟨a,λx hx=>?_,X,hX⟩;rcases dD.1 hx with rfl|hx
  ·have:=Ul q;rw[hX];unfold cB at this⊢;rw[mq];exact de.2 (.inl this)
  exact b x hx
theorem Ij{g:ak}{ok:aq}{from_:af}{n:Int}{i0:Nat}:∀(r:af) {M:List Pr},iT g ok from_ M->i0<M.length->n=dj M i0->(∀x∈r,0<=x/\x<(g.length:Int)) ->
  iT g ok from_ (lz ok n r M)/\(∀x∈r,ok x.toNat->x∈cB (lz ok n r M))/\∃X,lz ok n r M=M++X
 |[],M,h,_,_,_=>⟨h,zs,[],by simp[lz]⟩
 |k::r,M,h,hi,hn,hr=>by
  rw[lz];by_cases q:(cB M).contains k=false/\ok k.toNat=true
  ·rw[ae q];obtain⟨a,b,X,hX⟩:=Ij (n:=n) (i0:=i0) r (h.push (hr k zs) (ru q.1) (.inr ⟨i0,hi,hn⟩) (.inr q.2)) (by rw[cL];omega) (by rw[yP hi];exact hn) λx hx=>hr x (by simp[hx]);refine⟨a,λx hx oO=>?_,(k,n)::X,by rw[hX];simp⟩;rcases dD.1 hx with rfl|hx
   ·rw[hX];simp[cB]
   exact b x hx oO
  rw[aa q];obtain⟨a,b,X,hX⟩:=Ij (i0:=i0) r h hi hn λx hx=>hr x (by simp[hx]);refine⟨a,λx hx oO=>?_,X,hX⟩;rcases dD.1 hx with rfl|hx
  ·have:=Ul λz=>q ⟨z,oO⟩;rw[hX];unfold cB at this⊢;rw[mq];exact de.2 (.inl this)
  exact b x hx oO
theorem iT.none(g:ak)(ok:aq)(from_:af):iT g ok from_ [] where
 nd:=.nil
 rng p hp:=by cases hp
 par j hj:=by cases hj
 okF p hp:=by cases hp
theorem zud(dO:(cB M).Nodup)(hi:i<M.length):M.find? (λp=>p.1==dj M i)=some (M.getD i (0,0)):=by
 have:M.getD i (0,0)=M[i]:=by rw[ay,aG hi];rfl
 rw[this,List.find?_eq_some_iff_getElem];unfold dj;rw[this];refine⟨zs,i,hi,rfl,λj hj=>?_⟩;have:=xc.1 dO j i (by simp[cB];omega) (by simp[cB];omega) hj;simp only[cB,List.getElem_map] at this;simpa using this
theorem zyI(dO:(cB M).Nodup)(hi:i<M.length):upM M (dj M i)=(M.getD i (0,0)).2:=by
 unfold upM;rw[zud dO hi];rfl
def dY(M:List Pr)(t:Nat):Int:=if t=0 then -1 else dj M<|t-1
theorem iT.up(h:iT g ok from_ M)(ht:0<t)(hl:t<=M.length):∃t',t'<t/\upM M (dY M t)=dY M t'/\(M.getD (t-1) (0,0)).2=dY M t'/\0<=dY M t/\dY M t<(g.length:Int):=by
 have e:dY M t=dj M (t-1):=by unfold dY;rw[aa zo]
 rw[e,zyI h.nd zo];have hr:=h.rng _<|n6 (show t-1<M.length by omega);rcases h.par (t-1) zo with k|⟨i,k1,k2⟩
 ·exact⟨0,ht,by rw[k];rfl,by rw[k];rfl,hr⟩
 refine⟨i+1,zo,?_,?_,hr⟩
 ·rw[k2];unfold dY;rw[aa zo];rfl
 rw[k2];unfold dY;rw[aa zo];rfl
theorem iT.back{g:ak}{ok:aq}{from_:af}{M:List Pr}(h:iT g ok from_ M):∀(f t:Nat),t<=M.length->(∀x∈kC M f (dY M t),0<=x/\x<(g.length:Int))/\(kC M f<|dY M t).length<=t
 |0,t,_=>by simp[kC]
 |f+1,t,ht=>by
  rw[kC];by_cases h0:t=0
  ·subst h0;rw[ae<|by simp[dY]];simp
  obtain⟨t',k1,k2,_,k3,k4⟩:=h.up (t:=t) zo ht;rw[aa zo,k2];obtain⟨a,b⟩:=h.back f t' zo;refine⟨λx hx=>?_,by simp;omega⟩;rcases dD.1 hx with rfl|hx
  ·exact⟨k3,k4⟩
  exact a x hx
def x0(g:ak)(ok:aq):ak:=g.map λl=>l.filter λx=>ok x.toNat
theorem Kq:x∈(x0 g ok).getD v []↔x∈g.getD v []/\ok x.toNat:=by
 unfold x0;rw[ay,ay,cy]
 cases g[v]? with
 |none=>simp
 |some l=>simp
theorem JE{g:ak}(bg:∀l∈g,bq l g.length){to ok:aq}{from_:af}:∀(f h:Nat) (M:List Pr),iT g ok from_ M->h<=M.length->g.length+1<=f+h->(∀x∈from_,x∈cB M)->(∀i,i<h->to (dj M i).toNat=false/\∀y∈g.getD (dj M i).toNat [],ok y.toNat->y∈cB M) ->
  match nN g to ok f h M with
  |some (M',h')=>iT g ok from_ M'/\h'<M'.length/\to (dj M' h').toNat=true
  |none=>∀x∈from_,∀v,To (x0 g ok) x.toNat v->to v=false
 |0,h,M,hI,hh,hf,_,_=>by have:=hI.len;omega
 |f+1,h,M,hI,hh,hf,b8,iQ=>by
  rw[nN];by_cases q:h<M.length
  ·rw[ae q];by_cases q2:to (dj M h).toNat=true
   ·rw[ae q2];exact⟨hI,q,q2⟩
   rw[aa q2];obtain⟨a,b,X,hX⟩:=Ij (n:=dj M h) (g.getD (dj M h).toNat []) hI q rfl λx hx=>dn (iO bg _) hx;have yI:∀x,x∈cB M->x∈cB (lz ok (dj M h) (g.getD (dj M h).toNat []) M):=λx hx=>by
    rw[hX];unfold cB at hx⊢;rw[mq];exact de.2 (.inl hx)
   have Db:∀i,i<M.length->dj (lz ok (dj M h) (g.getD (dj M h).toNat []) M) i=dj M i:=λi hi=>by
    rw[hX];unfold dj;rw[ay,dJ hi,<-ay]
   have hlen:M.length<=(lz ok (dj M h) (g.getD (dj M h).toNat []) M).length:=(by rw[hX];simp);refine JE bg f (h+1) _ a zo zo (λx hx=>yI x<|b8 x hx) λi hi=>?_;by_cases e:i=h
   ·subst e;rw[Db i q];exact⟨by simpa using q2,b⟩
   rw[Db i zo];obtain⟨c,d⟩:=iQ i zo;exact⟨c,λy hy C7=>yI y<|d y hy C7⟩
  rw[aa q];intro x hx v hv;have eh:h=M.length:=zo;subst eh;have key:((v:Nat):Int)∈cB M:=GY (g:=x0 g ok) (s:=λv=>((v:Nat):Int)∈cB M) (λu hu y hy=>by
   obtain⟨y1,y2⟩:=Kq.1 hy;have xi:=dn (iO bg u) y1;obtain⟨p,hp,ep⟩:=cU.1 hu;obtain⟨i,hi,rfl⟩:=kn.1 hp;have en:dj M i=(u:Int):=(by unfold dj;rw[ay,aG hi];exact ep);have:=(iQ i hi).2 y (by rw[en];exact y1) y2;rwa [show((y.toNat:Nat):Int)=y by omega]) hv (by
   have h1:=b8 x hx;obtain⟨p,hp,ep⟩:=cU.1 h1;have:=hI.rng p hp;have ep:p.1=x:=ep;rwa [show((x.toNat:Nat):Int)=x by omega])
  obtain⟨p,hp,ep⟩:=cU.1 key;obtain⟨i,hi,rfl⟩:=kn.1 hp;have en:dj M i=(v:Int):=(by unfold dj;rw[ay,aG hi];exact ep);have:=(iQ i hi).1;rw[en] at this;simpa using this
theorem Hk(bg:∀l∈g,bq l g.length)(to ok:aq)(hf:bq from_ g.length):bq (ku g to ok from_) g.length/\(ku g to ok from_).length<=g.length /\
  ((∃x∈from_,∃v,To (x0 g ok) x.toNat v/\to v)->∃init last,ku g to ok from_=init++[last]/\to last.toNat/\(last∈from_\/ok last.toNat)):=by
 obtain⟨a,b,_⟩:=GS (ok:=ok) (from_:=from_) from_ (iT.none g ok from_) λx hx=>⟨hx,dn hf hx⟩;have hR:=JE bg (to:=to) (ok:=ok) (g.length+1) 0 (wSt from_ []) a (b9 _) zo b λi hi=>zo;unfold ku
 cases e:nN g to ok (g.length+1) 0<|wSt from_ [] with
 |none =>
  rw[e] at hR;refine⟨rfl,zs,λ⟨x,hx,v,h1,h2⟩=>?_⟩;have:=hR x hx v h1;rw[h2] at this;cases this
 |some q =>
  obtain⟨M,h⟩:=q;rw[e] at hR;obtain⟨hI,hh,ht⟩:=hR;have en:dj M h=dY M (h+1):=(by unfold dY;rw[aa zo];rfl);obtain⟨c,d⟩:=hI.back (M.length+1) (h+1) zo;have hl:=hI.len;dsimp only;rw[en];refine⟨j9 λx hx=>c x<|List.mem_reverse.1 hx,by rw[List.length_reverse];omega,λ_=>?_⟩;have hr:=hI.rng _<|n6 hh;rw[kC,aa (by rw[<-en];unfold dj;omega),<-en];exact⟨_,_,by rw[List.reverse_cons],ht,hI.okF _<|n6 hh⟩
end
section
noncomputable def fIa(f:aH->Option aH)(M:List Pr):aH->Option aH:=M.foldl (λf p=>ox f (.int .i64 p.1) (.int .i64 p.2)) f
noncomputable def fI(M:List Pr):aH->Option aH:=fIa (λ_=>none) M
theorem Bl(M:List Pr)(p:Pr):fI (M++[p])=ox (fI M) (.int .i64 p.1) (.int .i64 p.2):=by
 unfold fI fIa;rw[List.foldl_append];rfl
theorem Ol{n:Int}:∀(M:List Pr) (f:aH->Option aH),¬n∈cB M->fIa f M (.int .i64 n)=f (.int .i64 n)
 |[],f,_=>rfl
 |p::r,f,h=>by
  have h1:p.1≠n:=λe=>h (by simp[cB,e]);show fIa _ r _=_;rw[Ol r _ λq=>h (by simp only[cB,dR,dD] at q⊢;exact .inr q)];unfold ox;dsimp only;rw[aa λe=>h1 (by injection e with _ e;exact e.symm)]
variable{M:List Pr}{n:Int}
theorem Jx(h:¬n∈cB M):fI M (.int .i64 n)=none:=Ol M _ h
theorem RM:∀(M:List Pr) (f:aH->Option aH),(cB M).Nodup->∀j,j<M.length->fIa f M (.int .i64<|dj M j)=some (.int .i64 (M.getD j (0,0)).2)
 |[],_,_,j,hj=>by cases hj
 |p::r,f,dO,j,hj=>by
  have h1:=List.nodup_cons.1<|show(p.1::cB r).Nodup from dO
  cases j with
  |zero =>
   show fIa _ r (.int .i64 p.1)=_;rw[Ol r _ h1.1];unfold ox;dsimp only;rw[ae rfl];rfl
  |succ j =>
   show fIa _ r (.int .i64<|dj r j)=_;rw[RM r _ h1.2 j<|by simpa using hj];rfl
theorem N4(dO:(cB M).Nodup){j:Nat}(hj:j<M.length):fI M (.int .i64<|dj M j)=some (.int .i64 (M.getD j (0,0)).2):=RM M _ dO j hj
theorem Ix(dO:(cB M).Nodup)(h:n∈cB M):∃v,fI M (.int .i64 n)=some v:=by
 obtain⟨p,hp,rfl⟩:=cU.1 h;obtain⟨i,hi,rfl⟩:=kn.1 hp;have:=N4 dO hi;rw[show dj M i=M[i].1 by unfold dj;rw[ay,aG hi];rfl] at this;exact⟨_,this⟩
variable{k:aY}
theorem UO{q:IntKind}(hu:P.underlying k=some (.int q)):Maps.Keyed P k:=Maps.int_keyed hu
theorem RX(hu:P.underlying k=some (.int .i64))(hn:(Lit.int .i64 n).wf):∃l,keyOf P k (.int .i64 n)=some l:=by
 unfold keyOf;rw[hu];simp only[mapKey,hu];rw[ae ⟨trivial,hn⟩];exact⟨_,rfl⟩
theorem T9(h:0<=n/\n<=1000000000000):(Lit.int .i64 n).wf:=by
 have h1:IntKind.min .i64=-9223372036854775808:=zc;have h2:IntKind.max .i64=9223372036854775807:=zc;simp only[Lit.wf,dL,c6];omega
theorem yT{ρ:Nat->Nat}(l:af):jH ρ (aE l)=aE l:=jb _<|cO _ (λ_=>by simp[ao,Pure]) l
noncomputable def eV(g:ak)(only:Int):Nat->Bool:=λk=>decide (only<0)||bp g k==only
theorem VO(W:ba)(A:bZ)(L:List Pr)(g:ak)(fr:af)(hn:g.length<=2000000)(kS:∀l∈g,bq l g.length)(hF:kL g)(to:aq)(cl:FuncId)(caps:aZ)(m5:ao caps)
  (iQ:∀x:Int,0<=x->x<(g.length:Int)->ar aj cl (ab x::caps) (aF<|to x.toNat)) (from_:af) (rZ:from_.length<=17592186043904) (hf:bq from_ g.length) (only:Int) :
  ar aj 127 [.aN<|iA W A L g fr,aL from_,.fn (.func cl) [] caps,aL<|lL g,ab only] (aL<|ku g to (eV g only) from_):=by
 have hp:=xM W A L g fr;have mj:=UO (P:=aj) Tryz.underlying3;have jV:=λx (h:0<=x/\x<(g.length:Int))=>RX (P:=aj) Tryz.underlying3 (n:=x)<|T9 ⟨h.1,zo⟩;refine fi fZ zs (by simp[ao,Pure,c9,hp,m5]) ?_<|c9 _;have vE:ku g to (eV g only) from_=match nN g to (eV g only) (g.length+1) 0 (wSt from_ []) with|some (M,h)=>(kC M (M.length+1)<|dj M h).reverse|none=>[]:=rfl
 obtain⟨sd,mw⟩:∃sd:D,sd=.aN (iA W A L g fr):=⟨_,rfl⟩;have pZ:ao [sd]:=by subst mw;exact⟨xZ hp,trivial⟩
 rw[<-mw];refine sR ?_;rw[aS];refine dk (iF 12 1 zs rfl) ?_
 refine fy [0,2,3,4,11,24,25] (λ((k,M):Nat×List Pr)=>[(12,.own 1 M.length 0 M.length),(26,ab k)]) (λ(k,M)=>[.dI true<|kF aj 3<|fI M,.vec true M.length 1<|aE<|cB M])
  (λ(k,M)=>k<=from_.length/\iT g (eV g only) from_ M/\wSt (from_.drop k) M=wSt from_ []) (λ(k,M)=>from_.length-k) (0,[]) ?_
 refine sW ?_;refine⟨⟨zo,iT.none _ _ _,rfl⟩,by exact sK,rfl,?_⟩;rintro⟨k,M⟩ ⟨hk,hI,hS⟩;have Fq:=hI.len;have Oa:=wD M;refine bl (λq0=>?_) λq0=>?_
 ·have q0:k<from_.length:=sO;have hx:=dn hf<|fV q0;have CY:=fV q0;refine sL (eY (l:=from_) (k:=k) zo q0) ?_;rw[Ba q0,wSt] at hS;generalize from_.getD k 0=x at *;refine⟨fI M,rfl,mj,jV x hx,λv hv=>?_,λhv=>?_⟩
  ·have hc:¬(cB M).contains x=false:=λe=>by
    have:=(Jx<|ru e).symm.trans hv;cases this
   rw[aa hc] at hS;refine bJ ?_;refine⟨(k+1,M),⟨zo,hI,hS⟩,zd,?_⟩;exact bf (by exact sK) rfl
  have hc:(cB M).contains x=false:=by
   cases e:(cB M).contains x
   ·rfl
   obtain⟨v,h⟩:=Ix hI.nd<|nb.1 e;have:=hv.symm.trans h;cases this
  rw[ae hc] at hS;have lp:=hI.push hx (ru hc) (.inl rfl) (.inl CY);refine sW ?_;refine⟨fI M,rfl,mj,jV x hx,hv,?_⟩;refine mQ ?_;refine⟨(k+1,M++[(x,-1)]),⟨zo,lp,hS⟩,zd,?_⟩;dsimp only;rw[Bl,show(M++[(x,(-1:Int))]).length=M.length+1 by simp]
  (refine br 2 zs rfl ?_ ?_<;>(repeat' (first|exact trivial|exact rfl|exact bR.refl _|exact ck.refl _|exact cg.refl _|refine And.intro ?_ ?_|(simp[az,aK,bN,-List.map_take,-List.map_drop];done))))
  all_goals first|exact cp _ pZ.1|exact cu _ m5|exact cu _ m5|exact bM (by rw[Ar,<-pT,wD])|skip
 have q0:k=from_.length:=by have:¬k<from_.length:=sO
                            omega
 subst q0;rw[wX] at hS;have hS:M=wSt from_ []:=hS;rw[<-hS] at vE;generalize KK:nN g to (eV g only) (g.length+1) 0 M=R at vE
 refine fy [0,2,3,4,11] (λ((h,M,Z,lo,hi,aw):Nat×List Pr×af×Nat×Nat×Nat)=>[(12,.own 1 aw lo hi)]) (λ(h,M,Z,lo,hi,aw)=>[.dI true<|kF aj 3<|fI M,.vec true aw 1<|aE Z])
  (λ(h,M,Z,lo,hi,aw)=>iT g (eV g only) from_ M/\h<=M.length/\lo<=hi/\hi<=Z.length/\(Z.take hi).drop lo=(cB M).drop h/\nN g to (eV g only) (g.length+1-h) h M=R) (λ(h,M,Z,lo,hi,aw)=>g.length+1-h) (0,M,cB M,0,M.length,M.length) ?_
 refine sW ?_;refine⟨⟨hI,zo,zo,zo,by rw[fF zo],KK⟩,by exact sK,rfl,?_⟩;rintro⟨h,M,Z,lo,hi,aw⟩ ⟨hI,hh,HY,ny,hZ,hR⟩;have Fq:=hI.len;have Oa:=wD M;have hZl:hi-lo=M.length-h:=by
  have:=bK List.length hZ;rw[mi,mi,gO] at this;omega
 rw[show g.length+1-h=(g.length-h)+1 by omega,nN] at hR;refine bl (λq1=>?_) λq1=>?_
 ·have q1:lo<hi:=sO;have qi:h<M.length:=zo;rw[ae qi] at hR;have hx:=hI.rng _<|n6 qi;have eN:(M.getD h (0,0)).1=dj M h:=rfl;rw[eN] at hx;have hd:(cB M).drop h=dj M h::(cB M).drop (h+1):=by
   rw[uu zo];unfold dj cB;rw[List.getElem_map,ay,aG qi];rfl
  rw[F9 q1 ny,hd] at hZ;obtain⟨zB,Oo⟩:=List.cons.inj hZ;refine sB ?_;refine⟨_,eY (l:=Z) (k:=lo) zo zo,?_⟩;refine sW ?_;rw[zB];refine⟨zo,zo,zo,?_⟩;refine sW ?_;rw[show lo+(hi-lo)=hi by omega];have Mn:=iQ (dj M h) hx.1 hx.2;have en1:dj M h=dY M (h+1):=(by unfold dY;rw[aa zo];rfl);generalize xC:dj M h=x at *;refine sC Mn ?_;cases hto:to x.toNat
  ·rw[hto,aa zc] at hR;refine sW ?_;subst mw;unfold iA bW;refine sW ?_;refine sL (me (g:=g) (k:=x.toNat) zo zo) ?_;rw[aS];have dV:=λy hy=>dn (iO kS x.toNat) (x:=y) hy;have Cg:=hF.at x.toNat;generalize g.getD x.toNat []=row at *
   refine fy [0,2,3,4,11,17,74,75] (λ((k,M',Z',cv,bu,bY):Nat×List Pr×af×Nat×Nat×Nat)=>[(12,.own 1 bY cv bu),(76,ab k)]) (λ(k,M',Z',cv,bu,bY)=>[.dI true<|kF aj 3<|fI M',.vec true bY 1<|aE Z'])
    (λ(k,M',Z',cv,bu,bY)=>k<=row.length/\iT g (eV g only) from_ M'/\h<M'.length/\dj M' h=x/\cv<=bu/\bu<=Z'.length/\(Z'.take bu).drop cv=(cB M').drop (h+1)/\lz (eV g only) x (row.drop k) M'=lz (eV g only) x row M) (λ(k,M',Z',cv,bu,bY)=>row.length-k) (0,M,Z,lo+1,hi,aw) ?_
   refine sW ?_;refine⟨⟨zo,hI,qi,xC,zo,ny,Oo,rfl⟩,by exact sK,rfl,?_⟩;rintro⟨k,M',Z',cv,bu,bY⟩ ⟨hk,kQ,qs,j0,mz,l9,qf,jv⟩;have zKf:=kQ.len;have ZF:=wD M';have ZQ:bu-cv=M'.length-(h+1):=by
    have:=bK List.length qf;rw[mi,mi,gO] at this;omega
   refine bl (λq2=>?_) λq2=>?_
   ·have q2:k<row.length:=sO;have hy:=dV _<|fV q2;refine sL (eY (l:=row) (k:=k) zo q2) ?_;rw[Ba q2,lz] at jv;generalize row.getD k 0=y at *;refine⟨fI M',rfl,mj,jV y hy,λv hv=>?_,λhv=>?_⟩
    ·have hc:¬(cB M').contains y=false:=λe=>by
      have:=(Jx<|ru e).symm.trans hv;cases this
     rw[aa λq=>hc q.1] at jv;refine bJ ?_;refine⟨(k+1,M',Z',cv,bu,bY),⟨zo,kQ,qs,j0,mz,l9,qf,jv⟩,zd,?_⟩;exact bf (by exact sK) rfl
    have hc:(cB M').contains y=false:=by
     cases e:(cB M').contains y
     ·rfl
     obtain⟨v,h⟩:=Ix kQ.nd<|nb.1 e;have:=hv.symm.trans h;cases this
    have eok:eV g only y.toNat=(decide (only<0)||bp g y.toNat==only):=rfl;refine sWS (λr=>?_) λr=>?_
    ·rw[r,Bool.true_or] at eok;rw[ae ⟨hc,eok⟩] at jv;have lp:=kQ.push hy (ru hc) (.inr ⟨h,qs,j0.symm⟩) (.inr eok);refine⟨fI M',rfl,mj,jV y hy,hv,?_⟩;refine mQ ?_;refine⟨(k+1,M'++[(y,x)],(Z'.take bu).drop cv++[y],0,bu-cv+1,bY+1),⟨zo,lp,by simp;omega,by rw[yP qs];exact j0,zo,by simp;omega,?_,jv⟩,zd,?_⟩
     ·rw[ft,fF<|by simp;omega,qf,Ar,Om zo]
     dsimp only;rw[Bl]
     (refine br 2 zs rfl ?_ ?_<;>(repeat' (first|exact trivial|exact rfl|exact bR.refl _|exact ck.refl _|exact cg.refl _|refine And.intro ?_ ?_|(simp[az,aK,bN,-List.map_take,-List.map_drop];done))))
     all_goals first|exact bM Bh|exact cu _ hp|exact cu _ m5|(simp;done)|skip
    refine sL (dh y.toNat zo zo) ?_;rw[r,rK] at eok;refine sS (λr2=>?_) λr2=>?_
    ·have r2:(bp g y.toNat==only):=r2;rw[r2] at eok;rw[ae ⟨hc,eok⟩] at jv;have lp:=kQ.push hy (ru hc) (.inr ⟨h,qs,j0.symm⟩) (.inr eok);refine⟨fI M',rfl,mj,jV y hy,hv,?_⟩;refine mQ ?_;refine⟨(k+1,M'++[(y,x)],(Z'.take bu).drop cv++[y],0,bu-cv+1,bY+1),⟨zo,lp,by simp;omega,by rw[yP qs];exact j0,zo,by simp;omega,?_,jv⟩,zd,?_⟩
     ·rw[ft,fF<|by simp;omega,qf,Ar,Om zo]
     dsimp only;rw[Bl]
     (refine br 2 zs rfl ?_ ?_<;>(repeat' (first|exact trivial|exact rfl|exact bR.refl _|exact ck.refl _|exact cg.refl _|refine And.intro ?_ ?_|(simp[az,aK,bN,-List.map_take,-List.map_drop];done))))
     all_goals first|exact bM Bh|exact cu _ hp|exact cu _ m5|(simp;done)|skip
    have r2:(bp g y.toNat==only)=false:=r2;rw[r2] at eok;rw[aa λq=>by rw[eok] at q;cases q.2] at jv;refine sI ?_;refine⟨(k+1,M',Z',cv,bu,bY),⟨zo,kQ,qs,j0,mz,l9,qf,jv⟩,zd,?_⟩;exact bf (by exact sK) rfl
   have q2:k=row.length:=by have:¬k<row.length:=sO
                            omega
   subst q2;rw[wX] at jv;have jv:M'=lz (eV g only) x row M:=jv;rw[<-jv] at hR;refine⟨(h+1,M',Z',cv,bu,bY),⟨kQ,zo,mz,l9,qf,by rw[show g.length+1-(h+1)=g.length-h by omega];exact hR⟩,zd,?_⟩;exact bf (by exact sK) rfl
  rw[hto,ae rfl] at hR;subst hR;refine sW ?_;generalize EB:kC M (M.length+1) x=B;refine dk (iF 18 1 zs rfl) ?_
  refine fy [11] (λ((f,t,o):Nat×Nat×af)=>[(17,ab<|dY M t),(18,.own 2 o.length 0 o.length)]) (λ(f,t,o)=>[.dI true<|kF aj 3<|fI M,.vec true aw 1<|aE Z,.vec true o.length 1<|aE o])
   (λ(f,t,o)=>t<=f/\t<=M.length/\o.length+t<=M.length+1/\o++kC M f (dY M t)=B) (λ(f,t,o)=>t) (M.length+1,h+1,[]) ?_
  refine sW ?_;refine⟨⟨zo,zo,by simp;omega,by rw[<-en1];exact EB⟩,⟨by show ab x=_;rw[en1],by exact sK⟩,rfl,?_⟩;rintro⟨f,t,o⟩ ⟨hf1,ht,ho,hB⟩;refine bl (λq2=>?_) λq2=>?_
  ·have t0:0<t:=by
    rcases vM t with e|e
    ·subst e;simp[dY] at q2
    exact e
   obtain⟨t',k1,k2,k3,k4,k5⟩:=hI.up t0 ht;have eA:dY M t=dj M (t-1):=(by unfold dY;rw[aa zo]);obtain⟨f',rfl⟩:∃f',f=f'+1:=⟨f-1,zo⟩;rw[kC,aa zo,k2] at hB;have JT:fI M (.int .i64<|dY M t)=some (.int .i64<|dY M t'):=(by rw[eA,N4 hI.nd zo,k3]);refine sJ ?_;refine⟨fI M,rfl,mj,jV _ ⟨k4,k5⟩,_,JT,?_⟩;refine sW ?_;refine⟨(f',t',o++[dY M t]),⟨zo,zo,by simp;omega,by rw[l8];exact hB⟩,zd,?_⟩;dsimp only;rw[show(o++[dY M t]).length=o.length+1 by simp]
   (refine br 3 zs rfl ?_ ?_<;>(repeat' (first|exact trivial|exact rfl|exact bR.refl _|exact ck.refl _|exact cg.refl _|refine And.intro ?_ ?_|(simp[az,aK,bN,-List.map_take,-List.map_drop];done))))
   all_goals first|exact bM (pT o _)|skip
  have t0:t=0:=by
   rcases vM t with e|e
   ·exact e
   obtain⟨t',k1,k2,k3,k4,k5⟩:=hI.up e ht;exfalso;simp at q2;omega
  subst t0;have hB:o=B:=by
   rw[<-hB];cases f<;>simp[kC,dY]
  subst hB;refine sA (sF (U7 o zo o.length) [.dI true<|kF aj 3<|fI M,.vec true aw 1<|aE Z] [] rfl (by simp[aK,az]) (by simp[kl,an.under]) (by simp only[bO,D.aO];rfl) rfl (by simp only[dR,gP,an.aO,yT];rfl) (by simp only[dR,gP,an.aO,yT];rfl)) ?_;have MQ:ku g to (eV g only) from_=o.reverse:=by
   rw[vE];show(kC M (M.length+1)<|dj M h).reverse=_;rw[xC,EB]
  rw[MQ];exact .own _ _ _ _ _ _ _ _ rfl (by rw[ft,fF<|by simp[aE]];exact fW _)
 have h0:hi=lo:=sO;have qi:¬h<M.length:=zo;rw[aa qi] at hR;subst hR;rw[vE];exact sP
theorem zyO(W:ba)(A:bZ)(L:List Pr)(g:ak)(fr:af)(hn:g.length<=2000000)(kS:∀l∈g,bq l g.length)(hF:kL g)(to:aq)(cl:FuncId)
  (iQ:∀x:Int,0<=x->x<(g.length:Int)->ar aj cl [ab x,.aN [bI g.length to]] (aF<|to x.toNat)) (Z0:af) (v0:Nat) (hz0:0<Z0.length) (zB:Z0.length<=1000000000000) (from_:af) (iX:from_=[Z0.getD (Z0.length-1) 0]) (hf:bq from_ g.length) (only:Int) :
  cd aj 127 [.aN<|iA W A L g fr,.own 0 v0 (Z0.length-1) Z0.length,.fn (.func cl) [] [.loc 1 0],aL<|lL g,ab only] [.vec true v0 1<|aE Z0,.row true [bI g.length to]] (aL<|ku g to (eV g only) from_) [.vec true v0 1<|aE Z0,.row true [bI g.length to]]:=by
 have hp:=xM W A L g fr;have rZ:from_.length<=17592186043904:=by rw[iX];simp
 have mj:=UO (P:=aj) Tryz.underlying3;have jV:=λx (h:0<=x/\x<(g.length:Int))=>RX (P:=aj) Tryz.underlying3 (n:=x)<|T9 ⟨h.1,zo⟩;have Ue:∀o∈[an.vec true v0 1<|aE Z0,an.row true [bI g.length to]],o.under 2:=by
  intro o ho;simp only[dD,tt,or_false] at ho;rcases ho with rfl|rfl
  ·exact bP _<|cO _ (λ_=>by simp[ao,Pure]) _
  exact cu _ ⟨ke _ _,trivial⟩
 refine vp fZ zs zs ?_<|cp _<|c9 _;have vE:ku g to (eV g only) from_=match nN g to (eV g only) (g.length+1) 0 (wSt from_ []) with|some (M,h)=>(kC M (M.length+1)<|dj M h).reverse|none=>[]:=rfl
 obtain⟨sd,mw⟩:∃sd:D,sd=.aN (iA W A L g fr):=⟨_,rfl⟩;have pZ:ao [sd]:=by subst mw;exact⟨xZ hp,trivial⟩
 rw[<-mw];refine sR ?_;rw[show Z0.length-(Z0.length-1)=from_.length by rw[iX];simp;omega];refine dk (iF 12 1 zs rfl) ?_
 refine fy [0,2,3,4,11,24,25] (λ((k,M):Nat×List Pr)=>[(12,.own 3 M.length 0 M.length),(26,ab k)]) (λ(k,M)=>[.vec true v0 1<|aE Z0,.row true [bI g.length to],.dI true<|kF aj 3<|fI M,.vec true M.length 1<|aE<|cB M])
  (λ(k,M)=>k<=from_.length/\iT g (eV g only) from_ M/\wSt (from_.drop k) M=wSt from_ []) (λ(k,M)=>from_.length-k) (0,[]) ?_
 refine sW ?_;refine⟨⟨zo,iT.none _ _ _,rfl⟩,by exact sK,rfl,?_⟩;rintro⟨k,M⟩ ⟨hk,hI,hS⟩;have Fq:=hI.len;have Oa:=wD M;refine bl (λq0=>?_) λq0=>?_
 ·have q0:k<from_.length:=sO;have hx:=dn hf<|fV q0;have CY:=fV q0;have pV:k=0:=by
   have h1:from_.length=1:=(by rw[iX];rfl);omega
  refine sB ?_;refine⟨_,eY (l:=Z0) (k:=Z0.length-1) zo zo,?_⟩;refine sW ?_;rw[show Z0.getD (Z0.length-1) 0=from_.getD k 0 by rw[iX,pV];rfl];rw[Ba q0,wSt] at hS;generalize from_.getD k 0=x at *;refine⟨fI M,rfl,mj,jV x hx,λv hv=>?_,λhv=>?_⟩
  ·have hc:¬(cB M).contains x=false:=λe=>by
    have:=(Jx<|ru e).symm.trans hv;cases this
   rw[aa hc] at hS;refine bJ ?_;refine⟨(k+1,M),⟨zo,hI,hS⟩,zd,?_⟩;exact bf (by exact sK) rfl
  have hc:(cB M).contains x=false:=by
   cases e:(cB M).contains x
   ·rfl
   obtain⟨v,h⟩:=Ix hI.nd<|nb.1 e;have:=hv.symm.trans h;cases this
  rw[ae hc] at hS;have lp:=hI.push hx (ru hc) (.inl rfl) (.inl CY);refine sW ?_;refine⟨fI M,rfl,mj,jV x hx,hv,?_⟩;refine mQ ?_;refine⟨(k+1,M++[(x,-1)]),⟨zo,lp,hS⟩,zd,?_⟩;dsimp only;rw[Bl,show(M++[(x,(-1:Int))]).length=M.length+1 by simp]
  (refine br 4 zs rfl ?_ ?_<;>(repeat' (first|exact trivial|exact rfl|exact bR.refl _|exact ck.refl _|exact cg.refl _|refine And.intro ?_ ?_|(simp[az,aK,bN,-List.map_take,-List.map_drop];done))))
  all_goals first|exact cp _ pZ.1|(simp;done)|(simp;done)|exact bM (by rw[Ar,<-pT,wD])|skip
 have q0:k=from_.length:=by have:¬k<from_.length:=sO
                            omega
 subst q0;rw[wX] at hS;have hS:M=wSt from_ []:=hS;rw[<-hS] at vE;generalize KK:nN g to (eV g only) (g.length+1) 0 M=R at vE
 refine fy [0,2,3,4,11] (λ((h,M,Z,lo,hi,aw):Nat×List Pr×af×Nat×Nat×Nat)=>[(12,.own 3 aw lo hi)]) (λ(h,M,Z,lo,hi,aw)=>[.vec true v0 1<|aE Z0,.row true [bI g.length to],.dI true<|kF aj 3<|fI M,.vec true aw 1<|aE Z])
  (λ(h,M,Z,lo,hi,aw)=>iT g (eV g only) from_ M/\h<=M.length/\lo<=hi/\hi<=Z.length/\(Z.take hi).drop lo=(cB M).drop h/\nN g to (eV g only) (g.length+1-h) h M=R) (λ(h,M,Z,lo,hi,aw)=>g.length+1-h) (0,M,cB M,0,M.length,M.length) ?_
 refine sW ?_;refine⟨⟨hI,zo,zo,zo,by rw[fF zo],KK⟩,by exact sK,rfl,?_⟩;rintro⟨h,M,Z,lo,hi,aw⟩ ⟨hI,hh,HY,ny,hZ,hR⟩;have Fq:=hI.len;have Oa:=wD M;have hZl:hi-lo=M.length-h:=by
  have:=bK List.length hZ;rw[mi,mi,gO] at this;omega
 rw[show g.length+1-h=(g.length-h)+1 by omega,nN] at hR;refine bl (λq1=>?_) λq1=>?_
 ·have q1:lo<hi:=sO;have qi:h<M.length:=zo;rw[ae qi] at hR;have hx:=hI.rng _<|n6 qi;have eN:(M.getD h (0,0)).1=dj M h:=rfl;rw[eN] at hx;have hd:(cB M).drop h=dj M h::(cB M).drop (h+1):=by
   rw[uu zo];unfold dj cB;rw[List.getElem_map,ay,aG qi];rfl
  rw[F9 q1 ny,hd] at hZ;obtain⟨zB,Oo⟩:=List.cons.inj hZ;refine sB ?_;refine⟨_,eY (l:=Z) (k:=lo) zo zo,?_⟩;refine sW ?_;rw[zB];refine⟨zo,zo,zo,?_⟩;refine sW ?_;rw[show lo+(hi-lo)=hi by omega];have Mn:=iQ (dj M h) hx.1 hx.2;have en1:dj M h=dY M (h+1):=(by unfold dY;rw[aa zo];rfl);generalize xC:dj M h=x at *;refine sN Mn ?_;cases hto:to x.toNat
  ·rw[hto,aa zc] at hR;refine sW ?_;subst mw;unfold iA bW;refine sW ?_;refine sL (me (g:=g) (k:=x.toNat) zo zo) ?_;rw[aS];have dV:=λy hy=>dn (iO kS x.toNat) (x:=y) hy;have Cg:=hF.at x.toNat;generalize g.getD x.toNat []=row at *
   refine fy [0,2,3,4,11,17,74,75] (λ((k,M',Z',cv,bu,bY):Nat×List Pr×af×Nat×Nat×Nat)=>[(12,.own 3 bY cv bu),(76,ab k)]) (λ(k,M',Z',cv,bu,bY)=>[.vec true v0 1<|aE Z0,.row true [bI g.length to],.dI true<|kF aj 3<|fI M',.vec true bY 1<|aE Z'])
    (λ(k,M',Z',cv,bu,bY)=>k<=row.length/\iT g (eV g only) from_ M'/\h<M'.length/\dj M' h=x/\cv<=bu/\bu<=Z'.length/\(Z'.take bu).drop cv=(cB M').drop (h+1)/\lz (eV g only) x (row.drop k) M'=lz (eV g only) x row M) (λ(k,M',Z',cv,bu,bY)=>row.length-k) (0,M,Z,lo+1,hi,aw) ?_
   refine sW ?_;refine⟨⟨zo,hI,qi,xC,zo,ny,Oo,rfl⟩,by exact sK,rfl,?_⟩;rintro⟨k,M',Z',cv,bu,bY⟩ ⟨hk,kQ,qs,j0,mz,l9,qf,jv⟩;have zKf:=kQ.len;have ZF:=wD M';have ZQ:bu-cv=M'.length-(h+1):=by
    have:=bK List.length qf;rw[mi,mi,gO] at this;omega
   refine bl (λq2=>?_) λq2=>?_
   ·have q2:k<row.length:=sO;have hy:=dV _<|fV q2;refine sL (eY (l:=row) (k:=k) zo q2) ?_;rw[Ba q2,lz] at jv;generalize row.getD k 0=y at *;refine⟨fI M',rfl,mj,jV y hy,λv hv=>?_,λhv=>?_⟩
    ·have hc:¬(cB M').contains y=false:=λe=>by
      have:=(Jx<|ru e).symm.trans hv;cases this
     rw[aa λq=>hc q.1] at jv;refine bJ ?_;refine⟨(k+1,M',Z',cv,bu,bY),⟨zo,kQ,qs,j0,mz,l9,qf,jv⟩,zd,?_⟩;exact bf (by exact sK) rfl
    have hc:(cB M').contains y=false:=by
     cases e:(cB M').contains y
     ·rfl
     obtain⟨v,h⟩:=Ix kQ.nd<|nb.1 e;have:=hv.symm.trans h;cases this
    have eok:eV g only y.toNat=(decide (only<0)||bp g y.toNat==only):=rfl;refine sWS (λr=>?_) λr=>?_
    ·rw[r,Bool.true_or] at eok;rw[ae ⟨hc,eok⟩] at jv;have lp:=kQ.push hy (ru hc) (.inr ⟨h,qs,j0.symm⟩) (.inr eok);refine⟨fI M',rfl,mj,jV y hy,hv,?_⟩;refine mQ ?_;refine⟨(k+1,M'++[(y,x)],(Z'.take bu).drop cv++[y],0,bu-cv+1,bY+1),⟨zo,lp,by simp;omega,by rw[yP qs];exact j0,zo,by simp;omega,?_,jv⟩,zd,?_⟩
     ·rw[ft,fF<|by simp;omega,qf,Ar,Om zo]
     dsimp only;rw[Bl]
     (refine br 4 zs rfl ?_ ?_<;>(repeat' (first|exact trivial|exact rfl|exact bR.refl _|exact ck.refl _|exact cg.refl _|refine And.intro ?_ ?_|(simp[az,aK,bN,-List.map_take,-List.map_drop];done))))
     all_goals first|exact bM Bh|exact cu _ hp|exact cu _ m5|(simp;done)|skip
    refine sL (dh y.toNat zo zo) ?_;rw[r,rK] at eok;refine sS (λr2=>?_) λr2=>?_
    ·have r2:(bp g y.toNat==only):=r2;rw[r2] at eok;rw[ae ⟨hc,eok⟩] at jv;have lp:=kQ.push hy (ru hc) (.inr ⟨h,qs,j0.symm⟩) (.inr eok);refine⟨fI M',rfl,mj,jV y hy,hv,?_⟩;refine mQ ?_;refine⟨(k+1,M'++[(y,x)],(Z'.take bu).drop cv++[y],0,bu-cv+1,bY+1),⟨zo,lp,by simp;omega,by rw[yP qs];exact j0,zo,by simp;omega,?_,jv⟩,zd,?_⟩
     ·rw[ft,fF<|by simp;omega,qf,Ar,Om zo]
     dsimp only;rw[Bl]
     (refine br 4 zs rfl ?_ ?_<;>(repeat' (first|exact trivial|exact rfl|exact bR.refl _|exact ck.refl _|exact cg.refl _|refine And.intro ?_ ?_|(simp[az,aK,bN,-List.map_take,-List.map_drop];done))))
     all_goals first|exact bM Bh|exact cu _ hp|exact cu _ m5|(simp;done)|skip
    have r2:(bp g y.toNat==only)=false:=r2;rw[r2] at eok;rw[aa λq=>by rw[eok] at q;cases q.2] at jv;refine sI ?_;refine⟨(k+1,M',Z',cv,bu,bY),⟨zo,kQ,qs,j0,mz,l9,qf,jv⟩,zd,?_⟩;exact bf (by exact sK) rfl
   have q2:k=row.length:=by have:¬k<row.length:=sO
                            omega
   subst q2;rw[wX] at jv;have jv:M'=lz (eV g only) x row M:=jv;rw[<-jv] at hR;refine⟨(h+1,M',Z',cv,bu,bY),⟨kQ,zo,mz,l9,qf,by rw[show g.length+1-(h+1)=g.length-h by omega];exact hR⟩,zd,?_⟩;exact bf (by exact sK) rfl
  rw[hto,ae rfl] at hR;subst hR;refine sW ?_;generalize EB:kC M (M.length+1) x=B;refine dk (iF 18 1 zs rfl) ?_
  refine fy [11] (λ((f,t,o):Nat×Nat×af)=>[(17,ab<|dY M t),(18,.own 4 o.length 0 o.length)]) (λ(f,t,o)=>[.vec true v0 1<|aE Z0,.row true [bI g.length to],.dI true<|kF aj 3<|fI M,.vec true aw 1<|aE Z,.vec true o.length 1<|aE o])
   (λ(f,t,o)=>t<=f/\t<=M.length/\o.length+t<=M.length+1/\o++kC M f (dY M t)=B) (λ(f,t,o)=>t) (M.length+1,h+1,[]) ?_
  refine sW ?_;refine⟨⟨zo,zo,by simp;omega,by rw[<-en1];exact EB⟩,⟨by show ab x=_;rw[en1],by exact sK⟩,rfl,?_⟩;rintro⟨f,t,o⟩ ⟨hf1,ht,ho,hB⟩;refine bl (λq2=>?_) λq2=>?_
  ·have t0:0<t:=by
    rcases vM t with e|e
    ·subst e;simp[dY] at q2
    exact e
   obtain⟨t',k1,k2,k3,k4,k5⟩:=hI.up t0 ht;have eA:dY M t=dj M (t-1):=(by unfold dY;rw[aa zo]);obtain⟨f',rfl⟩:∃f',f=f'+1:=⟨f-1,zo⟩;rw[kC,aa zo,k2] at hB;have JT:fI M (.int .i64<|dY M t)=some (.int .i64<|dY M t'):=(by rw[eA,N4 hI.nd zo,k3]);refine sJ ?_;refine⟨fI M,rfl,mj,jV _ ⟨k4,k5⟩,_,JT,?_⟩;refine sW ?_;refine⟨(f',t',o++[dY M t]),⟨zo,zo,by simp;omega,by rw[l8];exact hB⟩,zd,?_⟩;dsimp only;rw[show(o++[dY M t]).length=o.length+1 by simp]
   (refine br 5 zs rfl ?_ ?_<;>(repeat' (first|exact trivial|exact rfl|exact bR.refl _|exact ck.refl _|exact cg.refl _|refine And.intro ?_ ?_|(simp[az,aK,bN,-List.map_take,-List.map_drop];done))))
   all_goals first|exact bM (pT o _)|skip
  have t0:t=0:=by
   rcases vM t with e|e
   ·exact e
   obtain⟨t',k1,k2,k3,k4,k5⟩:=hI.up e ht;exfalso;simp at q2;omega
  subst t0;have hB:o=B:=by
   rw[<-hB];cases f<;>simp[kC,dY]
  subst hB;refine sA (sF (U7 o zo o.length) [.vec true v0 1<|aE Z0,.row true [bI g.length to],.dI true<|kF aj 3<|fI M,.vec true aw 1<|aE Z] [] rfl (by simp[aK,az]) (by simp[kl,an.under]) (by simp only[bO,D.aO];rfl) rfl (by simp only[dR,gP,an.aO,yT];rfl) (by simp only[dR,gP,an.aO,yT];rfl)) ?_;have MQ:ku g to (eV g only) from_=o.reverse:=by
   rw[vE];show(kC M (M.length+1)<|dj M h).reverse=_;rw[xC,EB]
  rw[MQ];exact⟨.own _ _ _ _ _ _ _ _ rfl rfl (bM<|by rw[ft,fF<|by simp[aE]];rfl),nJ _ [_,_,_] Ue⟩
 have h0:hi=lo:=sO;have qi:¬h<M.length:=zo;rw[aa qi] at hR;subst hR;rw[vE];exact⟨.none _,nJ _ [_,_] Ue⟩
end
section
def dw(l:af):Int:=l.getD (l.length-1) 0
theorem Gf(l:af)(x:Int):dw (l++[x])=x:=by
 unfold dw;rw[cL,jt,Nat.add_sub_cancel,ay,fc<|aI _,mE];rfl
variable{l:af}
theorem Nw(h:l≠[]):dw l∈l:=by
 have:=AF.2 h;unfold dw;rw[ay,aG zo];simp
noncomputable def fR(g:ak)(F:List aq)(e:Nat):Nat->af
 |0=>[(e:Int)]
 |k+1=>if (fR g F e k).any (λx=>(F.getD k noT) x.toNat)=true then fR g F e k else fR g F e k++(ku g (F.getD k noT) (eV g<|bp g e) [dw<|fR g F e k]).drop 1
def toE(e:Nat):Nat->Bool:=λk=>((k:Nat):Int)==(e:Int)
noncomputable def rF(g:ak)(o:af)(e:Nat)(k:Nat):af:=((g.getD (dw o).toNat []).take k).filter λx=>bp g x.toNat==bp g e
noncomputable def ss(g:ak)(o:af)(e:Nat):af:=ku g (toE e) (eV g<|bp g e)<|rF g o e (g.getD (dw o).toNat []).length
noncomputable def jU(g:ak)(F:List aq)(e:Nat):af :=
 fR g F e F.length++(ss g (fR g F e F.length) e).take ((ss g (fR g F e F.length) e).length-1)
structure RH(g:ak)(F:List aq)(e:Nat):Prop where
 he:e<g.length
 bg:∀l∈g,bq l g.length=true
 nt:xJ g e
 has:∀S∈F,∃d,d<g.length/\S d/\bp g d=bp g e
variable{g:ak}{e:Nat}
theorem XR(he:e<g.length):eV g (bp g e) v↔bp g v=bp g e:=by
 have:=(uD he).1;unfold eV;rw[gx<|show ¬bp g e<0 by omega,rK,gC]
theorem DM(bg:∀l∈g,bq l g.length)(v:Nat)(x:Int)(hx:x∈g.getD v []):0<=x/\x.toNat<g.length:=by
 have:=dn (iO bg v) hx;omega
theorem zAY(bg:∀l∈g,bq l g.length)(hu:u<g.length)(h:To g u v):v<g.length:=Hx (λv x hx=>(DM bg v x hx).2) hu h
theorem Ux(bg:∀l∈g,bq l g.length){b:Nat}(he:e<g.length)(ha:a<g.length)(hb:b<g.length)(h1:bp g a=bp g e)(h2:bp g b=bp g e):To (x0 g<|eV g<|bp g e) a b:=by
 obtain⟨m1,m2⟩:=lk.1<|(parts_eq ha hb).1<|h1.trans h2.symm;have key:∀v,To g a v->To g v a->To (x0 g<|eV g<|bp g e) a v:=by
  intro v hv
  induction hv with
  |base m=>intro _;exact .base m
  |step k hx ih =>
   rename_i u x;intro TE;have hu:=ih<|rH (y6 hx) TE;refine .step hu<|Kq.2 ⟨hx,(XR he).2 ?_⟩;have hul:=zAY bg ha k;have hxl:=(DM bg u x hx).2;rw[(parts_eq hxl ha).2<|lk.2 ⟨TE,.step k hx⟩,h1]
 exact key b m1 m2
structure xL(g:ak)(e:Nat)(o:af):Prop where
 ne:o≠[]
 rng:bq o g.length=true
 last:bp g (dw o).toNat=bp g e
variable{o:af}
theorem xL.lt(h:xL g e o):0<=dw o/\dw o<(g.length:Int):=dn h.rng<|Nw h.ne
theorem RO{m:af}(h:bq l n)(k:bq m n):bq (l++m) n:=j9 λx hx=>(de.1 hx).elim (dn h)<|dn k
variable{F:List aq}
theorem xL.way(H:RH g F e)(h:xL g e o){S:aq}(hS:S∈F) :
  xL g e (o++(ku g S (eV g<|bp g e) [dw o]).drop 1)/\(ku g S (eV g<|bp g e) [dw o])≠[]/\(ku g S (eV g<|bp g e) [dw o]).length<=g.length:=by
 have hl:=h.lt;obtain⟨w1,w2,w3⟩:=Hk H.bg S (eV g<|bp g e) (from_:=[dw o]) (j9 λx hx=>by rw[cM] at hx;subst hx;exact hl);obtain⟨d,d1,d2,d3⟩:=H.has S hS;obtain⟨init,last,e1,e2,e3⟩:=w3 ⟨dw o,zs,d,Ux H.bg H.he zo d1 h.last d3,d2⟩;refine⟨⟨by simp[h.ne],RO h.rng<|j9 λx hx=>dn w1<|List.mem_of_mem_drop hx,?_⟩,by rw[e1];simp,w2⟩
 cases init with
 |nil=>rw[e1];simp[h.last]
 |cons a r =>
  rw[e1,mJ,FV,ft,<-l8,Gf];rcases e3 with q|q
  ·rw[cM] at q;rw[q];exact h.last
  exact(XR H.he).1 q
theorem Ea{g:ak}{F:List aq}{e:Nat}(H:RH g F e):∀k,k<=F.length->xL g e (fR g F e k)/\(fR g F e k).length<=1+k*g.length
 |0,_=>by
  have:=H.he;exact⟨⟨by simp[fR],j9 λx hx=>by simp[fR] at hx;omega,by simp[fR,dw]⟩,by simp[fR]⟩
 |k+1,hk=>by
  obtain⟨h1,h2⟩:=Ea H k zo;rw[fR];have:(k+1)*g.length=k*g.length+g.length:=by rw[iJ,Nat.one_mul]
  split
  ·exact⟨h1,zo⟩
  have hS:F.getD k noT∈F:=(by rw[ay,aG<|show k<F.length by omega];simp);obtain⟨a,b,c⟩:=h1.way H hS;refine⟨a,?_⟩;rw[cL,mi];omega
theorem xL.home(H:RH g F e)(h:xL g e o):bq (rF g o e (g.getD (dw o).toNat []).length) g.length/\ss g o e≠[]/\bq (ss g o e) g.length/\(ss g o e).length<=g.length:=by
 have hl:=h.lt;have hT:bq (rF g o e (g.getD (dw o).toNat []).length) g.length:=j9 λx hx=>dn (iO H.bg _)<|CB (nG.1 hx).1;obtain⟨w1,w2,w3⟩:=Hk H.bg (toE e) (eV g<|bp g e) hT;have bF:(dw o).toNat<g.length:=zo;obtain⟨m1,m2⟩:=lk.1<|(parts_eq bF H.he).1 h.last;obtain⟨x,x1,x2⟩:=Ko H.nt m2 m1;have hx:=DM H.bg _ x x1;have XL:bp g x.toNat=bp g e:=by rw[(parts_eq hx.2 bF).2<|lk.2 ⟨x2,y6 x1⟩,h.last]
 obtain⟨init,last,e1,_,_⟩:=w3 ⟨x,nG.2 ⟨by rw[gz];exact x1,by rw[XL];simp⟩,e,Ux H.bg H.he hx.2 H.he XL rfl,by simp[toE]⟩;exact⟨hT,by unfold ss;rw[e1];simp,w1,w2⟩
theorem Qt(H:RH g F e):bq (jU g F e) g.length/\(jU g F e).length<=1+F.length*g.length+g.length:=by
 obtain⟨h1,h2⟩:=Ea H F.length<|aI _;obtain⟨_,_,h4,h5⟩:=h1.home H;refine⟨RO h1.rng<|j9 λx hx=>dn h4<|CB hx,?_⟩;unfold jU;rw[cL,gO];omega
end
section
variable(l:af)
theorem Xg(o l:af)(a b:Nat):List.drop 0 (List.take o.length<|aE o)++List.drop a (List.take b<|aE l)=aE (o++(l.take b).drop a):=by
 rw[dt<|by simp[aE]];simp[aE,List.map_drop,List.map_take]
@[simp] theorem VN:dX<|aE l:=cO _ (λ_=>by simp[ao,Pure]) l
variable(n:Nat)
theorem zvl(S:aq)(x:Int)(h0:0<=x)(hx:x<(n:Int)):ar aj 204 [ab x,.aN [bI n S]]<|aF<|S x.toNat:=by
 refine bz fZ ?_;unfold bI;refine sR ?_;refine sL (cX x.toNat zo zo) ?_;exact .refl _
theorem zuU(S:aq)(x:Int)(h0:0<=x)(hx:x<(n:Int)):ar aj 205 [ab x,.aN [bI n S]]<|aF<|S x.toNat:=by
 refine bz fZ ?_;unfold bI;refine sR ?_;refine sL (cX x.toNat zo zo) ?_;exact .refl _
theorem zzL(e:Nat)(x:Int)(h0:0<=x):ar aj 206 [ab x,.aN [ab e]]<|aF<|toE e x.toNat:=by
 refine bV ?_;exact bL<|by unfold toE;rw[w7 h0]
theorem ztt(p:Int)(x:Int)(h0:0<=x)(hx:x<(g.length:Int)):ar aj 128 [ab x,.aN [aL<|lL g],.aN [ab p]]<|aF<|bp g x.toNat==p:=by
 refine bz fZ ?_;unfold lL aL;refine sR ?_;refine sL (dh x.toNat zo zo) ?_;exact .refl _
theorem X5{g:ak}{o:af}{e:Nat}(h:k<(g.getD (dw o).toNat []).length):rF g o e (k+1)=if (bp g ((g.getD (dw o).toNat []).getD k 0).toNat==bp g e)=true then rF g o e k++[(g.getD (dw o).toNat []).getD k 0] else rF g o e k:=by
 unfold rF;rw[ld,aG h,Da,ay (l:=g.getD (dw o).toNat []),aG h];simp only[A3,pe,yF,List.filter_nil];split<;>simp
theorem ztI(o:af)(e k:Nat):(rF g o e k).length<=k:=ia (zr _ _)<|by simp;omega
theorem zvx(W:ba)(A:bZ)(L:List Pr)(g:ak)(fr:af)(hn:g.length<=2000000)(hF:kL g)(F:List aq)(zJ:F.length<=1000)(e:Nat)(H:RH g F e) :
  ar aj 129 [.aN<|iA W A L g fr,ab e,aL<|lL g,yv g.length F] (aL<|jU g F e):=by
 have hp:=xM W A L g fr;have he:=H.he;have CR:=uD he;refine fi fZ zs (by simp[ao,Pure,c9,hp,Ky]) ?_<|c9 _;obtain⟨sd,mw⟩:∃sd:D,sd=.aN (iA W A L g fr):=⟨_,rfl⟩;have pZ:ao [sd]:=by subst mw;exact⟨xZ hp,trivial⟩
 have hsr:∀ρ,D.aO ρ sd=sd:=λρ=>iK _ pZ.1;rw[<-mw];unfold yv;refine sR ?_;refine sL (dh e zo he) ?_;rw[aS];refine fy [0,2,5,9,24,25] (λ((k,aw):Nat×Nat)=>[(10,.own 1 aw 0 (fR g F e k).length),(26,ab k)]) (λ(k,aw)=>[.row true [ab e],.vec true aw 1<|aE<|fR g F e k]) (λ(k,aw)=>k<=F.length) (λ(k,aw)=>F.length-k) (0,0) ?_;refine gp ?_;rintro⟨k,aw⟩ hk;obtain⟨hO,GW⟩:=Ea H k hk;have zQh:(fR g F e k).length<=4000000000:=by
  have:=yg (show k<=1000 by omega) hn;omega
 have hOn:=AF.2 hO.ne;have eR:fR g F e (k+1)=if (fR g F e k).any (λx=>(F.getD k noT) x.toNat)=true then fR g F e k else fR g F e k++(ku g (F.getD k noT) (eV g<|bp g e) [dw<|fR g F e k]).drop 1:=rfl
 refine bl (λq0=>?_) λq0=>?_
 ·have q0:k<F.length:=sO;have hS:F.getD k noT∈F:=(by rw[ay,aG q0];simp);refine⟨zo,_,Wk (n:=g.length) (F:=F) (k:=k) zo q0,?_⟩;obtain⟨_,pP,hw3⟩:=hO.way H hS;generalize F.getD k noT=S at *;refine sW ?_;generalize QE:fR g F e k=o at *;have hC:=kY (λn=>ab n) (λa=>by simp[Pure]) o zo (λx=>S x.toNat) 204 [.aN [bI g.length S]] (by simp[ao,Pure,ke]) λa ha=>zvl g.length S a (dn hO.rng ha).1 (dn hO.rng ha).2;rw[show(o.map λn=>[ab n])=List.drop 0 (List.take o.length<|aE o) from(dt<|by simp[aE]).symm] at hC;refine sN hC ?_;cases r:o.any (λx=>S x.toNat)
  ·rw[r,aa zc] at eR;refine bJ ?_;refine⟨zo,zo,zo,?_⟩;refine sW ?_;have vc:=zyO W A L g fr hn H.bg hF S 205 (λx h1 h2=>zuU g.length S x h1 h2) o aw hOn zo [dw o] rfl (j9 λx hx=>by rw[cM] at hx;subst hx;exact hO.lt) (bp g e);rw[<-mw] at vc;generalize ku g S (eV g<|bp g e) [dw o]=l at *;have Dr:=AF.2 pP;rw[show 0+(((o.length-0:Nat):Int)-1).toNat=o.length-1 by omega,show 0+(o.length-0)=o.length by omega];refine sA (sF vc [.row true [ab e]] [] rfl (by simp[aK,az,cp _ pZ.1]) ⟨bP _<|VN _,cu _ ⟨ke _ _,trivial⟩,trivial⟩ (by simp only[bO,D.aO,hsr,s7];rfl) (s7 _) (by simp only[dR,gP,an.aO,yT,bO,iK _<|ke _ _];rfl) (by simp only[dR,gP,an.aO,yT,bO,iK _<|ke _ _];rfl)) ?_;rw[aS];refine⟨zo,zo,zo,?_⟩;refine mQ ?_;refine⟨(k+1,aw+1),zo,zd,?_⟩;dsimp only;rw[eR];have hle:(o++l.drop 1).length=o.length+(l.length-1):=(by rw[cL,mi]);rw[hle,show(List.drop (Int.toNat 1)<|List.take l.length<|List.map (λn=>[ab n]) l).length=l.length-1 by simp]
   (refine br 2 zs rfl ?_ ?_<;>(repeat' (first|exact trivial|exact rfl|exact bR.refl _|exact ck.refl _|exact cg.refl _|refine And.intro ?_ ?_|(simp[az,aK,bN,-List.map_take,-List.map_drop];done))))
   all_goals first|exact cp _ pZ.1|exact bP _ (cO _ (λS=>by simp[ao,ke]) F)|exact bM (by have:=Xg o l 1 l.length;rw[gz] at this;exact this)|skip
  rw[r,ae rfl] at eR;refine bJ ?_;refine⟨(k+1,aw),zo,zd,?_⟩;dsimp only;rw[eR]
  (refine br 2 zs rfl ?_ ?_<;>(repeat' (first|exact trivial|exact rfl|exact bR.refl _|exact ck.refl _|exact cg.refl _|refine And.intro ?_ ?_|(simp[az,aK,bN,-List.map_take,-List.map_drop];done))))
  all_goals first|exact cp _ pZ.1|exact bP _ (cO _ (λS=>by simp[ao,ke]) F)|skip
 have q0:k=F.length:=by have:¬k<F.length:=sO
                        omega
 subst q0;have eE:jU g F e=fR g F e F.length++(ss g (fR g F e F.length) e).take ((ss g (fR g F e F.length) e).length-1):=rfl;subst mw;unfold iA bW;refine sW ?_;obtain⟨ht1,hh1,hh2,hh3⟩:=hO.home H;have bF:=hO.lt;refine sIB ?_;generalize QE:fR g F e F.length=o at *;refine⟨_,eY (l:=o) (k:=o.length-1) zo zo,?_⟩;refine sW ?_;rw[show o.getD (o.length-1) 0=dw o from rfl];refine sL (me (g:=g) (k:=(dw o).toNat) zo zo) ?_;rw[aS];have Cg:=hF.at (dw o).toNat;have eT:=λk hk=>X5 (g:=g) (o:=o) (e:=e) (k:=k) hk;have RS:=λk=>ztI g o e k;have dV:=λy hy=>dn (iO H.bg (dw o).toNat) (x:=y) hy;have hhE:ss g o e=ku g (toE e) (eV g<|bp g e) (rF g o e (g.getD (dw o).toNat []).length):=rfl;have QC:rF g o e 0=[]:=by simp[rF]
 generalize g.getD (dw o).toNat []=row at *;generalize rF g o e=T at *;refine dk (iF 14 1 zs rfl) ?_;refine fy [0,2,5,9,10,59,60] (λ((k,c):Nat×Nat)=>[(14,.own 2 c 0 c),(61,ab k)]) (λ(k,c)=>[.row true [ab e],.vec true aw 1<|aE o,.vec true c 1<|aE<|T k]) (λ(k,c)=>k<=row.length/\(T k).length=c) (λ(k,c)=>row.length-k) (0,0) ?_;refine sW ?_;refine⟨⟨zo,by rw[QC];rfl⟩,by exact sK,by dsimp only;rw[QC,<-QE];rfl,?_⟩;rintro⟨k,c⟩ ⟨hk,hc⟩;have hTk:=RS k;refine bl (λq1=>?_) λq1=>?_
 ·have q1:k<row.length:=sO;have hy:=dV _<|fV q1;have eS:=eT k q1;refine sL (eY (l:=row) (k:=k) zo q1) ?_;generalize row.getD k 0=y at *;refine sL (dh y.toNat zo zo) ?_;refine sS (λr2=>?_) λr2=>?_
  ·have r2:(bp g y.toNat==bp g e):=r2;rw[r2,ae rfl] at eS;refine sJI ?_;refine⟨(k+1,c+1),⟨zo,by rw[eS,cL,hc];rfl⟩,zd,?_⟩;dsimp only;rw[eS]
   (refine br 3 zs rfl ?_ ?_<;>(repeat' (first|exact trivial|exact rfl|exact bR.refl _|exact ck.refl _|exact cg.refl _|refine And.intro ?_ ?_|(simp[az,aK,bN,-List.map_take,-List.map_drop];done))))
   all_goals first|exact cu _ hp|exact bM (by rw[<-hc,pT])|skip
  have r2:(bp g y.toNat==bp g e)=false:=r2;rw[r2,aa zc] at eS;refine sI ?_;refine⟨(k+1,c),⟨zo,by rw[eS];exact hc⟩,zd,bf (by exact sK) ?_⟩;dsimp only;rw[eS]
 have q1:k=row.length:=by have:¬k<row.length:=sO
                          omega
 subst q1;have vc:=VO W A L g fr hn H.bg hF (toE e) 206 [.aN [ab e]] (by simp[ao,Pure]) (λx h1 _=>zzL e x h1) (T row.length) zo ht1<|bp g e;rw[<-hhE] at vc;generalize ss g o e=l at *;have Dr:=AF.2 hh1
 refine sE (HZ (args0:=[.aN<|iA W A L g fr,.own 1 c 0 c,.fn (.func 206) [] [.loc 0 0],aL<|lL g,ab<|bp g e]) (H0:=[.row true [ab e],.vec true c 1<|aE<|T row.length])
  (.cons _ _ _ _ (.refl _) (.cons _ _ _ _ (.own _ _ _ _ _ _ _ _ rfl (by rw[dt<|by simp[aE];omega];exact fW _)) (.cons _ _ _ _ (.fn _ _ _ _ _ .nil (.cons _ _ _ _ (.loc _ _ _ _ _ rfl (oX _)) .nil)) (.cons _ _ _ _ (.refl _) (.cons _ _ _ _ (.refl _) .nil))))) vc (c9 _) [0,2] rfl zc (by simp[aK,az,cu _ hp]) ⟨cu _<|by simp[ao,Pure],bP _<|VN _,trivial⟩ (by simp only[bO,D.aO,s7,l6 _ hp];rfl) (λi o ho=>by
   rcases i with _|_|i
   ·simp at ho;subst ho;rfl
   ·simp at ho;subst ho;simp only[an.aO,yT];rfl
   simp at ho)) ?_
 rw[aS];refine sI ?_;refine⟨zo,zo,zs,?_⟩;refine sWJ ?_;rw[eE];refine .own _ _ _ _ _ _ _ _ rfl ?_;rw[show(((l.length:Nat):Int)-1).toNat=l.length-1 by omega];have hh:=Xg o l 0<|l.length-1;rw[ft] at hh;rw[show List.drop 0 (List.take o.length<|aE o)++List.drop 0 (List.take (l.length-1)<|List.map (λn=>[ab n]) l)=aE (o++l.take (l.length-1)) from hh];rw[dt<|by simp[aE]];exact fW _
end
section
def nxE(W:ba)(A:bZ)(p:Pr):List Pr:=iP W A (W.next.getD p.1.toNat [])<|A.next.getD p.2.toNat []
structure mD(W:ba)(A:bZ):Prop where
 two:yK W A
 sw:W.start.length<=1048576
 sa:A.start.length<=1048576
 rw_:∀l∈W.next,l.length<=1048576
 ra:∀l∈A.next,l.length<=1048576
theorem mD.next{W:ba}{A:bZ}(h:mD W A)(p:Pr):(∀q∈nxE W A p,jJ W A q)/\(nxE W A p).length<=1099511627776:=by
 obtain⟨_,_,_,_,w5,_⟩:=vy W h.two.cw;obtain⟨_,_,_,_,_,a6,_⟩:=yk A h.two.ca;refine⟨Wa (iO w5 _)<|iO a6 _,?_⟩;have h1:=PN W A (W.next.getD p.1.toNat [])<|A.next.getD p.2.toNat [];have h2:=yg (Bk h.rw_ p.1.toNat)<|Bk h.ra p.2.toNat;unfold nxE;omega
variable{W:ba}{A:bZ}
theorem mD.begin(h:mD W A):(∀q∈iP W A W.start A.start,jJ W A q)/\(iP W A W.start A.start).length<=1099511627776:=by
 obtain⟨_,_,_,w4,_,_⟩:=vy W h.two.cw;obtain⟨_,_,_,_,a5,_,_⟩:=yk A h.two.ca;refine⟨Wa w4 a5,?_⟩;have h1:=PN W A W.start A.start;have h2:=yg h.sw h.sa;omega
theorem HS{Q:Pr->Prop}{ps:List Pr}{o:af}(h:∀p∈L,Q p)(k:∀p∈ps,Q p):∀p∈(gq ps L o).1,Q p:=λp hp=>((CF ps L o p).1 hp).elim (h p)<|k p
theorem XV{W:ba}{A:bZ}(h:mD W A){start:List Pr}:∀(f n:Nat) (L:List Pr) (T:ak),sz start (nxE W A) n L T->(∀p∈L,jJ W A p)->W.next.length*A.next.length+2<=f+n ->
  qU start (nxE W A) (qS (nxE W A) f n L T).1 (qS (nxE W A) f n L T).2/\∀p∈(qS (nxE W A) f n L T).1,jJ W A p
 |0,n,L,T,hI,hg,hf=>by have:=hI.le;have:=jJ.le h.two hI.nd hg;omega
 |f+1,n,L,T,hI,hg,hf=>by
  rw[qS];split
  ·rename_i q;exact XV h f (n+1) _ _ (hI.next q) (HS hg (h.next _).1) zo
  rename_i q;exact⟨hI.fin q,hg⟩
def fA(W:ba)(A:bZ):List Pr×af:=gq (iP W A W.start A.start) [] []
def bH(W:ba)(A:bZ):List Pr×ak:=qS (nxE W A) (W.next.length*A.next.length+2) 0 (fA W A).1 []
theorem ti(h:mD W A):qU (iP W A W.start A.start) (nxE W A) (bH W A).1 (bH W A).2/\∀p∈(bH W A).1,jJ W A p :=
 XV h _ 0 _ [] (sz.begin _ _) (HS zs h.begin.1) zo
theorem Q8(nx:Pr->List Pr):∀(f n:Nat) (L:List Pr) (T:ak),∃X,(qS nx f n L T).1=L++X
 |0,n,L,T=>⟨[],by simp[qS]⟩
 |f+1,n,L,T=>by
  rw[qS];split
  ·obtain⟨X,hX⟩:=AR (nx<|L.getD n (0,0)) L [];obtain⟨Y,hY⟩:=Q8 nx f (n+1) (gq (nx<|L.getD n (0,0)) L []).1<|T++[(gq (nx<|L.getD n (0,0)) L []).2];exact⟨X++Y,by rw[hY,hX,l8]⟩
  exact⟨[],zs⟩
theorem Gq:(fA W A).2=(iP W A W.start A.start).map λp=>(fq (bH W A).1 p:Int):=by
 obtain⟨X,hX⟩:=Q8 (nxE W A) (W.next.length*A.next.length+2) 0 (fA W A).1 [];have hX':(bH W A).1=(fA W A).1++X:=hX;rw[hX'];unfold fA;rw[J9,m9];refine uy λp hp=>?_;rw[KQ<|(CF _ [] [] p).2 (.inr hp)]
theorem qU.fits(h:mD W A){start:List Pr}{G:ak}(hN:qU start (nxE W A) L G)(hg:∀p∈L,jJ W A p):G.length<=1228800/\kL G:=by
 have h1:=jJ.le h.two hN.nd hg;have h2:=KI h.two;have h3:=hN.len;refine⟨zo,zo,λl hl=>?_⟩;obtain⟨i,hi,rfl⟩:=kn.1 hl;have:=hN.row i zo;rw[ay,aG hi] at this;simp only[pe] at this;rw[this,aS];have:=(h.next<|L.getD i (0,0)).2;omega
theorem GP(h:mD W A):bq (fA W A).2 (bH W A).2.length/\(fA W A).2.length<=1099511627776:=by
 obtain⟨hN,hg⟩:=ti h;rw[Gq];refine⟨j9 λx hx=>?_,by rw[aS];exact h.begin.2⟩;obtain⟨p,hp,rfl⟩:=cU.1 hx;have:=xb<|hN.st p hp;have:=hN.len;omega
variable{g:ak}
theorem zxS{ok:aq}(h:∀v,ok v)(k:To g u v):To (x0 g ok) u v:=by
 unfold To at k
 induction k with
 |base m=>exact .base m
 |step k hx ih=>exact .step ih<|Kq.2 ⟨hx,h _⟩
variable{F:List aq}
theorem RT(bg:∀l∈g,bq l g.length)(h:oj g F i):(∃v,v<g.length/\bp g v=(i:Int))/\∀e,e<g.length->bp g e=(i:Int)->RH g F e:=by
 unfold oj at h;rw[dL,kv] at h;obtain⟨h1,h2⟩:=h;unfold okT at h1;obtain⟨v,hv,h3⟩:=iR.1 h1;rw[dL,gC] at h3;have hv:=eW.1 hv;refine⟨⟨v,hv,h3.1⟩,λe he hp=>⟨he,bg,?_,λS hS=>?_⟩⟩
 ·have hn:=(DZ (λv x hx=>(DM bg v x hx).2) hv).1 h3.2;obtain⟨m1,m2⟩:=lk.1<|(parts_eq hv he).1<|h3.1.trans hp.symm;exact Ko hn m1 m2
 have:=h2 S hS;unfold ow at this;obtain⟨d,hd,h4⟩:=iR.1 this;rw[dL,gC] at h4;exact⟨d,eW.1 hd,h4.2,h4.1.trans hp.symm⟩
noncomputable def pE(g:ak)(F:List aq):Int:=ee (λb=>true==b)<|(List.range g.length).map<|oj g F
noncomputable def dZ(g:ak)(F:List aq)(fr:af):af:=ku g (λk=>bp g k==pE g F) (eV g (-1)) fr
def kT(L:List Pr)(l:af):af:=l.map λn=>(L.getD n.toNat (0,0)).1
noncomputable def oh(W:ba)(A:bZ)(L:List Pr)(g:ak)(fr:af):D :=
 if pE g (gh W A L)<0 then .aJ [.agg [aL [],aL []],aF false,ab 0] else
  .aJ [.agg [aL<|kT L<|(dZ g (gh W A L) fr).take<|(dZ g (gh W A L) fr).length-1,aL<|kT L<|jU g (gh W A L) (dw<|dZ g (gh W A L) fr).toNat],aF true,ab 0]
theorem Ud(h:¬pE g F<0):∃i:Nat,pE g F=(i:Int)/\oj g F i:=by
 obtain⟨k,h1,hk,h2,_⟩:=C6 (show 0<=ee (λb=>true==b) ((List.range g.length).map<|oj g F) from by unfold pE at h;omega);refine⟨k,h1,?_⟩;simpa using h2
theorem zCx(bg:∀l∈g,bq l g.length):(¬pE g F<0)↔∃v,v<g.length/\Fw g F v:=by
 rw[<-zur (λv x hx=>(DM bg v x hx).2) F];have h1:=sm (λb=>true==b)<|(List.range g.length).map<|oj g F;have h2:(¬pE g F<0)↔decide (pE g F>=0)=true:=by rw[decide_eq_true_iff];omega
 rw[h2,pE,h1,iR];constructor
 ·rintro⟨b,hb,M4⟩;obtain⟨i,hi,rfl⟩:=cU.1 hb;exact⟨i,eW.1 hi,by simpa using M4⟩
 rintro⟨i,hi,h⟩;exact⟨_,cU.2 ⟨i,eW.2 hi,rfl⟩,by simpa using h⟩
theorem C8(h:mD W A)(hp:¬pE (bH W A).2 F<0) :
  bq (dZ (bH W A).2 F (fA W A).2) (bH W A).2.length=true/\(dZ (bH W A).2 F (fA W A).2).length<=(bH W A).2.length/\dZ (bH W A).2 F (fA W A).2≠[]/\RH (bH W A).2 F (dw<|dZ (bH W A).2 F (fA W A).2).toNat:=by
 obtain⟨hN,hg⟩:=ti h;obtain⟨i,e1,hG⟩:=Ud hp;obtain⟨⟨v,hv,B9⟩,hR⟩:=RT hN.inG hG;obtain⟨b1,_⟩:=GP h;obtain⟨w1,w2,w3⟩:=Hk hN.inG (λk=>bp (bH W A).2 k==pE (bH W A).2 F) (eV (bH W A).2 (-1)) b1;obtain⟨q,hq,hT⟩:=hN.come v (by have:=hN.len;omega);obtain⟨init,last,s1,s2,_⟩:=w3 ⟨(fq (bH W A).1 q:Int),by rw[Gq];exact cU.2 ⟨q,hq,rfl⟩,v,by
  rw[bS];exact zxS (λv=>by unfold eV;rw[gb (by omega:(-1:Int)<0)];rfl) hT,by rw[B9,e1];simp⟩
 refine⟨w1,w2,by unfold dZ;rw[s1];simp,?_⟩;have hl:dw (dZ (bH W A).2 F (fA W A).2)=last:=by unfold dZ;rw[s1,Gf]
 have hr:=dn w1 (x:=last) (by rw[s1];simp);rw[hl];exact hR last.toNat zo<|by rw[gC] at s2;rw[s2,e1]
def By(d:Nat)(W:ba)(A:bZ)(n t:Nat)(S:D):aZ:=[aL W.start,bW W.next,cY W.label,bW W.fair,aL A.start,bW A.next,cY A.kq,cY A.lC,bW A.fair,.mp d,.own (d+2) n 0 n,.own (d+3) t 0 t,S]
noncomputable def DG(d:Nat)(W:ba)(A:bZ)(L:List Pr)(S:D)(T:ak):aB :=
 [.dI true<|kF aj 226<|fP L,.row true<|By d W A L.length T.length S,.vec true L.length 2<|qC L,.vec true T.length 1<|lI T]
theorem Uh{ρ:Nat->Nat}(l:af):D.aO ρ (cY l)=cY l:=iK _<|qR l
theorem Jr{S:D}(hS:Pure S){T:ak}:(je W A L S T).map (an.aO λi=>3+i)=DG 3 W A L S T:=by
 simp only[je,DG,vk,By,dR,gP,an.aO,bO,D.aO,jb _<|Nk L,jb _<|y4 T,iK _ hS,s7,UY,Uh]
def zDY:PC:=.seq (SO [qm 42 10,qm 43 9,q 44 (.fO 43),Fa 45 10 44,Lo 46 45,Ln 47 46,Bi 48 .lss 42 47]<|CX 48 0) (.seq (.block 1 (.ops [qm 51 9,qm 52 9,qd 53 (.fO 52) 2,Fd 54 11 53 6,Ld 55 54 14,qm 56 9,Fa 57 1 2,Ld 58 57 64,qm 59 9,qd 60 (.fO 59) 256,Fd 61 10 60 768,Ld 62 61 1792,qm 63 10,Ja 64 2 62 63 7936,Fd 65 0 64 16128,Ld 66 65 32512,Ja 67 1 58 66 65472,Ld 68 67 131008,Fa 69 1 3,Ld 70 69 262144,qm 71 9,qd 72 (.fO 71) 1048576,Fd 73 10 72 3145728,Ld 74 73 7340032,qm 75 10,Ja 76 2 74 75 32505856,Fd 77 1 76 66060288,Ld 78 77 133169152,Ja 79 1 70 78 268173312,Ld 80 79 536608768,Cd 81 123 [56,68,80] 1073741792,qd 82 (.pX 1 1 [81]) 2147483616,qd 83 (.append 1 24 55 82) 4294967294,qd 84 (.fO 51) 8589934591,Fd 85 11 84 17179869183,qk (.store 1 85 83) 34359738367] true))<|OP [qm 49 10,Bi 50 .add 49 K1,qm 10 50])
def c54:PC:=SO [Bx 2 0,Bx 3 1,q 4 (.alloc [vN,vN]),Mv 5 cF,Mv 6 K0] (.seq (SO [LA 16 4 2,Ca 17 52 [16],qm 7 17]<|SO [qm 18 7,Bi 19 .neq 18 K0]<|If 19<|SO [q 20 (.build [vN,vN] []),qm 21 7,So 2 4 20,Mv 5 cF,qm 6 21] .ret) (.seq (SO [LA 22 5 3,Ca 23 122 [22],qm 8 23]<|SO [qm 24 8,Bi 25 .neq 24 K0]<|If 25<|SO [q 26 (.build [vN,vN] []),qm 27 8,So 2 4 26,Mv 5 cF,qm 6 27] .ret)<|SO [LA 28 4 2,LA 29 5 3,q 30 (.FY 226),q 31 (.build [vN,vN,vN,vN,vN,vN,vN,vN,vN,(.map none),vN,vN,vN] [(0,4,28),(4,5,29),(9,1,30)]),Bx 32 31,qm 9 32] (.seq (.stop<|OP [qm 33 9,qm 34 9,Fa 35 0 2,Lo 36 35,Fa 37 0 3,Lo 38 37,Ca 39 123 [34,36,38],q 40 (.fO 33),Fa 41 12 40,So 1 41 39]) (.seq (SO [Mv 10 K0]<|BL 0 zDY) (.seq (.stop<|OP [qm 86 9,q 87 (.fO 86),Fa 88 11 87,Lo 89 88,Ca 90 124 [89],q 11 (.alloc [vN]),So 1 11 90])<|SO [qm 91 9,Ca 92 125 [91],qm 12 92]<|SO [qm 93 9,Lo 94 11,qm 95 12,Ca 96 126 [93,94,95],q 13 (.alloc [v0]),So 1 13 96] (.seq (SO [Lo 97 13,Bi 98 .lss 97 K0]<|If 98<|SO [q 99 (.build [vN,vN] []),So 2 4 99,Mv 5 cF,Mv 6 K0] .ret) (.seq (.ops [qm 100 9,qm 101 9,qd 102 (.fO 101) 2,Fd 103 12 102 6,Ld 104 103 14,q 105 (.n4 (.func 128) [] [11,13]),Lo 106 11,Cd 107 127 [100,104,105,106,(cI (-1))] 127,qw 14 107 255] true) (.seq (.ops [qm 108 9,qm 109 14,qm 110 14,qd 111 (.len 110) 4,Bd 112 .sub 111 K1 12,Ja 113 1 109 112 30,Ld 114 113 62,Lo 115 11,qm 116 12,Cd 117 129 [108,114,115,116] 511,qw 15 117 1023] true)<|SO [qm 118 9,qm 119 14,qm 120 14,Ln 121 120,Bi 122 .sub 121 K1,q 123 (.slc 1 119 none (some 122) none),Ca 124 130 [118,123],qm 125 9,qm 126 15,Ca 127 130 [125,126],q 128 (.build [vN,vN] [(0,1,124),(1,1,127)]),So 2 4 128,Mv 5 cT,Mv 6 K0] .ret))))))))
theorem zzi(h:mD W A):ar aj 54 [jQ W,rk A]<|oh W A (bH W A).1 (bH W A).2 (fA W A).2:=by
 obtain⟨w1,w2,w3,w4,w5,w6⟩:=vy W h.two.cw;obtain⟨a1,a2,a3,a4,a5,a6,a7⟩:=yk A h.two.ca;have hN2:=KI h.two;have WA:=G1 W h.two.fw;rw[h.two.cw] at WA;have Vw:=zwi A h.two.fa;rw[h.two.ca] at Vw;have hX:=λL dO xz S hS T=>V4 h.two W.start A.start h.sw h.sa w4 a5 L dO xz S hS T;have hX2:=λ(p:Pr) L dO xz S hS T=>V4 h.two (W.next.getD p.1.toNat []) (A.next.getD p.2.toNat []) (Bk h.rw_ p.1.toNat) (Bk h.ra p.2.toNat) (iO w5 p.1.toNat) (iO a6 p.2.toNat) L dO xz S hS T;have hpW:=Du W;have hpA:=Ui A;refine fi (fJ 129 [.agg 4 2,.tmp 5,.tmp 6] c54 Tryz.func54) zs (by simp[ao,Ur,EP]) ?_ (by unfold oh;split<;>simp[Pure,ao,c9]);have Yk:bH W A=qS (nxE W A) (W.next.length*A.next.length+2) 0 (fA W A).1 []:=rfl;unfold jQ rk at *;unfold ba.cells bZ.cells at *;refine sR ?_;refine sC WA ?_;refine sC Vw ?_;refine dk (oK (jN 4 10 2 zs rfl rfl)<|jN 4 11 1 zs rfl rfl) ?_;refine sR ?_;have Ir:Pure tz:=trivial;have TS:=hX [] .nil zs tz Ir [];rw[show gq (iP W A W.start A.start) [] []=fA W A from rfl] at TS;have Pg:=sz.begin (iP W A W.start A.start)<|nxE W A;rw[show gq (iP W A W.start A.start) [] []=fA W A from rfl] at Pg;have hG0:∀p∈(fA W A).1,jJ W A p:=HS zs h.begin.1;have hRR:∀L G,bH W A=(L,G)->qU (iP W A W.start A.start) (nxE W A) L G/\(∀p∈L,jJ W A p)/\bq (fA W A).2 G.length=true/\(fA W A).2.length<=1099511627776/\∀F,¬pE G F<0->bq (dZ G F (fA W A).2) G.length=true/\(dZ G F (fA W A).2).length<=G.length/\dZ G F (fA W A).2≠[]/\RH G F (dw<|dZ G F (fA W A).2).toNat:=λL G e=>by
  have k1:=ti h;have k2:=GP h;have k3:=λF hp=>C8 h (F:=F) hp;rw[e] at k1 k2 k3;exact⟨k1.1,k1.2,k2.1,k2.2,k3⟩
 generalize fA W A=B at *;obtain⟨L0,fr⟩:=B;dsimp only at *;have Jf:=c9 fr;refine sA (sF TS [.row true [aL W.start,bW W.next,cY W.label,bW W.fair],.row true [aL A.start,bW A.next,cY A.kq,cY A.lC,bW A.fair],.row true [tz,tz]] [] rfl (by simp[je,aK,az]) (MZ Ir<|by simp[je]) (by simp only[bO,D.aO,s7];rfl) (s7 _) (bK (_++·)<|(oR _).trans<|Jr Ir) (bK (_++·)<|(oR _).trans<|Jr Ir)) ?_
 refine fy [2,3,4,9] (λ((n,M,T):Nat×List Pr×ak)=>[(10,ab n)]) (λ(n,M,T)=>[.row true [aL W.start,bW W.next,cY W.label,bW W.fair],.row true [aL A.start,bW A.next,cY A.kq,cY A.lC,bW A.fair],.row true [tz,tz]]++DG 3 W A M (aL fr) T)
  (λ(n,M,T)=>sz (iP W A W.start A.start) (nxE W A) n M T/\(∀p∈M,jJ W A p)/\qS (nxE W A) (W.next.length*A.next.length+2-n) n M T=bH W A) (λ(n,M,T)=>W.next.length*A.next.length+2-n) (0,L0,[]) ?_
 refine sW ?_;refine⟨⟨Pg,hG0,Yk.symm⟩,by exact sK,rfl,?_⟩;rintro⟨n,M,T⟩ ⟨hI,nV,hF⟩;have Fq:=jJ.le h.two hI.nd nV;have hIl:=hI.le;have RS:=hI.len;rw[show W.next.length*A.next.length+2-n=(W.next.length*A.next.length+1-n)+1 by omega,qS] at hF;unfold DG By;refine bl (λq0=>?_) λq0=>?_
 ·have q0:n<M.length:=sO;rw[ae q0] at hF;have GA:=nV _<|G3 q0;obtain⟨⟨g1,g2⟩,g3,g4⟩:=GA;have hNx:=hI.next q0;have iZ:=h.next<|M.getD n (0,0);have hC:=sF (hX2 (M.getD n (0,0)) M hI.nd nV (aL fr) Jf T) [.row true [aL W.start,bW W.next,cY W.label,bW W.fair],.row true [aL A.start,bW A.next,cY A.kq,cY A.lC,bW A.fair],.row true [tz,tz]] [] rfl (by simp[je,aK,az]) (MZ Jf<|by simp[je]) (by simp only[bO,D.aO,s7];rfl) (s7 _) (bK (_++·)<|(oR _).trans<|Jr Jf) (bK (_++·)<|(oR _).trans<|Jr Jf);rw[show iP W A (W.next.getD (M.getD n (0,0)).1.toNat []) (A.next.getD (M.getD n (0,0)).2.toNat [])=nxE W A (M.getD n (0,0)) from rfl] at hC;refine sB ?_;refine⟨_,F8 (l:=M) (k:=n) zo q0,?_⟩;refine sW ?_;refine sL (me (g:=W.next) (k:=(M.getD n (0,0)).1.toNat) zo zo) ?_;refine sB ?_;refine⟨_,F8 (l:=M) (k:=n) zo q0,?_⟩;refine sW ?_;refine sL (me (g:=A.next) (k:=(M.getD n (0,0)).2.toNat) zo zo) ?_;unfold DG By at hC;have hgd:=HS (o:=[]) nV iZ.1;generalize nxE W A (M.getD n (0,0))=ps at *;generalize gq ps M []=Q at *;obtain⟨M',o⟩:=Q;dsimp only at *
  (refine .inr (.inr (.inr (.inl ⟨_,_,by simp[aK,bN,kl,an.under,az],by simp[aK,bN,kl,an.under,az],hC,?_⟩)));((conv=>whnf);repeat(refine⟨rfl,?_⟩;conv=>whnf)))
  refine sJI ?_;refine⟨(n+1,M',T++[o]),⟨hNx,hgd,by rw[show W.next.length*A.next.length+2-(n+1)=W.next.length*A.next.length+1-n by omega];exact hF⟩,zd,?_⟩;dsimp only;rw[show(T++[o]).length=T.length+1 by simp]
  (refine br 7 zs rfl ?_ ?_<;>(repeat' (first|exact trivial|exact rfl|exact bR.refl _|exact ck.refl _|exact cg.refl _|refine And.intro ?_ ?_|(simp[az,aK,bN,-List.map_take,-List.map_drop];done))))
  all_goals first|exact cu _ hpW|exact cu _ hpA|exact bM (zor rfl)|(simp[cp _<|qR _];done)|skip
 have q0:¬n<M.length:=sO;rw[aa q0] at hF;obtain⟨MF,Xs,hfi,rZ,b8⟩:=hRR M T hF.symm;obtain⟨hTn,GK⟩:=MF.fits h Xs;have bg:=MF.inG;rw[<-hF];have IJ:=MF.len;have KF:=zyz h.two M zo Xs T fr;rw[<-IJ] at KF;have zJ:(gh W A M).length<=1000:=by unfold gh;rw[cL,x9<|aI _,x9<|aI _];omega
 have iX:oh W A M T fr=if pE T (gh W A M)<0 then .aJ [.agg [aL [],aL []],aF false,ab 0] else
   .aJ [.agg [aL<|kT M<|(dZ T (gh W A M) fr).take<|(dZ T (gh W A M) fr).length-1,aL<|kT M<|jU T (gh W A M) (dw<|dZ T (gh W A M) fr).toNat],aF true,ab 0]:=rfl
 have nR:=xM W A M T fr;generalize gh W A M=F at *;have JQ:=zzO W A M T IJ fr zo bg GK F zJ;rw[show ee (λb=>true==b) ((List.range T.length).map<|oj T F)=pE T F from rfl] at JQ;have b8:=b8 F
 refine dk (vl (λi=>i==4||i==5||i==6) (env':=[(4,.loc 2 0),(9,.aN<|iA W A M T fr)]) (H':=[.row true [aL W.start,bW W.next,cY W.label,bW W.fair],.row true [aL A.start,bW A.next,cY A.kq,cY A.lC,bW A.fair],.row true [tz,tz],.dI true<|kF aj 226<|fP M,.row false<|By 3 W A M.length T.length<|aL fr,.vec false M.length 2<|qC M,.vec false T.length 1<|lI T])
  ⟨.refl _,.loc _ _ _ _ _ rfl rfl (.cons _ _ _ _ (.refl _) (.cons _ _ _ _ (.refl _) (.cons _ _ _ _ (.refl _) (.cons _ _ _ _ (.refl _) (.cons _ _ _ _ (.refl _) (.cons _ _ _ _ (.refl _) (.cons _ _ _ _ (.refl _) (.cons _ _ _ _ (.refl _) (.cons _ _ _ _ (.refl _) (.cons _ _ _ _ (.dB _) (.cons _ _ _ _ (.own _ _ _ _ _ _ _ _ rfl rfl (bM<|dt zs)) (.cons _ _ _ _ (.own _ _ _ _ _ _ _ _ rfl rfl (bM<|dt zs)) (.refl _))))))))))))),trivial⟩
  ⟨⟨.inl rfl,λh=>absurd h zc,.refl _⟩,⟨.inl rfl,λh=>absurd h zc,.refl _⟩,⟨.inl rfl,λh=>absurd h zc,.refl _⟩,⟨.inl rfl,λh=>absurd h zc,rfl⟩,⟨.inr ⟨rfl,rfl⟩,λ_=>rfl,.refl _⟩,⟨.inr ⟨rfl,rfl⟩,λ_=>rfl,rfl,rfl,.refl _⟩,⟨.inr ⟨rfl,rfl⟩,λ_=>rfl,rfl,rfl,.refl _⟩,trivial⟩) ?_
 have u9:=WT T zo bg GK;unfold iA at KF JQ;unfold iA By;refine sR ?_;refine sC u9 ?_;refine sC KF ?_;refine sC JQ ?_;rw[iX];refine sS (λp0=>?_) λp0=>?_
 ·have p0:pE T F<0:=tk p0;rw[ae p0];exact .aJ _ _ (.cons _ _ _ _ (.agg _ _ (.cons _ _ _ _ (.none _) (.cons _ _ _ _ (.none _) .nil))) (.cons _ _ _ _ (.refl _) (.cons _ _ _ _ (.refl _) .nil)))
 have p0:¬pE T F<0:=of_decide_eq_false p0;rw[aa p0];obtain⟨s1,s2,s3,s4⟩:=b8 p0;have hsn:=AF.2 s3;have hlE:=dn s1<|Nw s3;have vc:=VO W A M T fr zo bg GK (λk=>bp T k==pE T F) 128 [.aN [aL<|lL T],.aN [ab<|pE T F]] (by simp[ao,Pure,c9]) (λx h1 h2=>ztt T (pE T F) x h1 h2) fr zo hfi (-1);rw[show ku T (λk=>bp T k==pE T F) (eV T (-1)) fr=dZ T F fr from rfl] at vc;have NK:=zvx W A M T fr zo GK F zJ (dw<|dZ T F fr).toNat s4;rw[show(((dw<|dZ T F fr).toNat:Nat):Int)=dw (dZ T F fr) by omega] at NK;obtain⟨r1,r2⟩:=Qt s4;have NJ:=TY W A M T fr ((dZ T F fr).take<|(dZ T F fr).length-1) (by rw[gO];omega) (by rw[<-IJ];exact j9 λx hx=>dn s1<|CB hx);have Cg:(jU T F (dw<|dZ T F fr).toNat).length<=1000000000000:=by
  have:=yg zJ hTn;omega
 have CZ:=TY W A M T fr (jU T F (dw<|dZ T F fr).toNat) Cg (by rw[<-IJ];exact r1);rw[show((dZ T F fr).take<|(dZ T F fr).length-1).map (λn=>(M.getD n.toNat (0,0)).1)=kT M ((dZ T F fr).take<|(dZ T F fr).length-1) from rfl] at NJ;rw[show(jU T F (dw<|dZ T F fr).toNat).map (λn=>(M.getD n.toNat (0,0)).1)=kT M (jU T F (dw<|dZ T F fr).toNat) from rfl] at CZ;generalize jU T F (dw<|dZ T F fr).toNat=rnd at *;generalize dZ T F fr=st at *;generalize pE T F=p at *;unfold iA at vc NK NJ CZ nR;refine sW ?_
 refine sE (HZ (args0:=[.aN [aL W.start,bW W.next,cY W.label,bW W.fair,aL A.start,bW A.next,cY A.kq,cY A.lC,bW A.fair,.dB,yq M,bW T,aL fr],aL fr,.fn (.func 128) [] [.loc 0 0,.loc 1 0],aL<|lL T,ab (-1)]) (H0:=[.row true [aL<|lL T],.row true [ab p]])
  (.cons _ _ _ _ (.refl _) (.cons _ _ _ _ (.refl _) (.cons _ _ _ _ (.fn _ _ _ _ _ .nil (.cons _ _ _ _ (.loc _ _ _ _ _ rfl (oX _)) (.cons _ _ _ _ (.loc _ _ _ _ _ rfl (oX _)) .nil))) (.cons _ _ _ _ (.refl _) (.cons _ _ _ _ (.refl _) .nil))))) vc (c9 _) [7,8] rfl zc ⟨cp _<|xZ nR,cp _<|c9 _,by simp[aK,az],cp _<|c9 _,trivial,trivial⟩ ⟨cu _ ⟨c9 _,trivial⟩,cu _ ⟨trivial,trivial⟩,trivial⟩ (by simp only[bO,D.aO,s7,UY,Uh,iK _<|JD _];rfl) (λi o ho=>by
   rcases i with _|_|i
   ·simp at ho;subst ho;simp only[an.aO,bO,s7];rfl
   ·simp at ho;subst ho;rfl
   simp at ho)) ?_
 rw[aS];refine sI ?_;refine sL (eY (l:=st) (k:=st.length-1) zo zo) ?_;rw[show st.getD (st.length-1) 0=dw st from rfl,show D.aO (λi=>[7,8].getD i 0) (aL<|lL T)=aL (lL T) from s7 _];refine sC NK ?_;rw[aS];refine sI ?_;refine⟨zo,zo,zs,?_⟩;refine sW ?_;rw[show(D.a8 1<|List.drop 0<|List.take (((st.length:Nat):Int)-1).toNat<|List.map (λn=>[ab n]) st)=aL (st.take<|st.length-1) by
  rw[show(((st.length:Nat):Int)-1).toNat=st.length-1 by omega,ft,<-List.map_take];rfl]
 refine sC NJ ?_;refine sC CZ ?_;exact .refl _
end
variable(n:Int)
theorem xO(k n:Int):Small<|bd k n:=.mk _ (by simp[bd,Tree.width,Tree.kids]) λj hj=>by simp[bd,Tree.width,Tree.kids] at hj
variable{k:Int}{a:Tree}
theorem sj(h:Small a):Small<|aW k a:=.mk _ (by simp[aW,Tree.width,Tree.kids]) λj hj=>by
 simp[aW,Tree.width,Tree.kids] at hj;subst hj;exact h
theorem yo{b:Tree}(h:Small a)(h':Small b):Small<|bE k a b:=.mk _ (by simp[bE,Tree.width,Tree.kids]) λj hj=>by
 simp[bE,Tree.width,Tree.kids] at hj
 match j with
 |0=>exact h
 |1=>exact h'
theorem BK(p:Prop) [Decidable p] {b:Tree} (h:Small a) (k:Small b):Small<|if p then a else b:=by split<;>assumption
variable(k:Int)
theorem Rg(a b:Tree):ar aj 235 [ab k,bn a,bn b]<|bn<|bE k a b:=by
 refine bV ?_;exact sP
theorem zH(a:Tree):ar aj 153 [ab k,bn a]<|bn<|aW k a:=by
 refine bV ?_;exact sP
theorem IH(a b:Tree):ar aj 149 [ab k,bn a,bn b]<|bn<|bE k a b:=by
 refine bV ?_;exact sP
theorem yr(a:Tree):ar aj 134 [ab k,bn a]<|bn<|aW k a:=by
 refine bV ?_;exact sP
theorem ML(a b:Tree):ar aj 207 [ab k,bn a,bn b]<|bn<|bE k a b:=by
 refine bV ?_;exact sP
theorem Tm:ar aj 236 [ab k]<|bn<|bd k 0:=by
 refine bV ?_;exact sP
theorem uF:ar aj 131 [ab n]<|bn<|bd 3 n:=by
 refine bV ?_;exact sP
theorem Kg:ar aj 152 [ab n]<|bn<|bd 3 n:=by
 refine bV ?_;exact sP
variable(a:Tree)
theorem H3:ar aj 146 [bn a]<|bn<|aW 4 a:=by
 refine bV ?_;refine sC (zH 4 a) ?_;exact sP
theorem IU:ar aj 147 [bn a]<|bn<|aW 10 a:=by
 refine bV ?_;refine sC (zH 10 a) ?_;exact sP
theorem Ly:ar aj 144 [bn a]<|bn<|aW 11 a:=by
 refine bV ?_;refine sC (zH 11 a) ?_;exact sP
variable(b:Tree)
theorem NC:ar aj 151 [bn a,bn b]<|bn<|bE 5 a b:=by
 refine bV ?_;refine sC (IH 5 a b) ?_;exact sP
theorem M1:ar aj 145 [bn a,bn b]<|bn<|bE 6 a b:=by
 refine bV ?_;refine sC (IH 6 a b) ?_;exact sP
theorem yw:ar aj 132 [bn a]<|bn<|aW 4 a:=by
 refine bV ?_;refine sC (yr 4 a) ?_;exact sP
theorem Gx:ar aj 136 [bn a]<|bn<|aW 11 a:=by
 refine bV ?_;refine sC (yr 11 a) ?_;exact sP
theorem BR:ar aj 138 [bn a,bn b]<|bn<|bE 5 a b:=by
 refine bV ?_;refine sC (ML 5 a b) ?_;exact sP
theorem y5:ar aj 133 [bn a,bn b]<|bn<|bE 6 a b:=by
 refine bV ?_;refine sC (ML 6 a b) ?_;exact sP
theorem Bc:ar aj 137 [bn a,bn b]<|bn<|bE 8 a b:=by
 refine bV ?_;refine sC (ML 8 a b) ?_;exact sP
theorem ZA:ar aj 154 [ab k]<|ab<|bD k:=by
 refine bV ?_;repeat' (first|refine sS (λh=>?_) λh=>?_|exact bL<|by simp_all [bD])
theorem zr5:∀(t:Tree) (d n:Int),Small t->0<=d->d<=21->0<=n->n<=60->cd aj 57 ([bn t,ab d]++.loc 0 0::[]) [.row true [ab n]] (.sc (.int .i64 (fv bD t d n).1)) [.row true [.sc (.int .i64 (fv bD t d n).2)]]:=by
 intro t
 induction t using Tree.ind with
 |h t ih =>
  intro d n hs hd HE hn jx;have gT:=hs.width;refine gm fZ zs zs ?_ (by simp[az]) (by simp[an.under,aK,az]);refine sR ?_;refine .inl ⟨by unfold dW;rw[fU];omega,?_⟩;refine sW ?_;have e:=P3 bD t d n;refine sS (λh1=>?_) λh1=>?_
  ·simp at h1;rw[e,ae h1];exact⟨rfl,rfl,zs⟩
  rw[aa<|by simpa using h1] at e;refine sS (λh2=>?_) λh2=>?_
  ·simp at h2;rw[e,ae h2];exact⟨rfl,rfl,zs⟩
  rw[aa<|by simpa using h2] at e;refine sC (ZA t.kind) ?_;have odd:fE bD t->fv bD t d n=(1,n+1):=λh=>by rw[e,ae h]
  have bad:fE bD t->(ab 1=.sc (.int .i64 (fv bD t d n).1)/\List.take [an.row true [D.sc<|Value.int IntKind.i64 (fv bD t d n).2]].length [an.row true [ab<|n+1],an.row true<|bx t]=[an.row true [D.sc<|Value.int IntKind.i64 (fv bD t d n).2]]/\[an.row true [D.sc<|Value.int IntKind.i64 (fv bD t d n).2]].length<=2):=λh=>by
   rw[odd h];exact⟨rfl,rfl,zs⟩
  repeat' (first
   |refine sS (λh=>?_) λh=>?_
   |exact bad (by unfold fE Tree.width;simp_all;try omega))
  all_goals
   have cJ:¬fE bD t:=by unfold fE Tree.width;simp_all;try omega
   rw[aa cJ] at e;have Hm:n+1<=60:=(by simp at h1;omega);have HP:d<=20:=by simp at h2;omega
   refine Ci (λx:Nat×Int=>[(1,ab d),(2,.loc 0 0),(48,.a8 3<|t.kids.map fT),(49,.sc (.int .i64 (t.kids.map fT).length)),(50,ab x.1)])
    (λx=>[.row true [ab x.2],.row true<|bx t]) (λx=>x.1<=t.width/\0<=x.2/\x.2<=60/\jl bD t.kids (d+1) (n+1)=jl bD (t.kids.drop x.1) (d+1) x.2) (λx=>t.width-x.1) (0,n+1)
    ⟨zs,by simp;omega,Hm,rfl⟩ (xP ⟨rfl,rfl,rfl,rfl,rfl,trivial⟩) ?_
   clear h1 h2;rintro⟨k,m⟩ ⟨hk,Mx,KA,hF⟩;refine sRS (λh4=>?_) λh4=>?_
   ·have au:k<t.width:=(by simpa [Tree.width] using h4);rw[XD _ au] at hF;refine sL (gd au) ?_;refine .inl ⟨by unfold dW;rw[fU];omega,?_⟩;refine sW ?_;refine sA (qL (ih k au (d+1) m (hs.aD au) zo zo Mx KA) (by simp[ao,dT,Pure]) (by simp[ao]) (by simp[ao,Pure]) (by simp[ao,Pure]) (by simp[Pure]) (id:=0) rfl) ?_;refine sS (λh5=>?_) λh5=>?_
    ·rw[e,hF,aa<|by simpa using h5];exact⟨rfl,rfl,zs⟩
    have EC:(fv bD (t.aD k) (d+1) m).1=0:=(by simpa using h5);rw[ae EC] at hF;have b1:=(Mb bD (t.aD k) (d+1) m).1;have b2:=Ge bD (t.aD k) (d+1) m EC;refine .inl ⟨by unfold dW;rw[fU];unfold Tree.width at *;omega,?_⟩;refine sW ?_
    refine⟨(k+1,(fv bD (t.aD k) (d+1) m).2),⟨by dsimp only at *;omega,by dsimp only at *;omega,b2,hF⟩,by dsimp only at *;omega,br 2 zs rfl ⟨.refl _,by simp[az],.refl _,by simp[az],.refl _,by simp only[az];exact bP _<|nH t,.refl _,by simp[az],.refl _,by simp[az],trivial⟩
     ⟨⟨rfl,.refl _,by simp[aK,az]⟩,⟨rfl,.refl _,cu _<|iv t⟩,trivial⟩⟩
   have au:k=t.width:=by have:¬k<t.width:=by simpa [Tree.width] using h4
                         dsimp only at hk;omega
   rw[e,hF,au,Tf];exact⟨rfl,rfl,zs⟩
variable(t:Tree)
theorem uK(hs:Small t):ar aj 23 [bn t]<|ab<|aV bD t:=by
 refine bV ?_;refine sA (qL (zr5 t 1 0 hs zo zo zo zo) (by simp[ao,dT,Pure]) (by simp[ao]) (by simp[ao,Pure]) (by simp[ao,Pure]) (by simp[Pure]) (H:=[.row true<|bx t,.row true [ab 0]]) (id:=1) rfl) ?_;exact .refl _
theorem zwp:ar aj 233 [ab k]<|ab<|fX k:=by
 refine bV ?_;repeat' (first|refine sS (λh=>?_) λh=>?_|exact bL<|by simp_all [fX])
theorem zr0:∀(t:Tree) (d n:Int),Small t->0<=d->d<=21->0<=n->n<=60->cd aj 178 ([bn t,ab d]++.loc 0 0::[]) [.row true [ab n]] (.sc (.int .i64 (fv fX t d n).1)) [.row true [.sc (.int .i64 (fv fX t d n).2)]]:=by
 intro t
 induction t using Tree.ind with
 |h t ih =>
  intro d n hs hd HE hn jx;have gT:=hs.width;refine gm fZ zs zs ?_ (by simp[az]) (by simp[an.under,aK,az]);refine sR ?_;refine .inl ⟨by unfold dW;rw[fU];omega,?_⟩;refine sW ?_;have e:=P3 fX t d n;refine sS (λh1=>?_) λh1=>?_
  ·simp at h1;rw[e,ae h1];exact⟨rfl,rfl,zs⟩
  rw[aa<|by simpa using h1] at e;refine sS (λh2=>?_) λh2=>?_
  ·simp at h2;rw[e,ae h2];exact⟨rfl,rfl,zs⟩
  rw[aa<|by simpa using h2] at e;refine sC (zwp t.kind) ?_;have odd:fE fX t->fv fX t d n=(1,n+1):=λh=>by rw[e,ae h]
  have bad:fE fX t->(ab 1=.sc (.int .i64 (fv fX t d n).1)/\List.take [an.row true [D.sc<|Value.int IntKind.i64 (fv fX t d n).2]].length [an.row true [ab<|n+1],an.row true<|bx t]=[an.row true [D.sc<|Value.int IntKind.i64 (fv fX t d n).2]]/\[an.row true [D.sc<|Value.int IntKind.i64 (fv fX t d n).2]].length<=2):=λh=>by
   rw[odd h];exact⟨rfl,rfl,zs⟩
  repeat' (first
   |refine sS (λh=>?_) λh=>?_
   |exact bad (by unfold fE Tree.width;simp_all;try omega))
  all_goals
   have cJ:¬fE fX t:=by unfold fE Tree.width;simp_all;try omega
   rw[aa cJ] at e;have Hm:n+1<=60:=(by simp at h1;omega);have HP:d<=20:=by simp at h2;omega
   refine Ci (λx:Nat×Int=>[(1,ab d),(2,.loc 0 0),(48,.a8 3<|t.kids.map fT),(49,.sc (.int .i64 (t.kids.map fT).length)),(50,ab x.1)])
    (λx=>[.row true [ab x.2],.row true<|bx t]) (λx=>x.1<=t.width/\0<=x.2/\x.2<=60/\jl fX t.kids (d+1) (n+1)=jl fX (t.kids.drop x.1) (d+1) x.2) (λx=>t.width-x.1) (0,n+1)
    ⟨zs,by simp;omega,Hm,rfl⟩ (xP ⟨rfl,rfl,rfl,rfl,rfl,trivial⟩) ?_
   clear h1 h2;rintro⟨k,m⟩ ⟨hk,Mx,KA,hF⟩;refine sRS (λh4=>?_) λh4=>?_
   ·have au:k<t.width:=(by simpa [Tree.width] using h4);rw[XD _ au] at hF;refine sL (gd au) ?_;refine .inl ⟨by unfold dW;rw[fU];omega,?_⟩;refine sW ?_;refine sA (qL (ih k au (d+1) m (hs.aD au) zo zo Mx KA) (by simp[ao,dT,Pure]) (by simp[ao]) (by simp[ao,Pure]) (by simp[ao,Pure]) (by simp[Pure]) (id:=0) rfl) ?_;refine sS (λh5=>?_) λh5=>?_
    ·rw[e,hF,aa<|by simpa using h5];exact⟨rfl,rfl,zs⟩
    have EC:(fv fX (t.aD k) (d+1) m).1=0:=(by simpa using h5);rw[ae EC] at hF;have b1:=(Mb fX (t.aD k) (d+1) m).1;have b2:=Ge fX (t.aD k) (d+1) m EC;refine .inl ⟨by unfold dW;rw[fU];unfold Tree.width at *;omega,?_⟩;refine sW ?_
    refine⟨(k+1,(fv fX (t.aD k) (d+1) m).2),⟨by dsimp only at *;omega,by dsimp only at *;omega,b2,hF⟩,by dsimp only at *;omega,br 2 zs rfl ⟨.refl _,by simp[az],.refl _,by simp[az],.refl _,by simp only[az];exact bP _<|nH t,.refl _,by simp[az],.refl _,by simp[az],trivial⟩
     ⟨⟨rfl,.refl _,by simp[aK,az]⟩,⟨rfl,.refl _,cu _<|iv t⟩,trivial⟩⟩
   have au:k=t.width:=by have:¬k<t.width:=by simpa [Tree.width] using h4
                         dsimp only at hk;omega
   rw[e,hF,au,Tf];exact⟨rfl,rfl,zs⟩
theorem Sa(hs:Small t):ar aj 97 [bn t]<|ab<|aV fX t:=by
 refine bV ?_;refine sA (qL (zr0 t 1 0 hs zo zo zo zo) (by simp[ao,dT,Pure]) (by simp[ao]) (by simp[ao,Pure]) (by simp[ao,Pure]) (by simp[Pure]) (H:=[.row true<|bx t,.row true [ab 0]]) (id:=1) rfl) ?_;exact .refl _
def zBM:PC:=SO [Bi 15 .lss 14 13] (.seq (CX 15 0) (.seq (.block 1<|SO [Ia 16 3 12 14,LA 17 3 16,q 5 (.alloc [v0,v0,vN]),So 3 5 17] (.ops [Fa 18 2 3,Ld 19 18 1,LA 20 3 5,Cd 21 188 [20] 4,qd 22 (.pX 3 1 [21]) 12,qd 23 (.append 3 40 19 22) 31,Fd 24 2 3 63,qk (.store 1 24 23) 127] true))<|OP [Bi 25 .add 14 K1,qm 14 25]))
def c188:PC:=SO [Bx 1 0,q 2 (.alloc [v0,v0,vN])]<|SO [Fa 6 0 1,Lo 7 6,Fa 8 1 1,Lo 9 8,q 10 (.build [v0,v0,vN] [(0,1,7),(1,1,9)]),q 3 (.alloc [v0,v0,vN]),So 3 3 10] (.seq (SO [Fa 11 2 1,Lo 12 11,Ln 13 12,Mv 14 K0]<|BL 0 zBM) (.seq (.seq (.stop<|OP [Fa 26 0 1,Lo 27 26]) (.block 2<|SO [Bi 29 .eql 27<|cI 10,qm 28 29] (.cond 28 (.seq (.ops [Ca 30 236 [K1],Fa 31 2 3,Ld 32 31 2,Ja 33 3 32 K0 6,qd 34 (.r8 3 33) 14,Cd 35 235 [K8,30,34] 31,qk (.store 3 2 35) 63] true) .ret)<|SO [Bi 37 .eql 27<|cI 11,qm 36 37]<|If 36 (.seq (.ops [Ca 38 236 [K2],Fa 39 2 3,Ld 40 39 2,Ja 41 3 40 K0 6,qd 42 (.r8 3 41) 14,Cd 43 235 [K9,38,42] 31,qk (.store 3 2 43) 63] true) .ret))))<|SO [LA 44 3 3,So 3 2 44] .ret))
mutual
def da:Tree->Tree
 | .node k n ks=>if k=10 then bE 8 (bd 1 0)<|SX ks else if k=11 then bE 9 (bd 2 0)<|SX ks else .node k n<|Dy ks
def SX:List Tree->Tree
 |[]=>default
 |t::_=>da t
def Dy:List Tree->List Tree
 |[]=>[]
 |t::r=>da t::Dy r
end
theorem QS:∀l,Dy l=l.map da
 |[]=>by simp only[Dy,gP]
 |t::r=>by simp only[Dy,dR,QS r]
theorem Gc(hw:t.kind=10\/t.kind=11->0<t.width):da t=if t.kind=10 then bE 8 (bd 1 0)<|da<|t.aD 0 else if t.kind=11 then bE 9 (bd 2 0)<|da<|t.aD 0 else .node t.kind t.num<|t.kids.map da:=by
 cases t with
 |node k n ks =>
  rw[da,QS];rw[show(Tree.node k n ks).kind=k from rfl] at hw⊢;by_cases h:k=10
  ·rw[ae h,ae h]
   cases ks with
   |nil=>exact absurd (hw (.inl h))<|by simp[Tree.width,Tree.kids]
   |cons a r=>rfl
  rw[aa h,aa h];by_cases h':k=11
  ·rw[ae h',ae h']
   cases ks with
   |nil=>exact absurd (hw (.inr h'))<|by simp[Tree.width,Tree.kids]
   |cons a r=>rfl
  rw[aa h',aa h'];rfl
variable{k n:Int}{ks:List Tree}
theorem IG(h:¬fE bD (.node k n ks))(hk:∀u∈ks,u.wf bD):(Tree.node k n ks).wf bD:=(gK _ _).2 ⟨h,hk⟩
variable{t:Tree}
theorem Zz{f:Tree->Tree}(hw:t.wf bD)(hk:bD k=bD t.kind)(h3:k≠3->n=0)(hn:0<=n/\n<=63)(hf:∀j,j<t.width->(f<|t.aD j).wf bD):(Tree.node k n<|t.kids.map f).wf bD:=by
 have h0:=((gK _ _).1 hw).1;refine IG ?_ λu hu=>?_
 ·unfold fE at *;have e1:(Tree.node k n<|t.kids.map f).kind=k:=rfl;have e2:(Tree.node k n<|t.kids.map f).num=n:=rfl;have e3:(Tree.node k n<|t.kids.map f).width=t.width:=(by simp[Tree.width,Tree.kids]);rw[e1,e2,e3,hk];omega
 obtain⟨v,hv,rfl⟩:=cU.1 hu;obtain⟨i,hi,rfl⟩:=kn.1 hv;have:=hf i hi;rwa [Tree.nP hi] at this
theorem MG(hw:t.wf bD):0<=t.num/\t.num<=63/\(t.kind≠3->t.num=0):=by
 have h0:=((gK _ _).1 hw).1;unfold fE at h0;omega
theorem XF(h:k=1\/k=2\/k=3)(hn:0<=n/\n<=63)(h3:k≠3->n=0):(bd k n).wf bD:=IG (by
 unfold fE;have e1:(Tree.node k n []).kind=k:=rfl;have e2:(Tree.node k n []).num=n:=rfl;have e3:(Tree.node k n []).width=0:=rfl;rw[e1,e2,e3];rcases h with rfl|rfl|rfl<;>simp[bD]<;>omega) zs
variable{a:Tree}
theorem Sw(h:k=4\/k=7\/k=10\/k=11)(ha:a.wf bD):(aW k a).wf bD:=IG (by
 unfold fE;have e1:(Tree.node k 0 [a]).kind=k:=rfl;have e2:(Tree.node k 0 [a]).num=0:=rfl;have e3:(Tree.node k 0 [a]).width=1:=rfl;rw[e1,e2,e3];rcases h with rfl|rfl|rfl|rfl<;>simp[bD]) (by simpa using ha)
theorem Sb{b:Tree}(h:k=5\/k=6\/k=8\/k=9)(ha:a.wf bD)(hb:b.wf bD):(bE k a b).wf bD:=IG (by
 unfold fE;have e1:(Tree.node k 0 [a,b]).kind=k:=rfl;have e2:(Tree.node k 0 [a,b]).num=0:=rfl;have e3:(Tree.node k 0 [a,b]).width=2:=rfl;rw[e1,e2,e3];rcases h with rfl|rfl|rfl|rfl<;>simp[bD]) (by simpa using ⟨ha,hb⟩)
theorem r7(hw:t.wf bD)(h:t.kind=4\/t.kind=7\/t.kind=10\/t.kind=11):0<t.width:=by
 have:=qN ((gK _ _).1 hw).1;omega
theorem zxA:∀(t:Tree),t.wf bD->(da t).wf bD:=by
 intro t
 induction t using Tree.ind with
 |h t ih =>
  intro hw;have hn:=MG hw;rw[Gc t λh=>r7 hw zo];by_cases gD:t.kind=10
  ·rw[ae gD];have h0:=r7 hw zo;exact Sb zo (XF zo zo zo)<|ih 0 h0<|gy hw h0
  rw[aa gD];by_cases j6:t.kind=11
  ·rw[ae j6];have h0:=r7 hw zo;exact Sb zo (XF zo zo zo)<|ih 0 h0<|gy hw h0
  rw[aa j6];exact Zz hw rfl zo zo λj hj=>ih j hj<|gy hw hj
theorem zoV:∀t:Tree,t.wf bD->ar aj 188 [bn t] (bn<|da t):=by
 intro t
 induction t using Tree.ind with
 |h t ih =>
  intro df;have hs:=wu t df;have gT:=hs.width;have rV:=qN ((gK _ _).1 df).1;refine bz (fJ 45 [.agg 2 3] c188 Tryz.func188) ?_;have hE:=Gc t λh=>r7 df zo;refine sR ?_
  refine Ci (λk:Nat=>[(1,.loc 0 0),(2,.loc 1 0),(3,.loc 2 0),(12,.a8 3<|t.kids.map fT),(13,.sc (.int .i64 (t.kids.map fT).length)),(14,ab k)])
   (λk=>[.row true<|bx t,.row true [ab 0,ab 0,bC],.row true [ab t.kind,ab t.num,.own 3 k 0 k],.vec true k 3<|(t.kids.take k).map λu=>bx<|da u])
   (λk=>k<=t.width) (λk=>t.width-k) 0 zo (oK (jN 2 2 3 zs rfl rfl)<|xP ⟨rfl,rfl,rfl,rfl,rfl,rfl,trivial⟩) ?_
  rintro k hk;refine sRS (λh1=>?_) λh1=>?_
  ·have au:k<t.width:=(by simpa [Tree.width] using h1);refine sL (gd au) ?_;refine sC (ih k au<|gy df au) ?_;refine⟨by unfold mu;simp only[ft,Ey,zC,cj,dE];omega,?_⟩;refine sW ?_;refine .inl ⟨by unfold dW;rw[fU];unfold Tree.width at *;omega,?_⟩;refine sW ?_
   refine⟨k+1,zo,zd,br 4 zs rfl ⟨.refl _,by simp[az],.refl _,by simp[az],.refl _,by simp[az],.refl _,by simp only[az];exact bP _<|nH t,.refl _,by simp[az],.refl _,by simp[az],trivial⟩
    ⟨⟨rfl,.refl _,cu _<|iv t⟩,⟨rfl,.refl _,by simp[aK,az]⟩,⟨rfl,.refl _,by simp[aK,az]⟩,⟨rfl,rfl,rfl,bM<|Vz _<|kid_get? au,bP _<|cO _ (λu=>iv _) _⟩,trivial⟩⟩
  have au:k=t.width:=by have:¬k<t.width:=by simpa [Tree.width] using h1
                        omega
  subst au
  refine dk (vl (lF 3) (env':=[(1,.loc 0 0),(2,.loc 1 0),(3,.loc 2 0)]) (H':=[.row true<|bx t,.row true [ab 0,ab 0,bC],.row true [ab t.kind,ab t.num,.a8 3<|(t.kids.map da).map fT],.vec false t.width 3<|(t.kids.take t.width).map λu=>bx<|da u])
   ⟨.refl _,.refl _,.refl _,trivial⟩ ⟨⟨.inl rfl,(λh=>by cases h),.refl _⟩,⟨.inl rfl,(λh=>by cases h),.refl _⟩,⟨.inl rfl,(λh=>by cases h),.cons _ _ _ _ (.refl _) (.cons _ _ _ _ (.refl _) (.cons _ _ _ _ (.own 3 _ _ _ _ _ _ _ rfl rfl (bM<|by rw[ft,fF<|by simp[Tree.width],Tree.width,gz,List.map_map];exact uy λu _=>(vw _).symm)) (.refl _)))⟩,⟨.inr ⟨rfl,rfl⟩,λ_=>rfl,rfl,rfl,.refl _⟩,trivial⟩) ?_
  have k0:0<t.width->((t.kids.map da).map fT)[0]? = some (bx<|da<|t.aD 0):=λh=>by
   rw[cy,cy,kid_get? h];simp[vw]
  refine sRS (λgD=>?_) λgD=>?_
  ·have gD:t.kind=10:=(by simpa using gD);rw[ae gD] at hE;refine sC (Tm 1) ?_;refine sL (k0<|r7 df zo) ?_;refine sC (Rg 8 (bd 1 0)<|da<|t.aD 0) ?_;exact qI hE (.refl _)
  have gD:¬t.kind=10:=(by simpa using gD);rw[aa gD] at hE;refine sS (λj6=>?_) λj6=>?_
  ·have j6:t.kind=11:=(by simpa using j6);rw[ae j6] at hE;refine sC (Tm 2) ?_;refine sL (k0<|r7 df zo) ?_;refine sC (Rg 9 (bd 2 0)<|da<|t.aD 0) ?_;exact qI hE (.refl _)
  have j6:¬t.kind=11:=(by simpa using j6);rw[aa j6] at hE;exact qI hE (.refl _)
variable(t:Tree)
theorem zt6(hs:Small t):ar aj 187 [bn t]<|if aV bD t=0 then .aJ [bn t,ab 0] else .aJ [bn<|bd 0 0,ab<|aV bD t]:=by
 refine fi fZ zs (by simp[ao,dT]) ?_ (by split<;>simp[Pure,ao,dT]);refine sR ?_;refine sC (uK t hs) ?_;refine sS (λh=>?_) λh=>?_
 ·have h':aV bD t≠0:=(by simpa using h);rw[aa h'];exact sP
 have h':aV bD t=0:=by simpa using h
 rw[ae h'];exact sP
noncomputable def m7(t u:Tree):Tree×Int:=if aV bD t=0 then if aV bD u=0 then (u,0) else (bd 0 0,aV bD u) else (bd 0 0,aV bD t)
theorem zpT(hs:Small t):ar aj 113 [bn t] (.aJ [bn (m7 t<|da t).1,.sc (.int .i64 (m7 t<|da t).2)]):=by
 refine bV ?_;refine sC (uK t hs) ?_;refine sS (λh=>?_) λh=>?_
 ·have h':aV bD t≠0:=(by simpa using h);rw[show m7 t (da t)=(bd 0 0,aV bD t) by rw[m7,aa h']];exact sP
 have h':aV bD t=0:=by simpa using h
 have df:=((qo _ _).1 h').2.2;refine sC (zoV t df) ?_;have hT:=zt6 (da t)<|wu _<|zxA t df;by_cases h2:aV bD (da t)=0
 ·rw[ae h2] at hT;rw[show m7 t (da t)=(da t,0) by rw[m7,ae h',ae h2]];refine sC hT ?_;exact sP
 rw[aa h2] at hT;rw[show m7 t (da t)=(bd 0 0,aV bD<|da t) by rw[m7,ae h',aa h2]];refine sC hT ?_;exact sP
mutual
def dQ:Tree->af
 | .node k n ks=>(if k=3 then [n] else [])++cG ks
def cG:List Tree->af
 |[]=>[]
 |t::r=>dQ t++cG r
end
mutual
def partsOf:Tree->List Tree
 | .node k n ks=>(if k=7\/k=8\/k=9 then [.node k n ks] else [])++cA ks
def cA:List Tree->List Tree
 |[]=>[]
 |t::r=>partsOf t++cA r
end
theorem Lv:dQ t=(if t.kind=3 then [t.num] else [])++cG t.kids:=by cases t;rw[dQ];rfl
theorem Lx:partsOf t=(if t.kind=7\/t.kind=8\/t.kind=9 then [t] else [])++cA t.kids:=by cases t;rw[partsOf];rfl
theorem B3:∀l,cG l=l.flatMap dQ
 |[]=>rfl
 |t::r=>by rw[cG,B3 r,List.flatMap_cons]
theorem BJ:∀l,cA l=l.flatMap partsOf
 |[]=>rfl
 |t::r=>by rw[cA,BJ r,List.flatMap_cons]
variable{k:Nat}{t:Tree}
theorem Td(h:k<t.width):t.kids.take (k+1)=t.kids.take k++[t.aD k]:=by
 rw[ld,kid_get? h];rfl
theorem tQ(h:k<t.width):cG (t.kids.take<|k+1)=cG (t.kids.take k)++dQ (t.aD k):=by
 rw[Td h,B3,B3,List.flatMap_append];simp
theorem uk(h:k<t.width):cA (t.kids.take<|k+1)=cA (t.kids.take k)++partsOf (t.aD k):=by
 rw[Td h,BJ,BJ,List.flatMap_append];simp
def fN(A:af)(xs:af):af:=xs.foldl (λA x=>if A.contains x=true then A else A++[x]) A
noncomputable def dP(P:List Tree)(xs:List Tree):List Tree:=xs.foldl (λP f=>if P.any (eqT f)=true then P else P++[f]) P
variable(A:af)
theorem pK(A x y:af):fN A (x++y)=fN (fN A x) y:=List.foldl_append
variable(P:List Tree)
theorem nu(P x y:List Tree):dP P (x++y)=dP (dP P x) y:=List.foldl_append
theorem Dt(x:Int):fN A [x]=if A.contains x=true then A else A++[x]:=rfl
theorem xH(x:Tree):dP P [x]=if P.any (eqT x)=true then P else P++[x]:=rfl
variable(xs:af)
theorem su:∀A,(fN A xs).length<=A.length+xs.length:=by
 induction xs with
 |nil=>intro A;simp[fN]
 |cons x r ih =>
  intro A;rw[show x::r=[x]++r from rfl,pK,Dt];split
  ·have:=ih A;simp only[cL,jt];omega
  have:=ih<|A++[x];simp only[cL,jt] at *;omega
theorem tx(xs:List Tree):∀A,(dP A xs).length<=A.length+xs.length:=by
 induction xs with
 |nil=>intro A;simp[dP]
 |cons x r ih =>
  intro A;rw[show x::r=[x]++r from rfl,nu,xH];split
  ·have:=ih A;simp only[cL,jt];omega
  have:=ih<|A++[x];simp only[cL,jt] at *;omega
variable{P:List Tree}
theorem Xo{x:Tree}:P.any (eqT x)↔x∈P:=by
 rw[iR];constructor
 ·rintro⟨y,hy,h⟩;rw[G9] at h;exact h▸hy
 exact λh=>⟨x,h,G9.2 rfl⟩
theorem zwI:∀A,x∈fN A xs↔x∈A\/x∈xs:=by
 induction xs with
 |nil=>intro A;simp[fN]
 |cons y r ih =>
  intro A;rw[show y::r=[y]++r from rfl,pK,Dt,ih];split
  ·rename_i h;rw[nb] at h;simp only[de,cM];constructor
   ·rintro(a|a)<;>simp[a]
   rintro(a|rfl|a)
   ·exact .inl a
   ·exact .inl h
   exact .inr a
  simp only[de,cM];constructor
  ·rintro((a|a)|a)<;>simp[a]
  rintro(a|a|a)<;>simp[a]
theorem Me{x:Tree}(xs:List Tree):∀A,x∈dP A xs↔x∈A\/x∈xs:=by
 induction xs with
 |nil=>intro A;simp[dP]
 |cons y r ih =>
  intro A;rw[show y::r=[y]++r from rfl,nu,xH,ih];split
  ·rename_i h;rw[Xo] at h;simp only[de,cM];constructor
   ·rintro(a|a)<;>simp[a]
   rintro(a|rfl|a)
   ·exact .inl a
   ·exact .inl h
   exact .inr a
  simp only[de,cM];constructor
  ·rintro((a|a)|a)<;>simp[a]
  rintro(a|a|a)<;>simp[a]
theorem zpg:∀A,A.Nodup->(fN A xs).Nodup:=by
 induction xs with
 |nil=>intro A h;exact h
 |cons y r ih =>
  intro A h;rw[show y::r=[y]++r from rfl,pK,Dt];split
  ·exact ih A h
  rename_i q;rw[nb] at q;refine ih _<|zn.2 ⟨h,zs,λa ha b hb=>?_⟩;rw[cM] at hb;subst hb;exact λe=>q<|e▸ha
mutual
theorem VV:∀t:Tree,(dQ t).length<=t.size
 | .node k n ks=>by
  rw[dQ,Tree.size,cL];have:=Pa ks;split<;>simp<;>omega
theorem Pa:∀l:List Tree,(cG l).length<=Tree.ma l
 |[]=>by simp[cG]
 |t::r=>by
  rw[cG,Tree.ma,cL];have:=VV t;have:=Pa r;omega
end
mutual
theorem QJ:∀t:Tree,(partsOf t).length<=t.size
 | .node k n ks=>by
  rw[partsOf,Tree.size,cL];have:=Rn ks;split<;>simp<;>omega
theorem Rn:∀l:List Tree,(cA l).length<=Tree.ma l
 |[]=>by simp[cA]
 |t::r=>by
  rw[cA,Tree.ma,cL];have:=QJ t;have:=Rn r;omega
end
def jO(k:Int):Int:=if k=10\/k=11 then -1 else bD k
theorem vQ:t.wf jO->t.wf bD:=by
 induction t using Tree.ind with
 |h t ih =>
  intro h;rw[gK] at h⊢;refine⟨?_,λu hu=>?_⟩
  ·have h1:=h.1;unfold fE jO at h1;unfold fE;by_cases q:t.kind=10\/t.kind=11
   ·rw[ae q] at h1;omega
   rw[aa q] at h1;exact h1
  obtain⟨j,hj,rfl⟩:=kn.1 hu;rw[<-Tree.nP hj] at *;exact ih j hj<|h.2 _<|by rw[Tree.nP hj];exact ig hj
theorem B6(h:t.wf jO):(t.kind=1\/t.kind=2\/t.kind=3)/\t.width=0\/(t.kind=4\/t.kind=7)/\t.width=1\/(t.kind=5\/t.kind=6\/t.kind=8\/t.kind=9)/\t.width=2:=by
 have h1:=((gK _ _).1 h).1;have h2:=qN ((gK _ _).1<|vQ h).1;have h3:¬(t.kind=10\/t.kind=11):=λq=>by
  unfold fE jO at h1;rw[ae q] at h1;omega
 omega
theorem LW{k:Int}(h:¬fE jO (.node k n ks))(hk:∀u∈ks,u.wf jO):(Tree.node k n ks).wf jO:=(gK _ _).2 ⟨h,hk⟩
theorem KZ:∀(t:Tree),t.wf bD->(da t).wf jO:=by
 intro t
 induction t using Tree.ind with
 |h t ih =>
  intro hw;have hn:=MG hw;have rV:=qN ((gK _ _).1 hw).1;have m2:∀{k c:Int} {b:Tree},k=8\/k=9->c=1\/c=2->b.wf jO->(bE k (bd c 0) b).wf jO:=λ{k c b} hk hc hb=>LW (by
   unfold fE;have e1:(Tree.node k 0 [bd c 0,b]).kind=k:=rfl;have e2:(Tree.node k 0 [bd c 0,b]).num=0:=rfl;have e3:(Tree.node k 0 [bd c 0,b]).width=2:=rfl;rw[e1,e2,e3];rcases hk with rfl|rfl<;>simp[jO,bD]) (by
   intro u hu;rw[dD,cM] at hu;rcases hu with rfl|rfl
   ·refine LW ?_ zs;unfold fE;have e1:(Tree.node c 0 []).kind=c:=rfl;have e2:(Tree.node c 0 []).num=0:=rfl;have e3:(Tree.node c 0 []).width=0:=rfl;rw[e1,e2,e3];rcases hc with rfl|rfl<;>simp[jO,bD]
   exact hb)
  rw[Gc t λh=>r7 hw zo];by_cases gD:t.kind=10
  ·rw[ae gD];have h0:=r7 hw zo;exact m2 zo zo<|ih 0 h0<|gy hw h0
  rw[aa gD];by_cases j6:t.kind=11
  ·rw[ae j6];have h0:=r7 hw zo;exact m2 zo zo<|ih 0 h0<|gy hw h0
  rw[aa j6];refine LW ?_ λu hu=>?_
  ·unfold fE jO;have e1:(Tree.node t.kind t.num<|t.kids.map da).kind=t.kind:=rfl;have e2:(Tree.node t.kind t.num<|t.kids.map da).num=t.num:=rfl;have e3:(Tree.node t.kind t.num<|t.kids.map da).width=t.width:=aS ..;rw[e1,e2,e3,aa zo];exact((gK _ _).1 hw).1
  obtain⟨v,hv,rfl⟩:=cU.1 hu;obtain⟨j,hj,rfl⟩:=kn.1 hv;rw[<-Tree.nP hj];exact ih j hj<|gy hw hj
def oL(k:Int)(c:Bool)(h:List Bool):Bool :=
 if k=1 then true else if k=2 then false else if k=4 then !(h.getD 0 false) else if k=5 then h.getD 0 false&&h.getD 1 false else if k=6 then h.getD 0 false||h.getD 1 false
 else if k=8 then h.getD 1 false||(h.getD 0 false&&c) else if k=9 then h.getD 1 false&&(h.getD 0 false||c) else c
mutual
def dC(c:Tree->Bool):Tree->Bool
 | .node k n ks=>oL k (c (.node k n ks))<|Gm c ks
def Gm(c:Tree->Bool):List Tree->List Bool
 |[]=>[]
 |t::r=>dC c t::Gm c r
end
theorem Vl(c:Tree->Bool):∀l,Gm c l=l.map (dC c)
 |[]=>rfl
 |t::r=>by rw[Gm,Vl c r,dR]
variable(c:Tree->Bool)
theorem vJ(t:Tree):dC c t=oL t.kind (c t) (t.kids.map<|dC c):=by cases t;rw[dC,Vl];rfl
variable{j:Nat}
theorem tM(h:j<t.width):(t.kids.map<|dC c).getD j false=dC c (t.aD j):=by
 rw[ay,cy,kid_get? h];rfl
noncomputable def EU(A:af)(P:List Tree)(g:Tree):Nat:=if g.kind=3 then (ee (λa=>g.num==a) A).toNat else A.length+(ee (eqT g) P).toNat
noncomputable def ff(A:af)(P:List Tree)(s:Nat)(g:Tree):Bool:=s.testBit<|EU A P g
def Told(A:af)(P:List Tree)(t:Tree):Prop:=(∀x∈dQ t,x∈A)/\∀f∈partsOf t,f∈P
variable{l:List Tree}
theorem zpQ(h:t∈l)(hx:x∈dQ t):x∈cG l:=by
 rw[B3];exact D1.2 ⟨t,h,hx⟩
theorem zqu{x:Tree}(h:t∈l)(hx:x∈partsOf t):x∈cA l:=by
 rw[BJ];exact D1.2 ⟨t,h,hx⟩
theorem Be(h:j<t.width):t.aD j∈t.kids:=by rw[Tree.nP h];exact ig h
theorem Told.aD{A:af}{P:List Tree}{t:Tree}(h:Told A P t){j:Nat}(hj:j<t.width):Told A P (t.aD j) :=
 ⟨λx hx=>h.1 x<|by rw[Lv];exact wI _<|zpQ (Be hj) hx,λx hx=>h.2 x<|by rw[Lx];exact wI _<|zqu (Be hj) hx⟩
theorem Told.atom{A:af}(h:Told A P t)(h3:t.kind=3):t.num∈A:=h.1 _<|by rw[Lv,ae h3];simp
theorem Told.part{A:af}(h:Told A P t)(h3:t.kind=7\/t.kind=8\/t.kind=9):t∈P:=h.2 _<|by rw[Lx,ae h3];simp
mutual
theorem VM:∀(t:Tree),∀f∈partsOf t,(∀x∈dQ f,x∈dQ t)/\(∀g∈partsOf f,g∈partsOf t)
 | .node k n ks=>λf hf=>by
  rw[partsOf,de] at hf;rcases hf with hf|hf
  ·split at hf
   ·rw[cM] at hf;subst hf;exact⟨λx h=>h,λx h=>h⟩
   cases hf
  obtain⟨h1,h2⟩:=SY ks f hf;exact⟨λx hx=>by rw[dQ];exact wI _<|h1 x hx,λx hx=>by rw[partsOf];exact wI _<|h2 x hx⟩
theorem SY:∀(l:List Tree),∀f∈cA l,(∀x∈dQ f,x∈cG l)/\(∀g∈partsOf f,g∈cA l)
 |[]=>λf hf=>by cases hf
 |t::r=>λf hf=>by
  rw[cA,de] at hf;rcases hf with hf|hf
  ·obtain⟨h1,h2⟩:=VM t f hf;exact⟨λx hx=>by rw[cG];exact xU _<|h1 x hx,λx hx=>by rw[cA];exact xU _<|h2 x hx⟩
  obtain⟨h1,h2⟩:=SY r f hf;exact⟨λx hx=>by rw[cG];exact wI _<|h1 x hx,λx hx=>by rw[cA];exact wI _<|h2 x hx⟩
end
mutual
theorem QQ(kd:Int->Int):∀(t:Tree),t.wf kd->∀f∈partsOf t,f.wf kd/\(f.kind=7\/f.kind=8\/f.kind=9)
 | .node k n ks=>λhw f hf=>by
  rw[partsOf,de] at hf;rcases hf with hf|hf
  ·split at hf
   ·rename_i h;rw[cM] at hf;subst hf;exact⟨hw,h⟩
   cases hf
  exact XH kd ks (λu hu=>((gK _ _).1 hw).2 u hu) f hf
theorem XH(kd:Int->Int):∀(l:List Tree),(∀u∈l,u.wf kd)->∀f∈cA l,f.wf kd/\(f.kind=7\/f.kind=8\/f.kind=9)
 |[]=>λ_ f hf=>by cases hf
 |t::r=>λhw f hf=>by
  rw[cA,de] at hf;rcases hf with hf|hf
  ·exact QQ kd t (hw t zs) f hf
  exact XH kd r (λu hu=>hw u<|by simp[hu]) f hf
end
mutual
theorem DD:∀(t:Tree),t.wf bD->∀x∈dQ t,0<=x/\x<=63
 | .node k n ks=>λhw x hx=>by
  rw[dQ,de] at hx;rcases hx with hx|hx
  ·split at hx
   ·rw[cM] at hx;subst hx;have:=MG hw;exact⟨this.1,this.2.1⟩
   cases hx
  exact Q4 ks (λu hu=>((gK _ _).1 hw).2 u hu) x hx
theorem Q4:∀(l:List Tree),(∀u∈l,u.wf bD)->∀x∈cG l,0<=x/\x<=63
 |[]=>λ_ f hf=>by cases hf
 |t::r=>λhw f hf=>by
  rw[cG,de] at hf;rcases hf with hf|hf
  ·exact DD t (hw t zs) f hf
  exact Q4 r (λu hu=>hw u<|by simp[hu]) f hf
end
variable(s:Nat)
theorem XB(s k:Nat)(hk:k<=63):(s:Int).fdiv (2^min ((k:Int)).toNat 64)=((s/2^k:Nat):Int):=by
 rw[bS,tJ zo,MI _<|by exact Int.le_of_lt<|Int.pow_pos zc];rw[Int.natCast_ediv];simp
theorem ZH(n:Nat):gF .and .i64 (n:Int) 1=((n%2:Nat):Int):=by
 have e:(BitVec.ofInt 64 (n:Int) &&& BitVec.ofInt 64 1).toNat=n%2:=by
  rw[BitVec.toNat_and];have e1:(BitVec.ofInt 64 (n:Int)).toNat=n%18446744073709551616:=(by rw[BitVec.toNat_ofInt];omega);have e2:(BitVec.ofInt 64 1).toNat=1:=zc;rw[e1,e2,Nat.and_one_is_mod];omega
 show IntKind.i64.wrap ((BitVec.ofInt 64 (n:Int) &&& BitVec.ofInt 64 1).toNat:Int)=_;rw[e,fU];omega
theorem X1(s k:Nat):s.testBit k=(((s/2^k%2:Nat):Int)==1):=by
 rw[Nat.testBit_eq_decide_div_mod_eq,kj,c6,gC];omega
theorem M8(s k:Nat)(hk:k<=63):(gF .and .i64 ((s:Int).fdiv<|2^min ((k:Int)).toNat 64) 1==1)=s.testBit k:=by
 rw[XB s k hk,ZH,X1]
theorem zB7(a i:Nat)(h:a<2^i)(hi:i<=40):gF .or .i64 (a:Int) ((2^i:Nat):Int)=((a+2^i:Nat):Int):=by
 have hp:2^i<=2^40:=Dw zo hi;have h40:(2:Nat)^40=1099511627776:=zc;have e:(BitVec.ofInt 64 (a:Int) ||| BitVec.ofInt 64 ((2^i:Nat):Int)).toNat=a+2^i:=by
  rw[BitVec.toNat_or];have e1:(BitVec.ofInt 64 (a:Int)).toNat=a:=(by rw[BitVec.toNat_ofInt];omega);have e2:(BitVec.ofInt 64 ((2^i:Nat):Int)).toNat=2^i:=by
   generalize 2^i=z at *;rw[BitVec.toNat_ofInt];omega
  have:=Nat.two_pow_add_eq_or_of_lt h 1;rw[AE] at this;rw[e1,e2,Nat.or_comm,<-this,Nat.add_comm]
 show IntKind.i64.wrap ((BitVec.ofInt 64 (a:Int) ||| BitVec.ofInt 64 ((2^i:Nat):Int)).toNat:Int)=_;rw[e,fU];omega
def oN(h:aq):Nat->Nat
 |0=>0
 |i+1=>if h i=true then oN h i+2^i else oN h i
theorem BY(h:aq):∀n,oN h n<2^n
 |0=>by rw[oN];exact Nat.one_pos
 |n+1=>by
  have:=BY h n;rw[oN,Nat.pow_succ];split<;>omega
theorem zR(h:aq):∀n i,i<n->(oN h n).testBit i=h i
 |0,i,hi=>zo
 |n+1,i,hi=>by
  have hl:=BY h n;rw[oN];by_cases e:i=n
  ·subst e;cases q:h i
   ·rw[aa zc];exact Nat.testBit_lt_two_pow hl
   rw[ae rfl,Nat.add_comm];rw[Nat.testBit_two_pow_add_eq,Nat.testBit_lt_two_pow hl];rfl
  have:=zR h n i zo;split
  ·rw[Nat.add_comm,Nat.testBit_two_pow_add_gt zo];exact this
  exact this
def lD(g:Tree):Tree:=if g.kind=7 then g.aD 0 else g
noncomputable def hK(A:af)(P:List Tree)(s i:Nat):Bool:=dC (ff A P s)<|lD<|P.getD i default
noncomputable def qQ(A:af)(P:List Tree)(s:Nat):Nat:=oN (hK A P s) P.length
theorem Sj(P:List Tree)(s t:Nat)(hs:s<2^(A.length+P.length)):(qQ A P t==s/2^A.length)=(List.range P.length).all λi=>hK A P t i==s.testBit (A.length+i):=by
 rw[kj,gC,kv];have hd:s/2^A.length<2^P.length:=by
  rw[Nat.div_lt_iff_lt_mul<|Nat.two_pow_pos _,Nat.mul_comm,<-Nat.pow_add];exact hs
 constructor
 ·intro h i hi;have hi:=eW.1 hi;rw[gC,<-zR (hK A P t) P.length i hi];have:oN (hK A P t) P.length=s/2^A.length:=h;rw[this,Nat.testBit_div_two_pow,Nat.add_comm]
 intro h;apply Nat.eq_of_testBit_eq;intro i;by_cases hi:i<P.length
 ·have:=h i<|eW.2 hi;rw[gC] at this;rw[show(qQ A P t).testBit i=hK A P t i from zR _ _ i hi,this,Nat.testBit_div_two_pow,Nat.add_comm]
 have hle:2^P.length<=2^i:=Dw zo zo;exact(Nat.testBit_lt_two_pow<|vY (BY (hK A P t) P.length) hle).trans (Nat.testBit_lt_two_pow<|vY hd hle).symm
def fY(A:af)(s:Nat)(is:Bool):Nat->Int
 |0=>0
 |i+1=>if (s.testBit i==is)=true then gF .or .u64 (fY A s is i)<|2^(A.getD i 0).toNat else fY A s is i
def jD(p:aq)(k:Nat):af:=((List.range k).filter p).map λi:Nat=>(i:Int)
variable(p:aq)
theorem L6(k:Nat):jD p (k+1)=if p k=true then jD p k++[(k:Int)] else jD p k:=by
 unfold jD;rw[qa,Da,mq];simp only[yF,List.filter_nil];split<;>simp
theorem Ai(k:Nat):(jD p k).length<=k:=by
 unfold jD;rw[aS];exact ia (zr _ _) zs
noncomputable def mr(A:af)(P:List Tree)(g:Tree)(s:Nat):Bool :=
 if g.kind=8 then !(dC (ff A P s) g)||dC (ff A P s) (g.aD 1) else dC (ff A P s) g||!(dC (ff A P s)<|g.aD 1)
noncomputable def xG(A:af)(P:List Tree)(n:Nat)(g:Tree):af:=jD (mr A P g)<|2^n
noncomputable def mO(A:af)(P:List Tree)(n k:Nat):ak:=((P.take k).filter λg=>g.kind != 7).map<|xG A P n
theorem ZG(P:List Tree)(n:Nat)(h:k<P.length):mO A P n (k+1)=if (P.getD k default).kind=7 then mO A P n k else mO A P n k++[xG A P n<|P.getD k default]:=by
 unfold mO;rw[ld,aG h,A3,Da,mq,ay,aG h];simp only[yF,List.filter_nil,pe];by_cases q:P[k].kind=7
 ·simp[q]
 simp[q]
theorem Mw(P:List Tree)(n k:Nat):(mO A P n k).length<=k:=by
 unfold mO;rw[aS];exact ia (zr _ _)<|by simp;omega
noncomputable def tX(A:af)(P:List Tree)(n s:Nat):af:=jD (λt=>qQ A P t==s/2^A.length)<|2^n
noncomputable def iL(A:af)(P:List Tree)(f:Tree):bZ :=
 ⟨jD (λs=>dC (ff A P s) f)<|2^(A.length+P.length),(List.range<|2^(A.length+P.length)).map<|tX A P<|A.length+P.length,
  (List.range<|2^(A.length+P.length)).map λs=>fY A s true A.length,(List.range<|2^(A.length+P.length)).map λs=>fY A s false A.length,mO A P (A.length+P.length) P.length⟩
def nQ(xs:af):af:=jD (λn=>xs.contains (n:Int)) 64
noncomputable def Ho(f:Tree):D :=
 let A:=nQ<|dQ f
 let P:=dP []<|partsOf f
 if 10<A.length+P.length then .aJ [rk ⟨[],[],[],[],[]⟩,ab 2] else .aJ [rk<|iL A P f,ab 0]
theorem MV{xs:af}(h:∀x∈xs,0<=x/\x<=63):x∈nQ xs↔x∈xs:=by
 unfold nQ jD;simp only[cU,nG,eW,nb];constructor
 ·rintro⟨n,⟨_,h2⟩,rfl⟩;exact h2
 intro hx;have:=h x hx;exact⟨x.toNat,⟨zo,by rw[show((x.toNat:Nat):Int)=x by omega];exact hx⟩,zo⟩
variable{f:Tree}
theorem GV(hw:f.wf bD):Told (nQ<|dQ f) (dP []<|partsOf f) f :=
 ⟨λx hx=>(MV<|DD f hw).2 hx,λx hx=>(Me _ _).2 (.inr hx)⟩
variable{g:Tree}
theorem zr6(hw:f.wf bD)(hg:g∈dP [] (partsOf f)):Told (nQ<|dQ f) (dP []<|partsOf f) g:=by
 have hg:g∈partsOf f:=((Me _ _).1 hg).resolve_left zs;obtain⟨h1,h2⟩:=VM f g hg;have h:=GV hw;exact⟨λx hx=>h.1 x<|h1 x hx,λx hx=>h.2 x<|h2 x hx⟩
theorem zsW:∀a b:Tree,Small a->ar aj 239 [bn a,bn b] (aF<|eqT a b):=by
 intro a
 induction a using Tree.ind with
 |h a ih =>
  intro b hs;refine bV ?_;have no:a.kind≠b.kind\/a.num≠b.num\/a.kids.length≠b.kids.length->false=eqT a b:=λh=>Rr (by rintro rfl;simp at h);refine sS (λh1=>?_) λh1=>?_
  ·exact bL<|bK (λx=>aF x)<|no (.inl<|by simpa using h1)
  refine sS (λh2=>?_) λh2=>?_
  ·exact bL<|bK (λx=>aF x)<|no (.inr (.inl<|by simpa using h2))
  refine sS (λh3=>?_) λh3=>?_
  ·exact bL<|bK (λx=>aF x)<|no (.inr (.inr<|by simp at h3;omega))
  simp at h1 h2 h3;have gT:=hs.width
  refine yA (λk:Nat=>[(2,.loc 0 0),(3,.loc 1 0),(29,.sc (.int .i64 (a.kids.map fT).length)),(30,ab k)]) (λ_=>[.row true<|bx a,.row true<|bx b])
   (λk=>k<=a.width/\∀j,j<k->a.aD j=b.aD j) (λk=>a.width-k) 0 ⟨zo,λj h=>zo⟩ (Az ⟨rfl,rfl,rfl,rfl,trivial⟩) ?_
  rintro k ⟨hk,dg⟩;refine sRS (λh4=>?_) λh4=>?_
  ·have au:k<a.width:=(by simpa [Tree.width] using h4);refine sL (gd au) ?_;refine sL (gd (t:=b)<|by unfold Tree.width at *;omega) ?_;refine sC (ih k au (b.aD k)<|hs.aD au) ?_;refine sS (λh5=>?_) λh5=>?_
   ·exact bL<|bK (λx=>aF x)<|Rr<|by rintro rfl;simp[eqT] at h5
   simp[G9] at h5;refine .inl ⟨by unfold dW;rw[fU];unfold Tree.width at *;omega,?_⟩;refine sW ?_;refine⟨k+1,⟨zo,λj hj=>?_⟩,zd,Az ⟨rfl,rfl,rfl,rfl,trivial⟩⟩;by_cases e:j=k
   ·subst e;exact h5
   exact dg j zo
  have au:¬k<a.width:=(by simpa [Tree.width] using h4);exact bL<|bK (λx=>aF x)<|zws<|Tree.zv3 h1 h2 (by unfold Tree.width;omega) λj hj=>dg j zo
theorem zpC:Small<|bd 0 0:=.mk _ (by simp[bd,Tree.width,Tree.kids]) λj hj=>by simp[bd,Tree.width,Tree.kids] at hj
theorem zr2:Deep H (.agg [ab 0,ab 0,bC])<|bn<|bd 0 0:=by exact sP
variable{n:Nat}
theorem EY{l:fp}(h:l.length<=n):lE H (List.drop 0<|List.take n l) l:=by rw[dt h];exact fW _
def gi(P:List Tree):fp:=P.map bx
variable(P:List Tree)
@[simp] theorem Fb:(gi P).length=P.length:=aS ..
@[simp] theorem rQ:dX<|gi P:=cO _ (λt=>iv t) _
@[simp] theorem zx8:bN m (gi P)↔True:=⟨λ_=>trivial,λ_=>bP _<|rQ P⟩
theorem U6{P:List Tree}(hz:z=k)(h:k<P.length):(gi P)[z]? = some (bx<|P.getD k default):=by
 subst hz;unfold gi;rw[cy,aG h,ay,aG h];rfl
theorem Kf(z:aZ):(List.drop 0 (List.take P.length<|gi P)++List.drop 0 (List.take 1 [z]))[0+((P.length-0:Nat):Int).toNat]? = some z:=by
 rw[dt zs,fc zs];simp
theorem MK(t:Tree)(z:aZ):(List.drop 0 (List.take P.length<|gi P)++List.drop 0 (List.take 1 [z])).set (0+((P.length-0:Nat):Int).toNat) [ab t.kind,ab t.num,.a8 3<|t.kids.map fT]=gi (P++[t]):=by
 rw[dt zs,List.set_append_right _ _ zs];simp[gi,bx]
def kR(A:af)(P:List Tree):D:=.aN [aL A,.a8 3<|gi P]
@[simp] theorem zsI(P:List Tree):Pure<|kR A P:=by simp[kR,Pure,ao,c9,rQ]
def cZ(A:af)(P:List Tree):aB:=[.row true [.own 1 A.length 0 A.length,.own 2 P.length 0 P.length],.vec true A.length 1<|aE A,.vec true P.length 3<|gi P]
variable{P:List Tree}
theorem uM{A:af}(hm:3<=m):∀o∈cZ A P,o.under m:=by
 intro o ho;simp only[cZ,dD,tt,or_false] at ho;rcases ho with rfl|rfl|rfl<;>simp[an.under,aK,az]<;>omega
theorem tV{A:af}(hm:3<=m):kl m<|cZ A P:=by
 have:=uM (A:=A) (P:=P) hm;unfold cZ at *;exact⟨this _ zs,this _ zs,this _ zs,trivial⟩
theorem zp8(l:List Tree)(hl:l.length<=9223372036854775807)(p:Tree->Bool)(cl:FuncId)(cap:aZ)(hp:ao cap)(hc:∀a∈l,ar aj cl (bn a::cap)<|aF<|p a) :
  ar aj 237 [.a8 3<|gi l,.fn (.func cl) [] cap] (ab<|ee p l):=by
 refine fi fZ zs (by simp[ao,Pure,hp,rQ]) ?_ (by simp[Pure]);refine sR ?_;rw[Fb];have fin:∀{z:Int},z=ee p l->Deep [] (ab z) (ab<|ee p l):=λh=>h▸.refl _;refine bT [0,1,7] (λk:Nat=>[(8,ab k)]) (λ_=>[]) (λk=>k<=l.length/\∀j (hj:j<k) (hl:j<l.length),p l[j]=false) (λk=>l.length-k) 0 ?_;refine sW ?_;refine⟨⟨zo,λj hj=>zo⟩,by exact sK,rfl,?_⟩;rintro k ⟨hk,cJ⟩;refine bl (λh=>?_) λh=>?_
 ·have au:k<l.length:=sO;refine⟨zo,bx l[k],by unfold gi;rw[cy,bS,aG au];rfl,?_⟩;refine sW ?_;refine sC (hc _<|ig au) ?_;refine sS (λh2=>?_) λh2=>?_
  ·exact fin (CC au h2 λj hj=>cJ j hj zo).symm
  refine sI ?_;refine⟨k+1,⟨zo,λj hj hl=>?_⟩,zd,bf (by exact sK) rfl⟩;by_cases e:j=k
  ·subst e;exact h2
  exact cJ j zo hl
 have au:¬k<l.length:=sO;exact fin (BP λj hj=>cJ j zo hj).symm
theorem zu3(f:Tree)(hf:Small f)(g:Tree):ar aj 238 [bn g,.aN<|bx f]<|aF<|eqT f g:=by
 refine bV ?_;refine sC (zsW f g hf) ?_;exact .refl _
theorem IP(P:List Tree)(hP:P.length<=1000000)(f:Tree)(hf:Small f):ar aj 189 [kR A P,bn f]<|ab<|ee (eqT f) P:=by
 refine bz fZ ?_;unfold kR;refine sR ?_;refine sN (zp8 P zo (eqT f) 238 [.aN<|bx f] (by simp[ao,Pure,iv]) λa _=>zu3 f hf a) ?_;exact .refl _
theorem vH(h:k<t.width):(cG<|t.kids.take k).length+(dQ<|t.aD k).length<=(cG t.kids).length:=by
 rw[<-cL,<-tQ h]
 conv=>rhs;rw[<-List.take_append_drop (k+1) t.kids,B3,List.flatMap_append,<-B3]
 simp
theorem vz(h:k<t.width):(cA<|t.kids.take k).length+(partsOf<|t.aD k).length<=(cA t.kids).length:=by
 rw[<-cL,<-uk h]
 conv=>rhs;rw[<-List.take_append_drop (k+1) t.kids,BJ,List.flatMap_append,<-BJ]
 simp
def zDh(t:Tree):Prop:=∀(A:af) (P:List Tree),A.length+(dQ t).length<=1000->P.length+(partsOf t).length<=1000 ->
  cd aj 114 [.loc 0 0,bn t] (cZ A P) (.aJ []) (cZ (fN A<|dQ t)<|dP P<|partsOf t)
theorem zsY:∀t:Tree,t.wf bD->zDh t:=by
 intro t
 induction t using Tree.ind with
 |h t ih =>
  intro df A P hA hP;have hs:=wu t df;have gT:=hs.width;have rV:=qN ((gK _ _).1 df).1;refine vp fZ zs (by simp[cZ]) ?_ trivial;have eA:=Lv t;have eP:=Lx t;have JW:=su (dQ t) A;unfold cZ;refine sRS (λk3=>?_) λk3=>?_
  ·have k3:t.kind=3:=(by simpa using k3);rw[ae k3] at eA;rw[aa zo] at eP;rw[eA,cL,jt] at hA;refine sN (RF A zo t.num) ?_;cases r:A.contains t.num
   ·have ET:fN A [t.num]=A++[t.num]:=(by rw[Dt,aa<|by rw[r];decide]);refine sWJ ?_;refine dk (br 5 (env':=[(0,.loc 0 0),(49,.a8 3<|t.kids.map fT),(50,.sc (.int .i64 (t.kids.map fT).length)),(51,ab 0)]) (H':=[.row true [.own 1 (A.length+1) 0<|A.length+1,.own 2 P.length 0 P.length],.vec true (A.length+1) 1<|aE<|A++[t.num],.vec true P.length 3<|gi P,.row true<|bx t,.vec true 0 1 [[ab t.num]]]) zs rfl ?_ ?_) ?_
    ·(repeat' (first|exact trivial|exact rfl|exact bR.refl _|exact ck.refl _|exact cg.refl _|refine And.intro ?_ ?_|(simp[az,aK,bN,-List.map_take,-List.map_drop];done)))
     all_goals first|exact bP _ (nH t)|skip
    ·(repeat' (first|exact trivial|exact rfl|exact bR.refl _|exact ck.refl _|exact cg.refl _|refine And.intro ?_ ?_|(simp[az,aK,bN,-List.map_take,-List.map_drop];done)))
     all_goals first|exact cu _ (iv _)|exact bM (pT _ _)|skip
    rw[show A.length+1=(A++[t.num]).length by simp,<-ET];have mc:P=dP P []:=rfl;have lA1:(fN A [t.num]).length<=A.length+1:=(by rw[ET];simp);have lP1:P.length<=P.length:=aI _;have lA:A.length+1+(cG t.kids).length<=1000:=zo;have lP:P.length+(cA t.kids).length<=1000:=(by rw[eP,m9] at hP;exact hP);rw[eA,eP,pK,m9];generalize fN A [t.num]=A1 at *;refine fy [0,49,50] (λk:Nat=>[(51,ab k)]) (λk=>cZ (fN A1<|cG<|t.kids.take k) (dP P<|cA<|t.kids.take k)++[.row true<|bx t,.vec true 0 1 [[ab t.num]]]) (λk=>k<=t.width) (λk=>t.width-k) 0 ?_;refine gp ?_;rintro k hk;have lak:=su (cG<|t.kids.take k) A1;have lpk:=tx (cA<|t.kids.take k) P;unfold cZ;refine bl (λq0=>?_) λq0=>?_
    ·have q0:k<t.width:=(by simpa [Tree.width] using q0);refine sL (gd q0) ?_;have eA2:=tQ q0;have eP2:=uk q0;have tA:(cG<|t.kids.take k).length+(dQ<|t.aD k).length<=(cG t.kids).length:=vH q0;have tP:(cA<|t.kids.take k).length+(partsOf<|t.aD k).length<=(cA t.kids).length:=vz q0;have hG:=sl (ih k q0 (gy df q0) (fN A1<|cG<|t.kids.take k) (dP P<|cA<|t.kids.take k) zo zo) [.row true<|bx t,.vec true 0 1 [[ab t.num]],.row true<|bx<|t.aD k] (by simp[cZ]) (by simp[cZ,aK,az,cp _<|dT _])<|tV (by simp[cZ]);rw[<-pK,<-nu,<-eA2,<-eP2] at hG;unfold cZ at hG;refine sA hG ?_;refine sI ?_;refine⟨k+1,zo,zd,?_⟩;dsimp only
     (refine br 5 zs rfl ?_ ?_<;>(repeat' (first|exact trivial|exact rfl|exact bR.refl _|exact ck.refl _|exact cg.refl _|refine And.intro ?_ ?_|(simp[az,aK,bN,-List.map_take,-List.map_drop];done))))
     all_goals first|exact cu _ (iv _)|exact bP _ (nH t)|skip
    have q0:k=t.width:=by have:¬k<t.width:=by simpa [Tree.width] using q0
                          omega
    subst q0;rw[show t.kids.take t.width=t.kids from gz];exact⟨.refl _,nJ _ _<|uM<|aI _⟩
   have ET:fN A [t.num]=A:=(by rw[Dt,ae r]);refine sW ?_;have lA1:A.length<=A.length:=aI _;have lP1:P.length<=P.length:=aI _;have lA:A.length+(cG t.kids).length<=1000:=zo;have lP:P.length+(cA t.kids).length<=1000:=(by rw[eP,m9] at hP;exact hP);rw[eA,eP,pK,m9,ET];refine fy [0,49,50] (λk:Nat=>[(51,ab k)]) (λk=>cZ (fN A<|cG<|t.kids.take k) (dP P<|cA<|t.kids.take k)++[.row true<|bx t]) (λk=>k<=t.width) (λk=>t.width-k) 0 ?_;refine gp ?_;rintro k hk;have lak:=su (cG<|t.kids.take k) A;have lpk:=tx (cA<|t.kids.take k) P;unfold cZ;refine bl (λq0=>?_) λq0=>?_
   ·have q0:k<t.width:=(by simpa [Tree.width] using q0);refine sL (gd q0) ?_;have eA2:=tQ q0;have eP2:=uk q0;have tA:(cG<|t.kids.take k).length+(dQ<|t.aD k).length<=(cG t.kids).length:=vH q0;have tP:(cA<|t.kids.take k).length+(partsOf<|t.aD k).length<=(cA t.kids).length:=vz q0;have hG:=sl (ih k q0 (gy df q0) (fN A<|cG<|t.kids.take k) (dP P<|cA<|t.kids.take k) zo zo) [.row true<|bx t,.row true<|bx<|t.aD k] (by simp[cZ]) (by simp[cZ,aK,az,cp _<|dT _])<|tV (by simp[cZ]);rw[<-pK,<-nu,<-eA2,<-eP2] at hG;unfold cZ at hG;refine sA hG ?_;refine sI ?_;refine⟨k+1,zo,zd,?_⟩;dsimp only
    (refine br 4 zs rfl ?_ ?_<;>(repeat' (first|exact trivial|exact rfl|exact bR.refl _|exact ck.refl _|exact cg.refl _|refine And.intro ?_ ?_|(simp[az,aK,bN,-List.map_take,-List.map_drop];done))))
    all_goals first|exact cu _ (iv _)|exact bP _ (nH t)|skip
   have q0:k=t.width:=by have:¬k<t.width:=by simpa [Tree.width] using q0
                         omega
   subst q0;rw[show t.kids.take t.width=t.kids from gz];exact⟨.refl _,nJ _ _<|uM<|aI _⟩
  have k3:¬t.kind=3:=(by simpa using k3);rw[aa k3,m9] at eA;rw[eA] at hA;have arm:(t.kind=7\/t.kind=8\/t.kind=9)->t.kind=7\/t.kind=8\/t.kind=9:=id;have lA1:A.length<=A.length:=aI _;have lP1:P.length<=P.length:=aI _;refine sS (λk7=>?_) λk7=>?_
  ·have k7:t.kind=7\/t.kind=8\/t.kind=9:=.inl (by simpa using k7);rw[ae k7] at eP;rw[eP,cL,jt] at hP;refine sN (IP A P zo t hs) ?_;have xf:=sm (eqT t) P;cases r:P.any (eqT t)
   ·have bF:(ee (eqT t) P<0):=(by rw[r,wA] at xf;omega);have mc:dP P [t]=P++[t]:=(by rw[xH,aa<|by rw[r];decide]);rw[gb bF];refine sWJ ?_;refine sB ?_;refine⟨_,Kf P _,?_⟩;refine sW ?_;refine dk (br 5 (env':=[(0,.loc 0 0),(49,.a8 3<|t.kids.map fT),(50,.sc (.int .i64 (t.kids.map fT).length)),(51,ab 0)]) (H':=[.row true [.own 1 A.length 0 A.length,.own 2 (P.length+1) 0<|P.length+1],.vec true A.length 1<|aE A,.vec true (P.length+1) 3<|gi<|P++[t],.row true<|bx t,.vec true 0 3 [[ab 0,ab 0,bC]]]) zs rfl ?_ ?_) ?_
    ·(repeat' (first|exact trivial|exact rfl|exact bR.refl _|exact ck.refl _|exact cg.refl _|refine And.intro ?_ ?_|(simp[az,aK,bN,-List.map_take,-List.map_drop];done)))
     all_goals first|exact bP _ (nH t)|skip
    ·(repeat' (first|exact trivial|exact rfl|exact bR.refl _|exact ck.refl _|exact cg.refl _|refine And.intro ?_ ?_|(simp[az,aK,bN,-List.map_take,-List.map_drop];done)))
     all_goals first|exact cu _ (iv _)|exact bM (MK P t _)|skip
    rw[show P.length+1=(P++[t]).length by simp,<-mc];have Vg:(dP P [t]).length<=P.length+1:=(by rw[mc];simp);have lA:A.length+(cG t.kids).length<=1000:=hA;have lP:P.length+1+(cA t.kids).length<=1000:=zo;rw[eA,eP,nu];generalize dP P [t]=P1 at *;refine fy [0,49,50] (λk:Nat=>[(51,ab k)]) (λk=>cZ (fN A<|cG<|t.kids.take k) (dP P1<|cA<|t.kids.take k)++[.row true<|bx t,.vec true 0 3 [[ab 0,ab 0,bC]]]) (λk=>k<=t.width) (λk=>t.width-k) 0 ?_;refine gp ?_;rintro k hk;have lak:=su (cG<|t.kids.take k) A;have lpk:=tx (cA<|t.kids.take k) P1;unfold cZ;refine bl (λq0=>?_) λq0=>?_
    ·have q0:k<t.width:=(by simpa [Tree.width] using q0);refine sL (gd q0) ?_;have eA2:=tQ q0;have eP2:=uk q0;have tA:(cG<|t.kids.take k).length+(dQ<|t.aD k).length<=(cG t.kids).length:=vH q0;have tP:(cA<|t.kids.take k).length+(partsOf<|t.aD k).length<=(cA t.kids).length:=vz q0;have hG:=sl (ih k q0 (gy df q0) (fN A<|cG<|t.kids.take k) (dP P1<|cA<|t.kids.take k) zo zo) [.row true<|bx t,.vec true 0 3 [[ab 0,ab 0,bC]],.row true<|bx<|t.aD k] (by simp[cZ]) (by simp[cZ,aK,az,cp _<|dT _])<|tV (by simp[cZ]);rw[<-pK,<-nu,<-eA2,<-eP2] at hG;unfold cZ at hG;refine sA hG ?_;refine sI ?_;refine⟨k+1,zo,zd,?_⟩;dsimp only
     (refine br 5 zs rfl ?_ ?_<;>(repeat' (first|exact trivial|exact rfl|exact bR.refl _|exact ck.refl _|exact cg.refl _|refine And.intro ?_ ?_|(simp[az,aK,bN,-List.map_take,-List.map_drop];done))))
     all_goals first|exact cu _ (iv _)|exact bP _ (nH t)|skip
    have q0:k=t.width:=by have:¬k<t.width:=by simpa [Tree.width] using q0
                          omega
    subst q0;rw[show t.kids.take t.width=t.kids from gz];exact⟨.refl _,nJ _ _<|uM<|aI _⟩
   have bF:¬(ee (eqT t) P<0):=(by rw[r,c6] at xf;omega);have mc:dP P [t]=P:=(by rw[xH,ae r]);rw[gx bF];refine sW ?_;have lA:A.length+(cG t.kids).length<=1000:=hA;have lP:P.length+(cA t.kids).length<=1000:=zo;rw[eA,eP,nu,mc];refine fy [0,49,50] (λk:Nat=>[(51,ab k)]) (λk=>cZ (fN A<|cG<|t.kids.take k) (dP P<|cA<|t.kids.take k)++[.row true<|bx t]) (λk=>k<=t.width) (λk=>t.width-k) 0 ?_;refine gp ?_;rintro k hk;have lak:=su (cG<|t.kids.take k) A;have lpk:=tx (cA<|t.kids.take k) P;unfold cZ;refine bl (λq0=>?_) λq0=>?_
   ·have q0:k<t.width:=(by simpa [Tree.width] using q0);refine sL (gd q0) ?_;have eA2:=tQ q0;have eP2:=uk q0;have tA:(cG<|t.kids.take k).length+(dQ<|t.aD k).length<=(cG t.kids).length:=vH q0;have tP:(cA<|t.kids.take k).length+(partsOf<|t.aD k).length<=(cA t.kids).length:=vz q0;have hG:=sl (ih k q0 (gy df q0) (fN A<|cG<|t.kids.take k) (dP P<|cA<|t.kids.take k) zo zo) [.row true<|bx t,.row true<|bx<|t.aD k] (by simp[cZ]) (by simp[cZ,aK,az,cp _<|dT _])<|tV (by simp[cZ]);rw[<-pK,<-nu,<-eA2,<-eP2] at hG;unfold cZ at hG;refine sA hG ?_;refine sI ?_;refine⟨k+1,zo,zd,?_⟩;dsimp only
    (refine br 4 zs rfl ?_ ?_<;>(repeat' (first|exact trivial|exact rfl|exact bR.refl _|exact ck.refl _|exact cg.refl _|refine And.intro ?_ ?_|(simp[az,aK,bN,-List.map_take,-List.map_drop];done))))
    all_goals first|exact cu _ (iv _)|exact bP _ (nH t)|skip
   have q0:k=t.width:=by have:¬k<t.width:=by simpa [Tree.width] using q0
                         omega
   subst q0;rw[show t.kids.take t.width=t.kids from gz];exact⟨.refl _,nJ _ _<|uM<|aI _⟩
  refine sS (λk8=>?_) λk8=>?_
  ·have k7:t.kind=7\/t.kind=8\/t.kind=9:=.inr (.inl<|by simpa using k8);rw[ae k7] at eP;rw[eP,cL,jt] at hP;refine sN (IP A P zo t hs) ?_;have xf:=sm (eqT t) P;cases r:P.any (eqT t)
   ·have bF:(ee (eqT t) P<0):=(by rw[r,wA] at xf;omega);have mc:dP P [t]=P++[t]:=(by rw[xH,aa<|by rw[r];decide]);rw[gb bF];refine sWJ ?_;refine sB ?_;refine⟨_,Kf P _,?_⟩;refine sW ?_;refine dk (br 5 (env':=[(0,.loc 0 0),(49,.a8 3<|t.kids.map fT),(50,.sc (.int .i64 (t.kids.map fT).length)),(51,ab 0)]) (H':=[.row true [.own 1 A.length 0 A.length,.own 2 (P.length+1) 0<|P.length+1],.vec true A.length 1<|aE A,.vec true (P.length+1) 3<|gi<|P++[t],.row true<|bx t,.vec true 0 3 [[ab 0,ab 0,bC]]]) zs rfl ?_ ?_) ?_
    ·(repeat' (first|exact trivial|exact rfl|exact bR.refl _|exact ck.refl _|exact cg.refl _|refine And.intro ?_ ?_|(simp[az,aK,bN,-List.map_take,-List.map_drop];done)))
     all_goals first|exact bP _ (nH t)|skip
    ·(repeat' (first|exact trivial|exact rfl|exact bR.refl _|exact ck.refl _|exact cg.refl _|refine And.intro ?_ ?_|(simp[az,aK,bN,-List.map_take,-List.map_drop];done)))
     all_goals first|exact cu _ (iv _)|exact bM (MK P t _)|skip
    rw[show P.length+1=(P++[t]).length by simp,<-mc];have Vg:(dP P [t]).length<=P.length+1:=(by rw[mc];simp);have lA:A.length+(cG t.kids).length<=1000:=hA;have lP:P.length+1+(cA t.kids).length<=1000:=zo;rw[eA,eP,nu];generalize dP P [t]=P1 at *;refine fy [0,49,50] (λk:Nat=>[(51,ab k)]) (λk=>cZ (fN A<|cG<|t.kids.take k) (dP P1<|cA<|t.kids.take k)++[.row true<|bx t,.vec true 0 3 [[ab 0,ab 0,bC]]]) (λk=>k<=t.width) (λk=>t.width-k) 0 ?_;refine gp ?_;rintro k hk;have lak:=su (cG<|t.kids.take k) A;have lpk:=tx (cA<|t.kids.take k) P1;unfold cZ;refine bl (λq0=>?_) λq0=>?_
    ·have q0:k<t.width:=(by simpa [Tree.width] using q0);refine sL (gd q0) ?_;have eA2:=tQ q0;have eP2:=uk q0;have tA:(cG<|t.kids.take k).length+(dQ<|t.aD k).length<=(cG t.kids).length:=vH q0;have tP:(cA<|t.kids.take k).length+(partsOf<|t.aD k).length<=(cA t.kids).length:=vz q0;have hG:=sl (ih k q0 (gy df q0) (fN A<|cG<|t.kids.take k) (dP P1<|cA<|t.kids.take k) zo zo) [.row true<|bx t,.vec true 0 3 [[ab 0,ab 0,bC]],.row true<|bx<|t.aD k] (by simp[cZ]) (by simp[cZ,aK,az,cp _<|dT _])<|tV (by simp[cZ]);rw[<-pK,<-nu,<-eA2,<-eP2] at hG;unfold cZ at hG;refine sA hG ?_;refine sI ?_;refine⟨k+1,zo,zd,?_⟩;dsimp only
     (refine br 5 zs rfl ?_ ?_<;>(repeat' (first|exact trivial|exact rfl|exact bR.refl _|exact ck.refl _|exact cg.refl _|refine And.intro ?_ ?_|(simp[az,aK,bN,-List.map_take,-List.map_drop];done))))
     all_goals first|exact cu _ (iv _)|exact bP _ (nH t)|skip
    have q0:k=t.width:=by have:¬k<t.width:=by simpa [Tree.width] using q0
                          omega
    subst q0;rw[show t.kids.take t.width=t.kids from gz];exact⟨.refl _,nJ _ _<|uM<|aI _⟩
   have bF:¬(ee (eqT t) P<0):=(by rw[r,c6] at xf;omega);have mc:dP P [t]=P:=(by rw[xH,ae r]);rw[gx bF];refine sW ?_;have lA:A.length+(cG t.kids).length<=1000:=hA;have lP:P.length+(cA t.kids).length<=1000:=zo;rw[eA,eP,nu,mc];refine fy [0,49,50] (λk:Nat=>[(51,ab k)]) (λk=>cZ (fN A<|cG<|t.kids.take k) (dP P<|cA<|t.kids.take k)++[.row true<|bx t]) (λk=>k<=t.width) (λk=>t.width-k) 0 ?_;refine gp ?_;rintro k hk;have lak:=su (cG<|t.kids.take k) A;have lpk:=tx (cA<|t.kids.take k) P;unfold cZ;refine bl (λq0=>?_) λq0=>?_
   ·have q0:k<t.width:=(by simpa [Tree.width] using q0);refine sL (gd q0) ?_;have eA2:=tQ q0;have eP2:=uk q0;have tA:(cG<|t.kids.take k).length+(dQ<|t.aD k).length<=(cG t.kids).length:=vH q0;have tP:(cA<|t.kids.take k).length+(partsOf<|t.aD k).length<=(cA t.kids).length:=vz q0;have hG:=sl (ih k q0 (gy df q0) (fN A<|cG<|t.kids.take k) (dP P<|cA<|t.kids.take k) zo zo) [.row true<|bx t,.row true<|bx<|t.aD k] (by simp[cZ]) (by simp[cZ,aK,az,cp _<|dT _])<|tV (by simp[cZ]);rw[<-pK,<-nu,<-eA2,<-eP2] at hG;unfold cZ at hG;refine sA hG ?_;refine sI ?_;refine⟨k+1,zo,zd,?_⟩;dsimp only
    (refine br 4 zs rfl ?_ ?_<;>(repeat' (first|exact trivial|exact rfl|exact bR.refl _|exact ck.refl _|exact cg.refl _|refine And.intro ?_ ?_|(simp[az,aK,bN,-List.map_take,-List.map_drop];done))))
    all_goals first|exact cu _ (iv _)|exact bP _ (nH t)|skip
   have q0:k=t.width:=by have:¬k<t.width:=by simpa [Tree.width] using q0
                         omega
   subst q0;rw[show t.kids.take t.width=t.kids from gz];exact⟨.refl _,nJ _ _<|uM<|aI _⟩
  refine sS (λk9=>?_) λk9=>?_
  ·have k7:t.kind=7\/t.kind=8\/t.kind=9:=.inr (.inr<|by simpa using k9);rw[ae k7] at eP;rw[eP,cL,jt] at hP;refine sN (IP A P zo t hs) ?_;have xf:=sm (eqT t) P;cases r:P.any (eqT t)
   ·have bF:(ee (eqT t) P<0):=(by rw[r,wA] at xf;omega);have mc:dP P [t]=P++[t]:=(by rw[xH,aa<|by rw[r];decide]);rw[gb bF];refine sWJ ?_;refine sB ?_;refine⟨_,Kf P _,?_⟩;refine sW ?_;refine dk (br 5 (env':=[(0,.loc 0 0),(49,.a8 3<|t.kids.map fT),(50,.sc (.int .i64 (t.kids.map fT).length)),(51,ab 0)]) (H':=[.row true [.own 1 A.length 0 A.length,.own 2 (P.length+1) 0<|P.length+1],.vec true A.length 1<|aE A,.vec true (P.length+1) 3<|gi<|P++[t],.row true<|bx t,.vec true 0 3 [[ab 0,ab 0,bC]]]) zs rfl ?_ ?_) ?_
    ·(repeat' (first|exact trivial|exact rfl|exact bR.refl _|exact ck.refl _|exact cg.refl _|refine And.intro ?_ ?_|(simp[az,aK,bN,-List.map_take,-List.map_drop];done)))
     all_goals first|exact bP _ (nH t)|skip
    ·(repeat' (first|exact trivial|exact rfl|exact bR.refl _|exact ck.refl _|exact cg.refl _|refine And.intro ?_ ?_|(simp[az,aK,bN,-List.map_take,-List.map_drop];done)))
     all_goals first|exact cu _ (iv _)|exact bM (MK P t _)|skip
    rw[show P.length+1=(P++[t]).length by simp,<-mc];have Vg:(dP P [t]).length<=P.length+1:=(by rw[mc];simp);have lA:A.length+(cG t.kids).length<=1000:=hA;have lP:P.length+1+(cA t.kids).length<=1000:=zo;rw[eA,eP,nu];generalize dP P [t]=P1 at *;refine fy [0,49,50] (λk:Nat=>[(51,ab k)]) (λk=>cZ (fN A<|cG<|t.kids.take k) (dP P1<|cA<|t.kids.take k)++[.row true<|bx t,.vec true 0 3 [[ab 0,ab 0,bC]]]) (λk=>k<=t.width) (λk=>t.width-k) 0 ?_;refine gp ?_;rintro k hk;have lak:=su (cG<|t.kids.take k) A;have lpk:=tx (cA<|t.kids.take k) P1;unfold cZ;refine bl (λq0=>?_) λq0=>?_
    ·have q0:k<t.width:=(by simpa [Tree.width] using q0);refine sL (gd q0) ?_;have eA2:=tQ q0;have eP2:=uk q0;have tA:(cG<|t.kids.take k).length+(dQ<|t.aD k).length<=(cG t.kids).length:=vH q0;have tP:(cA<|t.kids.take k).length+(partsOf<|t.aD k).length<=(cA t.kids).length:=vz q0;have hG:=sl (ih k q0 (gy df q0) (fN A<|cG<|t.kids.take k) (dP P1<|cA<|t.kids.take k) zo zo) [.row true<|bx t,.vec true 0 3 [[ab 0,ab 0,bC]],.row true<|bx<|t.aD k] (by simp[cZ]) (by simp[cZ,aK,az,cp _<|dT _])<|tV (by simp[cZ]);rw[<-pK,<-nu,<-eA2,<-eP2] at hG;unfold cZ at hG;refine sA hG ?_;refine sI ?_;refine⟨k+1,zo,zd,?_⟩;dsimp only
     (refine br 5 zs rfl ?_ ?_<;>(repeat' (first|exact trivial|exact rfl|exact bR.refl _|exact ck.refl _|exact cg.refl _|refine And.intro ?_ ?_|(simp[az,aK,bN,-List.map_take,-List.map_drop];done))))
     all_goals first|exact cu _ (iv _)|exact bP _ (nH t)|skip
    have q0:k=t.width:=by have:¬k<t.width:=by simpa [Tree.width] using q0
                          omega
    subst q0;rw[show t.kids.take t.width=t.kids from gz];exact⟨.refl _,nJ _ _<|uM<|aI _⟩
   have bF:¬(ee (eqT t) P<0):=(by rw[r,c6] at xf;omega);have mc:dP P [t]=P:=(by rw[xH,ae r]);rw[gx bF];refine sW ?_;have lA:A.length+(cG t.kids).length<=1000:=hA;have lP:P.length+(cA t.kids).length<=1000:=zo;rw[eA,eP,nu,mc];refine fy [0,49,50] (λk:Nat=>[(51,ab k)]) (λk=>cZ (fN A<|cG<|t.kids.take k) (dP P<|cA<|t.kids.take k)++[.row true<|bx t]) (λk=>k<=t.width) (λk=>t.width-k) 0 ?_;refine gp ?_;rintro k hk;have lak:=su (cG<|t.kids.take k) A;have lpk:=tx (cA<|t.kids.take k) P;unfold cZ;refine bl (λq0=>?_) λq0=>?_
   ·have q0:k<t.width:=(by simpa [Tree.width] using q0);refine sL (gd q0) ?_;have eA2:=tQ q0;have eP2:=uk q0;have tA:(cG<|t.kids.take k).length+(dQ<|t.aD k).length<=(cG t.kids).length:=vH q0;have tP:(cA<|t.kids.take k).length+(partsOf<|t.aD k).length<=(cA t.kids).length:=vz q0;have hG:=sl (ih k q0 (gy df q0) (fN A<|cG<|t.kids.take k) (dP P<|cA<|t.kids.take k) zo zo) [.row true<|bx t,.row true<|bx<|t.aD k] (by simp[cZ]) (by simp[cZ,aK,az,cp _<|dT _])<|tV (by simp[cZ]);rw[<-pK,<-nu,<-eA2,<-eP2] at hG;unfold cZ at hG;refine sA hG ?_;refine sI ?_;refine⟨k+1,zo,zd,?_⟩;dsimp only
    (refine br 4 zs rfl ?_ ?_<;>(repeat' (first|exact trivial|exact rfl|exact bR.refl _|exact ck.refl _|exact cg.refl _|refine And.intro ?_ ?_|(simp[az,aK,bN,-List.map_take,-List.map_drop];done))))
    all_goals first|exact cu _ (iv _)|exact bP _ (nH t)|skip
   have q0:k=t.width:=by have:¬k<t.width:=by simpa [Tree.width] using q0
                         omega
   subst q0;rw[show t.kids.take t.width=t.kids from gz];exact⟨.refl _,nJ _ _<|uM<|aI _⟩
  have k7:¬(t.kind=7\/t.kind=8\/t.kind=9):=by
   simp only[beq_eq_false_iff_ne] at k7 k8 k9;omega
  rw[aa k7,m9] at eP;rw[eP] at hP;rw[eA,eP];have lA:A.length+(cG t.kids).length<=1000:=hA;have lP:P.length+(cA t.kids).length<=1000:=hP;refine fy [0,49,50] (λk:Nat=>[(51,ab k)]) (λk=>cZ (fN A<|cG<|t.kids.take k) (dP P<|cA<|t.kids.take k)++[.row true<|bx t]) (λk=>k<=t.width) (λk=>t.width-k) 0 ?_;refine gp ?_;rintro k hk;have lak:=su (cG<|t.kids.take k) A;have lpk:=tx (cA<|t.kids.take k) P;unfold cZ;refine bl (λq0=>?_) λq0=>?_
  ·have q0:k<t.width:=(by simpa [Tree.width] using q0);refine sL (gd q0) ?_;have eA2:=tQ q0;have eP2:=uk q0;have tA:(cG<|t.kids.take k).length+(dQ<|t.aD k).length<=(cG t.kids).length:=vH q0;have tP:(cA<|t.kids.take k).length+(partsOf<|t.aD k).length<=(cA t.kids).length:=vz q0;have hG:=sl (ih k q0 (gy df q0) (fN A<|cG<|t.kids.take k) (dP P<|cA<|t.kids.take k) zo zo) [.row true<|bx t,.row true<|bx<|t.aD k] (by simp[cZ]) (by simp[cZ,aK,az,cp _<|dT _])<|tV (by simp[cZ]);rw[<-pK,<-nu,<-eA2,<-eP2] at hG;unfold cZ at hG;refine sA hG ?_;refine sI ?_;refine⟨k+1,zo,zd,?_⟩;dsimp only
   (refine br 4 zs rfl ?_ ?_<;>(repeat' (first|exact trivial|exact rfl|exact bR.refl _|exact ck.refl _|exact cg.refl _|refine And.intro ?_ ?_|(simp[az,aK,bN,-List.map_take,-List.map_drop];done))))
   all_goals first|exact cu _ (iv _)|exact bP _ (nH t)|skip
  have q0:k=t.width:=by have:¬k<t.width:=by simpa [Tree.width] using q0
                        omega
  subst q0;rw[show t.kids.take t.width=t.kids from gz];exact⟨.refl _,nJ _ _<|uM<|aI _⟩
theorem Rj{A:af}(h:x∈A):∃k:Nat,k<A.length/\ee (λa=>x==a) A=(k:Int):=by
 have h1:0<=ee (λa=>x==a) A:=by
  have:=sm (λa=>x==a) A;rw[show A.any (λa=>x==a)=true from iR.2 ⟨x,h,zs⟩] at this;simpa using this
 obtain⟨k,e,hk,_⟩:=C6 h1;exact⟨k,hk,e⟩
theorem Xd{x:Tree}(h:x∈P):∃k:Nat,k<P.length/\ee (eqT x) P=(k:Int):=by
 have h1:0<=ee (eqT x) P:=by
  have:=sm (eqT x) P;rw[Xo.2 h] at this;simpa using this
 obtain⟨k,e,hk,_⟩:=C6 h1;exact⟨k,hk,e⟩
structure w8(A:af)(P:List Tree):Prop where
 few:A.length+P.length<=10
 atoms:∀x∈A,0<=x/\x<=63
 told:∀g∈P,Told A P g
 wf:∀g∈P,g.wf jO/\(g.kind=7\/g.kind=8\/g.kind=9)
theorem E4(h:n<=10):2^n<=1024:=ia (Dw zo h) zc
theorem NS(n:Nat):(2:Int)^n=((2^n:Nat):Int):=zs
theorem LP(k:Nat)(hk:k<=10):(1:Int)*2^min ((k:Int)).toNat 64=((2^k:Nat):Int):=by
 rw[bS,tJ zo,Int.one_mul,NS]
theorem ztL(P:List Tree)(hI:w8 A P)(f:Tree)(hs:Small f)(hT:Told A P f)(hk:f.kind=3\/f.kind=7\/f.kind=8\/f.kind=9)(s:Nat) :
  ar aj 192 [kR A P,bn f,ab s] (aF<|ff A P s f):=by
 have hf:=hI.few;refine bz fZ ?_;unfold kR;refine sRS (λk3=>?_) λk3=>?_
 ·have k3:f.kind=3:=(by simpa using k3);obtain⟨k,h1,h2⟩:=Rj<|hT.atom k3;have e:ff A P s f=s.testBit k:=(by unfold ff EU;rw[ae k3,h2];rfl);have hi:=WM A zo f.num;rw[h2] at hi;rw[e,<-M8 s k zo];refine sN hi ?_;refine⟨zo,?_⟩;refine sW ?_;exact .refl _
 have k3:¬f.kind=3:=by simpa using k3
 obtain⟨k,h1,h2⟩:=Xd<|hT.part zo;have e:ff A P s f=s.testBit (A.length+k):=by unfold ff EU;rw[aa k3,h2];rfl
 have hi:=IP A P zo f hs;rw[h2] at hi;unfold kR at hi;rw[e,<-M8 s (A.length+k) zo];refine sN hi ?_;rw[aS];refine sI ?_;refine⟨zo,?_⟩;refine sW ?_;exact .refl _
theorem HV(P:List Tree)(hI:w8 A P)(s:Nat):∀f:Tree,f.wf jO->Told A P f ->
  ar aj 117 [kR A P,bn f,ab s] (aF<|dC (ff A P s) f):=by
 intro f
 induction f using Tree.ind with
 |h f ih =>
  intro df hT;have hs:=wu f<|vQ df;have gT:=hs.width;have hK:=B6 df;have hE:=vJ (ff A P s) f;have OO:=λhk=>ztL A P hI f hs hT hk s;refine bz fZ ?_;have fin:∀{H:aB} {b:Bool},b=oL f.kind (ff A P s f) (f.kids.map<|dC<|ff A P s)->Deep H (aF b) (aF<|dC (ff A P s) f):=λh=>by rw[hE,h];exact .refl _
  have ha:∀j,j<f.width->(f.kids.map<|dC<|ff A P s).getD j false=dC (ff A P s) (f.aD j):=λj hj=>tM _ hj;have lp:∀j,(hj:j<f.width)->ar aj 117 [kR A P,bn<|f.aD j,ab s] (aF<|dC (ff A P s)<|f.aD j):=λj hj=>ih j hj (gy df hj)<|hT.aD hj;unfold kR at *;refine sRS (λh1=>?_) λh1=>?_
  ·have h1:f.kind=1:=(by simpa using h1);refine fin ?_;rw[h1];rfl
  refine sS (λh2=>?_) λh2=>?_
  ·have h2:f.kind=2:=(by simpa using h2);refine fin ?_;rw[h2];rfl
  refine sS (λh4=>?_) λh4=>?_
  ·have h4:f.kind=4:=(by simpa using h4);have w0:0<f.width:=zo;have e0:=ha 0 w0;refine⟨zo,_,gd w0,?_⟩;refine sW ?_;refine sC (lp 0 w0) ?_;refine fin ?_;rw[h4,<-e0];rfl
  refine sS (λh5=>?_) λh5=>?_
  ·have h5:f.kind=5:=(by simpa using h5);have w0:0<f.width:=zo;have w1:1<f.width:=zo;have e0:=ha 0 w0;have e1:=ha 1 w1;refine⟨zo,_,gd w0,?_⟩;refine sW ?_;refine sC (lp 0 w0) ?_;rw[h5] at fin;unfold oL at fin;rw[<-e0];refine sS (λq0=>?_) λq0=>?_
   ·refine⟨zo,_,gd w1,?_⟩;refine sW ?_;refine sC (lp 1 w1) ?_;refine fin ?_;(try simp only[<-e1,q0]);simp
   refine fin ?_;(try simp only[q0]);simp
  refine sS (λh6=>?_) λh6=>?_
  ·have h6:f.kind=6:=(by simpa using h6);have w0:0<f.width:=zo;have w1:1<f.width:=zo;have e0:=ha 0 w0;have e1:=ha 1 w1;refine⟨zo,_,gd w0,?_⟩;refine sW ?_;refine sC (lp 0 w0) ?_;rw[h6] at fin;unfold oL at fin;rw[<-e0];refine sS (λq0=>?_) λq0=>?_
   ·refine fin ?_;(try simp only[q0]);simp
   refine⟨zo,_,gd w1,?_⟩;refine sW ?_;refine sC (lp 1 w1) ?_;refine fin ?_;(try simp only[<-e1,q0]);simp
  refine sS (λh8=>?_) λh8=>?_
  ·have h8:f.kind=8:=(by simpa using h8);have w0:0<f.width:=zo;have w1:1<f.width:=zo;have e0:=ha 0 w0;have e1:=ha 1 w1;refine⟨zo,_,gd w1,?_⟩;refine sW ?_;refine sC (lp 1 w1) ?_;rw[h8] at fin;unfold oL at fin;rw[<-e1];refine sS (λq1=>?_) λq1=>?_
   ·refine fin ?_;(try simp only[q1]);simp
   refine⟨zo,_,gd w0,?_⟩;refine sW ?_;refine sC (lp 0 w0) ?_;rw[<-e0];refine sS (λq0=>?_) λq0=>?_
   ·refine sC (OO zo) ?_;refine fin ?_;(try simp only[q0,q1]);simp
   refine fin ?_;(try simp only[q0,q1]);simp
  refine sS (λh9=>?_) λh9=>?_
  ·have h9:f.kind=9:=(by simpa using h9);have w0:0<f.width:=zo;have w1:1<f.width:=zo;have e0:=ha 0 w0;have e1:=ha 1 w1;refine⟨zo,_,gd w1,?_⟩;refine sW ?_;refine sC (lp 1 w1) ?_;rw[h9] at fin;unfold oL at fin;rw[<-e1];refine sS (λq1=>?_) λq1=>?_
   ·refine⟨zo,_,gd w0,?_⟩;refine sW ?_;refine sC (lp 0 w0) ?_;rw[<-e0];refine sS (λq0=>?_) λq0=>?_
    ·refine fin ?_;(try simp only[q0,q1]);simp
    refine sC (OO zo) ?_;refine fin ?_;(try simp only[q0,q1]);simp
   refine fin ?_;(try simp only[q1]);simp
  have h3:f.kind=3\/f.kind=7:=by
   simp only[beq_eq_false_iff_ne] at h1 h2 h4 h5 h6 h8 h9;omega
  refine sC (OO zo) ?_;refine fin ?_;rcases h3 with h3|h3<;>rw[h3]<;>rfl
theorem zAc(P:List Tree)(hA:A.length<=60)(s:Nat):ar aj 119 [kR A P,ab s]<|ab ((s/2^A.length:Nat):Int):=by
 refine bz fZ ?_;unfold kR;refine sR ?_;rw[aS];refine⟨zo,?_⟩;refine sW ?_;exact bL<|bK (λx=>ab x)<|XB s A.length zo
theorem Xf{A:af}(hI:w8 A P)(hg:g∈P):(lD g).wf jO/\Told A P (lD g):=by
 obtain⟨h1,h2⟩:=hI.wf g hg;have hT:=hI.told g hg;unfold lD;split
 ·have w0:0<g.width:=r7 (vQ h1) zo;exact⟨gy h1 w0,hT.aD w0⟩
 exact⟨h1,hT⟩
theorem SW(h:k<P.length):P.getD k default∈P:=by
 rw[ay,aG h];simp
theorem zzt(P:List Tree)(hI:w8 A P)(s:Nat):ar aj 116 [kR A P,ab s]<|ab<|qQ A P s:=by
 have hf:=hI.few;refine bz fZ ?_;have hH:=λg (hg:g∈P)=>HV A P hI s (lD g) (Xf hI hg).1 (Xf hI hg).2;unfold kR at *;refine sR ?_;rw[Fb];refine bT [0,1,12,13] (λk:Nat=>[(5,ab<|oN (hK A P s) k),(14,ab k)]) (λ_=>[]) (λk=>k<=P.length) (λk=>P.length-k) 0 ?_;refine gp ?_;rintro k hk;refine bl (λq0=>?_) λq0=>?_
 ·have q0:k<P.length:=sO;refine sL (U6 (k:=k) zo q0) ?_;have hg:=SW q0;obtain⟨hw,hk7⟩:=hI.wf _ hg;have hB:=hH _ hg;have hb:hK A P s k=dC (ff A P s) (lD<|P.getD k default):=rfl;have hS:oN (hK A P s) (k+1)=if hK A P s k=true then oN (hK A P s) k+2^k else oN (hK A P s) k:=rfl
  have bF:=BY (hK A P s) k;have zQz:=E4 (n:=k) zo;have e1:(1:Int)*2^min ((k:Int)).toNat IntKind.i64.bits=((2^k:Nat):Int):=LP k zo;have e2:=zB7 (oN (hK A P s) k) k bF zo;rw[<-hb] at hB;generalize hK A P s k=b at *;generalize P.getD k default=g at *;refine sS (λg7=>?_) λg7=>?_
  ·have g7:g.kind=7:=(by simpa using g7);have w0:0<g.width:=r7 (vQ hw) zo;rw[show lD g=g.aD 0 from ae g7] at hB;refine sL (gd w0) ?_;refine sC hB ?_;cases b
   ·rw[aa zc] at hS;refine bJ ?_;refine⟨k+1,zo,zd,?_⟩;dsimp only;rw[hS]
    (refine br 0 zs rfl ?_ ?_<;>(repeat' (first|exact trivial|exact rfl|exact bR.refl _|exact ck.refl _|exact cg.refl _|refine And.intro ?_ ?_|(simp[az,aK,bN,-List.map_take,-List.map_drop];done))))
    all_goals first|exact bP _ (rQ _)|exact cp _ (c9 _)|skip
   rw[ae rfl] at hS;refine sW ?_;refine⟨zo,?_⟩;rw[e1];generalize 2^k=z at *;refine sI ?_;rw[e2];refine sI ?_;refine⟨k+1,zo,zd,?_⟩;dsimp only;rw[hS]
   (refine br 0 zs rfl ?_ ?_<;>(repeat' (first|exact trivial|exact rfl|exact bR.refl _|exact ck.refl _|exact cg.refl _|refine And.intro ?_ ?_|(simp[az,aK,bN,-List.map_take,-List.map_drop];done))))
   all_goals first|exact bP _ (rQ _)|exact cp _ (c9 _)|skip
  have g7:¬g.kind=7:=(by simpa using g7);rw[show lD g=g from aa g7] at hB;refine sC hB ?_;cases b
  ·rw[aa zc] at hS;refine bJ ?_;refine⟨k+1,zo,zd,?_⟩;dsimp only;rw[hS]
   (refine br 0 zs rfl ?_ ?_<;>(repeat' (first|exact trivial|exact rfl|exact bR.refl _|exact ck.refl _|exact cg.refl _|refine And.intro ?_ ?_|(simp[az,aK,bN,-List.map_take,-List.map_drop];done))))
   all_goals first|exact bP _ (rQ _)|exact cp _ (c9 _)|skip
  rw[ae rfl] at hS;refine sW ?_;refine⟨zo,?_⟩;rw[e1];generalize 2^k=z at *;refine sI ?_;rw[e2];refine sI ?_;refine⟨k+1,zo,zd,?_⟩;dsimp only;rw[hS]
  (refine br 0 zs rfl ?_ ?_<;>(repeat' (first|exact trivial|exact rfl|exact bR.refl _|exact ck.refl _|exact cg.refl _|refine And.intro ?_ ?_|(simp[az,aK,bN,-List.map_take,-List.map_drop];done))))
  all_goals first|exact bP _ (rQ _)|exact cp _ (c9 _)|skip
 have q0:k=P.length:=by have:¬k<P.length:=sO
                        omega
 subst q0;exact .refl _
theorem T8(P:List Tree)(hA:A.length<=60)(hr:∀x∈A,0<=x/\x<=63)(s:Nat)(is:Bool):ar aj 120 [kR A P,ab s,aF is] (.sc (.int .u64<|fY A s is A.length)):=by
 refine bz fZ ?_;unfold kR;refine sR ?_;rw[aS];refine bT [1,2,13,14] (λk:Nat=>[(7,.sc (.int .u64<|fY A s is k)),(15,ab k)]) (λ_=>[]) (λk=>k<=A.length) (λk=>A.length-k) 0 ?_;refine gp ?_;rintro k hk;refine bl (λq0=>?_) λq0=>?_
 ·have q0:k<A.length:=sO;refine sL (eY (l:=A) (k:=k) zo q0) ?_;have hx:=hr _<|fV q0;have hS:fY A s is (k+1)=if (s.testBit k==is)=true then gF .or .u64 (fY A s is k)<|2^(A.getD k 0).toNat else fY A s is k:=rfl
  generalize A.getD k 0=x at *;refine⟨zo,?_⟩;refine sW ?_;have eb:(gF .and .i64 ((s:Int).fdiv<|2^min ((k:Int)).toNat IntKind.i64.bits) 1==1)=s.testBit k:=M8 s k zo;have e1:(1:Int)*2^min x.toNat IntKind.u64.bits=2^x.toNat:=by
   rw[show IntKind.u64.bits=64 from rfl,tJ zo,Int.one_mul]
  have M4:(0:Int)<=2^x.toNat/\(2:Int)^x.toNat<18446744073709551616:=by
   have h1:2^x.toNat<=2^63:=Dw zo zo;have h2:(2:Nat)^63=9223372036854775808:=zc;rw[NS];generalize 2^x.toNat=z at *;omega
  rw[eb];cases r:(s.testBit k==is)
  ·rw[r,aa zc] at hS;refine bJ ?_;refine⟨k+1,zo,zd,?_⟩;dsimp only;rw[hS];exact bf (by exact sK) rfl
  rw[r,ae rfl] at hS;refine sW ?_;refine⟨zo,?_⟩;rw[e1];refine .inl ⟨by unfold dW;rw[IntKind.wrap_u64];omega,?_⟩;refine bJ ?_;refine⟨k+1,zo,zd,?_⟩;dsimp only;rw[hS];exact bf (by exact sK) rfl
 have q0:k=A.length:=by have:¬k<A.length:=sO
                        omega
 subst q0;exact .refl _
theorem ZD(P:List Tree)(hI:w8 A P)(s:Nat)(g:Tree)(hw:g.wf jO)(hT:Told A P g)(hk:g.kind=8\/g.kind=9):ar aj 121 [kR A P,bn g,ab s]<|aF<|mr A P g s:=by
 have hf:=hI.few;have w1:1<g.width:=by have:=B6 hw;omega
 have h0:=HV A P hI s g hw hT;have h1:=HV A P hI s (g.aD 1) (gy hw w1)<|hT.aD w1;have hE:mr A P g s=if g.kind=8 then !(dC (ff A P s) g)||dC (ff A P s) (g.aD 1) else dC (ff A P s) g||!(dC (ff A P s)<|g.aD 1):=rfl
 refine bz fZ ?_;generalize dC (ff A P s) g=b0 at *;generalize dC (ff A P s) (g.aD 1)=b1 at *;rw[hE];unfold kR at *;refine sRS (λg8=>?_) λg8=>?_
 ·have g8:g.kind=8:=(by simpa using g8);rw[ae g8];refine sC h0 ?_;cases b0
  ·refine sW ?_;exact .refl _
  refine sW ?_;refine sL (gd w1) ?_;refine sC h1 ?_;exact .refl _
 have g8:¬g.kind=8:=by simpa using g8
 rw[aa g8];refine sC h0 ?_;cases b0
 ·refine sW ?_;refine sL (gd w1) ?_;refine sC h1 ?_;exact .refl _
 refine sW ?_;exact .refl _
section
open Go.RowKit Go.Shelf Go.Sort
def zme:Go.Shelf.Ren:=⟨λ| 189=>115|125=>191|257=>190|128=>249|129=>250|294=>240|295=>241|296=>242|297=>243|298=>244|299=>245|216=>246|300=>247|301=>248|328=>267|329=>268|330=>269|331=>270|332=>271|215=>272|343=>278|n=>n,λ| 28=>39|3=>3|46=>160|0=>0|51=>313|53=>89|4=>4|183=>307|182=>306|131=>282|5=>5|9=>9|218=>324|222=>142|228=>333|229=>334|n=>n,λ| n=>n⟩
theorem Sv:Go.Proofs.Lays.n189 aj zme:={
 mixed:=by kernel_rfl,
 f125:=Tryz.func191.trans<|bK some<|by kernel_rfl,
 f128:=Tryz.func249.trans<|bK some<|by kernel_rfl,
 f129:=Tryz.func250.trans<|bK some<|by kernel_rfl,
 f189:=Tryz.func115.trans<|bK some<|by kernel_rfl,
 f215:=Tryz.func272.trans<|bK some<|by kernel_rfl,
 f216:=Tryz.func246.trans<|bK some<|by kernel_rfl,
 f257:=Tryz.func190.trans<|bK some<|by kernel_rfl,
 f294:=Tryz.func240.trans<|bK some<|by kernel_rfl,
 f295:=Tryz.func241.trans<|bK some<|by kernel_rfl,
 f296:=Tryz.func242.trans<|bK some<|by kernel_rfl,
 f297:=Tryz.func243.trans<|bK some<|by kernel_rfl,
 f298:=Tryz.func244.trans<|bK some<|by kernel_rfl,
 f299:=Tryz.func245.trans<|bK some<|by kernel_rfl,
 f300:=Tryz.func247.trans<|bK some<|by kernel_rfl,
 f301:=Tryz.func248.trans<|bK some<|by kernel_rfl,
 f328:=Tryz.func267.trans<|bK some<|by kernel_rfl,
 f329:=Tryz.func268.trans<|bK some<|by kernel_rfl,
 f330:=Tryz.func269.trans<|bK some<|by kernel_rfl,
 f331:=Tryz.func270.trans<|bK some<|by kernel_rfl,
 f332:=Tryz.func271.trans<|bK some<|by kernel_rfl,
 f343:=Tryz.func278.trans<|bK some<|by kernel_rfl,
 t0:=Tryz.underlying0,
 a0:=Tryz.isAgg0,
 z0:=Tryz.sizeOf0,
 v0:=Tryz.zeroValue0,
 t3:=Tryz.underlying3,
 a3:=Tryz.isAgg3,
 z3:=Tryz.sizeOf3,
 v3:=Tryz.zeroValue3,
 t4:=Tryz.underlying4,
 a4:=Tryz.isAgg4,
 z4:=Tryz.sizeOf4,
 v4:=Tryz.zeroValue4,
 t5:=Tryz.underlying5,
 a5:=Tryz.isAgg5,
 z5:=Tryz.sizeOf5,
 v5:=Tryz.zeroValue5,
 t9:=Tryz.underlying9,
 a9:=Tryz.isAgg9,
 z9:=Tryz.sizeOf9,
 v9:=Tryz.zeroValue9,
 t28:=Tryz.underlying39,
 a28:=Tryz.isAgg39,
 z28:=Tryz.sizeOf39,
 v28:=Tryz.zeroValue39,
 t46:=Tryz.underlying160,
 a46:=Tryz.isAgg160,
 z46:=Tryz.sizeOf160,
 v46:=Tryz.zeroValue160,
 t51:=Tryz.underlying313,
 a51:=Tryz.isAgg313,
 z51:=Tryz.sizeOf313,
 v51:=Tryz.zeroValue313,
 t53:=Tryz.underlying89,
 a53:=Tryz.isAgg89,
 z53:=Tryz.sizeOf89,
 v53:=Tryz.zeroValue89,
 t131:=Tryz.underlying282,
 a131:=Tryz.isAgg282,
 z131:=Tryz.sizeOf282,
 v131:=Tryz.zeroValue282,
 t182:=Tryz.underlying306,
 a182:=Tryz.isAgg306,
 z182:=Tryz.sizeOf306,
 v182:=Tryz.zeroValue306,
 t183:=Tryz.underlying307,
 a183:=Tryz.isAgg307,
 z183:=Tryz.sizeOf307,
 v183:=Tryz.zeroValue307,
 t218:=Tryz.underlying324,
 a218:=Tryz.isAgg324,
 z218:=Tryz.sizeOf324,
 v218:=Tryz.zeroValue324,
 t222:=Tryz.underlying142,
 a222:=Tryz.isAgg142,
 z222:=Tryz.sizeOf142,
 v222:=Tryz.zeroValue142,
 t228:=Tryz.underlying333,
 a228:=Tryz.isAgg333,
 z228:=Tryz.sizeOf333,
 v228:=Tryz.zeroValue333,
 t229:=Tryz.underlying334,
 a229:=Tryz.isAgg334,
 z229:=Tryz.sizeOf334,
 v229:=Tryz.zeroValue334 }
def oY(l:af):af:=l.mergeSort λx y=>decide (x<=y)
@[simp] theorem zsw(l:af):(oY l).length=l.length:=by unfold oY;exact List.length_mergeSort _
variable{w:aU}
theorem Ya{b o:Nat}{vals:Array aH}{te:aY}{fr:Nat×Nat}{n:Nat}{os:Array Obj}(d:Array Int)(hb:w.heap[b]? = some (.cells vals te fr)) :
  (grow (putRow (Value.int .i64) (Sort.ahead w n) b o d) os).heap[b]? = some (.cells (putCells (Value.int .i64) o d vals) te fr):=by
 have hg:b<w.heap.size:=(Array.getElem?_eq_some_iff.1 hb).1;rw[heap_grow_old _ _<|by simpa using hg];simp[putRow,mapBlock,Sort.ahead,Array.getElem?_modify,hb,onCells]
theorem zo4{b o:Nat}{os:Array Obj}(d:Array Int)(hk:k<w.heap.size)(b7:k≠b):(grow (putRow (Value.int .i64) (Sort.ahead w n) b o d) os).heap[k]? = w.heap[k]?:=by
 rw[heap_grow_old _ _<|by simpa using hk];have:b≠k:=λe=>b7 e.symm;simp[putRow,mapBlock,Sort.ahead,Array.getElem?_modify,this]
theorem zvV(aw:Nat)(l:af)(h0:0<l.length)(hl:l.length<4611686018427387904) :
  cd aj 115 [.own 0 aw 0 l.length] [.vec true aw 1<|aE l] (.aJ []) [.vec true aw 1<|aE<|oY l] where
 ok:=⟨_,Tryz.func115,by kernel_rfl,by kernel_rfl⟩
 len:=zs
 run J F w vs b8 jm hR:=by
  simp only[bj,rep] at hR;obtain⟨v,us,rfl,⟨s,A,n,c,hJ,rfl,_,hq⟩,rfl⟩:=hR;obtain⟨ob,ho,hO⟩:=b8.obj 0 s hJ;have ho:an.vec true aw 1 (aE l)=ob:=oV ho;subst ho;simp only[na] at hO;obtain⟨dV,AP,Vi,hlen,EE,jL⟩:=hO;obtain⟨_,_,ny,hn,hc,hA⟩:=hq AP.symm;have pZ:s.len=l.length:=(by rw[hlen];simp[aE]);have wE:¬s.cap=0:=zo;obtain⟨b,o,ua,PT⟩:=hA.resolve_left wE;obtain⟨b',o',vals,te,PM,hb,gT,hrr,_⟩:=jL.resolve_left wE;rw[ua] at PM;obtain⟨rfl,rfl⟩:b=b'/\o=o':=by
   have:=oV PM;injection this with h1 h2 h3
   exact⟨h1,h2⟩
  rw[Nat.zero_mul,kN] at PT;subst PT;have s6:n=l.length:=zo;subst s6;have qD:b<w.heap.size:=(Array.getElem?_eq_some_iff.1 hb).1;have hH:Holds (Value.int .i64) w b o l.toArray:=λj hj=>by
   have jC:j<l.length:=(by simpa using hj);obtain⟨_,Tq⟩:=uU (aE l) o j [.sc (.int .i64 l[j])] (by simp[aE,jC]) hrr;simp only[dM,rep] at Tq;obtain⟨⟨u,hu,_,rfl⟩,_⟩:=Tq;rw[AE] at hu;refine⟨by rw[hu];simp[jC],by simp[World.frozen?,hb]⟩
  have jr:s.cP=some b:=(by unfold Site.cP;rw[aa<|by simp[wE],ua];rfl);have lb:¬F b:=b8.apart 0 s b _ hJ jr rfl rfl;refine(Any.slices_Sort_int Sv b o c l w hH qD hl).mono λe w' ⟨he,nd,os,BI⟩=>?_;have Tk:w'.heap[b]? = some (.cells (putCells (Value.int .i64) o (oY l).toArray vals) te (0,0)):=(by rw[BI];exact Ya _ hb);have MD:∀k,k<w.heap.size->k≠b->w'.heap[k]? = w.heap[k]?:=λk h1 h2=>by rw[BI];exact zo4 _ h1 h2
  have Wr:w.heap.size<=w'.heap.size:=(by rw[BI];simp[Sort.ahead]);have iX:∀k,F k->w'.heap[k]? = w.heap[k]?:=λk hk=>MD k (b8.lt k hk) λe=>lb<|e▸hk;have KX:w'.os=w.os/\w'.tape=w.tape/\w'.output=w.output:=(by rw[BI];exact⟨rfl,rfl,rfl⟩);refine⟨_,J,F,he,?_,jm,by simp[rep,bj],?_⟩
  ·refine b8.update 0 s (.vec true aw 1<|aE<|oY l) (λi=>?_) (λi=>?_) (aX.le_refl J) iX Wr ?_ (λb2 h2=>.inr ⟨s,hJ,h2⟩) (λi s2 b2 h1 h2=>b8.iH h1 h2) ?_ ?_
   ·by_cases e:i=0
    ·subst e;rw[ae rfl,hJ]
    rw[aa e]
   ·by_cases e:i=0
    ·subst e;rfl
    rw[aa e]
    cases i with
    |zero=>exact absurd rfl e
    |succ i=>rfl
   ·intro i s2 b2 hi h1 h2;refine MD b2 (b8.iH h1 h2) λe=>hi ?_;subst e;exact b8.one i 0 s2 s b2 h1 hJ h2 jr
   ·intro b2 h1 _;rw[jr] at h1;cases h1;exact lb
   simp only[na];refine⟨dV,AP,Vi,by rw[hlen];simp[aE],EE,.inr ⟨b,o,_,te,ua,Tk,by simp[putCells];omega,?_,λh=>by cases h⟩⟩;refine uW _ _ λj x hx=>?_;have hj:j<(oY l).length:=by
    have:=(List.getElem?_eq_some_iff.1 hx).1;simpa [aE] using this
   have j0:x=[.sc (.int .i64 (oY l)[j])]:=by
    have:(aE<|oY l)[j]? = some [.sc (.int .i64 (oY l)[j])]:=by simp[aE,hj]
    rw[hx] at this;exact oV this
   subst j0;refine⟨rfl,?_⟩;simp only[dM,rep];refine⟨⟨_,?_,rfl,rfl⟩,trivial⟩;have hjv:o+j<vals.size:=by
    rw[zsw] at hj;rw[AE] at gT;omega
   simp only[World.cell?,Tk,AE];simp only[Option.isSome_none,yQ,if_false];have zE:j<l.length:=(by simpa using hj);simp[putCells,hjv,zE,aG hj]
  exact⟨KX.1,KX.2.1,KX.2.2,Wr,λk hk ho=>MD k hk λe=>ho ⟨0,s,hJ,e▸jr⟩,iX,aX.le_refl J,λ_ h=>h,λ_ h=>.inl h,λ_ h=>.inl h⟩
theorem zp9:ar aj 191 [.sc (.int .u64 0)] (ab 0) where
 ok:=⟨_,Tryz.func191,by kernel_rfl,by kernel_rfl⟩
 run J F w vs hF hR:=by
  simp only[bj,rep] at hR;obtain⟨v,us,rfl,rfl,rfl⟩:=hR;refine(calls_of_every_depth λD=>AnyS.bits_LenIn { Sv with } D 0 w zo zo).mono λe w' ⟨he,hw⟩=>?_;subst hw;exact⟨_,F,he,hF.lt,rfl,Ext.refl _ _ _⟩
theorem Yw:ar aj 240 [.a8 1 [],ab 0,ab 0] (.aJ []):=by
 refine fi fZ zs (by simp[ao,Pure,dX]) ?_ (by simp[Pure,ao]);refine sR ?_;refine sI ?_;refine bT [0,1,2] (λ_:Nat=>[(6,ab 1)]) (λ_=>[]) (λ_=>True) (λ_=>0) 0 ?_;refine sW ?_;refine⟨trivial,by exact sK,rfl,?_⟩;rintro k -
 refine sWR ?_;exact .refl _
theorem zub(n:Int):ar aj 190 [.a8 1 [],ab 0,ab 0,ab n] (.aJ []):=by
 refine fi fZ zs (by simp[ao,Pure,dX]) ?_ (by simp[Pure,ao]);refine sR ?_;refine bT [0] (λ_:Nat=>[(1,ab 0),(2,ab 0),(3,ab n),(8,aF true),(9,aF true)]) (λ_=>[]) (λ_=>True) (λ_=>0) 0 ?_;refine sW ?_;refine⟨trivial,by exact sK,rfl,?_⟩;rintro k -
 refine sWR ?_;refine sI ?_;refine sC Yw ?_;exact .refl _
theorem Qu:ar aj 115 [.a8 1 []] (.aJ []):=by
 refine fi fZ zs (by simp[ao,Pure,dX]) ?_ (by simp[Pure,ao]);refine sR ?_;rw[show(([]:fp).length:Int)=0 from rfl];refine .inl ⟨by unfold dW;rw[IntKind.wrap_u64];omega,?_⟩;refine sW ?_;refine sC zp9 ?_;refine sC (zub 0) ?_;exact .refl _
theorem Z8(aw:Nat)(l:af)(hl:l.length<4611686018427387904) :
  cd aj 115 [.own 0 aw 0 l.length] [.vec true aw 1<|aE l] (.aJ []) [.vec true aw 1<|aE<|oY l]:=by
 rcases vM l.length with h0|h0
 ·have h0:=nh.1 h0;subst h0;refine⟨Qu.1,zs,λJ F w vs b8 jm hR=>?_⟩;simp only[bj,rep] at hR;obtain⟨v,us,rfl,⟨s,A,n,c,hJ,rfl,_,hq⟩,rfl⟩:=hR;obtain⟨ob,ho,hO⟩:=b8.obj 0 s hJ;have ho:an.vec true aw 1 (aE [])=ob:=oV ho;subst ho;simp only[na] at hO;obtain⟨dV,AP,Vi,hlen,EE,jL⟩:=hO;obtain⟨_,_,ny,hn,hc,hA⟩:=hq AP.symm;have o7:n=0:=(by simpa using hn);subst o7;refine(Qu.run J F w [.slice A 0 c] b8.lt<|by simp only[bj,rep];exact⟨_,_,rfl,⟨_,_,_,rfl,rfl,zo,.inl rfl⟩,rfl⟩).mono λe w' ⟨v,F',he,h1,h2,h3⟩=>?_;refine⟨v,J,F',he,?_,jm,js (Ii J) (λ_ h=>h) (λ_ _=>rfl) _ _ h2,Ext.PR b8 h3⟩;rw[show oY []=[] by simp[oY]];exact b8.p' (λb hb=>h3.block b hb<|pI b) h3.size h3.grow (λb hb=>(h3.oa b hb).imp_right λq=>q.resolve_left<|pI b) h1
 exact zvV aw l h0 hl
end
theorem Vn:∀(a b:af),a.Pairwise (·<·)->b.Pairwise (·<·)->(∀x,x∈a↔x∈b)->a=b
 |[],[],_,_,_=>rfl
 |[],y::b,_,_,h=>by have:=(h y).2 zs;cases this
 |x::a,[],_,_,h=>by have:=(h x).1 zs;cases this
 |x::a,y::b,ha,hb,h=>by
  rw[List.pairwise_cons] at ha hb;have A4:x=y:=by
   have h1:=(h x).1 zs;have h2:=(h y).2 zs;rcases dD.1 h1 with e|e
   ·exact e
   rcases dD.1 h2 with e2|e2
   ·exact e2.symm
   have:=ha.1 y e2;have:=hb.1 x e;omega
  subst A4;refine bK _<|Vn a b ha.2 hb.2 λz=>⟨λhz=>?_,λhz=>?_⟩
  ·have:=ha.1 z hz;rcases dD.1<|(h z).1 (by simp[hz]) with e|e
   ·omega
   exact e
  have:=hb.1 z hz;rcases dD.1<|(h z).2 (by simp[hz]) with e|e
  ·omega
  exact e
theorem zlK(k:Nat):(jD p k).Pairwise (·<·):=by
 unfold jD;rw[List.pairwise_map];refine List.Pairwise.imp (R:=λa b:Nat=>a<b) (λh=>zo) ?_;exact List.Pairwise.filter _<|List.pairwise_lt_range ..
theorem zst{l:af}(h:l.Pairwise λa b=>a<=b)(hn:l.Nodup):l.Pairwise (·<·):=by
 have:=List.Pairwise.and h hn;exact this.imp λ⟨h1,h2⟩=>zo
theorem UT(hw:f.wf bD):oY (fN []<|dQ f)=nQ (dQ f):=by
 have hp:(oY<|fN []<|dQ f).Perm<|fN []<|dQ f:=List.mergeSort_perm _ _;refine Vn _ _ (zst ?_<|hp.nodup_iff.2<|zpg _ _ zs) (zlK _ _) λx=>?_
 ·have:=List.pairwise_mergeSort (le:=λx y:Int=>decide (x<=y)) (λa b c h1 h2=>by simp only[c6] at *;omega) (λa b=>by simp only[jh,c6];omega)<|fN []<|dQ f;exact this.imp λh=>by simpa using h
 rw[hp.mem_iff,zwI,MV<|DD f hw];simp
theorem NF(hw:f.wf jO)(gD:(nQ<|dQ f).length+(dP []<|partsOf f).length<=10):w8 (nQ<|dQ f) (dP []<|partsOf f) where
 few:=gD
 atoms x hx:=DD f (vQ hw) x<|(MV<|DD f<|vQ hw).1 hx
 told g hg:=zr6 (vQ hw) hg
 wf g hg:=QQ jO f hw g<|((Me _ _).1 hg).resolve_left zs
noncomputable def wU(A:af)(P:List Tree)(k r:Nat):af:=jD (λt=>qQ A P t==r) k
noncomputable def kp(A:af)(P:List Tree)(k:Nat):ak:=(List.range<|2^P.length).map<|wU A P k
@[simp] theorem zsz(P:List Tree)(k:Nat):(kp A P k).length=2^P.length:=by simp[kp]
theorem Ig{A:af}{r:Nat}(h:r<2^P.length):(kp A P k).getD r []=wU A P k r:=by
 unfold kp;rw[ay,cy,pN h];rfl
theorem ztH(P:List Tree)(k r:Nat):(wU A P k r).length<=k:=Ai _ _
theorem zpz(P:List Tree):kp A P 0=List.replicate (2^P.length) []:=by
 unfold kp;rw[List.eq_replicate_iff];refine⟨zs,λb hb=>?_⟩;obtain⟨r,_,rfl⟩:=cU.1 hb;rfl
theorem Wj(P:List Tree)(s:Nat):qQ A P s<2^P.length:=BY _ _
theorem zt0(P:List Tree)(k:Nat):(kp A P k).set (qQ A P k) (wU A P k (qQ A P k)++[(k:Int)])=kp A P (k+1):=by
 apply qX;intro j;rw[wG];by_cases hj:j<2^P.length
 ·rw[zK (L:=kp A P<|k+1)<|by simpa using hj,Ig hj];have hS:wU A P (k+1) j=if (qQ A P k==j)=true then wU A P k j++[(k:Int)] else wU A P k j:=L6 _ _
  rw[hS];by_cases e:qQ A P k=j
  ·rw[ae e,e,ae<|by simpa using hj,ae zs]
  rw[aa e,zK (L:=kp A P k)<|by simpa using hj,Ig hj,aa<|by simpa using e]
 rw[db<|by simpa using hj,aa λe:qQ A P k=j=>hj<|e▸Wj A P k,db<|by simpa using hj]
variable{s:Nat}
theorem Qq{a p:Nat}(h:s<2^(a+p)):s/2^a<2^p:=by
 rw[Nat.div_lt_iff_lt_mul<|Nat.two_pow_pos _,Nat.mul_comm,<-Nat.pow_add];exact h
theorem zqe{A:af}(h:s<2^(A.length+P.length)):(kp A P<|2^(A.length+P.length)).getD (s/2^A.length) []=tX A P (A.length+P.length) s:=Ig<|Qq h
noncomputable def stE(A:af)(P:List Tree)(f:Tree)(k:Nat):af:=jD (λs=>dC (ff A P s) f) k
noncomputable def vh(A:af)(P:List Tree)(k:Nat):ak:=(List.range k).map<|tX A P<|A.length+P.length
noncomputable def leE(A:af)(is:Bool)(k:Nat):af:=(List.range k).map λs=>fY A s is A.length
theorem zu6(P:List Tree)(f:Tree)(k:Nat):stE A P f (k+1)=if dC (ff A P k) f=true then stE A P f k++[(k:Int)] else stE A P f k:=L6 _ _
theorem zt9(P:List Tree)(k:Nat):vh A P (k+1)=vh A P k++[tX A P (A.length+P.length) k]:=by simp[vh,qa]
theorem Ta(is:Bool)(k:Nat):leE A is (k+1)=leE A is k++[fY A k is A.length]:=by simp[leE,qa]
@[simp] theorem zDU(P:List Tree)(k:Nat):(vh A P k).length=k:=by simp[vh]
@[simp] theorem zD5(is:Bool)(k:Nat):(leE A is k).length=k:=by simp[leE]
theorem zyG(P:List Tree)(f:Tree)(k:Nat):(stE A P f k).length<=k:=Ai _ _
theorem zyC(P:List Tree)(f:Tree):iL A P f=⟨stE A P f<|2^(A.length+P.length),vh A P<|2^(A.length+P.length),leE A true<|2^(A.length+P.length),leE A false<|2^(A.length+P.length),mO A P (A.length+P.length) P.length⟩:=rfl
variable{R:af}
theorem Se{A:af}(hz:z=i)(hi:i<2^P.length)(hR:(kp A P k).getD i []=R):((kp A P k).map λl=>[aL l])[z]? = some [aL R]:=by
 subst hz;rw[cy,zK (L:=kp A P k)<|by simpa using hi,hR];rfl
theorem RA{S:aq}{H:aB}{x y:aZ}(h:ck S H x y):∀a:fp,cg S H (a++[x]) (a++[y])
 |[]=>.cons _ _ _ _ h (.refl _)
 |z::a=>.cons _ _ _ _ (.refl _)<|RA h a
variable{c:Nat}
theorem EW{S:aq}{L:ak}{id aw:Nat}{m:Bool}(hc:c=L.length)(hn:n=R.length)(hS:S id)(hH:H[id]? = some (.vec m aw 1<|aE R)) :
  cg S H (List.drop 0 (List.take c<|lI L)++List.drop 0 (List.take 1 [[D.own id aw 0 n]])) (lI<|L++[R]):=by
 subst hc hn;rw[dt zs,show lI (L++[R])=lI L++[[aL R]] by simp[lI]];exact RA (.cons _ _ _ _ (.own _ _ _ _ _ _ _ _ hS hH<|bM<|dt<|by simp[aE]) (.refl _)) _
variable(ρ:Nat->Nat)
theorem Kc(l:af):jH ρ (aE l)=aE l:=jb _<|cO _ (λl=>by simp[ao,Pure]) l
theorem znh(l:List Tree):jH ρ (gi l)=gi l:=jb _<|rQ l
def sh(l:af):fp:=l.map λn=>[.sc (.int .u64 n)]
variable(l:af)
@[simp] theorem zD1:(sh l).length=l.length:=aS ..
@[simp] theorem CT:dX<|sh l:=cO _ (λl=>by simp[ao,Pure]) l
@[simp] theorem zzd:bN m (sh l)↔True:=⟨λ_=>trivial,λ_=>bP _<|CT l⟩
theorem Fc{l:af}(h:c=l.length):List.drop 0 (List.take c<|sh l)++[[.sc (.int .u64 x)]]=sh (l++[x]):=by
 subst h;rw[dt zs];simp[sh]
noncomputable def AX(t:Tree):D :=
 if (m7 t<|da t).2=0 then Ho<|da t else .aJ [rk Xh,.sc (.int .i64 (m7 t<|da t).2)]
theorem zoT(h:(m7 t<|da t).2=0):(m7 t<|da t).1=da t/\aV bD t=0/\aV bD (da t)=0:=by
 unfold m7 at *;split at h
 ·rename_i h1;split at h
  ·rename_i h2;rw[ae h1,ae h2];exact⟨rfl,h1,h2⟩
  rename_i h2;exact absurd h h2
 rename_i h1;exact absurd h h1
def zDz:PC:=SO [Bi 59 .lss 58 57] (.seq (CX 59 0) (.seq (.block 1<|SO [qm 60 58,qm 9 60]<|SO [qm 61 5,qm 62 9,Ca 63 116 [61,62],qm 10 63]<|OP [qm 64 8,qm 65 10,qm 66 8,qm 67 10,Ia 68 1 66 67,Lo 69 68,qm 70 9,Bs 71 1 1 [70],Ap 72 1 8 69 71,Ia 73 1 64 65,So 1 73 72])<|OP [Bi 74 .add 58 K1,qm 58 74]))
def zDf:PC:=SO [Bi 78 .lss 77 76] (.seq (CX 78 2) (.seq (.block 3<|SO [qm 79 77,qm 11 79] (.seq (SO [qm 80 5,LA 81 3 1,qm 82 11,Ca 83 117 [80,81,82]]<|If 83<|OP [Fa 84 0 7,Lo 85 84,qm 86 11,Bs 87 1 1 [86],Ap 88 1 8 85 87,Fa 89 0 7,So 1 89 88]) (.seq (.ops [Fa 90 1 7,Ld 91 90 1,qm 92 8,qm 93 5,qm 94 11,Cd 95 119 [93,94] 24,Ja 96 1 92 95 60,Ld 97 96 124,Cd 98 118 [97] 252,qd 99 (.pX 1 1 [98]) 508,qd 100 (.append 1 24 91 99) 1023,Fd 101 1 7 2047,qk (.store 1 101 100) 4095] true) (.seq (.ops [Fa 102 2 7,Ld 103 102 1,qm 104 5,qm 105 11,Cd 106 120 [104,105,cT] 12,qd 107 (.pX 1 1 [106]) 28,qd 108 (.append 1 8 103 107) 63,Fd 109 2 7 127,qk (.store 1 109 108) 255] true) (.ops [Fa 110 3 7,Ld 111 110 1,qm 112 5,qm 113 11,Cd 114 120 [112,113,cF] 12,qd 115 (.pX 1 1 [114]) 28,qd 116 (.append 1 8 111 115) 63,Fd 117 3 7 127,qk (.store 1 117 116) 255] true)))))<|OP [Bi 118 .add 77 K1,qm 77 118]))
def zDi:PC:=SO [Bi 134 .lss 133 132] (.seq (CX 134 6) (.seq (.block 7<|SO [qm 135 133,qm 15 135]<|SO [qm 136 5,LA 137 3 13,qm 138 15,Ca 139 121 [136,137,138]]<|If 139<|OP [qm 140 14,qm 141 15,Bs 142 1 1 [141],Ap 143 1 8 140 142,qm 14 143])<|OP [Bi 144 .add 133 K1,qm 133 144]))
def zDy:PC:=SO [Bi 125 .lss 124 123] (.seq (CX 125 4) (.seq (.block 5<|SO [Ia 126 3 122 124,LA 127 3 126,q 13 (.alloc [v0,v0,vN]),So 3 13 127] (.seq (SO [Fa 128 0 13,Lo 129 128,Bi 130 .eql 129 K7]<|If 130 (.exit 5))<|SO [Mv 14 cN] (.seq (SO [qm 131 6,Bi 132 .shl K1 131,Mv 133 K0]<|BL 6 zDi)<|OP [Fa 145 4 7,Lo 146 145,qm 147 14,Bs 148 1 1 [147],Ap 149 1 24 146 148,Fa 150 4 7,So 1 150 149])))<|OP [Bi 151 .add 124 K1,qm 124 151]))
def c53:PC:=SO [Bx 1 0,q 2 (.alloc [vN,vN,vN,vN,vN]),Mv 3 K0]<|SO [LA 17 3 1,Ca 18 113 [17],qm 16 18,Xt 19 0 16,Xt 20 1 16,So 3 1 19,qm 4 20] (.seq (SO [qm 21 4,Bi 22 .neq 21 K0]<|If 22<|SO [q 23 (.build [vN,vN,vN,vN,vN] []),qm 24 4,So 5 2 23,qm 3 24] .ret)<|SO [q 25 (.build [vN,vN] []),Bx 26 25,qm 5 26] (.seq (.stop<|OP [qm 27 5,LA 28 3 1,Ca 29 114 [27,28]])<|SO [qm 30 5,q 31 (.fO 30),Fa 32 0 31,Lo 33 32,Ca 34 115 [33]] (.seq (.stop (.ops [qm 35 5,qd 36 (.fO 35) 1,Fd 37 0 36 3,Ld 38 37 7,qd 39 (.len 38) 15,qm 40 5,qd 41 (.fO 40) 32,Fd 42 1 41 96,Ld 43 42 224,qd 44 (.len 43) 480,Bd 45 .add 39 44 1023,qw 6 45 2047] true)) (.seq (SO [qm 46 6,Bi 47 .gtr 46<|cI 10]<|If 47<|SO [q 48 (.build [vN,vN,vN,vN,vN] []),So 5 2 48,Mv 3 K2] .ret)<|SO [q 7 (.alloc [vN,vN,vN,vN,vN])]<|SO [qm 49 5,q 50 (.fO 49),Fa 51 1 50,Lo 52 51,Ln 53 52,Bi 54 .shl K1 53,q 55 (.wo 1 24 [vN] 54 54),qm 8 55] (.seq (SO [qm 56 6,Bi 57 .shl K1 56,Mv 58 K0] (.stop<|BL 0 zDz)) (.seq (SO [qm 75 6,Bi 76 .shl K1 75,Mv 77 K0] (.stop<|BL 2 zDf)) (.seq (SO [qm 119 5,q 120 (.fO 119),Fa 121 1 120,Lo 122 121,Ln 123 122,Mv 124 K0] (.stop<|BL 4 zDy))<|SO [LA 152 5 7,So 5 2 152,Mv 3 K0] .ret)))))))
theorem zAe(t:Tree)(hs:Small t):ar aj 53 [bn t]<|AX t:=by
 have hP:=zpT t hs;have Pm:Pure<|AX t:=by
  unfold AX Ho;split
  ·dsimp only;split<;>simp[Pure,ao,EP]
  simp[Pure,ao,EP]
 refine fi (fJ 153 [.agg 2 5,.tmp 3] c53 Tryz.func53) zs (by simp[ao,dT]) ?_ Pm;refine sR ?_;refine sC hP ?_;unfold AX;refine sS (λh0=>?_) λh0=>?_
 ·have h0:¬(m7 t<|da t).2=0:=(by simpa using h0);rw[aa h0];exact sP
 have h0:(m7 t<|da t).2=0:=by simpa using h0
 obtain⟨e1,hc,qT⟩:=zoT h0;rw[ae h0,e1];have Dv:=((qo _ _).1 qT).2.2;have gT:=((qo _ _).1 qT).1;have Wv:=KZ t ((qo _ _).1 hc).2.2;clear hP Pm h0 e1 hc qT;generalize da t=f at *;have hla:=VV f;have rv:=QJ f;have hG:=zsY f Dv [] [] (by simp;omega) (by simp;omega);have JW:=su (dQ f) [];have WJ:=tx (partsOf f) [];have JI:=Z8 (fN []<|dQ f).length (fN []<|dQ f) (by simp at *;omega);rw[UT Dv] at JI;have MO:(nQ<|dQ f).length=(fN []<|dQ f).length:=by rw[<-UT Dv];simp
 have hT:=NF Wv;have hTf:=GV Dv;unfold Ho;dsimp only;generalize J7:fN [] (dQ f)=A0 at *;generalize ET:nQ (dQ f)=A at *;generalize mc:dP [] (partsOf f)=P at *;obtain⟨N5,NB⟩:∃N5:aZ,N5=[bC,bC,bC,bC,bC]:=⟨_,rfl⟩;refine dk (br 3 (env':=[(1,.loc 0 0),(2,.loc 1 0),(3,ab 0),(5,.loc 2 0)]) (H':=[.row true<|bx f,.row true N5,.row true [bC,bC]]) zs rfl (by exact sQ) ⟨⟨rfl,.refl _,cu _<|iv _⟩,⟨rfl,by rw[NB];exact .refl _,by rw[NB];simp[aK,az]⟩,⟨rfl,.refl _,by simp[aK,az]⟩,trivial⟩) ?_;refine dk (oK (jN 2 0 1 zs rfl rfl)<|jN 2 1 3 zs rfl rfl) ?_;refine sR ?_
 have P7:cd aj 114 [.loc 2 0,bn f] [.row true<|bx f,.row true N5,.row true [.own 3 0 0 0,.own 4 0 0 0],.vec true 0 1 [],.vec true 0 3 []] (.aJ [])
   [.row true<|bx f,.row true N5,.row true [.own 3 A0.length 0 A0.length,.own 4 P.length 0 P.length],.vec true A0.length 1<|aE A0,.vec true P.length 3<|gi P]:=by
  refine sF hG [.row true<|bx f,.row true N5] [] rfl (by simp[cZ,aK,az,cp _<|dT _]) (tV<|by simp[cZ]) (by simp[bO,D.aO]) (by simp[D.aO,bO]) ?_ ?_
  ·simp[cZ,an.aO,bO,D.aO,jH,aE,gi]
  simp only[cZ,dR,gP,an.aO,bO,D.aO,cj,dE,Kc,znh];rfl
 refine sA P7 ?_
 have CZ:cd aj 115 [.own 3 A0.length 0 A0.length] [.row true<|bx f,.row true N5,.row true [.own 3 A0.length 0 A0.length,.own 4 P.length 0 P.length],.vec true A0.length 1<|aE A0,.vec true P.length 3<|gi P] (.aJ [])
   [.row true<|bx f,.row true N5,.row true [.own 3 A0.length 0 A0.length,.own 4 P.length 0 P.length],.vec true A0.length 1<|aE A,.vec true P.length 3<|gi P]:=by
  refine sF JI [.row true<|bx f,.row true N5,.row true [.own 3 A0.length 0 A0.length,.own 4 P.length 0 P.length]] [.vec true P.length 3<|gi P] rfl (by simp[aK,az]) ⟨bP _<|cO _ (λl=>by simp[ao,Pure]) A0,trivial⟩ (by simp[bO,D.aO]) (by simp[D.aO,bO]) ?_ ?_
  ·simp only[dR,gP,an.aO,Kc];rfl
  simp only[dR,gP,an.aO,Kc];rfl
 refine sA CZ ?_;have Ew:=zsI A P;refine dk (vl (lF 2) (env':=[(1,.loc 0 0),(2,.loc 1 0),(3,ab 0),(5,kR A P)]) (H':=[.row true<|bx f,.row true N5,.row false [aL A,.a8 3<|gi P],.vec false A0.length 1<|aE A,.vec false P.length 3<|gi P]) ?_ ?_) ?_
 ·refine⟨.refl _,.refl _,.refl _,bR.loc _ _ _ _ _ rfl rfl (.cons _ _ _ _ (.own _ _ _ _ _ _ _ _ rfl rfl ?_) (.cons _ _ _ _ (.own _ _ _ _ _ _ _ _ rfl rfl ?_) (.refl _))),trivial⟩
  ·rw[<-MO];exact bM<|dt<|by simp[aE]
  exact bM<|dt zs
 ·refine⟨⟨.inl rfl,(λh=>by cases h),.refl _⟩,⟨.inl rfl,(λh=>by cases h),.refl _⟩,⟨.inr ⟨rfl,rfl⟩,λ_=>rfl,.cons _ _ _ _ (.own _ _ _ _ _ _ _ _ rfl rfl ?_) (.cons _ _ _ _ (.own _ _ _ _ _ _ _ _ rfl rfl ?_) (.refl _))⟩,⟨.inr ⟨rfl,rfl⟩,λ_=>rfl,rfl,rfl,.refl _⟩,⟨.inr ⟨rfl,rfl⟩,λ_=>rfl,rfl,rfl,.refl _⟩,trivial⟩
  ·rw[<-MO];exact bM<|dt<|by simp[aE]
  exact bM<|dt zs
 have N3:A.length<=60:=by simp at JW;omega
 have zQa:P.length<=60:=by simp at WJ;omega
 subst NB;clear hG JI P7 CZ JW WJ J7 MO;unfold kR;refine sR ?_;rw[aS,Fb];refine sI ?_;refine sS (λgD=>?_) λgD=>?_
 ·have gD:10<A.length+P.length:=sO;rw[ae gD];exact sP
 have gD:¬10<A.length+P.length:=sO;rw[aa gD];have hI:=hT zo;have hp2:=E4 (n:=P.length) zo;have QK:=E4 (n:=A.length+P.length) zo;have s1:(1:Int)*2^min ((P.length:Nat):Int).toNat IntKind.i64.bits=((2^P.length:Nat):Int):=LP P.length zo;have s2:(1:Int)*2^min ((A.length+P.length:Nat):Int).toNat IntKind.i64.bits=((2^(A.length+P.length):Nat):Int):=LP _ zo;rw[Fb];refine⟨zo,?_⟩;rw[s1];generalize Dh:2^P.length=NP at *;generalize CJ:2^(A.length+P.length)=N at *;refine sI ?_;refine⟨zo,zo,zo,?_⟩;rw[bS];refine sW ?_;rw[<-Int.natCast_add];simp only[xS];refine⟨zo,?_⟩;rw[s2];refine sI ?_;have hK:=zzt A P hI;have zPz:D.aN [aL A,.a8 3<|gi P]=kR A P:=rfl;have hbl:∀k,(kp A P k).length=NP:=λk=>by rw[zsz,Dh]
 refine Bo (λ_:Unit=>[(1,.loc 0 0),(2,.loc 1 0),(5,kR A P),(6,ab ((A.length+P.length:Nat):Int)),(7,.loc 5 0),(8,.own 6 0 0 NP)])
  (λ_=>[.row true<|bx f,.row true [bC,bC,bC,bC,bC],.row false [aL A,.a8 3<|gi P],.vec false A0.length 1<|aE A,.vec false P.length 3<|gi P,.row true [bC,bC,bC,bC,bC],.vec true 0 1<|(kp A P N).map λl=>[aL l]]) (λ_=>True) ?_ ?_
 ·refine sR ?_;refine dk (Gb 6 1 NP 0 zs rfl) ?_;refine fy [1,2,5,6,7,8,57] (λk:Nat=>[(58,ab k)]) (λk=>.row true (bx f)::.row true [bC,bC,bC,bC,bC]::.row false [aL A,.a8 3<|gi P]::.vec false A0.length 1 (aE A)::.vec false P.length 3 (gi P)::.row true [bC,bC,bC,bC,bC]::.vec true 0 1 (lr 7<|kp A P k)::gw 1 sY (kp A P k)) (λk=>k<=N) (λk=>N-k) 0 ?_;refine sW ?_;refine⟨zo,by exact sK,?_,?_⟩
  ·rw[zpz,Dh];show _::_::_::_::_::_::_::_=_::_::_::_::_::_::_::_;rw[GI 1 _ sY];exact bK (λx=>_::_::_::_::_::_::an.vec true 0 1 x::_)<|IX (α:=Int) 7 _
  rintro k hk;refine bl (λq0=>?_) λq0=>?_
  ·have q0:k<N:=sO;have Pd:=Wj A P k;have hlen:=hbl k;have nE:=zt0 A P k;have gR:=Ig (A:=A) (P:=P) (k:=k) Pd;have Cg:=ztH A P k<|qQ A P k;rw[Dh] at Pd;refine sC (hK k) ?_;generalize qQ A P k=v at *;generalize wU A P k v=C at *;generalize hR2:kp A P (k+1)=R2 at *;generalize kp A P k=R at *;refine sB ?_;refine⟨_,pH (i:=v) zo zo,?_⟩;refine sW ?_;refine D0 ?_;refine sW ?_
   (repeat (first|(refine kM 0 rfl ?_;((conv=>whnf);repeat(refine⟨rfl,?_⟩;conv=>whnf)))|(refine kP 0 rfl ?_;((conv=>whnf);repeat(refine⟨rfl,?_⟩;conv=>whnf)))|(refine kM 1 rfl ?_;((conv=>whnf);repeat(refine⟨rfl,?_⟩;conv=>whnf)))|(refine kP 1 rfl ?_;((conv=>whnf);repeat(refine⟨rfl,?_⟩;conv=>whnf)))))
   refine Dm zo ?_;refine sW ?_;rw[gR];refine⟨by unfold mu;simp only[mi,gO,cj,dE];omega,?_⟩;refine sW ?_;refine Io (C++[(k:Int)]) zo ?_ ?_
   ·exact FD
   refine ew ?_;refine⟨_,pH (i:=v) zo zo,?_⟩;refine bJ ?_;refine⟨k+1,zo,zd,?_⟩;dsimp only;rw[hR2];have Iw:R2.length=NP:=(by rw[<-nE,yS,hlen]);refine br (NP+7) zs (by simp[Iw]) (by exact sQ) ⟨⟨rfl,.refl _,cu _<|iv _⟩,⟨rfl,.refl _,by simp[aK,az]⟩,⟨rfl,.refl _,by simp[aK,cp _<|c9 A,az,bP _<|rQ P]⟩,⟨rfl,rfl,rfl,.refl _,bP _<|cO _ (λl=>by simp[ao,Pure]) A⟩,⟨rfl,rfl,rfl,.refl _,bP _<|rQ P⟩,⟨rfl,.refl _,by simp[aK,az]⟩,⟨rfl,rfl,rfl,bM ?_,EA<|by rw[<-nE,yS];omega⟩,by rw[<-nE];exact EG VZ⟩;rw[<-nE];exact(Ep zo zo (C++[(k:Int)]) zs)
  have q0:k=N:=by have:¬k<N:=sO
                  omega
  subst q0;refine⟨(),trivial,br 7 zs rfl (by exact sQ) ⟨⟨rfl,.refl _,cu _<|iv _⟩,⟨rfl,.refl _,by simp[aK,az]⟩,⟨rfl,.refl _,by simp[aK,cp _<|c9 A,az,bP _<|rQ P]⟩,⟨rfl,rfl,rfl,.refl _,bP _<|cO _ (λl=>by simp[ao,Pure]) A⟩,⟨rfl,rfl,rfl,.refl _,bP _<|rQ P⟩,⟨rfl,.refl _,by simp[aK,az]⟩,⟨rfl,rfl,rfl,Ms (c:=sY) (λi hi=>by simp[lF]) λi hi=>?_,bP _<|uT _⟩,Of _⟩⟩;show(gw 1 sY<|kp A P k)[i]? = _;exact Bn hi
 intro _ _;refine sW ?_;refine⟨zo,?_⟩;rw[s2];refine sI ?_;refine sR ?_;refine dk (oK (jN 5 0 1 zs rfl rfl)<|oK (jN 5 1 1 zs rfl rfl)<|oK (jN 5 2 1 zs rfl rfl)<|jN 5 3 1 zs rfl rfl) ?_;refine fy [1,2,5,6,7,8,76] (λk:Nat=>[(77,ab k)]) (λk=>[.row true<|bx f,.row true [bC,bC,bC,bC,bC],.row false [aL A,.a8 3<|gi P],.vec false A0.length 1<|aE A,.vec false P.length 3<|gi P,.row true [.own 7 (stE A P f k).length 0 (stE A P f k).length,.own 8 k 0 k,.own 9 k 0 k,.own 10 k 0 k,bC],.vec true 0 1<|(kp A P N).map λl=>[aL l],.vec true (stE A P f k).length 1<|aE<|stE A P f k,.vec true k 1<|lI<|vh A P k,.vec true k 1<|sh<|leE A true k,.vec true k 1<|sh<|leE A false k]) (λk=>k<=N) (λk=>N-k) 0 ?_;refine gp ?_;rintro k hk;have pZ:=zyG A P f k;refine bl (λq0=>?_) λq0=>?_
 ·have q0:k<N:=sO;have hH:=HV A P hI k f Wv hTf;have eS:=zu6 A P f k;have hO:=zAc A P N3 k;have GW:k/2^A.length<NP:=(by rw[<-Dh];exact Qq<|by rw[CJ];exact q0);have dV:=zqe (A:=A) (P:=P) (s:=k) (by rw[CJ];exact q0);rw[CJ] at dV;have eN:=zt9 A P k;rw[<-Dh] at GW;have eT:=Ta A true k;have eF:=Ta A false k;have S1:=T8 A P N3 hI.atoms k true;have Vp:=T8 A P N3 hI.atoms k false;have s6:(tX A P (A.length+P.length) k).length<=1024:=(by have h:(tX A P (A.length+P.length) k).length<=2^(A.length+P.length):=Ai _ _;rw[CJ] at h;exact ia h QK);generalize tX A P (A.length+P.length) k=R at *;generalize fY A k true A.length=xT at *;generalize fY A k false A.length=xF at *;generalize k/2^A.length=v at *;have RP:=Hw R zo;refine sC hH ?_;cases r:dC (ff A P k) f
  ·rw[r,aa zc] at eS;refine sW ?_;refine sC hO ?_;refine sB ?_;refine⟨_,Se (i:=v) zo (by simpa using GW) dV,?_⟩;refine sW ?_;refine sE (nX RP (by simp[ao,Pure,c9]) (d:=.own 11 1 0 R.length) [11] rfl rfl (by simp[an.aO,bO,D.aO];rfl)) ?_;refine sJ ?_;refine sC S1 ?_;refine sJ ?_;refine sC Vp ?_;refine sJI ?_;refine⟨k+1,zo,zd,?_⟩;dsimp only;rw[eS,eN,eT,eF];try rw[show(stE A P f k++[(k:Int)]).length=(stE A P f k).length+1 by simp]
   (refine br 11 zs rfl ?_ ?_<;>(repeat' (first|exact trivial|exact rfl|exact bR.refl _|exact ck.refl _|exact cg.refl _|refine And.intro ?_ ?_|(simp[az,aK,bN,-List.map_take,-List.map_drop];done))))
   all_goals
    first|exact cu _ (iv _)|exact cp _ (c9 _)|exact cp _ Ew|exact bP _ (uT _)|exact bP _ (CT _)|exact bP _ (y4 _)|exact bP _ (cO _ (λl=>by simp[ao,Pure]) _)|exact bM (Fc zs)|exact EW zs rfl rfl rfl|exact bM (pT _ _)|skip
  rw[r,ae rfl] at eS;refine sWJ ?_;refine sC hO ?_;refine sB ?_;refine⟨_,Se (i:=v) zo (by simpa using GW) dV,?_⟩;refine sW ?_;refine sE (nX RP (by simp[ao,Pure,c9]) (d:=.own 12 1 0 R.length) [12] rfl rfl (by simp[an.aO,bO,D.aO];rfl)) ?_;refine sJ ?_;refine sC S1 ?_;refine sJ ?_;refine sC Vp ?_;refine sJI ?_;refine⟨k+1,zo,zd,?_⟩;dsimp only;rw[eS,eN,eT,eF];try rw[show(stE A P f k++[(k:Int)]).length=(stE A P f k).length+1 by simp]
  (refine br 11 zs rfl ?_ ?_<;>(repeat' (first|exact trivial|exact rfl|exact bR.refl _|exact ck.refl _|exact cg.refl _|refine And.intro ?_ ?_|(simp[az,aK,bN,-List.map_take,-List.map_drop];done))))
  all_goals
   first|exact cu _ (iv _)|exact cp _ (c9 _)|exact cp _ Ew|exact bP _ (uT _)|exact bP _ (CT _)|exact bP _ (y4 _)|exact bP _ (cO _ (λl=>by simp[ao,Pure]) _)|exact bM (Fc zs)|exact EW zs rfl rfl rfl|exact bM (pT _ _)|skip
 have q0:k=N:=by have:¬k<N:=sO
                 omega
 obtain rfl:N=k:=q0.symm;refine sR ?_;refine dk (jN 5 4 1 zs rfl rfl) ?_;refine fy [2,5,6,7,122,123] (λk:Nat=>[(124,ab k)]) (λk=>[.row true<|bx f,.row true [bC,bC,bC,bC,bC],.row false [aL A,.a8 3<|gi P],.vec false A0.length 1<|aE A,.vec false P.length 3<|gi P,.row true [.own 7 (stE A P f N).length 0 (stE A P f N).length,.own 8 N 0 N,.own 9 N 0 N,.own 10 N 0 N,.own 11 (mO A P (A.length+P.length) k).length 0 (mO A P (A.length+P.length) k).length],.vec true 0 1<|(kp A P N).map λl=>[aL l],.vec true (stE A P f N).length 1<|aE<|stE A P f N,.vec true N 1<|lI<|vh A P N,.vec true N 1<|sh<|leE A true N,.vec true N 1<|sh<|leE A false N,.vec true (mO A P (A.length+P.length) k).length 1<|lI<|mO A P (A.length+P.length) k]) (λk=>k<=P.length) (λk=>P.length-k) 0 ?_;refine sW ?_;rw[Fb];refine⟨zo,by exact sK,rfl,?_⟩;rintro k hk;have rZ:=Mw A P (A.length+P.length) k;refine bl (λq0=>?_) λq0=>?_
 ·have q0:k<P.length:=sO;have hg:=SW q0;obtain⟨hw,hk7⟩:=hI.wf _ hg;have X7:=hI.told _ hg;have eFa:=ZG A P (A.length+P.length) q0;have hsE:xG A P (A.length+P.length) (P.getD k default)=jD (mr A P<|P.getD k default) N:=(by unfold xG;rw[CJ]);refine sL (U6 (k:=k) zo q0) ?_;generalize P.getD k default=g at *;refine sS (λg7=>?_) λg7=>?_
  ·have g7:g.kind=7:=(by simpa using g7);rw[ae g7] at eFa;refine bJ ?_;refine⟨k+1,zo,zd,?_⟩;dsimp only;rw[eFa]
   (refine br 12 zs rfl ?_ ?_<;>(repeat' (first|exact trivial|exact rfl|exact bR.refl _|exact ck.refl _|exact cg.refl _|refine And.intro ?_ ?_|(simp[az,aK,bN,-List.map_take,-List.map_drop];done))))
   all_goals
    first|exact cu _ (iv _)|exact cp _ (c9 _)|exact cp _ Ew|exact bP _ (uT _)|exact bP _ (CT _)|exact bP _ (y4 _)|exact bP _ (cO _ (λl=>by simp[ao,Pure]) _)|exact bM (Fc zs)|exact EW zs rfl rfl rfl|exact bM (pT _ _)|skip
  have g7:¬g.kind=7:=(by simpa using g7);rw[aa g7,hsE] at eFa;have L5:=λs=>ZD A P hI s g hw X7 zo;refine⟨zo,?_⟩;rw[s2];refine sI ?_;refine dk (iF 14 1 zs rfl) ?_;refine fy [2,5,6,7,13,122,123,124,132] (λs:Nat=>[(14,.own 13 (jD (mr A P g) s).length 0 (jD (mr A P g) s).length),(133,ab s)]) (λs=>[.row true<|bx f,.row true [bC,bC,bC,bC,bC],.row false [aL A,.a8 3<|gi P],.vec false A0.length 1<|aE A,.vec false P.length 3<|gi P,.row true [.own 7 (stE A P f N).length 0 (stE A P f N).length,.own 8 N 0 N,.own 9 N 0 N,.own 10 N 0 N,.own 11 (mO A P (A.length+P.length) k).length 0 (mO A P (A.length+P.length) k).length],.vec true 0 1<|(kp A P N).map λl=>[aL l],.vec true (stE A P f N).length 1<|aE<|stE A P f N,.vec true N 1<|lI<|vh A P N,.vec true N 1<|sh<|leE A true N,.vec true N 1<|sh<|leE A false N,.vec true (mO A P (A.length+P.length) k).length 1<|lI<|mO A P (A.length+P.length) k,.row true<|bx g,.vec true (jD (mr A P g) s).length 1<|aE<|jD (mr A P g) s]) (λs=>s<=N) (λs=>N-s) 0 ?_;refine gp ?_;rintro s hs;have zPK:=Ai (mr A P g) s;refine bl (λq1=>?_) λq1=>?_
  ·have q1:s<N:=sO;have eG:=L6 (mr A P g) s;refine sC (L5 s) ?_;cases r:mr A P g s
   ·rw[r,aa zc] at eG;refine bJ ?_;refine⟨s+1,zo,zd,?_⟩;dsimp only;rw[eG];exact bf (by exact sK) rfl
   rw[r,ae rfl] at eG;refine mQ ?_;refine⟨s+1,zo,zd,?_⟩;dsimp only;rw[eG];rw[show(jD (mr A P g) s++[(s:Int)]).length=(jD (mr A P g) s).length+1 by simp]
   (refine br 14 zs rfl ?_ ?_<;>(repeat' (first|exact trivial|exact rfl|exact bR.refl _|exact ck.refl _|exact cg.refl _|refine And.intro ?_ ?_|(simp[az,aK,bN,-List.map_take,-List.map_drop];done))))
   all_goals
    first|exact cu _ (iv _)|exact cp _ (c9 _)|exact cp _ Ew|exact bP _ (uT _)|exact bP _ (CT _)|exact bP _ (y4 _)|exact bP _ (cO _ (λl=>by simp[ao,Pure]) _)|exact bM (Fc zs)|exact EW zs rfl rfl rfl|exact bM (pT _ _)|skip
  have q1:s=N:=by have:¬s<N:=sO
                  omega
  obtain rfl:N=s:=q1.symm;refine sJI ?_;refine⟨k+1,zo,zd,?_⟩;dsimp only;rw[eFa];rw[show(mO A P (A.length+P.length) k++[jD (mr A P g) N]).length=(mO A P (A.length+P.length) k).length+1 by simp]
  (refine br 12 zs rfl ?_ ?_<;>(repeat' (first|exact trivial|exact rfl|exact bR.refl _|exact ck.refl _|exact cg.refl _|refine And.intro ?_ ?_|(simp[az,aK,bN,-List.map_take,-List.map_drop];done))))
  all_goals
   first|exact cu _ (iv _)|exact cp _ (c9 _)|exact cp _ Ew|exact bP _ (uT _)|exact bP _ (CT _)|exact bP _ (y4 _)|exact bP _ (cO _ (λl=>by simp[ao,Pure]) _)|exact bM (Fc zs)|exact EW zs rfl rfl rfl|exact bM (pT _ _)|skip
 have q0:k=P.length:=by have:¬k<P.length:=sO
                        omega
 subst q0;have hE:=zyC A P f;rw[CJ] at hE;rw[hE];refine .aJ _ _ (.cons _ _ _ _ (.agg _ _ (.cons _ _ _ _ (.own _ _ _ _ _ _ _ _ rfl ?_) (.cons _ _ _ _ (.own _ _ _ _ _ _ _ _ rfl ?_) (.cons _ _ _ _ (.own _ _ _ _ _ _ _ _ rfl ?_) (.cons _ _ _ _ (.own _ _ _ _ _ _ _ _ rfl ?_) (.cons _ _ _ _ (.own _ _ _ _ _ _ _ _ rfl ?_) .nil)))))) (.cons _ _ _ _ (.refl _) .nil))
 ·exact EY<|by simp[aE]
 ·exact EY zs
 ·exact EY zs
 ·exact EY zs
 exact EY zs
theorem J8{p:aq}:bq (jD p n) n:=j9 λx hx=>by
 obtain⟨k,hk,rfl⟩:=cU.1 hx;have:=eW.1 (nG.1 hk).1;omega
theorem PV(P:List Tree)(f:Tree):(iL A P f).next.length=2^(A.length+P.length):=by simp[iL]
variable{A:af}
theorem zw9(h:A.length+P.length<=10)(f:Tree):(iL A P f).aV=0:=by
 have h2:=E4 h;have hn:=PV A P f;have hf:(iL A P f).fair.length<=P.length:=Mw _ _ _ _;unfold bZ.aV;rw[aa zo,aa ?_,aa ?_,aa ?_]
 ·rw[mP,oP];intro l hl;obtain⟨g,_,rfl⟩:=cU.1 hl;rw[hn,show bq (xG A P (A.length+P.length) g) (2^(A.length+P.length))=true from J8];decide
 ·rw[mP,oP];intro l hl;obtain⟨s,_,rfl⟩:=cU.1 hl;rw[hn,show bq (tX A P (A.length+P.length) s) (2^(A.length+P.length))=true from J8];decide
 rw[hn];simp only[iL,aS,List.length_range,ne_eq,not_true_eq_false,false_or];rw[J8];decide
theorem Wo(A:af)(s:Nat)(is:Bool):∀k,0<=fY A s is k/\fY A s is k<18446744073709551616
 |0=>by simp[fY]
 |k+1=>by
  rw[fY];split
  ·have e:gF .or .u64 (fY A s is k) (2^(A.getD k 0).toNat)=(((BitVec.ofInt 64 (fY A s is k) ||| BitVec.ofInt 64 (2^(A.getD k 0).toNat)).toNat:Nat):Int):=Cn _;rw[e];have:=(BitVec.ofInt 64 (fY A s is k) ||| BitVec.ofInt 64 (2^(A.getD k 0).toNat)).isLt;omega
  exact Wo A s is k
theorem zuk(h:A.length+P.length<=10)(f:Tree):(iL A P f).Fits/\(iL A P f).start.length<=1048576/\∀l∈(iL A P f).next,l.length<=1048576:=by
 have h2:=E4 h;have s1:(iL A P f).start.length<=2^(A.length+P.length):=Ai _ _;have s2:∀l∈(iL A P f).next,l.length<=2^(A.length+P.length):=λl hl=>by
  obtain⟨s,_,rfl⟩:=cU.1 hl;exact Ai _ _
 have s3:∀l∈(iL A P f).fair,l.length<=2^(A.length+P.length):=λl hl=>by
  obtain⟨s,_,rfl⟩:=cU.1 hl;exact Ai _ _
 have hf:(iL A P f).fair.length<=P.length:=Mw _ _ _ _;have hn:=PV A P f;have hm:(iL A P f).kq.length=2^(A.length+P.length):=by simp[iL]
 have hm2:(iL A P f).lC.length=2^(A.length+P.length):=by simp[iL]
 exact⟨⟨zo,zo,zo,zo,zo,λl hl=>by have:=s2 l hl;omega,λl hl=>by have:=s3 l hl;omega⟩,zo,λl hl=>by have:=s2 l hl;omega⟩
noncomputable def fS(t:Tree):Int:=if (m7 (aW 4 t)<|da<|aW 4 t).2=0 then if 10<(nQ<|dQ<|da<|aW 4 t).length+(dP []<|partsOf<|da<|aW 4 t).length then 2 else 0 else (m7 (aW 4 t)<|da<|aW 4 t).2
noncomputable def b6(t:Tree):bZ:=if fS t=0 then iL (nQ<|dQ<|da<|aW 4 t) (dP []<|partsOf<|da<|aW 4 t)<|da<|aW 4 t else Xh
theorem ztQ(t:Tree):AX (aW 4 t)=.aJ [rk<|b6 t,ab<|fS t]:=by
 unfold AX b6 fS Ho;by_cases h:(m7 (aW 4 t)<|da<|aW 4 t).2=0
 ·simp only[ae h];by_cases q:10<(nQ<|dQ<|da<|aW 4 t).length+(dP []<|partsOf<|da<|aW 4 t).length
  ·simp only[ae q];rw[aa zc];rfl
  simp only[aa q];rfl
 simp only[aa h]
theorem Ni(h:fS t=0):(nQ<|dQ<|da<|aW 4 t).length+(dP []<|partsOf<|da<|aW 4 t).length<=10:=by
 unfold fS at h;split at h
 ·split at h
  ·exact absurd h zc
  omega
 rename_i q;exact absurd h q
theorem M6(h:fS t=0):b6 t=iL (nQ<|dQ<|da<|aW 4 t) (dP []<|partsOf<|da<|aW 4 t) (da<|aW 4 t):=ae h
theorem xq{W:ba}(hW:W.Fits)(hc:W.aV=0)(s1:W.start.length<=1048576)(r1:∀l∈W.next,l.length<=1048576)(h:fS t=0):mD W<|b6 t:=by
 have hf:=Ni h;rw[M6 h];obtain⟨h1,h2,h3⟩:=zuk hf<|da<|aW 4 t;exact⟨⟨hW,h1,hc,zw9 hf _⟩,s1,h2,r1,h3⟩
end Go.Proofs.YtaalipopcddnjaaGreatDoor
