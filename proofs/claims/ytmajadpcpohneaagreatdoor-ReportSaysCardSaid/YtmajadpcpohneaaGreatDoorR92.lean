/-
  Parts of a proof, joined. No statement is proved here.
-/
import Derived.Test.YtmajadpcpohneaaGreatDoorR91
import Derived.WalkKit
import Derived.Test.YtmajadpcpohneaaGreatDoorProg
import Derived.DeepKeys4
import Derived.Test.YtmajadpcpohneaaGreatDoorR90
namespace Go.Proofs.YtmajadpcpohneaaGreatDoor
set_option linter.unusedSimpArgs false
set_option linter.unusedVariables false
set_option maxRecDepth 100000
set_option maxHeartbeats 8000000
set_option linter.unusedSectionVars false
open Go.RowKit
abbrev bP:=Int×Int×Int
def qR:Nat->Int
 |0=>0
 |k+1=>qR k*2+1
theorem IT:∀k,qR k+1=2^k
 |0=>rfl
 |k+1=>by have:=IT k;simp only[qR];rw[Int.pow_succ];omega
variable{k n:Nat}
theorem Fo(h:k<=n):(2:Int)^k<=2^n:=by
 have:=Bq (n:=2) zc h
 grind
theorem JO(k:Nat):(1:Int)<=2^k:=Fo<|kZ k
theorem En(h:k<=n):0<=qR k/\qR k<=qR n:=by
 have h1:=IT k;have h2:=IT n;have h3:=Fo h;have h4:=JO k;omega
def orS(n:Int):Nat->List bP
 |0=>[]
 |k+1=>orS n k++[(n,-1,(k:Int)+1)]
def xB(n i:Int):Nat->List bP
 |0=>[]
 |k+1=>xB n i k++[(n,i,2^k)]
theorem X3(n:Int):∀k,(orS n k).length=k
 |0=>rfl
 |k+1=>by simp[orS,X3 n k]
theorem SZ(n i:Int):∀k,(xB n i k).length=k
 |0=>rfl
 |k+1=>by simp[xB,SZ n i k]
namespace af
def fV(P:af)(n:Int):Int:=qR (P.cn n).length
def nz(P:af)(k:Int)(n i:Int):List bP:=if k=5 then xB n i (P.cn n).length else [(n,i,P.fV n)]
def kK(P:af)(k:Int)(n:Int):Nat->List bP
 |0=>[]
 |j+1=>P.kK k n j++P.nz k n ((P.bE n).getD j 0)
def uV(P:af)(n:Nat):List bP :=
 if P.kind n=4\/P.kind n=5\/P.kind n=2\/P.kind n=3 then P.kK (P.kind n) n (P.bE n).length
 else if P.kind n=6 then [((n:Int),-1,P.fV n)]
 else if P.kind n=7 then orS n (P.fV n).toNat
 else []
def nN(P:af):Nat->List bP
 |0=>[]
 |n+1=>P.nN n++P.uV n
theorem Bc(P:af)(k n:Int)(ho:(P.cn n).length<=30):∀j,(P.kK k n j).length<=30*j
 |0=>by simp[kK]
 |j+1=>by
  have:=Bc P k n ho j;simp only[kK,nz,cL];split
  ·rw[SZ];omega
  simp;omega
variable{P:af}
theorem MO(h:P.oC n)(hk:P.kind n=7):(P.fV n).toNat<=15:=by
 unfold oC BF at h;rw[hk] at h;simp only[if_false,if_true,gr,ja,(by decide:¬(7:Int)=1),(by decide:¬((7:Int)=2\/(7:Int)=3)),(by decide:¬(7:Int)=4)] at h;have:=(En (k:=(P.cn n).length) (n:=4) zo).2;have e:qR 4=15:=rfl;unfold fV;omega
theorem Ma(h:P.oC n)(hf:P.aH.length<=30):(P.uV n).length<=900:=by
 have l1:=P.CS n;have l2:=P.Cz n;unfold uV;split
 ·have:=P.Bc (P.kind n) n zo (P.bE n).length;omega
 split
 ·simp
 split
 ·rw[X3];have:=MO h (by assumption);omega
 simp
theorem Na{P:af}(hf:P.aH.length<=30):∀n,(∀i,i<n->P.oC i)->(P.nN n).length<=900*n
 |0,_=>by simp[nN]
 |n+1,h=>by
  have:=Na hf n λi hi=>h i zo;have:=Ma (h n zo) hf;simp only[nN,cL];omega
theorem Mc(h:P.aU=0):∀i,i<P.nodes.length->P.oC i:=by
 unfold aU at h;repeat grind
noncomputable def ew(P:af):Int:=if P.aU≠0 then P.aU else if 60<(P.nN P.nodes.length).length then 2 else 0
noncomputable def aR(P:af):List bP:=if P.ew=0 then P.nN P.nodes.length else []
end af
section
def wG(x:bP):bj:=[aa x.1,aa x.2.1,aa x.2.2]
def ic(l:List bP):fc:=l.map wG
def jx(l:List bP):D:=.aM 3<|ic l
@[simp] theorem ztQ(x:bP):aA<|wG x:=by simp[wG,aA,Pure]
variable(l:List bP)
@[simp] theorem Wj:dF<|ic l:=c6 _ ztQ l
@[simp] theorem Dx:Pure<|jx l:=by simp[jx,Pure,Wj]
theorem BD:(ic l).length=l.length:=by simp[ic]
@[simp] theorem zya{m:Nat}:bB m (ic l)↔True:=⟨λ_=>trivial,λ_=>bm _<|Wj l⟩
variable{l:List bP}{c:Nat}{z:Int}
theorem ve{x y:Int}(h:c=l.length):List.drop 0 (List.take c<|ic l)++[[aa x,aa y,aa z]]=ic (l++[(x,y,z)]):=by
 subst h;rw[cB<|by simp[ic]];simp[ic,wG]
theorem zw9{r:List bP}(h:c=l.length):List.drop 0 (List.take c<|ic l)++ic r=ic (l++r):=by
 subst h;rw[cB<|by simp[ic]];simp[ic]
theorem zr{H:aE}{id v:Nat}{q:Bool}(hn:n=l.length)(h:H[id]? = some (.vec q v 3<|ic l)):Deep H (.own id v 0 n)<|jx l:=by
 subst hn;exact .own _ _ _ _ _ _ _ _ h<|by rw[cB<|by simp[ic]];exact gw _
theorem Ov(hk:z=k)(h:k<=30):(1:Int)*2^min z.toNat IntKind.i64.bits=2^k:=by
 subst hk;show(1:Int)*2^min (k:Int).toNat 64=2^k
 grind
theorem LW(h:k<=30):(1:Int)<=2^k/\(2:Int)^k<=1073741824:=⟨JO k,Fo (n:=30) h⟩
theorem zwm(P:af)(hP:P.Fits)(h0:P.aU=0)(n:Nat)(hn:n<P.nodes.length):ao aj 24 [b7 P,aa n]<|jx<|P.uV n:=by
 obtain⟨lq,lk⟩:=jo h0;have l1:=P.CS n;have l2:=P.Cz n;have hE:P.mV n=0:=by unfold af.mV;rw[ab zo,ab zo]
 have hI:=Ih P hP n;have hO:=Vn P hP n;rw[show P.zO n=P.bE n from by unfold af.zO;rw[ae hE],hE] at hI;rw[show P.AE n=P.cn n from by unfold af.AE;rw[ae hE],hE] at hO;have az:=af.Mc h0 n hn;refine bt ?_;refine sC hI ?_;refine sC hO ?_;have e2:=IT (P.cn n).length;have e3:=LW (k:=(P.cn n).length) zo;have ea:qR (P.cn n).length=P.fV n:=rfl;have ei:∀k,P.kK (P.kind n) n (k+1)=P.kK (P.kind n) n k++P.nz (P.kind n) n ((P.bE n).getD k 0):=λk=>rfl;rw[ea] at e2;refine⟨zo,?_⟩;rw[aI,Ov (k:=(P.cn n).length) rfl zo];refine sI ?_;refine sI ?_;rw[<-e2,Int.add_sub_cancel];refine sL (jv P (k:=n) zo hn) ?_
 have eS:P.uV n=if P.kind n=4\/P.kind n=5\/P.kind n=2\/P.kind n=3 then P.kK (P.kind n) n (P.bE n).length
  else if P.kind n=6 then [((n:Int),-1,P.fV n)] else if P.kind n=7 then orS n (P.fV n).toNat else []:=rfl
 refine sS (λh4=>?_) λh4=>?_
 ·have h4:P.kind n=4:=sO;rw[ae zo] at eS;have e5:∀i:Int,P.nz (P.kind n) n i=[((n:Int),i,P.fV n)]:=λi=>by unfold af.nz;rw[ab zo]
  refine sW ?_;rw[aI];refine bQ (eo 10 3 zs rfl) ?_;refine bb [1,9,43,44] (λ((k,c,l):Nat×Nat×List bP)=>[(10,.own 1 c 0 c),(45,aa k)]) (λ(k,c,l)=>[(1,.vec true c 3<|ic l)]) (λ(k,c,l)=>k<=(P.bE n).length/\c=l.length/\c=k/\l=P.kK (P.kind n) n k) (λ(k,c,l)=>(P.bE n).length-k) (0,0,[]) ?_;refine sW ?_;refine⟨⟨zo,rfl,rfl,rfl⟩,by exact sK,rfl,?_⟩;rintro⟨k,c,l⟩ ⟨hk,hc,lH,hl⟩;refine bf (λh1=>?_) λh1=>?_
  ·have ai:k<(P.bE n).length:=sO;refine sL (bV (k:=k) zo ai) ?_;refine ee ?_;refine⟨(k+1,c+1,l++[((n:Int),(P.bE n).getD k 0,P.fV n)]),⟨zo,by simp[hc],zo,by rw[ei,e5,hl]⟩,zd,?_⟩;refine aL 2 zs rfl sQ (sU ?_);exact aV<|ve hc
  have ai:k=(P.bE n).length:=by have:¬k<(P.bE n).length:=sO
                                omega
  subst ai;rw[eS,<-hl];exact zr hc rfl
 have h4:P.kind n≠4:=sO;refine sS (λh2=>?_) λh2=>?_
 ·have h2:P.kind n=2:=sO;rw[ae zo] at eS;have e5:∀i:Int,P.nz (P.kind n) n i=[((n:Int),i,P.fV n)]:=λi=>by unfold af.nz;rw[ab zo]
  refine sW ?_;rw[aI];refine bQ (eo 10 3 zs rfl) ?_;refine bb [1,9,43,44] (λ((k,c,l):Nat×Nat×List bP)=>[(10,.own 1 c 0 c),(45,aa k)]) (λ(k,c,l)=>[(1,.vec true c 3<|ic l)]) (λ(k,c,l)=>k<=(P.bE n).length/\c=l.length/\c=k/\l=P.kK (P.kind n) n k) (λ(k,c,l)=>(P.bE n).length-k) (0,0,[]) ?_;refine sW ?_;refine⟨⟨zo,rfl,rfl,rfl⟩,by exact sK,rfl,?_⟩;rintro⟨k,c,l⟩ ⟨hk,hc,lH,hl⟩;refine bf (λh1=>?_) λh1=>?_
  ·have ai:k<(P.bE n).length:=sO;refine sL (bV (k:=k) zo ai) ?_;refine ee ?_;refine⟨(k+1,c+1,l++[((n:Int),(P.bE n).getD k 0,P.fV n)]),⟨zo,by simp[hc],zo,by rw[ei,e5,hl]⟩,zd,?_⟩;refine aL 2 zs rfl sQ (sU ?_);exact aV<|ve hc
  have ai:k=(P.bE n).length:=by have:¬k<(P.bE n).length:=sO
                                omega
  subst ai;rw[eS,<-hl];exact zr hc rfl
 have h2:P.kind n≠2:=sO;refine sS (λh3=>?_) λh3=>?_
 ·have h3:P.kind n=3:=sO;rw[ae zo] at eS;have e5:∀i:Int,P.nz (P.kind n) n i=[((n:Int),i,P.fV n)]:=λi=>by unfold af.nz;rw[ab zo]
  refine sW ?_;rw[aI];refine bQ (eo 10 3 zs rfl) ?_;refine bb [1,9,43,44] (λ((k,c,l):Nat×Nat×List bP)=>[(10,.own 1 c 0 c),(45,aa k)]) (λ(k,c,l)=>[(1,.vec true c 3<|ic l)]) (λ(k,c,l)=>k<=(P.bE n).length/\c=l.length/\c=k/\l=P.kK (P.kind n) n k) (λ(k,c,l)=>(P.bE n).length-k) (0,0,[]) ?_;refine sW ?_;refine⟨⟨zo,rfl,rfl,rfl⟩,by exact sK,rfl,?_⟩;rintro⟨k,c,l⟩ ⟨hk,hc,lH,hl⟩;refine bf (λh1=>?_) λh1=>?_
  ·have ai:k<(P.bE n).length:=sO;refine sL (bV (k:=k) zo ai) ?_;refine ee ?_;refine⟨(k+1,c+1,l++[((n:Int),(P.bE n).getD k 0,P.fV n)]),⟨zo,by simp[hc],zo,by rw[ei,e5,hl]⟩,zd,?_⟩;refine aL 2 zs rfl sQ (sU ?_);exact aV<|ve hc
  have ai:k=(P.bE n).length:=by have:¬k<(P.bE n).length:=sO
                                omega
  subst ai;rw[eS,<-hl];exact zr hc rfl
 have h3:P.kind n≠3:=sO;refine sS (λh5=>?_) λh5=>?_
 ·have h5:P.kind n=5:=sO;rw[ae zo] at eS;have e5:∀i:Int,P.nz (P.kind n) n i=xB n i (P.cn n).length:=λi=>by unfold af.nz;rw[ae h5]
  refine sW ?_;rw[aI];refine bQ (eo 10 3 zs rfl) ?_;refine bb [1,7,59,60] (λ((k,c,l):Nat×Nat×List bP)=>[(10,.own 1 c 0 c),(61,aa k)]) (λ(k,c,l)=>[(1,.vec true c 3<|ic l)]) (λ(k,c,l)=>k<=(P.bE n).length/\c=l.length/\l=P.kK (P.kind n) n k) (λ(k,c,l)=>(P.bE n).length-k) (0,0,[]) ?_;refine sW ?_;refine⟨⟨zo,rfl,rfl⟩,by exact sK,rfl,?_⟩;rintro⟨k,c,l⟩ ⟨hk,hc,hl⟩;refine bf (λh1=>?_) λh1=>?_
  ·have ai:k<(P.bE n).length:=sO;refine sL (bV (k:=k) zo ai) ?_;rw[aI];have b1:=P.Bc (P.kind n) n zo k;have b2:l.length=(P.kK (P.kind n) n k).length:=(by rw[hl]);refine bb [1,7,14,59,60,61,66] (λ((j,c',m):Nat×Nat×List bP)=>[(10,.own 1 c' 0 c'),(67,aa j)]) (λ(j,c',m)=>[(1,.vec true c' 3<|ic m)]) (λ(j,c',m)=>j<=(P.cn n).length/\c'=m.length/\c'=l.length+j/\m=l++xB n ((P.bE n).getD k 0) j) (λ(j,c',m)=>(P.cn n).length-j) (0,c,l) ?_;refine sW ?_;refine⟨⟨zo,hc,hc,(lv l).symm⟩,by exact sK,rfl,?_⟩;rintro⟨j,c',m⟩ ⟨hj,gb,hcj,hm⟩;refine bf (λh6=>?_) λh6=>?_
   ·have de:j<(P.cn n).length:=sO;refine⟨zo,?_⟩;rw[Ov (k:=j) rfl zo];have e4:=LW (k:=j) zo;refine sI ?_;refine ee ?_;refine⟨(j+1,c'+1,m++[((n:Int),(P.bE n).getD k 0,2^j)]),⟨zo,by simp[gb],zo,by rw[hm,ig];rfl⟩,zd,?_⟩;refine aL 2 zs rfl sQ (sU ?_);exact aV<|ve gb
   have de:j=(P.cn n).length:=by have:¬j<(P.cn n).length:=sO
                                 omega
   subst de;refine sI ?_;refine⟨(k+1,c',m),⟨zo,gb,by rw[ei,e5,hm,hl]⟩,zd,?_⟩;exact aL 2 zs rfl sQ sQ
  have ai:k=(P.bE n).length:=by have:¬k<(P.bE n).length:=sO
                                omega
  subst ai;rw[eS,<-hl];exact zr hc rfl
 have h5:P.kind n≠5:=sO;rw[ab zo] at eS;refine sS (λh6=>?_) λh6=>?_
 ·have h6:P.kind n=6:=sO;rw[ae h6] at eS;refine sJ ?_;rw[eS];exact zr (l:=[((n:Int),-1,P.fV n)]) rfl rfl
 rw[ab<|sO] at eS;refine sS (λh7=>?_) λh7=>?_
 ·have h7:P.kind n=7:=sO;rw[ae h7] at eS;have b3:=af.MO az h7;have b4:=(En<|aS (P.cn n).length).1;rw[ea] at b4;refine bQ (eo 10 3 zs rfl) ?_;refine bb [1,9] (λ((k,c,l):Nat×Nat×List bP)=>[(10,.own 1 c 0 c),(16,aa<|(k:Int)+1)]) (λ(k,c,l)=>[(1,.vec true c 3<|ic l)]) (λ(k,c,l)=>k<=(P.fV n).toNat/\c=l.length/\c=k/\l=orS n k) (λ(k,c,l)=>(P.fV n).toNat-k) (0,0,[]) ?_;refine sW ?_;refine⟨⟨zo,rfl,rfl,rfl⟩,by exact sK,rfl,?_⟩;rintro⟨k,c,l⟩ ⟨hk,hc,lH,hl⟩;refine bf (λh1=>?_) λh1=>?_
  ·have ai:k<(P.fV n).toNat:=sO;refine ee ?_;refine⟨(k+1,c+1,l++[((n:Int),-1,(k:Int)+1)]),⟨zo,by simp[hc],zo,by rw[hl];rfl⟩,zd,?_⟩;refine aL 2 zs rfl sQ (sU ?_);exact aV<|ve hc
  have ai:k=(P.fV n).toNat:=by have:¬k<(P.fV n).toNat:=sO
                               omega
  subst ai;rw[eS,<-hl];exact zr hc rfl
 rw[ab<|sO] at eS;rw[eS];exact .none _
end
section
theorem zAb{l:List bP}{z:Nat}(hz:z=k)(h:k<l.length):(ic l)[z]? = some (wG l[k]):=by
 subst hz;unfold ic
 grind
theorem AQ(P:af)(hP:P.Fits):ao aj 7 [b7 P] (.aJ [jx P.aR,aa P.ew]):=by
 refine bS fZ ?_;have bad:∀{H:aE} {e:Int},e≠0->P.ew=e->Deep H (.aJ [au,aa e]) (.aJ [jx P.aR,aa P.ew]):=λh k=>by
  have:P.aR=[]:=by unfold af.aR;rw[ab<|by rw[k];exact h]
  rw[k,this];exact .aJ _ _ (.cons _ _ _ _ (.none _) (.cons _ _ _ _ (.refl _) .nil))
 refine sR ?_;refine sC (Ty P hP) ?_;refine sS (λh1=>?_) λh1=>?_
 ·have h1:P.aU≠0:=sO;exact bad h1<|by unfold af.ew;rw[ae h1]
 have h0:P.aU=0:=sO;obtain⟨lq,lk⟩:=jo h0;have bR:=af.Mc h0;have e1:P.ew=if 60<(P.nN P.nodes.length).length then 2 else 0:=by unfold af.ew;rw[ab zo]
 rw[aI];refine bQ (eo 5 3 zs rfl) ?_;refine bb [1,14] (λ((k,c,l):Nat×Nat×List bP)=>[(5,.own 1 k 0 c),(15,aa k)]) (λ(k,c,l)=>[(1,.vec true k 3<|ic l)]) (λ(k,c,l)=>k<=P.nodes.length/\c=l.length/\l=P.nN k) (λ(k,c,l)=>P.nodes.length-k) (0,0,[]) ?_;refine sW ?_;refine⟨⟨zo,rfl,rfl⟩,by exact sK,rfl,?_⟩;rintro⟨k,c,l⟩ ⟨hk,hc,hl⟩;refine bf (λh2=>?_) λh2=>?_
 ·have ai:k<P.nodes.length:=sO;have b1:=af.Na lk k λi hi=>bR i zo;have b2:=af.Ma (bR k ai) lk;have b3:l.length=(P.nN k).length:=(by rw[hl]);refine sC (zwm P hP h0 k ai) ?_;refine⟨(by unfold iF;rw[BD];omega),?_⟩;refine aQ ?_;refine⟨(k+1,c+(ic<|P.uV k).length,l++P.uV k),⟨zo,by simp[hc,BD],by rw[hl];rfl⟩,zd,?_⟩;refine aL 2 zs rfl sQ (sU ?_);exact aV<|zw9 hc
 have ai:k=P.nodes.length:=by have:¬k<P.nodes.length:=sO
                              omega
 subst ai;have b3:l.length=(P.nN P.nodes.length).length:=by rw[hl]
 refine sS (λh3=>?_) λh3=>?_
 ·exact bad zc<|by rw[e1,ae<|sO]
 have e2:P.ew=0:=by rw[e1,ab<|sO]
 have e3:P.aR=l:=by unfold af.aR;rw[ae e2,hl]
 rw[e2,e3];exact .aJ _ _ (.cons _ _ _ _ (zr hc rfl) (.cons _ _ _ _ (.refl _) .nil))
end
section
theorem J6(P:af)(hP:P.Fits):ao aj 15 [b7 P] (.aJ [jx P.aR,aa P.ew]):=by
 refine bS fZ ?_;have bad:∀{H:aE} {e:Int},e≠0->P.ew=e->Deep H (.aJ [au,aa e]) (.aJ [jx P.aR,aa P.ew]):=λh k=>by
  have:P.aR=[]:=by unfold af.aR;rw[ab<|by rw[k];exact h]
  rw[k,this];exact .aJ _ _ (.cons _ _ _ _ (.none _) (.cons _ _ _ _ (.refl _) .nil))
 refine sR ?_;refine sC (znS P hP) ?_;refine sS (λh1=>?_) λh1=>?_
 ·have h1:P.aU≠0:=sO;exact bad h1<|by unfold af.ew;rw[ae h1]
 have h0:P.aU=0:=sO;obtain⟨lq,lk⟩:=jo h0;have bR:=af.Mc h0;have e1:P.ew=if 60<(P.nN P.nodes.length).length then 2 else 0:=by unfold af.ew;rw[ab zo]
 refine bQ (eo 5 3 zs rfl) ?_;refine bb [1] (λ((n,c,l):Nat×Nat×List bP)=>[(5,.own 1 c 0 c),(6,aa n)]) (λ(n,c,l)=>[(1,.vec true c 3<|ic l)]) (λ(n,c,l)=>n<=P.nodes.length/\c=l.length/\l=P.nN n) (λ(n,c,l)=>P.nodes.length-n) (0,0,[]) ?_;refine sW ?_;refine⟨⟨zo,rfl,rfl⟩,by exact sK,rfl,?_⟩;rintro⟨n,c,l⟩ ⟨hn,hc,hl⟩;refine ck ?_;rw[aI];refine sS (λh2=>?_) λh2=>?_
 ·have du:n<P.nodes.length:=sO;have b1:=af.Na lk n λi hi=>bR i zo;have b2:=af.Ma (bR n du) lk;have b3:l.length=(P.nN n).length:=(by rw[hl]);have l1:=P.CS n;have l2:=P.Cz n
  have eS:P.uV n=if P.kind n=4\/P.kind n=5\/P.kind n=2\/P.kind n=3 then P.kK (P.kind n) n (P.bE n).length
   else if P.kind n=6 then [((n:Int),-1,P.fV n)] else if P.kind n=7 then orS n (P.fV n).toNat else []:=rfl
  have eT:P.nN (n+1)=P.nN n++P.uV n:=rfl;have ei:∀k,P.kK (P.kind n) n (k+1)=P.kK (P.kind n) n k++P.nz (P.kind n) n ((P.bE n).getD k 0):=λk=>rfl;have ea:qR (P.cn n).length=P.fV n:=rfl;have e30:qR 30=1073741823:=rfl;refine sC (Mz P hP zo n) ?_;refine sC (Oz P hP zo n) ?_;rw[aI];refine bb [1,5,6,7,8] (λk:Nat=>[(9,aa<|qR k),(10,aa k)]) (λ_=>[]) (λk=>k<=(P.cn n).length) (λk=>(P.cn n).length-k) 0 ?_;refine dd ?_;rintro k hk;refine bf (λh3=>?_) λh3=>?_
  ·have ai:k<(P.cn n).length:=sO;have o1:=En (k:=k) (n:=30) zo;have o2:=En (k:=k+1) (n:=30) zo;have o3:qR (k+1)=qR k*2+1:=rfl;refine sI ?_;refine sI ?_;refine sI ?_;refine⟨k+1,zo,zd,aC (by exact sK) rfl⟩
  have ai:k=(P.cn n).length:=by have:¬k<(P.cn n).length:=sO
                                omega
  subst ai;rw[ea];refine sL (jv P (k:=n) zo du) ?_;refine sS (λh4=>?_) λh4=>?_
  ·have h4:P.kind n=4:=sO;rw[ae zo] at eS;refine sW ?_;refine bb [1,6,7,8,9] (λ((i,c',m):Nat×Nat×List bP)=>[(5,.own 1 c' 0 c'),(11,aa i)]) (λ(i,c',m)=>[(1,.vec true c' 3<|ic m)]) (λ(i,c',m)=>i<=(P.bE n).length/\c'=m.length/\m=l++P.kK (P.kind n) n i) (λ(i,c',m)=>(P.bE n).length-i) (0,c,l) ?_;refine sW ?_;refine⟨⟨zo,hc,(lv l).symm⟩,by exact sK,rfl,?_⟩;rintro⟨i,c',m⟩ ⟨hi,gb,hm⟩;refine ck ?_;rw[aI];have b4:=P.Bc (P.kind n) n zo i;have b5:m.length=l.length+(P.kK (P.kind n) n i).length:=(by rw[hm,cL]);refine sS (λA4=>?_) λA4=>?_
   ·have aT:i<(P.bE n).length:=sO;refine sL (jv P (k:=n) zo du) ?_;have b9:(P.kind n != 5)=true:=(by simp;omega);have heq:(P.kind n==5)=false:=(by simp;omega);rw[b9];refine sW ?_;refine sL (bV (k:=i) zo aT) ?_;refine sJ ?_;have e5:∀i:Int,P.nz (P.kind n) n i=[((n:Int),i,P.fV n)]:=λi=>by unfold af.nz;rw[ab zo]
    refine bb [1,6,7,8,9,11] (λ_:Unit=>[(5,.own 1 (c'+1) 0<|c'+1),(12,aa 0)]) (λ_=>[(1,.vec true (c'+1) 3<|ic<|m++[((n:Int),(P.bE n).getD i 0,P.fV n)])]) (λ_=>True) (λ_=>0) () ?_;refine sW ?_;refine⟨trivial,by exact sK,by rw[<-ve gb];rfl,?_⟩;rintro⟨⟩ -
    refine bf (λh6=>?_) λh6=>?_
    ·refine sL (jv P (k:=n) zo du) ?_;rw[heq];refine aQ ?_;refine⟨(i+1,c'+1,m++[((n:Int),(P.bE n).getD i 0,P.fV n)]),⟨zo,by simp[gb],by rw[ei,e5,hm,ig]⟩,zd,?_⟩;exact aL 2 zs rfl sQ sQ
    skip
    refine sI ?_;refine⟨(i+1,c'+1,m++[((n:Int),(P.bE n).getD i 0,P.fV n)]),⟨zo,by simp[gb],by rw[ei,e5,hm,ig]⟩,zd,?_⟩;exact aL 2 zs rfl sQ sQ
   have aT:i=(P.bE n).length:=by have:¬i<(P.bE n).length:=sO
                                 omega
   subst aT;refine sI ?_;refine⟨(n+1,c',m),⟨zo,gb,by rw[eT,eS,<-hl,hm]⟩,zd,?_⟩;exact aL 2 zs rfl sQ sQ
  have h4:P.kind n≠4:=sO;refine sS (λh5=>?_) λh5=>?_
  ·have h5:P.kind n=5:=sO;rw[ae zo] at eS;refine sW ?_;refine bb [1,6,7,8,9] (λ((i,c',m):Nat×Nat×List bP)=>[(5,.own 1 c' 0 c'),(11,aa i)]) (λ(i,c',m)=>[(1,.vec true c' 3<|ic m)]) (λ(i,c',m)=>i<=(P.bE n).length/\c'=m.length/\m=l++P.kK (P.kind n) n i) (λ(i,c',m)=>(P.bE n).length-i) (0,c,l) ?_;refine sW ?_;refine⟨⟨zo,hc,(lv l).symm⟩,by exact sK,rfl,?_⟩;rintro⟨i,c',m⟩ ⟨hi,gb,hm⟩;refine ck ?_;rw[aI];have b4:=P.Bc (P.kind n) n zo i;have b5:m.length=l.length+(P.kK (P.kind n) n i).length:=(by rw[hm,cL]);refine sS (λA4=>?_) λA4=>?_
   ·have aT:i<(P.bE n).length:=sO;refine sL (jv P (k:=n) zo du) ?_;have b9:(P.kind n != 5)=false:=(by simp;omega);have heq:(P.kind n==5)=true:=(by simp;omega);rw[b9];refine sW ?_;have e5:∀i:Int,P.nz (P.kind n) n i=xB n i (P.cn n).length:=λi=>by unfold af.nz;rw[ae h5]
    refine bb [1,6,7,8,9,11] (λ((j,d,q):Nat×Nat×List bP)=>[(5,.own 1 d 0 d),(12,aa j)]) (λ(j,d,q)=>[(1,.vec true d 3<|ic q)]) (λ(j,d,q)=>j<=(P.cn n).length/\d=q.length/\d=m.length+j/\q=m++xB n ((P.bE n).getD i 0) j) (λ(j,d,q)=>(P.cn n).length-j) (0,c',m) ?_;refine sW ?_;refine⟨⟨zo,gb,gb,(lv m).symm⟩,by exact sK,rfl,?_⟩;rintro⟨j,d,q⟩ ⟨hj,hd,hdj,hq⟩;refine bf (λh6=>?_) λh6=>?_
    ·have de:j<(P.cn n).length:=sO;refine sL (jv P (k:=n) zo du) ?_;rw[heq];refine sW ?_;refine sL (bV (k:=i) zo aT) ?_;refine⟨zo,?_⟩;rw[Ov (k:=j) rfl zo];have e4:=LW (k:=j) zo;refine sI ?_;refine ee ?_;refine⟨(j+1,d+1,q++[((n:Int),(P.bE n).getD i 0,2^j)]),⟨zo,by simp[hd],zo,by rw[hq,ig];rfl⟩,zd,?_⟩;refine aL 2 zs rfl sQ (sU ?_);exact aV<|ve hd
    have de:j=(P.cn n).length:=by have:¬j<(P.cn n).length:=sO
                                  omega
    subst de;refine sI ?_;refine⟨(i+1,d,q),⟨zo,hd,by rw[ei,e5,hq,hm,ig]⟩,zd,?_⟩;exact aL 2 zs rfl sQ sQ
   have aT:i=(P.bE n).length:=by have:¬i<(P.bE n).length:=sO
                                 omega
   subst aT;refine sI ?_;refine⟨(n+1,c',m),⟨zo,gb,by rw[eT,eS,<-hl,hm]⟩,zd,?_⟩;exact aL 2 zs rfl sQ sQ
  have h5:P.kind n≠5:=sO;refine sS (λh6=>?_) λh6=>?_
  ·have h6:P.kind n=2:=sO;rw[ae zo] at eS;refine sW ?_;refine bb [1,6,7,8,9] (λ((i,c',m):Nat×Nat×List bP)=>[(5,.own 1 c' 0 c'),(11,aa i)]) (λ(i,c',m)=>[(1,.vec true c' 3<|ic m)]) (λ(i,c',m)=>i<=(P.bE n).length/\c'=m.length/\m=l++P.kK (P.kind n) n i) (λ(i,c',m)=>(P.bE n).length-i) (0,c,l) ?_;refine sW ?_;refine⟨⟨zo,hc,(lv l).symm⟩,by exact sK,rfl,?_⟩;rintro⟨i,c',m⟩ ⟨hi,gb,hm⟩;refine ck ?_;rw[aI];have b4:=P.Bc (P.kind n) n zo i;have b5:m.length=l.length+(P.kK (P.kind n) n i).length:=(by rw[hm,cL]);refine sS (λA4=>?_) λA4=>?_
   ·have aT:i<(P.bE n).length:=sO;refine sL (jv P (k:=n) zo du) ?_;have b9:(P.kind n != 5)=true:=(by simp;omega);have heq:(P.kind n==5)=false:=(by simp;omega);rw[b9];refine sW ?_;refine sL (bV (k:=i) zo aT) ?_;refine sJ ?_;have e5:∀i:Int,P.nz (P.kind n) n i=[((n:Int),i,P.fV n)]:=λi=>by unfold af.nz;rw[ab zo]
    refine bb [1,6,7,8,9,11] (λ_:Unit=>[(5,.own 1 (c'+1) 0<|c'+1),(12,aa 0)]) (λ_=>[(1,.vec true (c'+1) 3<|ic<|m++[((n:Int),(P.bE n).getD i 0,P.fV n)])]) (λ_=>True) (λ_=>0) () ?_;refine sW ?_;refine⟨trivial,by exact sK,by rw[<-ve gb];rfl,?_⟩;rintro⟨⟩ -
    refine bf (λh6=>?_) λh6=>?_
    ·refine sL (jv P (k:=n) zo du) ?_;rw[heq];refine aQ ?_;refine⟨(i+1,c'+1,m++[((n:Int),(P.bE n).getD i 0,P.fV n)]),⟨zo,by simp[gb],by rw[ei,e5,hm,ig]⟩,zd,?_⟩;exact aL 2 zs rfl sQ sQ
    skip
    refine sI ?_;refine⟨(i+1,c'+1,m++[((n:Int),(P.bE n).getD i 0,P.fV n)]),⟨zo,by simp[gb],by rw[ei,e5,hm,ig]⟩,zd,?_⟩;exact aL 2 zs rfl sQ sQ
   have aT:i=(P.bE n).length:=by have:¬i<(P.bE n).length:=sO
                                 omega
   subst aT;refine sI ?_;refine⟨(n+1,c',m),⟨zo,gb,by rw[eT,eS,<-hl,hm]⟩,zd,?_⟩;exact aL 2 zs rfl sQ sQ
  have h6:P.kind n≠2:=sO;refine sS (λh7=>?_) λh7=>?_
  ·have h7:P.kind n=3:=sO;rw[ae zo] at eS;refine sW ?_;refine bb [1,6,7,8,9] (λ((i,c',m):Nat×Nat×List bP)=>[(5,.own 1 c' 0 c'),(11,aa i)]) (λ(i,c',m)=>[(1,.vec true c' 3<|ic m)]) (λ(i,c',m)=>i<=(P.bE n).length/\c'=m.length/\m=l++P.kK (P.kind n) n i) (λ(i,c',m)=>(P.bE n).length-i) (0,c,l) ?_;refine sW ?_;refine⟨⟨zo,hc,(lv l).symm⟩,by exact sK,rfl,?_⟩;rintro⟨i,c',m⟩ ⟨hi,gb,hm⟩;refine ck ?_;rw[aI];have b4:=P.Bc (P.kind n) n zo i;have b5:m.length=l.length+(P.kK (P.kind n) n i).length:=(by rw[hm,cL]);refine sS (λA4=>?_) λA4=>?_
   ·have aT:i<(P.bE n).length:=sO;refine sL (jv P (k:=n) zo du) ?_;have b9:(P.kind n != 5)=true:=(by simp;omega);have heq:(P.kind n==5)=false:=(by simp;omega);rw[b9];refine sW ?_;refine sL (bV (k:=i) zo aT) ?_;refine sJ ?_;have e5:∀i:Int,P.nz (P.kind n) n i=[((n:Int),i,P.fV n)]:=λi=>by unfold af.nz;rw[ab zo]
    refine bb [1,6,7,8,9,11] (λ_:Unit=>[(5,.own 1 (c'+1) 0<|c'+1),(12,aa 0)]) (λ_=>[(1,.vec true (c'+1) 3<|ic<|m++[((n:Int),(P.bE n).getD i 0,P.fV n)])]) (λ_=>True) (λ_=>0) () ?_;refine sW ?_;refine⟨trivial,by exact sK,by rw[<-ve gb];rfl,?_⟩;rintro⟨⟩ -
    refine bf (λh6=>?_) λh6=>?_
    ·refine sL (jv P (k:=n) zo du) ?_;rw[heq];refine aQ ?_;refine⟨(i+1,c'+1,m++[((n:Int),(P.bE n).getD i 0,P.fV n)]),⟨zo,by simp[gb],by rw[ei,e5,hm,ig]⟩,zd,?_⟩;exact aL 2 zs rfl sQ sQ
    skip
    refine sI ?_;refine⟨(i+1,c'+1,m++[((n:Int),(P.bE n).getD i 0,P.fV n)]),⟨zo,by simp[gb],by rw[ei,e5,hm,ig]⟩,zd,?_⟩;exact aL 2 zs rfl sQ sQ
   have aT:i=(P.bE n).length:=by have:¬i<(P.bE n).length:=sO
                                 omega
   subst aT;refine sI ?_;refine⟨(n+1,c',m),⟨zo,gb,by rw[eT,eS,<-hl,hm]⟩,zd,?_⟩;exact aL 2 zs rfl sQ sQ
  have h7:P.kind n≠3:=sO;rw[ab zo] at eS;refine sS (λh8=>?_) λh8=>?_
  ·have h8:P.kind n=6:=sO;rw[ae h8] at eS;refine ee ?_;refine⟨(n+1,c+1,l++[((n:Int),-1,P.fV n)]),⟨zo,by simp[hc],by rw[eT,eS,hl]⟩,zd,?_⟩;refine aL 2 zs rfl sQ (sU ?_);exact aV<|ve hc
  rw[ab<|sO] at eS;refine sS (λh9=>?_) λh9=>?_
  ·have h9:P.kind n=7:=sO;rw[ae h9] at eS;have b3:=af.MO (bR n du) h9;have b4:=(En<|aS (P.cn n).length).1;rw[ea] at b4;refine bb [1,6,9] (λ((k,d,q):Nat×Nat×List bP)=>[(5,.own 1 d 0 d),(13,aa<|(k:Int)+1)]) (λ(k,d,q)=>[(1,.vec true d 3<|ic q)]) (λ(k,d,q)=>k<=(P.fV n).toNat/\d=q.length/\d=l.length+k/\q=l++orS n k) (λ(k,d,q)=>(P.fV n).toNat-k) (0,c,l) ?_;refine sW ?_;refine⟨⟨zo,hc,hc,(lv l).symm⟩,by exact sK,rfl,?_⟩;rintro⟨k,d,q⟩ ⟨hk,hd,hdk,hq⟩;refine bf (λh1=>?_) λh1=>?_
   ·have ai:k<(P.fV n).toNat:=sO;refine ee ?_;refine⟨(k+1,d+1,q++[((n:Int),-1,(k:Int)+1)]),⟨zo,by simp[hd],zo,by rw[hq,ig];rfl⟩,zd,?_⟩;refine aL 2 zs rfl sQ (sU ?_);exact aV<|ve hd
   have ai:k=(P.fV n).toNat:=by have:¬k<(P.fV n).toNat:=sO
                                omega
   subst ai;refine sI ?_;refine⟨(n+1,d,q),⟨zo,hd,by rw[eT,eS,hq,hl]⟩,zd,?_⟩;exact aL 2 zs rfl sQ sQ
  rw[ab<|sO] at eS;refine sI ?_;refine⟨(n+1,c,l),⟨zo,hc,by rw[eT,eS,hl,lv]⟩,zd,?_⟩;exact aL 2 zs rfl sQ sQ
 have du:n=P.nodes.length:=by have:¬n<P.nodes.length:=sO
                              omega
 subst du;have b3:l.length=(P.nN P.nodes.length).length:=by rw[hl]
 refine sS (λh3=>?_) λh3=>?_
 ·exact bad zc<|by rw[e1,ae<|sO]
 have e2:P.ew=0:=by rw[e1,ab<|sO]
 have e3:P.aR=l:=by unfold af.aR;rw[ae e2,hl]
 rw[e2,e3];exact .aJ _ _ (.cons _ _ _ _ (zr hc rfl) (.cons _ _ _ _ (.refl _) .nil))
end
def oO(x n:Int):Bool:=(x.fdiv<|2^min n.toNat 64).tmod 2==1

def iw(l:ah):D:=.aM 1<|l.map λn=>[.sc (.int .u64 n)]
variable(l:ah)
@[simp] theorem yr:Pure<|iw l:=by
 simp only[iw,Pure];exact c6 _ (λn=>by simp[aA,Pure]) l
section
open Go.RowKit Go.ChangeShapes Go.WideShapes Go.ChangeAt
def tS(l:ah):Prop:=∀x∈l,0<=x/\x<18446744073709551616
theorem Rk{P:bG}{t:bp}{d:D}(ht:P.underlying t=some (.int .i64))(h:OfA P t d):∃i:Int,d=aa i/\-9223372036854775808<=i/\i<=9223372036854775807:=by
 unfold OfA BP at h;rw[ht] at h;obtain⟨n,e,h1,h2⟩:=of_int ht h;cases e;refine⟨n,rfl,?_⟩;simp[IntKind.min,IntKind.max,IntKind.signed,IntKind.bits] at h1 h2;omega
end
theorem zyO{y:Int}(h:0<=y)(h':y<18446744073709551616):kh .and .u64 y 1=y.tmod 2:=by
 obtain⟨n,rfl⟩:∃n:Nat,y=n:=⟨y.toNat,zo⟩;have e:(BitVec.ofInt 64 (n:Int) &&& BitVec.ofInt 64 1).toNat=n%2:=by
  rw[BitVec.toNat_and];have e1:(BitVec.ofInt 64 (n:Int)).toNat=n:=(by rw[BitVec.toNat_ofInt];omega);have e2:(BitVec.ofInt 64 1).toNat=1:=zc;rw[e1,e2,Nat.and_one_is_mod]
 show IntKind.u64.wrap ((BitVec.ofInt 64 (n:Int) &&& BitVec.ofInt 64 1).toNat:Int)=_;rw[e,show((n:Int).tmod 2)=((n%2:Nat):Int) from(Int.ofNat_tmod n 2).symm];unfold IntKind.wrap;simp[IntKind.bits,IntKind.signed];omega
variable{x:Int}
theorem zpw(h:0<=x)(h':x<18446744073709551616)(k:Nat):0<=x.fdiv (2^k)/\x.fdiv (2^k)<18446744073709551616:=by
 have hp:(0:Int)<2^k:=Int.pow_pos zc;rw[Int.fdiv_eq_ediv_of_nonneg _ zo];exact⟨Int.ediv_nonneg h zo,Int.lt_of_le_of_lt (Int.ediv_le_self _ h) h'⟩
def gl(n:Nat)(g:Nat->Int):ah:=(List.range n).map g
@[simp] theorem KA(n:Nat)(g:Nat->Int):(gl n g).length=n:=by simp[gl]
variable{g:Nat->Int}
theorem EI(h:k<n):(gl n g).getD k 0=g k:=by
 rw[a8];simp[gl,fx,xK h]
@[simp] theorem zCJ:(aw l).length=l.length:=by simp[aw]
variable{z:Nat}
theorem zyP{l:ah}(hz:z=k)(h:k<l.length):(aw l)[z]? = some [aa<|l.getD k 0]:=bV hz h
theorem bX(k:Nat)(hz:z=k)(h:k<n):(aw<|gl n g)[z]? = some [aa<|g k]:=by
 rw[zyP hz<|by rw[KA];exact h,EI h]
theorem ou{g':Nat->Int}(h:∀i,i<n->g i=g' i):gl n g=gl n g':=vj λi hi=>h i<|jz.1 hi
def fB(g:Nat->Int)(k:Nat)(v:Int):Nat->Int:=λi=>if i=k then v else g i
@[simp] theorem kq(g:Nat->Int)(k:Nat)(v:Int):fB g k v k=v:=by simp[fB]
variable{i:Nat}{v:Int}
theorem tv(h:i≠k):fB g k v i=g i:=by simp[fB,h]
theorem kV(hz:z=k):(aw<|gl n g).set z [aa v]=aw (gl n<|fB g k v):=by
 subst hz;apply pS;intro i;by_cases hi:i<n
 ·rw[Hm];by_cases e:z=i
  ·subst e;rw[ae rfl,ae<|by simp;exact hi,bX z rfl hi,kq]
  rw[ab e,bX i rfl hi,bX i rfl hi,tv λq=>e q.symm]
 rw[dG zq,dG zq]
theorem yE(n:Nat):List.replicate n [aa 0]=aw (gl n λ_=>0):=by
 apply pS;intro i;by_cases hi:i<n
 ·rw[bX i rfl hi,vi,ae hi]
 rw[dG zq,dG zq]
variable{v:Nat}{H:aE}
theorem vV{id:Nat}{q:Bool}(h:H[id]? = some (.vec q v 1<|aw<|gl n g)):Deep H (.own id v 0 n)<|aF<|gl n g:=.own _ _ _ _ _ _ _ _ h<|by rw[dP,fG<|by simp[aw,gl]];exact gw _
namespace af
def nxt(P:af)(but:Int)(a b:Nat):Prop:=a<P.aH.length/\b<P.aH.length/\P.src b=P.dst a/\P.dst a≠but
inductive Via(P:af)(but:Int):Nat->Nat->Prop
 |refl (a:Nat):Via P but a a
 |step {a b c:Nat} (h:Via P but a b) (k:P.nxt but b c):Via P but a c
variable{P:af}{but:Int}{a b:Nat}
theorem Via.head{c:Nat}(k:P.nxt but a b)(h:P.Via but b c):P.Via but a c:=by
 induction h with
 |refl=>exact .step (.refl _) k
 |step _ k' ih=>exact .step ih k'
theorem Via.first(h:P.Via but a b):a=b\/P.dst a≠but:=by
 induction h with
 |refl=>exact .inl rfl
 |step _ k ih =>
  rcases ih with rfl|ih
  ·exact .inr k.2.2.2
  grind
variable{s:aq}
theorem zzY(h0:s a)(h1:∀x y,s x->P.nxt but x y->s y):∀b,P.Via but a b->s b:=by
 intro b h
 induction h with
 |refl=>exact h0
 |step _ k ih=>grind
theorem zxB(h0:s b)(h1:∀x y,s y->P.nxt but x y->s x):∀a,P.Via but a b->s a:=by
 intro a h
 induction h with
 |refl=>exact h0
 |step _ k ih=>grind
open Classical in
noncomputable def xP(P:af)(but:Int)(a b:Nat):Bool:=decide (P.Via but a b)
theorem Eb:P.xP but a b↔P.Via but a b:=by unfold xP;simp
structure tL(P:af)(but:Int)(flow:Nat)(s:aq)(Q:ah):Prop where
 start:s flow=true
 sound:∀i,s i->i<P.aH.length/\P.Via but i flow
 todo:∀x∈Q,0<=x/\x<P.aH.length/\s x.toNat=true
 done:∀i,s i->(i:Int)∈Q\/∀j,P.nxt but j i->s j=true
structure vw(P:af)(but:Int)(flow:Nat)(s:aq)(Q:ah)(x k:Nat):Prop where
 start:s flow=true
 sound:∀i,s i->i<P.aH.length/\P.Via but i flow
 todo:∀x∈Q,0<=x/\x<P.aH.length/\s x.toNat=true
 done:∀i,s i->(i:Int)∈Q\/(∀j,P.nxt but j i->s j)\/(i=x/\∀j,j<k->P.nxt but j i->s j)
 here:s x=true
 go:P.src x≠but
variable{flow:Nat}
theorem tL.begin(h:flow<P.aH.length):P.tL but flow (mark (λ_=>false) flow) [(flow:Int)] where
 start:=km _ _
 sound i hi:=by
  rcases nE.1 hi with rfl|h'
  ·exact⟨h,.refl _⟩
  cases h'
 todo x hx:=by
  rw[cV] at hx;subst hx;exact⟨zo,zo,by rw[bO];exact km _ _⟩
 done i hi:=by
  rcases nE.1 hi with rfl|h'
  ·exact .inl zs
  cases h'
variable{Q:ah}
theorem tL.stop(h:P.tL but flow s<|x::Q)(hx:P.src x.toNat=but):P.tL but flow s Q where
 start:=h.start
 sound:=h.sound
 todo y hy:=h.todo y<|List.mem_cons_of_mem _ hy
 done i hi:=by
  rcases h.done i hi with q|q
  ·rcases eQ.1 q with q|q
   ·refine .inr λj hj=>?_;exfalso;subst q;rw[bO] at hx;exact hj.2.2.2<|hj.2.2.1.symm.trans hx
   exact .inl q
  exact .inr q
theorem tL.pop(h:P.tL but flow s<|x::Q)(hx:P.src x.toNat≠but):P.vw but flow s Q x.toNat 0 where
 start:=h.start
 sound:=h.sound
 todo y hy:=h.todo y<|List.mem_cons_of_mem _ hy
 done i hi:=by
  rcases h.done i hi with q|q
  ·rcases eQ.1 q with q|q
   ·exact .inr (.inr ⟨zo,λj hj=>zo⟩)
   exact .inl q
  exact .inr (.inl q)
 here:=(h.todo x zs).2.2
 go:=hx
variable{x:Nat}
theorem vw.skip(h:P.vw but flow s Q x k)(hk:P.dst k=P.src x->s k):P.vw but flow s Q x (k+1) where
 start:=h.start
 sound:=h.sound
 todo:=h.todo
 done i hi:=by
  rcases h.done i hi with q|q|⟨rfl,q⟩
  ·exact .inl q
  ·exact .inr (.inl q)
  refine .inr (.inr ⟨rfl,λj hj hn=>?_⟩);by_cases e:j=k
  ·subst e;exact hk hn.2.2.1.symm
  exact q j zo hn
 here:=h.here
 go:=h.go
theorem vw.push(h:P.vw but flow s Q x k)(hk:k<P.aH.length)(hd:P.dst k=P.src x):P.vw but flow (mark s k) (Q++[(k:Int)]) x (k+1) where
 start:=fo h.start
 sound i hi:=by
  rcases nE.1 hi with rfl|h'
  ·have:=h.sound x h.here;exact⟨hk,Via.head ⟨hk,this.1,hd.symm,by rw[hd];exact h.go⟩ this.2⟩
  exact h.sound i h'
 todo y hy:=by
  rcases dz.1 hy with q|q
  ·obtain⟨a,b,c⟩:=h.todo y q;exact⟨a,b,fo c⟩
  rw[cV] at q;subst q;exact⟨zo,zo,by rw[bO];exact km _ _⟩
 done i hi:=by
  rcases nE.1 hi with rfl|h'
  ·exact .inl zs
  rcases h.done i h' with q|q|⟨rfl,q⟩
  ·exact .inl<|Fh _ q
  ·exact .inr (.inl λj hj=>fo<|q j hj)
  refine .inr (.inr ⟨rfl,λj hj hn=>?_⟩);by_cases e:j=k
  ·subst e;exact km _ _
  exact fo<|q j zo hn
 here:=fo h.here
 go:=h.go
theorem vw.fin(h:P.vw but flow s Q x P.aH.length):P.tL but flow s Q where
 start:=h.start
 sound:=h.sound
 todo:=h.todo
 done i hi:=by
  rcases h.done i hi with q|q|⟨rfl,q⟩
  ·exact .inl q
  ·exact .inr q
  exact .inr λj hj=>q j hj.1 hj
theorem tL.fin(h:P.tL but flow s [])(i:Nat):s i=P.xP but i flow:=by
 rw[j9,Eb];refine⟨λhi=>(h.sound i hi).2,λhi=>zxB h.start (λx y hy hn=>?_) i hi⟩;rcases h.done y hy with q|q
 ·cases q
 exact q x hn
structure Dfs(P:af)(but:Int)(a:Nat)(s t:aq):Prop where
 mono:∀x,s x->t x=true
 here:t a=true
 sound:∀x,t x->s x\/P.Via but a x
 closed:∀x y,t x->s x=false->P.nxt but x y->t y=true
structure tf(P:af)(but:Int)(a:Nat)(s t:aq)(k:Nat):Prop where
 mono:∀x,s x->t x=true
 here:t a=true
 sound:∀x,t x->s x\/P.Via but a x
 closed:∀x y,t x->s x=false->x≠a->P.nxt but x y->t y=true
 kids:∀j,j<k->P.nxt but a j->t j=true
theorem tf.begin:P.tf but a s (mark s a) 0 where
 mono x h:=fo h
 here:=km _ _
 sound x h:=by
  rcases nE.1 h with rfl|h
  ·exact .inr (.refl _)
  exact .inl h
 closed x y h1 h2 h3 _:=by
  rcases nE.1 h1 with rfl|h
  ·exact absurd rfl h3
  rw[h2] at h;cases h
 kids j h:=zo
variable{t:aq}
theorem tf.skip(h:P.tf but a s t k)(hk:P.nxt but a k->t k):P.tf but a s t (k+1) where
 mono:=h.mono
 here:=h.here
 sound:=h.sound
 closed:=h.closed
 kids j hj hn:=by
  by_cases e:j=k
  ·subst e;exact hk hn
  exact h.kids j zo hn
theorem tf.call{u:aq}(h:P.tf but a s t k)(hn:P.nxt but a k)(hu:P.Dfs but k t u):P.tf but a s u (k+1) where
 mono x hx:=hu.mono x<|h.mono x hx
 here:=hu.mono a h.here
 sound x hx:=by
  rcases hu.sound x hx with q|q
  ·exact h.sound x q
  exact .inr<|Via.head hn q
 closed x y h1 h2 h3 h4:=by
  cases e:t x with
  |true=>exact hu.mono y<|h.closed x y e h2 h3 h4
  |false=>exact hu.closed x y h1 e h4
 kids j hj hn:=by
  by_cases e:j=k
  ·subst e;exact hu.here
  exact hu.mono j<|h.kids j zo hn
theorem tf.fin(h:P.tf but a s t k)(hk:P.aH.length<=k\/P.dst a=but):P.Dfs but a s t where
 mono:=h.mono
 here:=h.here
 sound:=h.sound
 closed x y h1 h2 h3:=by
  by_cases e:x=a
  ·subst e;rcases hk with hk|hk
   ·exact h.kids y (by have:=h3.2.1;omega) h3
   exact absurd hk h3.2.2.2
  exact h.closed x y h1 h2 e h3
theorem Dfs.all(h:P.Dfs but a (λ_=>false) t)(b:Nat):t b=P.xP but a b:=by
 rw[j9,Eb];refine⟨λhb=>?_,λhb=>zzY h.here (λx y hx hn=>h.closed x y hx rfl hn) b hb⟩;rcases h.sound b hb with q|q
 ·cases q
 exact q
def pK(P:af)(f:aq->Nat->Nat->Bool)(a:Nat):Nat->aq->Nat->Bool
 |0,t=>t
 |k+1,t=>if P.src k=P.dst a/\P.pK f a k t k=false then f (P.pK f a k t) k else P.pK f a k t
def dfs(P:af)(but:Int):Nat->aq->Nat->Nat->Bool
 |0,s,a=>mark s a
 |n+1,s,a=>if P.dst a=but then mark s a else P.pK (P.dfs but n) a P.aH.length<|mark s a
theorem MC{P:af}{but:Int}{a n:Nat}{s:aq}(ha:a<P.aH.length)(hb:P.dst a≠but)(hn:cQ (mark s a) P.aH.length<=n)
  (ih:∀t k,cQ t P.aH.length<=n->k<P.aH.length->t k=false->P.Dfs but k t (P.dfs but n t k)) :
  ∀k,k<=P.aH.length->P.tf but a s (P.pK (P.dfs but n) a k<|mark s a) k/\cQ (P.pK (P.dfs but n) a k<|mark s a) P.aH.length<=n
 |0,_=>⟨tf.begin,hn⟩
 |k+1,hk=>by
  obtain⟨h1,h2⟩:=MC ha hb hn ih k zo;simp only[pK];split
  ·rename_i h;have hd:=ih _ k h2 zo h.2;exact⟨h1.call ⟨ha,zo,h.1,hb⟩ hd,jI (zS λj _ hj=>hd.mono j hj) h2⟩
  rename_i h;refine⟨h1.skip λhx=>?_,h2⟩
  cases e:P.pK (P.dfs but n) a k (mark s a) k with
  |true=>rfl
  |false=>exact absurd ⟨hx.2.2.1,e⟩ h
theorem Qk{P:af}{but:Int}:∀(n:Nat) (s:aq) (a:Nat),cQ s P.aH.length<=n->a<P.aH.length->s a=false->P.Dfs but a s (P.dfs but n s a)
 |0,s,a,h,ha,hs=>by
  have:=nK (s:=s) (s':=mark s a) ha (λj _ h=>fo h) hs<|km _ _;omega
 |n+1,s,a,h,ha,hs=>by
  have:=nK (s:=s) (s':=mark s a) ha (λj _ h=>fo h) hs<|km _ _;simp only[dfs];split
  ·rename_i hb;exact tf.begin.fin (k:=0) (.inr hb)
  rename_i hb;exact(MC ha hb zo (λt k h1 h2 h3=>Qk n t k h1 h2 h3) P.aH.length<|aS _).1.fin (.inl<|aS _)
end af
section
variable{Z:ah}{lo hi:Nat}
theorem zql(h1:lo<hi)(h2:hi<=Z.length):(Z.take hi).drop lo=Z.getD lo 0::(Z.take hi).drop (lo+1):=by
 rw[Ct<|by rw[fg];omega,List.getElem_take,a8,aX zo];rfl
theorem zqa{k:Int}:((aw Z).take hi).drop lo++[[aa k]]=aw ((Z.take hi).drop lo++[k]):=by
 simp[aw]
theorem zsE(P:af)(hP:P.Fits)(hF:P.aH.length<=30)(flow:Nat)(hf:flow<P.aH.length)(az:∀i,i<P.aH.length->P.oM i)(but:Int) :
  ao aj 298 [b7 P,aa flow,aa but] (bx P.aH.length λi=>P.xP but i flow):=by
 refine bt ?_;rw[aI];refine⟨zo,zo,zo,?_⟩;rw[bO,show List.map D.sc [Value.bool false]=[ay false] from rfl,jS];refine bC ?_;refine⟨_,bc flow zo zo,?_⟩;refine sW ?_
 refine bb [2,3,7] (λ((s,Z,lo,hi,ar):aq×ah×Nat×Nat×Nat)=>[(8,.own 2 ar lo hi)]) (λ(s,Z,lo,hi,ar)=>[(1,.vec true 0 1<|bF P.aH.length s),(2,.vec true ar 1<|aw Z)])
  (λ(s,Z,lo,hi,ar)=>lo<=hi/\hi<=Z.length/\hi-lo+cQ s P.aH.length<=P.aH.length/\P.tL but flow s ((Z.take hi).drop lo)) (λ(s,Z,lo,hi,ar)=>(hi-lo)+cQ s P.aH.length) (mark (λ_=>false) flow,[(flow:Int)],0,1,0) ?_
 refine sW ?_;have u1:=nK (s:=λ_=>false) (s':=mark (λ_=>false) flow) hf (λj _ h=>by cases h) rfl (km _ _);have u2:=yb (λ_=>false) P.aH.length;refine⟨⟨zo,zs,zo,af.tL.begin hf⟩,by exact sK,by rw[nV (v:=flow) zo];rfl,?_⟩;rintro⟨s,Z,lo,hi,ar⟩ ⟨G5,n4,hu,hI⟩;refine bf (λh1=>?_) λh1=>?_
 ·have h1:lo<hi:=sO;rw[zql h1 n4] at hI;have hx:=hI.todo (Z.getD lo 0) List.mem_cons_self;generalize hX:Z.getD lo 0=x at hx hI;have hfx:=af.x8.1<|az x.toNat zo;refine sB ?_;refine⟨_,bV (l:=Z) (k:=lo) zo zo,?_⟩;refine sW ?_;rw[hX];refine sL (oR P (k:=x.toNat) zo zo) ?_;refine⟨zo,zo,zo,?_⟩;refine sW ?_;rw[show lo+(hi-lo)=hi by omega];refine sS (λh2=>?_) λh2=>?_
  ·have h2:P.src x.toNat=but:=sO;refine⟨(s,Z,lo+1,hi,ar),⟨zo,n4,zo,hI.stop h2⟩,zd,?_⟩;exact aC (by exact sK) rfl
  have h2:P.src x.toNat≠but:=sO;rw[aI]
  refine bb [2,3,7,9,38,39] (λ((t,Z',cj,aT,bY,k):aq×ah×Nat×Nat×Nat×Nat)=>[(8,.own 2 bY cj aT),(40,aa k)]) (λ(t,Z',cj,aT,bY,k)=>[(1,.vec true 0 1<|bF P.aH.length t),(2,.vec true bY 1<|aw Z')])
   (λ(t,Z',cj,aT,bY,k)=>k<=P.aH.length/\cj<=aT/\aT<=Z'.length/\aT-cj+cQ t P.aH.length<hi-lo+cQ s P.aH.length/\P.vw but flow t ((Z'.take aT).drop cj) x.toNat k) (λ(t,Z',cj,aT,bY,k)=>P.aH.length-k) (s,Z,lo+1,hi,ar,0) ?_
  refine sW ?_;refine⟨⟨zo,zo,n4,zo,hI.pop h2⟩,by exact sK,rfl,?_⟩;rintro⟨t,Z',cj,aT,bY,k⟩ ⟨hk,mC,mA,sH,hJ⟩;refine bf (λh3=>?_) λh3=>?_
  ·have ai:k<P.aH.length:=sO;refine sL (oR P (k:=k) zo ai) ?_;have skip:(P.dst k=P.src x.toNat->t k)->P.vw but flow t ((Z'.take aT).drop cj) x.toNat (k+1):=hJ.skip;refine sS (λh4=>?_) λh4=>?_
   ·have h4:P.dst k=P.src x.toNat:=sO;refine sB ?_;refine⟨_,bc k zo zo,?_⟩;refine sW ?_;cases ht:t k
    ·refine bC ?_;refine⟨_,bc k zo zo,?_⟩;refine ke ?_;have u3:=nK (s:=t) (s':=mark t k) ai (λj _ h=>fo h) ht<|km _ _;have hp:=hJ.push ai h4;refine⟨(mark t k,(Z'.take aT).drop cj++[(k:Int)],0,aT-cj+1,bY+1,k+1),⟨zo,zo,zq,zo,by rw[dP,fG zq];exact hp⟩,zd,?_⟩;refine aL 3 zs rfl sG (sZ2 ?_ ?_)
     ·exact aV<|nV zo
     exact aV zqa
    refine aQ ?_;refine⟨(t,Z',cj,aT,bY,k+1),⟨zo,mC,mA,sH,skip λ_=>ht⟩,zd,?_⟩;exact aL 3 zs rfl sQ sQ
   have h4:P.dst k≠P.src x.toNat:=sO;refine aQ ?_;refine⟨(t,Z',cj,aT,bY,k+1),⟨zo,mC,mA,sH,skip λe=>absurd e h4⟩,zd,?_⟩;exact aL 3 zs rfl sQ sQ
  have ai:k=P.aH.length:=by have:¬k<P.aH.length:=sO
                            omega
  subst ai;refine⟨(t,Z',cj,aT,bY),⟨mC,mA,zo,hJ.fin⟩,zd,?_⟩;exact aC (by exact sK) rfl
 have h0:hi=lo:=sO;subst h0;rw[DA<|by rw[fg];omega] at hI;rw[iI (g':=λi=>P.xP but i flow) λi _=>hI.fin i];exact qi rfl
end
section
def FK:D:=.fn (.func 225) [] [.loc 3 0,.loc 0 0,.loc 1 0,.loc 4 0]
def Dn(P:af)(but:Int)(s:aq):aE:=[.row true P.cells,.row true [aa but],.vec true 0 1<|bF P.aH.length s,.row true [.own 2 0 0 P.aH.length],.row true [FK]]
@[simp] theorem zAz{m:Nat}:aK m FK↔3<m/\0<m/\1<m/\4<m:=by simp[FK,aK,aG]
variable(P:af)
theorem zs6(hP:P.Fits)(hF:P.aH.length<=30)(but:Int):∀(n:Nat) (s:aq) (a:Nat),cQ s P.aH.length<=n->a<P.aH.length->s a=false ->
  bZ aj 225 [aa a,.loc 3 0,.loc 0 0,.loc 1 0,.loc 4 0] (Dn P but s) (.aJ []) (Dn P but<|P.dfs but n s a):=by
 intro n
 induction n with
 |zero =>
  intro s a h ha hs;have:=nK (s:=s) (s':=mark s a) ha (λj _ h=>fo h) hs<|km _ _;omega
 |succ n ih =>
  intro s a h ha hs;have h1:=nK (s:=s) (s':=mark s a) ha (λj _ h=>fo h) hs<|km _ _;refine jb fZ zs (by simp[Dn]) ?_ zu (by simp[Dn,dX,al.under,aG,aK]);unfold Dn;refine sR ?_;refine sB ?_;refine⟨_,bc a zo zo,?_⟩;refine sW ?_;have fin:∀{u:aq},u=P.dfs but (n+1) s a->[al.row true P.cells,al.row true [aa but],al.vec true 0 1<|bF P.aH.length u,al.row true [D.own 2 0 0 P.aH.length],al.row true [FK]]=[al.row true P.cells,al.row true [aa but],al.vec true 0 1<|bF P.aH.length<|P.dfs but (n+1) s a,al.row true [D.own 2 0 0 P.aH.length],al.row true [FK]]:=λh=>by rw[h]
  refine bb [0,1,2,3,4] (λk:Nat=>[(6,aa k)]) (λk=>[(2,.vec true 0 1<|bF P.aH.length<|P.pK (P.dfs but n) a k<|mark s a)]) (λk=>k<=P.aH.length/\(P.dst a=but->k=0)) (λk=>P.aH.length-k) 0 ?_;refine sW ?_;refine⟨⟨zo,λ_=>rfl⟩,by exact sK,by rw[nV (v:=a) zo];rfl,?_⟩;rintro k ⟨hk,nP⟩;refine ck ?_;rw[aI];refine sS (λh2=>?_) λh2=>?_
  ·have ai:k<P.aH.length:=sO;refine sL (oR P (k:=a) zo ha) ?_;cases hb:(P.dst a != but)
   ·refine sW ?_;have hb:P.dst a=but:=sO;have:=nP hb;subst this;refine⟨fin ?_,zs⟩;rw[af.dfs,ae hb];rfl
   have hb:P.dst a≠but:=sO;obtain⟨hJ,hU⟩:=af.MC (s:=s) ha hb zo (λt k g1 g2 g3=>af.Qk n t k g1 g2 g3) k hk;refine sW ?_;refine sL (oR P (k:=k) zo ai) ?_;refine sL (oR P (k:=a) zo ha) ?_;have eK:P.pK (P.dfs but n) a (k+1) (mark s a)=if P.src k=P.dst a/\P.pK (P.dfs but n) a k (mark s a) k=false then P.dfs but n (P.pK (P.dfs but n) a k<|mark s a) k else P.pK (P.dfs but n) a k<|mark s a:=rfl
   generalize P.pK (P.dfs but n) a k (mark s a)=t at hJ hU eK;have no:¬(P.src k=P.dst a/\t k=false)->bF P.aH.length t=bF P.aH.length (P.pK (P.dfs but n) a (k+1)<|mark s a):=λh=>by rw[eK,ab h]
   have yes:P.src k=P.dst a->t k=false->bF P.aH.length (P.dfs but n t k)=bF P.aH.length (P.pK (P.dfs but n) a (k+1)<|mark s a):=λh1 h2=>by rw[eK,ae ⟨h1,h2⟩]
   refine sS (λh3=>?_) λh3=>?_
   ·have h3:P.src k=P.dst a:=sO;refine sB ?_;refine⟨_,bc k zo zo,?_⟩;refine sW ?_;cases ht:t k
    ·refine sW ?_;refine sA (ih t k hU ai ht) ?_;refine sI ?_;refine⟨k+1,⟨zo,λe=>absurd e hb⟩,zd,?_⟩;exact aC (by exact sK)<|by unfold Dn;rw[yes h3 ht];rfl
    refine aQ ?_;refine⟨k+1,⟨zo,λe=>absurd e hb⟩,zd,?_⟩;rw[no<|by rw[ht];simp];exact aC (by exact sK) rfl
   have h3:P.src k≠P.dst a:=sO;refine aQ ?_;refine⟨k+1,⟨zo,λe=>absurd e hb⟩,zd,?_⟩;rw[no λh=>h3 h.1];exact aC (by exact sK) rfl
  have ai:k=P.aH.length:=by have:¬k<P.aH.length:=sO
                            omega
  subst ai;refine⟨fin ?_,zs⟩;rw[af.dfs,ab λe=>by have:=nP e;omega]
theorem zxo(hP:P.Fits)(hF:P.aH.length<=30)(a b:Nat)(ha:a<P.aH.length)(hb:b<P.aH.length)(but:Int) :
  ao aj 156 [b7 P,aa a,aa b,aa but] (ay<|(a:Int) != b&&P.xP but a b):=by
 refine bt ?_;rw[aI];refine⟨zo,zo,zo,?_⟩;rw[bO,show List.map D.sc [Value.bool false]=[ay false] from rfl,jS];refine sW ?_;refine sA (zs6 P hP hF but P.aH.length (λ_=>false) a (yb _ _) ha rfl) ?_;have hd:=(af.Qk (P:=P) (but:=but) P.aH.length (λ_=>false) a (yb _ _) ha rfl).all b;cases Gu:((a:Int) != b)
 ·refine sW ?_;exact .refl _
 refine bC ?_;refine⟨_,bc b zo zo,?_⟩;refine sW ?_;rw[hd];exact .refl _
end
def val(M:ah)(i:Nat):Int:=M.getD i 0
namespace af
def ix(P:af)(n:Int)(a:Nat):Int:=(P.bE n).getD a 0
def lS(P:af)(n:Int)(a:Nat):Int:=(P.cn n).getD a 0
variable{l:ah}{a:Nat}
theorem P'(h:a<l.length):l.getD a 0∈l:=by
 grind
theorem znJ(h:x∈l):∃k,k<l.length/\l.getD k 0=x:=pd h
variable{P:af}{n:Int}
theorem CK(h:a<(P.bE n).length):0<=P.ix n a/\P.ix n a<P.aH.length/\P.dst (P.ix n a).toNat=n:=by
 obtain⟨i,h1,h2,h3⟩:=DQ.1<|P' h;unfold ix bE
 grind
theorem EJ(h:a<(P.cn n).length):0<=P.lS n a/\P.lS n a<P.aH.length/\P.src (P.lS n a).toNat=n:=by
 obtain⟨i,h1,h2,h3⟩:=DQ.1<|P' h;unfold lS cn
 grind
def wD(P:af)(M:ah)(n:Int):Nat->Bool
 |0=>false
 |a+1=>P.wD M n a||decide (0<val M (P.ix n a).toNat)
def wV(P:af)(M:ah)(n:Int):Nat->Bool
 |0=>true
 |a+1=>P.wV M n a&&decide (0<val M (P.ix n a).toNat)
def hold(P:af)(M:ah)(n:Int)(f i:Nat):Prop:=P.Via n i f/\0<val M i/\P.dst i≠n
def GP(P:af)(M:ah)(n:Int)(a:Nat):Prop:=val M (P.ix n a).toNat<=0/\∃i,i<P.aH.length/\P.hold M n (P.ix n a).toNat i
open Classical in
noncomputable def Au(P:af)(M:ah)(n:Int):Bool:=P.wD M n (P.bE n).length&&decide (∀a,a<(P.bE n).length->¬P.GP M n a)
open Classical in
noncomputable def pb(P:af)(M:ah)(s:bP):Bool :=
 if 0<=s.2.1 then decide (0<val M s.2.1.toNat) else if P.kind s.1.toNat=7 then P.Au M s.1 else P.wV M s.1 (P.bE s.1).length
variable{M:ah}
open Classical in
theorem XJ(ha:a<(P.bE n).length)(h:P.GP M n a):P.Au M n=false:=by
 unfold Au
 grind
open Classical in
theorem Yv(h:∀a,a<(P.bE n).length->¬P.GP M n a):P.Au M n=P.wD M n (P.bE n).length:=by
 unfold Au
 grind
theorem Yb{f:Nat}(h0:val M f=0)(hk:0<val M k):P.hold M n f k↔(k≠f/\P.Via n k f):=by
 constructor
 ·rintro⟨h1,h2,h3⟩
  grind
 rintro⟨h1,h2⟩;refine⟨h2,hk,?_⟩;rcases h2.first with q|q;repeat grind
structure CR(P:af)(s:bP):Prop where
 node:0<=s.1/\s.1<P.nodes.length
 in_:-1<=s.2.1/\s.2.1<P.aH.length
 kind:s.2.1<0->P.kind s.1.toNat=6\/P.kind s.1.toNat=7
 out:0<=s.2.2/\s.2.2<=1073741824
theorem Ws(hf:P.aH.length<=30)(n:Int):0<=P.fV n/\P.fV n<=1073741823:=by
 have l2:=P.Cz n;have:=En (k:=(P.cn n).length) (n:=30) zo;have e30:qR 30=1073741823:=rfl;unfold fV;omega
theorem S9{n:Int}{s:bP}:∀{k:Nat},s∈orS n k->s.1=n/\s.2.1=-1/\0<=s.2.2/\s.2.2<=k
 |0,h=>by cases h
 |k+1,h=>by
  simp only[orS,dz,cV] at h;rcases h with h|h
  ·have:=S9 h;exact⟨this.1,this.2.1,this.2.2.1,zo⟩
  subst h;exact⟨rfl,rfl,zd,zd⟩
theorem XW{n i:Int}{s:bP}:∀{k:Nat},s∈xB n i k->s.1=n/\s.2.1=i/\∃j,j<k/\s.2.2=2^j
 |0,h=>by cases h
 |k+1,h=>by
  simp only[xB,dz,cV] at h;rcases h with h|h
  ·obtain⟨a,b,j,c,d⟩:=XW h;exact⟨a,b,j,zo,d⟩
  subst h;exact⟨rfl,rfl,k,zo,rfl⟩
theorem YE{P:af}{k n:Int}{s:bP}(hf:P.aH.length<=30):∀{j:Nat},j<=(P.bE n).length->s∈P.kK k n j->s.1=n/\(0<=s.2.1/\s.2.1<P.aH.length)/\0<=s.2.2/\s.2.2<=1073741824
 |0,_,h=>by cases h
 |j+1,hj,h=>by
  simp only[kK,dz] at h;rcases h with h|h
  ·exact YE hf zo h
  have hi:=CK (P:=P) (n:=n) (a:=j) zo;unfold ix at hi;have l2:=P.Cz n;have ha:=Ws hf n;unfold nz at h;split at h
  ·obtain⟨a,b,i,c,d⟩:=XW h;have p1:=JO i;have p2:=Fo (k:=i) (n:=30) zo;have p3:(2:Int)^30=1073741824:=zc;exact⟨a,zo,zo⟩
  rw[cV] at h;subst h;exact⟨rfl,⟨hi.1,hi.2.1⟩,ha.1,zd⟩
theorem ZC{n:Nat}{s:bP}(hf:P.aH.length<=30)(hn:n<P.nodes.length)(h:s∈P.uV n):P.CR s:=by
 have ha:=Ws hf n;unfold uV at h;split at h
 ·obtain⟨a,b,c⟩:=YE hf (aS _) h;exact⟨zo,zo,λq=>zo,c⟩
 split at h
 ·rename_i q;rw[cV] at h;subst h;exact⟨zd,zd,λ_=>.inl<|by rw[bO];exact q,ha.1,zd⟩
 split at h
 ·rename_i q;obtain⟨a,b,c,d⟩:=S9 h;exact⟨zo,zo,λ_=>.inr<|by rw[a,bO];exact q,c,zo⟩
 cases h
theorem Kh{P:af}{s:bP}(hf:P.aH.length<=30):∀{n:Nat},n<=P.nodes.length->s∈P.nN n->P.CR s
 |0,_,h=>by cases h
 |n+1,hn,h=>by
  simp only[nN,dz] at h;rcases h with h|h
  ·exact Kh hf zo h
  exact ZC hf zo h
noncomputable def oA(P:af)(M:ah)(l:List bP):Nat->ah
 |0=>[]
 |k+1=>if P.pb M (l.getD k (0,0,0))=true then P.oA M l k++[(k:Int)] else P.oA M l k
theorem Y5(P:af)(M:ah)(l:List bP):∀k,(P.oA M l k).length<=k
 |0=>by simp[oA]
 |k+1=>by
  have:=Y5 P M l k;simp only[oA];split
  ·simp;omega
  omega
theorem Zn{P:af}{M:ah}{n:Int}(h:∀i,0<=val M i):∀a,P.wV M n a=!((List.range a).any λj=>val M (P.ix n j).toNat==0)
 |0=>rfl
 |a+1=>by
  rw[wV,Zn h a,qf,tZ];have h1:decide (0<val M (P.ix n a).toNat)=!(val M (P.ix n a).toNat==0):=by
   have:=h (P.ix n a).toNat;by_cases q:val M (P.ix n a).toNat=0
   ·simp[q]
   rw[gQ zo];simp[q]
  simp[h1]
theorem zsD{p:Int->Bool}:l.any p=(List.range l.length).any λj=>p<|l.getD j 0:=by
 rw[j9,mJ,mJ];constructor
 ·rintro⟨x,hx,hp⟩;obtain⟨k,hk,rfl⟩:=iD.1 hx;refine⟨k,jz.2 hk,?_⟩
  grind
 repeat grind
end af
section
structure af.Mark(P:af)(M:ah):Prop where
 len:M.length=P.aH.length
 pos:∀i,0<=val M i
 top:∀i,val M i<=9
theorem tw{M:ah}(hz:z=k)(h:k<M.length):(M.map λn=>[aa n])[z]? = some [aa<|val M k]:=bV hz h
variable{P:af}
theorem QE(h0:P.aU=0){n:Int}(h1:0<=n)(h2:n<P.nodes.length):P.mV n=0/\P.zO n=P.bE n/\P.AE n=P.cn n:=by
 have hE:P.mV n=0:=by unfold af.mV;rw[ab zo,ab zo]
 exact⟨hE,by unfold af.zO;rw[ae hE],by unfold af.AE;rw[ae hE]⟩
theorem Nr(h:P.aU=0):∀i,i<P.aH.length->P.oM i:=by
 unfold af.aU at h;repeat grind
variable(P:af)
theorem zpx(hP:P.Fits)(h0:P.aU=0)(M:ah)(hM:P.Mark M)(n:Int)(h1:0<=n)(h2:n<P.nodes.length) :
  ao aj 238 [b7 P,aF M,aa n] (ay<|P.Au M n):=by
 obtain⟨lq,lk⟩:=jo h0;obtain⟨hE,hI,_⟩:=QE h0 h1 h2;have hi:=Ih P hP n;rw[hI,hE] at hi;have l1:=P.CS n;have lM:=hM.len;refine bt ?_;refine sC hi ?_;rw[aI];refine bb [1,2,3,20,21] (λa:Nat=>[(9,ay<|P.wD M n a),(22,aa a)]) (λ_=>[]) (λa=>a<=(P.bE n).length/\∀j,j<a->¬P.GP M n j) (λa=>(P.bE n).length-a) 0 ?_;refine sW ?_;refine⟨⟨zo,λj h=>zo⟩,by exact sK,rfl,?_⟩;rintro a ⟨ha,bR⟩;refine bf (λh3=>?_) λh3=>?_
 ·have fq:a<(P.bE n).length:=sO;have aY:=af.CK (P:=P) (n:=n) fq;have ep:P.wD M n (a+1)=(P.wD M n a||decide (0<val M (P.ix n a).toNat)):=rfl;refine sL (bV (k:=a) zo fq) ?_;rw[show(P.bE n).getD a 0=P.ix n a from rfl];generalize hx:P.ix n a=x at aY ep;refine sL (tw (k:=x.toNat) zo zo) ?_;refine sS (λh4=>?_) λh4=>?_
  ·have h4:0<val M x.toNat:=sO;refine aQ ?_;refine⟨a+1,⟨zo,λj hj=>?_⟩,zd,?_⟩
   ·by_cases e:j=a
    ·subst e;exact λq=>by have:=q.1;rw[hx] at this;omega
    exact bR j zo
   rw[gQ h4,Bool.or_true] at ep;exact aC ⟨by simp only[ep];rfl,by exact sK⟩ rfl
  have h4:¬0<val M x.toNat:=sO;rw[gI h4,wM] at ep;have hc:=zsE P hP lk x.toNat zo (Nr h0) n;rw[show((x.toNat:Nat):Int)=x by omega] at hc;refine sW ?_;refine sC hc ?_;rw[Ep];refine bb [1,2,3,9,20,21,22,34,35] (λk:Nat=>[(36,aa k)]) (λ_=>[]) (λk=>k<=P.aH.length/\∀i,i<k->¬P.hold M n x.toNat i) (λk=>P.aH.length-k) 0 ?_;refine sW ?_;refine⟨⟨zo,λj h=>zo⟩,by exact sK,rfl,?_⟩;rintro k ⟨hk,cg⟩;refine ck ?_;have next:∀{i:Nat},¬P.hold M n x.toNat k->i<k+1->¬P.hold M n x.toNat i:=λh1 h2=>by
   rename_i i;by_cases e:i=k
   ·subst e;exact h1
   exact cg i zo
  refine sS (λh5=>?_) λh5=>?_
  ·have ai:k<P.aH.length:=sO;refine sL (bc k zo ai) ?_;cases hv:P.xP n k x.toNat
   ·refine aQ ?_;refine⟨k+1,⟨zo,λi hi=>next (λq=>by rw[af.Eb.2 q.1] at hv;cases hv) hi⟩,zd,aC (by exact sK) rfl⟩
   refine sW ?_;refine sL (tw (k:=k) zo zo) ?_;cases hg:decide (val M k>0)
   ·refine aQ ?_;refine⟨k+1,⟨zo,λi hi=>next (λq=>by rw[gQ q.2.1] at hg;cases hg) hi⟩,zd,aC (by exact sK) rfl⟩
   refine sW ?_;refine sL (oR P (k:=k) zo ai) ?_;refine sS (λh6=>?_) λh6=>?_
   ·have h6:P.dst k≠n:=sO;rw[af.XJ fq ⟨by rw[hx];omega,k,ai,by rw[hx];exact⟨af.Eb.1 hv,pH hg,h6⟩⟩];exact .refl _
   have h6:P.dst k=n:=sO;refine sI ?_;refine⟨k+1,⟨zo,λi hi=>next (λq=>q.2.2 h6) hi⟩,zd,aC (by exact sK) rfl⟩
  have ai:k=P.aH.length:=by have:¬k<P.aH.length:=sO
                            omega
  subst ai;refine sI ?_;refine⟨a+1,⟨zo,λj hj=>?_⟩,zd,aC ⟨by simp only[ep];rfl,by exact sK⟩ rfl⟩;by_cases e:j=a
  ·subst e;rintro⟨-,i,q1,q2⟩;rw[hx] at q2;exact cg i q1 q2
  exact bR j zo
 have fq:a=(P.bE n).length:=by have:¬a<(P.bE n).length:=sO
                               omega
 subst fq;rw[af.Yv bR];exact .refl _
theorem zjk(M:ah)(x:Int)(h1:0<=x)(h2:x<M.length):ao aj 239 [aa x,.ax [aF M]]<|ay<|val M x.toNat==0:=by
 refine bt ?_;refine sL (tw (k:=x.toNat) zo zo) ?_;exact .refl _
theorem UL(hP:P.Fits)(h0:P.aU=0)(M:ah)(hM:P.Mark M)(s:bP)(hs:P.CR s) :
  ao aj 174 [b7 P,aF M,.agg<|wG s] (ay<|P.pb M s):=by
 obtain⟨lq,lk⟩:=jo h0;have hn:=hs.node;have aY:=hs.in_;obtain⟨hE,hI,_⟩:=QE h0 hn.1 hn.2;have hi:=Ih P hP s.1;rw[hI,hE] at hi;have l1:=P.CS s.1;have lM:=hM.len
 have JZ:ao aj 66 [aF<|P.bE s.1,.fn (.func 239) [] [.ax [aF M]]] (ay<|(P.bE s.1).any λx=>val M x.toNat==0) :=
  mh (λn=>aa n) (λ_=>by simp[Pure]) (P.bE s.1) zo (λx=>val M x.toNat==0) 239 [.ax [aF M]] zp λa ha=>by
   obtain⟨k,hk,e⟩:=af.znJ ha;have:=af.CK (P:=P) (n:=s.1) hk;unfold af.ix at this;rw[e] at this;exact zjk M _ this.1 zo
 refine bS fZ ?_;have e:P.pb M s=if 0<=s.2.1 then decide (0<val M s.2.1.toNat) else if P.kind s.1.toNat=7 then P.Au M s.1 else P.wV M s.1 (P.bE s.1).length:=rfl
 refine sRS (λh1=>?_) λh1=>?_
 ·have h1:0<=s.2.1:=sO;rw[ae h1] at e;refine sL (tw (k:=s.2.1.toNat) zo zo) ?_;rw[e];exact .refl _
 have h1:¬0<=s.2.1:=sO;rw[ab h1] at e;refine sL (jv P (k:=s.1.toNat) zo zo) ?_;refine sS (λh2=>?_) λh2=>?_
 ·have h2:P.kind s.1.toNat=7:=sO;rw[ae h2] at e;refine sC (zpx P hP h0 M hM s.1 hn.1 hn.2) ?_;rw[e];exact .refl _
 have h2:P.kind s.1.toNat≠7:=sO;rw[ab h2] at e;refine sC hi ?_;refine sN JZ ?_;rw[e,af.Zn hM.pos,af.zsD];exact .refl _
end
section
theorem zAT(M:ah):gl M.length (val M)=M:=by
 apply Ea
 ·simp
 intro i h1 h2;simp[gl,val,a8,aX h2]
theorem zun{y:Int}(h:0<=y)(h':y<9223372036854775808):kh .and .i64 y 1=y.tmod 2:=by
 obtain⟨n,rfl⟩:∃n:Nat,y=n:=⟨y.toNat,zo⟩;have e:(BitVec.ofInt 64 (n:Int) &&& BitVec.ofInt 64 1).toNat=n%2:=by
  grind
 show IntKind.i64.wrap ((BitVec.ofInt 64 (n:Int) &&& BitVec.ofInt 64 1).toNat:Int)=_;rw[e,show((n:Int).tmod 2)=((n%2:Nat):Int) from(Int.ofNat_tmod n 2).symm,po];omega
namespace af
def qx(P:af)(M:ah)(s:bP)(f:Nat):Bool:=decide (P.dst f=s.1)&&(s.2.1==(f:Int)||decide (s.2.1<0)&&decide (0<val M f))
def mQ(P:af)(M:ah)(s:bP)(f:Nat):Int:=val M f-if P.qx M s f=true then 1 else 0
def jd(P:af)(s:bP)(f:Nat):Nat->Int
 |0=>0
 |k+1=>P.jd s f k+if P.lS s.1 k=(f:Int)/\oO s.2.2 k=true then 1 else 0
def fv(P:af)(M:ah)(s:bP)(f:Nat):Int:=P.mQ M s f+P.jd s f (P.cn s.1).length
theorem zf(P:af)(s:bP)(f:Nat):∀k,0<=P.jd s f k/\P.jd s f k<=k
 |0=>by simp[jd]
 |k+1=>by
  have:=zf P s f k;simp only[jd];split<;>omega
theorem W8(P:af)(s:bP)(f:Nat){j:Nat}:∀{k:Nat},j<=k->P.jd s f j<=P.jd s f k
 |0,h=>by rw[show j=0 by omega];exact Int.le_refl _
 |k+1,h=>by
  by_cases e:j=k+1
  ·rw[e];exact Int.le_refl _
  have:=W8 P s f (j:=j) (k:=k) zo;have h2:P.jd s f k<=P.jd s f (k+1):=by
   simp only[jd];split<;>omega
  omega
variable{P:af}{M:ah}
theorem QA(hM:P.Mark M)(s:bP)(f:Nat):-1<=P.mQ M s f/\P.mQ M s f<=9:=by
 have h1:=hM.pos f;have h2:=hM.top f;unfold mQ
 grind
open Classical in
noncomputable def mX(P:af)(M:ah)(s:bP):Int:=if P.kind s.1.toNat=3 then 0 else if ∃f,f<P.aH.length/\9<P.fv M s f then 7 else 0
noncomputable def uq(P:af)(M:ah)(s:bP):ah :=
 if P.kind s.1.toNat=3 then gl P.aH.length λ_=>0 else if P.mX M s=0 then gl P.aH.length<|P.fv M s else []
variable{l:ah}{a:Nat}
theorem Pc{r:ah}(h:a<l.length):(l++r).getD a 0=l.getD a 0:=by
 grind
theorem zjd:(l++[x]).getD l.length 0=x:=by
 grind
theorem Qq{p:aq}:∀{n a b:Nat},a<b->b<(pick p n).length->(pick p n).getD a 0<(pick p n).getD b 0
 |0,_,_,_,h=>by simp[pick] at h
 |n+1,a,b,Gu,h=>by
  simp only[pick] at h⊢;split
  ·rename_i hp;rw[ae hp,cL,lb] at h;by_cases e:b=(pick p n).length
   ·subst e;obtain⟨i,g1,g2,g3⟩:=DQ.1<|P' (l:=pick p n) (a:=a) Gu;rw[Pc Gu,g3,zjd];omega
   rw[Pc zo,Pc zo];exact Qq Gu zo
  rename_i hp;rw[ab hp] at h;exact Qq Gu h
variable{n:Int}
theorem zyu{b:Nat}(h:a<b)(hb:b<(P.bE n).length):P.ix n a<P.ix n b:=Qq h hb
variable{f:Nat}
theorem ZO(hf:f<P.aH.length)(h:P.dst f=n):∃a,a<(P.bE n).length/\P.ix n a=f:=pd<|DQ.2 ⟨f,hf,by simpa using h,rfl⟩
structure vH(P:af)(M:ah)(s:bP)(g:Nat->Int)(a:Nat):Prop where
 gone:∀f j:Nat,j<a->P.ix s.1 j=(f:Int)->g f=P.mQ M s f
 left:∀f:Nat,(∀j,j<a->P.ix s.1 j≠(f:Int))->g f=val M f
variable{s:bP}
theorem vH.begin:P.vH M s (val M) 0:=⟨λf j h=>zo,λf _=>rfl⟩
variable{x:Nat}
theorem vH.old(h:P.vH M s g a)(ha:a<(P.bE s.1).length)(hx:P.ix s.1 a=(x:Int)):g x=val M x :=
 h.left x λj hj e=>by
  have:=zyu hj ha;omega
theorem vH.next{g':Nat->Int}(h:P.vH M s g a)(ha:a<(P.bE s.1).length)(hx:P.ix s.1 a=(x:Int))(h1:g' x=P.mQ M s x)(h2:∀f,f≠x->g' f=g f):P.vH M s g' (a+1) where
 gone f j hj e:=by
  by_cases q:f=x
  ·subst q;exact h1
  rw[h2 f q];refine h.gone f j ?_ e;by_cases q2:j=a
  ·subst q2;rw[hx] at e;omega
  omega
 left f hf:=by
  rw[h2 f λe=>by subst e;exact hf a zo hx];exact h.left f λj hj=>hf j zo
theorem vH.fin(h:P.vH M s g (P.bE s.1).length)(hf:f<P.aH.length):g f=P.mQ M s f:=by
 by_cases e:P.dst f=s.1
 ·obtain⟨a,h1,h2⟩:=ZO hf e;exact h.gone f a h1 h2
 rw[h.left f λj hj q=>e<|by have:=(CK (P:=P) (n:=s.1) hj).2.2;rw[q,bO] at this;exact this];unfold mQ qx
 grind
theorem Ex(h:P.lS s.1 k=(x:Int))(hb:oO s.2.2 k):P.jd s x (k+1)=P.jd s x k+1:=by
 simp only[jd]
 grind
theorem tK(h:P.lS s.1 k≠(f:Int)\/oO s.2.2 k=false):P.jd s f (k+1)=P.jd s f k:=by
 simp only[jd]
 grind
end af
end
section
@[simp] theorem zAc{m:Nat}(l:List bP):aK m (jx l)↔True:=⟨λ_=>trivial,λ_=>bz _<|Dx l⟩
namespace af
def nf(P:af)(M:ah):Bool:=decide (M.length=P.aH.length)&&bq M 10
noncomputable def lI(P:af)(M:ah):Int:=if P.ew≠0 then P.ew else if P.nf M=true then 0 else 1
noncomputable def w9(P:af)(M:ah):List bP:=if P.lI M=0 then P.aR else []
variable{P:af}{M:ah}
theorem fo(h:P.nf M):P.Mark M:=by
 unfold nf at h;rw[gr,ja] at h;have k:∀i,0<=val M i/\val M i<=9:=λi=>by
  by_cases hi:i<M.length
  ·have:=nZ h.2 hi;unfold val;omega
  unfold val
  grind
 exact⟨h.1,λi=>(k i).1,λi=>(k i).2⟩
theorem kB(h:P.ew=0):P.aU=0/\P.aR=P.nN P.nodes.length/\P.aR.length<=60:=by
 have e:P.aR=P.nN P.nodes.length:=by unfold aR;rw[ae h]
 unfold ew at h;repeat grind
theorem Lz(h:P.lI M=0):P.ew=0/\P.nf M:=by
 unfold lI at h;repeat grind
theorem yW(h:P.ew=0)(hk:k<P.aR.length):P.CR<|P.aR.getD k (0,0,0):=by
 obtain⟨h0,e,_⟩:=kB h;refine Kh (jo h0).2 (aS _) ?_
 grind
end af
theorem uZ{l:List bP}(hz:z=k)(h:k<l.length):(ic l)[z]? = some (wG<|l.getD k (0,0,0)):=by
 rw[zAb hz h,a8,aX h];rfl
def rq(P:af)(i:Nat):Int:=if P.kind (P.src i).toNat=1 then 1 else 0
noncomputable def af.kr(P:af):ah:=if P.ew=0 then gl P.aH.length<|rq P else []
theorem zmZ(x:Int):ao aj 237 [aa x]<|ay<|decide (x<0)||decide (x>9):=by
 refine bt ?_;cases h:decide (x<0)
 ·refine sW ?_;exact .refl _
 refine sW ?_;exact .refl _
theorem zyQ(M:ah):(M.any λx=>decide (x<0)||decide (x>9))=!bq M 10:=by
 unfold bq
 grind
variable(P:af)
theorem Xa(hP:P.Fits)(M:ah)(hM:M.length<=9223372036854775807):ao aj 173 [b7 P,aF M] (.aJ [jx<|P.w9 M,aa<|P.lI M]):=by
 refine bS fZ ?_;have bad:∀{H:aE} {e:Int},e≠0->P.lI M=e->Deep H (.aJ [au,aa e]) (.aJ [jx<|P.w9 M,aa<|P.lI M]):=λh k=>by
  have:P.w9 M=[]:=by unfold af.w9;rw[ab<|by rw[k];exact h]
  rw[k,this];exact .aJ _ _ (.cons _ _ _ _ (.none _) (.cons _ _ _ _ (.refl _) .nil))
 have JZ:=mh (λn=>aa n) (λ_=>by simp[Pure]) M hM (λx=>decide (x<0)||decide (x>9)) 237 [] zp λa _=>zmZ a;rw[zyQ] at JZ;have s9:=hP.aH;have eE:P.lI M=if P.ew≠0 then P.ew else if P.nf M=true then 0 else 1:=rfl
 refine sR ?_;refine sC (AQ P hP) ?_;refine sS (λh1=>?_) λh1=>?_
 ·have h1:P.ew≠0:=sO;exact bad h1<|by rw[eE,ae h1]
 have h1:P.ew=0:=sO;rw[ab zo] at eE;rw[aI,aI];cases h2:((M.length:Int) != P.aH.length)
 ·have h2:M.length=P.aH.length:=sO;refine sW ?_;refine sC JZ ?_;have eM:P.nf M=bq M 10:=(by unfold af.nf;rw[gQ h2,kP]);cases h3:bq M 10
  ·refine sW ?_;exact bad zc<|by rw[eE,ab<|by rw[eM,h3];decide]
  refine sW ?_;have e0:P.lI M=0:=(by rw[eE,ae<|by rw[eM,h3]]);have eL:P.w9 M=P.aR:=(by unfold af.w9;rw[ae e0]);rw[e0,eL];exact .refl _
 have h2:M.length≠P.aH.length:=sO;refine sW ?_;exact bad zc<|by rw[eE,ab<|by unfold af.nf;rw[gI h2];simp]
noncomputable def af.eZ(P:af)(M:ah):ah:=if P.lI M=0 then P.oA M P.aR P.aR.length else []
theorem zmi(hP:P.Fits)(M:ah)(hM:M.length<=9223372036854775807):ao aj 126 [b7 P,aF M] (.aJ [aF<|P.eZ M,aa<|P.lI M]):=by
 refine bt ?_;refine sC (Xa P hP M hM) ?_;refine sS (λh1=>?_) λh1=>?_
 ·have h1:P.lI M≠0:=sO;have:P.eZ M=[]:=by unfold af.eZ;rw[ab h1]
  rw[this];exact .aJ _ _ (.cons _ _ _ _ (.none _) (.cons _ _ _ _ (.refl _) .nil))
 have h1:P.lI M=0:=sO;obtain⟨hE,hB⟩:=af.Lz h1;obtain⟨h0,_,xo⟩:=af.kB hE;have hK:=af.fo hB;have eL:P.w9 M=P.aR:=by unfold af.w9;rw[ae h1]
 have eN:P.eZ M=P.oA M P.aR P.aR.length:=by unfold af.eZ;rw[ae h1]
 rw[eL,h1,eN,BD];refine bQ (eo 8 1 zs rfl) ?_;refine bb [1,2,20,21] (λ((k,c,l):Nat×Nat×ah)=>[(8,.own 1 c 0 c),(22,aa k)]) (λ(k,c,l)=>[(1,.vec true c 1<|aw l)]) (λ(k,c,l)=>k<=P.aR.length/\c=l.length/\c<=k/\l=P.oA M P.aR k) (λ(k,c,l)=>P.aR.length-k) (0,0,[]) ?_;refine sW ?_;refine⟨⟨zo,rfl,zo,rfl⟩,by exact sK,rfl,?_⟩;rintro⟨k,c,l⟩ ⟨hk,hc,lH,hl⟩;refine bf (λh2=>?_) λh2=>?_
 ·have ai:k<P.aR.length:=sO;have uM:=af.yW hE ai;have eT:P.oA M P.aR (k+1)=if P.pb M (P.aR.getD k (0,0,0))=true then P.oA M P.aR k++[(k:Int)] else P.oA M P.aR k:=rfl
  refine sL (uZ (k:=k) zo ai) ?_;generalize P.aR.getD k (0,0,0)=s at uM eT;refine sC (UL P hP h0 M hK s uM) ?_;cases hm:P.pb M s
  ·refine aQ ?_;refine⟨(k+1,c,l),⟨zo,hc,zo,by rw[eT,hm,hl];rfl⟩,zd,?_⟩;exact aL 2 zs rfl sQ sQ
  refine ke ?_;refine⟨(k+1,c+1,l++[(k:Int)]),⟨zo,by simp[hc],zo,by rw[eT,hm,hl];rfl⟩,zd,?_⟩;refine aL 2 zs rfl sQ (sU ?_);exact aV<|kJ hc
 have ai:k=P.aR.length:=by have:¬k<P.aR.length:=sO
                           omega
 subst ai;rw[<-hl];exact .aJ _ _ (.cons _ _ _ _ (oY hc rfl) (.cons _ _ _ _ (.refl _) .nil))
theorem zp3(hP:P.Fits):ao aj 54 [b7 P] (.aJ [aF P.kr,aa P.ew]):=by
 refine bt ?_;refine sC (AQ P hP) ?_;refine sS (λh1=>?_) λh1=>?_
 ·have h1:P.ew≠0:=sO;have:P.kr=[]:=by unfold af.kr;rw[ab h1]
  rw[this];exact .aJ _ _ (.cons _ _ _ _ (.none _) (.cons _ _ _ _ (.refl _) .nil))
 have h1:P.ew=0:=sO;obtain⟨h0,_,_⟩:=af.kB h1;obtain⟨lq,lk⟩:=jo h0;have eB:P.kr=gl P.aH.length (rq P):=by unfold af.kr;rw[ae h1]
 rw[aI,h1,eB];refine⟨zo,zo,zo,?_⟩;rw[bO,show List.map D.sc [Value.int .i64 0]=[aa 0] from rfl,yE];refine sW ?_;rw[aI];refine bb [1,6,22,23] (λ((k,g):Nat×(Nat->Int))=>[(24,aa k)]) (λ(k,g)=>[(1,.vec true 0 1<|aw<|gl P.aH.length g)]) (λ(k,g)=>k<=P.aH.length/\∀i,g i=if i<k then rq P i else 0) (λ(k,g)=>P.aH.length-k) (0,λ_=>0) ?_;refine sW ?_;refine⟨⟨zo,λi=>rfl⟩,by exact sK,rfl,?_⟩;rintro⟨k,g⟩ ⟨hk,hg⟩;refine bf (λh2=>?_) λh2=>?_
 ·have ai:k<P.aH.length:=sO;have hfk:=af.x8.1<|Nr h0 k ai;refine sL (oR P (k:=k) zo ai) ?_;refine sL (jv P (k:=(P.src k).toNat) zo zo) ?_;refine sS (λh3=>?_) λh3=>?_
  ·have h3:P.kind (P.src k).toNat=1:=sO;refine sB ?_;refine⟨_,bX k zo zo,?_⟩;refine aQ ?_;refine⟨(k+1,fB g k 1),⟨zo,λi=>?_⟩,zd,?_⟩
   ·by_cases e:i=k
    ·subst e;rw[kq,ae zo];unfold rq;rw[ae h3]
    rw[tv e,hg];by_cases q:i<k
    ·rw[ae q,ae zo]
    rw[ab q,ab zo]
   refine aL 2 zs rfl sQ (sU ?_);exact aV<|kV zo
  have h3:P.kind (P.src k).toNat≠1:=sO;refine sI ?_;refine⟨(k+1,g),⟨zo,λi=>?_⟩,zd,?_⟩
  ·rw[hg];by_cases e:i=k
   ·subst e;rw[ab zo,ae zo];unfold rq;rw[ab h3]
   by_cases q:i<k
   ·rw[ae q,ae zo]
   rw[ab q,ab zo]
  exact aL 2 zs rfl sQ sQ
 have ai:k=P.aH.length:=by have:¬k<P.aH.length:=sO
                           omega
 subst ai;have e:gl P.aH.length (rq P)=gl P.aH.length g:=ou λi hi=>by rw[hg,ae hi]
 rw[e];exact .aJ _ _ (.cons _ _ _ _ (vV rfl) (.cons _ _ _ _ (.refl _) .nil))
end
section
theorem zyp{zs:fc}{y:bj}(h:zs.length=n):zs.take 0++List.replicate (n-0) y++zs.drop n=List.replicate n y:=by
 grind
theorem zqo(h:0<=x)(h':x<=1073741824)(k:Nat):0<=x.fdiv (2^k)/\x.fdiv (2^k)<9223372036854775808:=by
 have hp:(0:Int)<2^k:=Int.pow_pos zc;rw[Int.fdiv_eq_ediv_of_nonneg _ zo];have h1:=Int.ediv_nonneg h (by omega:(0:Int)<=2^k);have h2:=Int.ediv_le_self (2^k) h;omega
variable(P:af)
theorem zty(hP:P.Fits)(h0:P.aU=0)(M:ah)(hM:P.Mark M)(s:bP)(hs:P.CR s) :
  ao aj 175 [b7 P,aF M,.agg<|wG s] (.aJ [aF<|P.uq M s,aa<|P.mX M s]):=by
 obtain⟨lq,lk⟩:=jo h0;have hn:=hs.node;obtain⟨hE,hI,hO⟩:=QE h0 hn.1 hn.2;have hi:=Ih P hP s.1;have ho:=Vn P hP s.1;rw[hI,hE] at hi;rw[hO,hE] at ho;have l1:=P.CS s.1;have l2:=P.Cz s.1;have lM:=hM.len;have DY:=hs.out;have eE:P.mX M s=if P.kind s.1.toNat=3 then 0 else if ∃f,f<P.aH.length/\9<P.fv M s f then 7 else 0:=by unfold af.mX;rfl
 have eL:P.uq M s=if P.kind s.1.toNat=3 then gl P.aH.length λ_=>0 else if P.mX M s=0 then gl P.aH.length<|P.fv M s else []:=rfl
 refine bt ?_;refine sE (rA (OR M zo) zp [2] rfl rfl (by simp[al.aP,bL,D.aP];rfl)) ?_;rw[lM];refine sL (jv P (k:=s.1.toNat) zo zo) ?_;refine sS (λh1=>?_) λh1=>?_
 ·have h1:P.kind s.1.toNat=3:=sO;rw[ae h1] at eE eL;rw[eE,eL,zyp<|by rw[aI];exact lM,yE];exact .aJ _ _ (.cons _ _ _ _ (vV rfl) (.cons _ _ _ _ (.refl _) .nil))
 have h1:P.kind s.1.toNat≠3:=sO;rw[ab h1] at eE eL;refine sC hi ?_;rw[aI];have eM:(M.map λn=>[aa n])=aw (gl P.aH.length<|val M):=by rw[<-lM,zAT];rfl
 refine bb [3,5,8,36,37] (λ((a,g):Nat×(Nat->Int))=>[(38,aa a)]) (λ(a,g)=>[(2,.vec true 1 1<|aw<|gl P.aH.length g)]) (λ(a,g)=>a<=(P.bE s.1).length/\P.vH M s g a) (λ(a,g)=>(P.bE s.1).length-a) (0,val M) ?_;refine sW ?_;refine⟨⟨zo,af.vH.begin⟩,by exact sK,by rw[eM];rfl,?_⟩;rintro⟨a,g⟩ ⟨ha,hA⟩;refine bf (λh2=>?_) λh2=>?_
 ·have fq:a<(P.bE s.1).length:=sO;have aY:=af.CK (P:=P) (n:=s.1) fq;obtain⟨X,hX⟩:∃X:Nat,P.ix s.1 a=X:=⟨_,(uY aY.1).symm⟩;have hold:=hA.old fq hX;have v1:=hM.pos X;have v2:=hM.top X;refine sL (bV (k:=a) zo fq) ?_;rw[show(P.bE s.1).getD a 0=P.ix s.1 a from rfl,hX];rw[hX,bO] at aY;have eD:P.qx M s X=(s.2.1==(X:Int)||decide (s.2.1<0)&&decide (0<val M X)):=(by unfold af.qx;rw[gQ aY.2.2,kP]);have eBase:P.mQ M s X=val M X-if P.qx M s X=true then 1 else 0:=rfl
  cases h3:(s.2.1==(X:Int))
  ·refine sW ?_;rw[h3,vW] at eD;cases h4:decide (s.2.1<0)
   ·rw[h4,pT] at eD;rw[ab<|by rw[eD];decide,Int.sub_zero] at eBase;refine aQ ?_;refine⟨(a+1,g),⟨zo,hA.next fq hX (by rw[eBase,hold]) λf hf=>rfl⟩,zd,?_⟩;exact aC (by exact sK) rfl
   refine bC ?_;refine⟨_,bX X zo zo,?_⟩;refine sW ?_;rw[h4,kP] at eD;rw[hold];cases h5:decide (val M X>0)
   ·have eD:P.qx M s X=false:=(by rw[eD];exact h5);rw[ab<|by rw[eD];decide,Int.sub_zero] at eBase;refine aQ ?_;refine⟨(a+1,g),⟨zo,hA.next fq hX (by rw[eBase,hold]) λf hf=>rfl⟩,zd,?_⟩;exact aC (by exact sK) rfl
   have eD:P.qx M s X:=(by rw[eD];exact h5);rw[ae eD] at eBase;refine bC ?_;refine⟨_,bX X zo zo,?_⟩;refine aQ ?_;refine sB ?_;refine⟨_,bX X zo zo,?_⟩;refine aQ ?_;refine⟨(a+1,fB g X<|g X-1),⟨zo,hA.next fq hX (by rw[kq,eBase,hold]) λf hf=>tv hf⟩,zd,?_⟩;exact aC (by exact sK)<|by rw[kV (k:=X) zo];rfl
  rw[h3,y8] at eD;rw[ae eD] at eBase;refine bC ?_;refine⟨_,bX X zo zo,?_⟩;refine aQ ?_;refine sB ?_;refine⟨_,bX X zo zo,?_⟩;refine aQ ?_;refine⟨(a+1,fB g X<|g X-1),⟨zo,hA.next fq hX (by rw[kq,eBase,hold]) λf hf=>tv hf⟩,zd,?_⟩;exact aC (by exact sK)<|by rw[kV (k:=X) zo];rfl
 have fq:a=(P.bE s.1).length:=by have:¬a<(P.bE s.1).length:=sO
                                 omega
 subst fq;refine sC ho ?_;rw[aI];refine bb [5,8,72,73] (λ((k,g):Nat×(Nat->Int))=>[(74,aa k)]) (λ(k,g)=>[(2,.vec true 1 1<|aw<|gl P.aH.length g)]) (λ(k,g)=>k<=(P.cn s.1).length/\∀f,f<P.aH.length->g f=P.mQ M s f+P.jd s f k/\g f<=9) (λ(k,g)=>(P.cn s.1).length-k) (0,g) ?_;refine sW ?_;refine⟨⟨zo,λf hf=>?_⟩,by exact sK,rfl,?_⟩
 ·have b1:=af.QA hM s f;rw[hA.fin hf];exact⟨by simp[af.jd],b1.2⟩
 clear hA h2;rintro⟨k,g⟩ ⟨hk,hg⟩;refine bf (λh2=>?_) λh2=>?_
 ·have ai:k<(P.cn s.1).length:=sO;have aY:=af.EJ (P:=P) (n:=s.1) ai;obtain⟨X,hX⟩:∃X:Nat,P.lS s.1 k=X:=⟨_,(uY aY.1).symm⟩;refine sL (bV (k:=k) zo ai) ?_;rw[show(P.cn s.1).getD k 0=P.lS s.1 k from rfl,hX];rw[hX,bO] at aY;have fd:=zqo DY.1 DY.2<|min (k:Int).toNat IntKind.i64.bits;refine⟨zo,?_⟩;refine sW ?_;have eb:(kh .and .i64 (s.2.2.fdiv<|2^min (k:Int).toNat IntKind.i64.bits) 1==1)=oO s.2.2 k:=(by rw[zun fd.1 fd.2];rfl);rw[eb];obtain⟨g1,g2⟩:=hg X zo;have b1:=af.QA hM s X;have b2:=af.zf P s X k;refine sS (λh3=>?_) λh3=>?_
  ·have hh:=af.Ex hX h3;refine sB ?_;refine⟨_,bX X zo zo,?_⟩;refine aQ ?_;refine sB ?_;refine⟨_,bX X zo zo,?_⟩;refine sW ?_;rw[kV (k:=X) zo];refine sB ?_;refine⟨_,bX X zo zo,?_⟩;refine sW ?_;rw[kq];refine sS (λh4=>?_) λh4=>?_
   ·have h4:9<g X+1:=sO;have hm:=af.W8 P s X (j:=k+1) (k:=(P.cn s.1).length) zo;have e7:P.mX M s=7:=(by rw[eE,ae ⟨X,zo,by unfold af.fv;omega⟩]);rw[e7] at eL;rw[e7,eL,ab zc];exact .aJ _ _ (.cons _ _ _ _ (.none _) (.cons _ _ _ _ (.refl _) .nil))
   have h4:g X+1<=9:=sO;refine sI ?_;refine⟨(k+1,fB g X<|g X+1),⟨zo,λf hf=>?_⟩,zd,aC (by exact sK) rfl⟩;by_cases e:f=X
   ·subst e;rw[kq,hh];omega
   rw[tv e,af.tK (.inl<|by rw[hX];omega)];exact hg f hf
  refine sI ?_;refine⟨(k+1,g),⟨zo,λf hf=>?_⟩,zd,aC (by exact sK) rfl⟩;rw[af.tK (.inr h3)];exact hg f hf
 have ai:k=(P.cn s.1).length:=by have:¬k<(P.cn s.1).length:=sO
                                 omega
 subst ai;have e0:P.mX M s=0:=by
  rw[eE,ab];rintro⟨f,hf,h9⟩;have:=hg f hf;unfold af.fv at h9;omega
 rw[e0,ae rfl] at eL;have e:gl P.aH.length (P.fv M s)=gl P.aH.length g:=ou λf hf=>(hg f hf).1.symm;rw[e0,eL,e];exact .aJ _ _ (.cons _ _ _ _ (vV rfl) (.cons _ _ _ _ (.refl _) .nil))
open Classical in
noncomputable def af.nO(P:af)(M:ah)(k:Int):Int :=
 if P.lI M≠0 then P.lI M else if k<0\/(P.aR.length:Int)<=k then 1
 else if P.pb M (P.aR.getD k.toNat (0,0,0))=true then P.mX M<|P.aR.getD k.toNat (0,0,0) else 9
noncomputable def af.gJ(P:af)(M:ah)(k:Int):ah:=if P.nO M k=0 then P.uq M<|P.aR.getD k.toNat (0,0,0) else []
theorem T1{P:af}{M:ah}{s:bP}(h:P.mX M s≠0):P.uq M s=[]:=by
 unfold af.uq;split
 ·rename_i q;exfalso;apply h;unfold af.mX
  grind
 repeat grind
theorem zub(hP:P.Fits)(M:ah)(hM:M.length<=9223372036854775807)(k:Int) :
  ao aj 127 [b7 P,aF M,aa k] (.aJ [aF<|P.gJ M k,aa<|P.nO M k]):=by
 have eE:P.nO M k=if P.lI M≠0 then P.lI M else if k<0\/(P.aR.length:Int)<=k then 1
  else if P.pb M (P.aR.getD k.toNat (0,0,0))=true then P.mX M<|P.aR.getD k.toNat (0,0,0) else 9:=by unfold af.nO;rfl
 have eL:P.gJ M k=if P.nO M k=0 then P.uq M<|P.aR.getD k.toNat (0,0,0) else []:=rfl
 refine bS fZ ?_;have bad:∀{H:aE} {e:Int},e≠0->P.nO M k=e->Deep H (.aJ [au,aa e]) (.aJ [aF<|P.gJ M k,aa<|P.nO M k]):=λh q=>by
  rw[eL,q,ab h];exact .aJ _ _ (.cons _ _ _ _ (.none _) (.cons _ _ _ _ (.refl _) .nil))
 refine sR ?_;refine sC (Xa P hP M hM) ?_;refine sS (λh1=>?_) λh1=>?_
 ·have h1:P.lI M≠0:=sO;exact bad h1<|by rw[eE,ae h1]
 have h1:P.lI M=0:=sO;obtain⟨hE,hB⟩:=af.Lz h1;obtain⟨h0,_,xo⟩:=af.kB hE;have hK:=af.fo hB;have eN:P.w9 M=P.aR:=by unfold af.w9;rw[ae h1]
 rw[ab zo] at eE;rw[eN];cases h2:decide (k<0)
 ·have h2:¬k<0:=sO;refine sW ?_;rw[BD];refine sS (λh3=>?_) λh3=>?_
  ·exact bad zc<|by rw[eE,ae (.inr<|sO)]
  have h3:¬(P.aR.length:Int)<=k:=sO;rw[ab zo] at eE;have ai:k.toNat<P.aR.length:=zo;have uM:=af.yW hE ai;refine sL (uZ (k:=k.toNat) zo ai) ?_;generalize hS:P.aR.getD k.toNat (0,0,0)=s at uM eE eL;refine sC (UL P hP h0 M hK s uM) ?_;cases h4:P.pb M s
  ·refine sW ?_;exact bad zc<|by rw[eE,ab<|by rw[h4];decide]
  rw[ae h4] at eE;refine sW ?_;refine sL (uZ (k:=k.toNat) zo ai) ?_;rw[hS];refine sC (zty P hP h0 M hK s uM) ?_;have e:P.gJ M k=P.uq M s:=by
   rw[eL,eE];split
   ·rfl
   rename_i q;exact(T1 q).symm
  rw[eE,e];exact .refl _
 have h2:k<0:=sO;refine sW ?_;exact bad zc<|by rw[eE,ae (.inl h2)]
end
section
variable(P:af)
theorem zs2(hP:P.Fits)(h1:P.ew=0):ao aj 36 [b7 P]<|aF P.kr:=by
 obtain⟨h0,_,_⟩:=af.kB h1;obtain⟨lq,lk⟩:=jo h0;have eB:P.kr=gl P.aH.length (rq P):=by unfold af.kr;rw[ae h1]
 refine bt ?_;rw[aI,eB];refine⟨zo,zo,zo,?_⟩;rw[bO,show List.map D.sc [Value.int .i64 0]=[aa 0] from rfl,yE];refine sW ?_;refine bb [1,3] (λ((k,g):Nat×(Nat->Int))=>[(4,aa k)]) (λ(k,g)=>[(1,.vec true 0 1<|aw<|gl P.aH.length g)]) (λ(k,g)=>k<=P.aH.length/\∀i,g i=if i<k then rq P i else 0) (λ(k,g)=>P.aH.length-k) (0,λ_=>0) ?_;refine sW ?_;refine⟨⟨zo,λi=>rfl⟩,by exact sK,rfl,?_⟩;rintro⟨k,g⟩ ⟨hk,hg⟩;refine bf (λh2=>?_) λh2=>?_
 ·have ai:k<P.aH.length:=sO;have hfk:=af.x8.1<|Nr h0 k ai;refine sL (oR P (k:=k) zo ai) ?_;refine sL (jv P (k:=(P.src k).toNat) zo zo) ?_;refine sS (λh3=>?_) λh3=>?_
  ·have h3:P.kind (P.src k).toNat=1:=sO;refine sB ?_;refine⟨_,bX k zo zo,?_⟩;refine aQ ?_;refine⟨(k+1,fB g k 1),⟨zo,λi=>?_⟩,zd,aC (by exact sK)<|by rw[kV (k:=k) zo];rfl⟩;by_cases e:i=k
   ·subst e;rw[kq,ae zo];unfold rq;rw[ae h3]
   rw[tv e,hg];by_cases q:i<k
   ·rw[ae q,ae zo]
   rw[ab q,ab zo]
  have h3:P.kind (P.src k).toNat≠1:=sO;refine sI ?_;refine⟨(k+1,g),⟨zo,λi=>?_⟩,zd,aC (by exact sK) rfl⟩;rw[hg];by_cases e:i=k
  ·subst e;rw[ab zo,ae zo];unfold rq;rw[ab h3]
  by_cases q:i<k
  ·rw[ae q,ae zo]
  rw[ab q,ab zo]
 have ai:k=P.aH.length:=by have:¬k<P.aH.length:=sO
                           omega
 subst ai;have e:gl P.aH.length (rq P)=gl P.aH.length g:=ou λi hi=>by rw[hg,ae hi]
 rw[e];exact vV rfl
theorem zzR(hP:P.Fits)(h0:P.aU=0)(M:ah)(hM:P.Mark M)(s:bP)(hs:P.CR s) :
  ao aj 82 [b7 P,aF M,.agg<|wG s] (ay<|P.pb M s):=by
 obtain⟨lq,lk⟩:=jo h0;have hn:=hs.node;have aY:=hs.in_;have l1:=P.CS s.1;have lM:=hM.len;refine bS fZ ?_;have e:P.pb M s=if 0<=s.2.1 then decide (0<val M s.2.1.toNat) else if P.kind s.1.toNat=7 then P.Au M s.1 else P.wV M s.1 (P.bE s.1).length:=rfl
 refine sRS (λh1=>?_) λh1=>?_
 ·have h1:0<=s.2.1:=sO;rw[ae h1] at e;refine sL (tw (k:=s.2.1.toNat) zo zo) ?_;rw[e];exact .refl _
 have h1:¬0<=s.2.1:=sO;have zQG:=hs.kind zo;rw[ab h1] at e;refine sC (Mz P hP zo s.1) ?_;refine bb [1,3,5,7] (λa:Nat=>[(8,ay<|P.wD M s.1 a),(9,ay<|P.wV M s.1 a),(10,aa a)]) (λ_=>[]) (λa=>a<=(P.bE s.1).length) (λa=>(P.bE s.1).length-a) 0 ?_;refine dd ?_;rintro a ha;refine ck ?_;rw[aI];refine sS (λh2=>?_) λh2=>?_
 ·have fq:a<(P.bE s.1).length:=sO;have L':=af.CK (P:=P) (n:=s.1) fq;have ep:P.wD M s.1 (a+1)=(P.wD M s.1 a||decide (0<val M (P.ix s.1 a).toNat)):=rfl;have el:P.wV M s.1 (a+1)=(P.wV M s.1 a&&decide (0<val M (P.ix s.1 a).toNat)):=rfl;have rd:(P.bE s.1).getD a 0=P.ix s.1 a:=rfl;cases hp:P.wD M s.1 a<;>cases hq:P.wV M s.1 a<;>rw[hp] at ep<;>rw[hq] at el<;>refine sW ?_
  ·refine sL (bV (k:=a) zo fq) ?_;rw[rd];refine sL (tw (k:=(P.ix s.1 a).toNat) zo zo) ?_;refine sI ?_;exact⟨a+1,zo,zd,aC ⟨by simp only[ep,vW];rfl,by simp only[el,pT];rfl,by exact sK⟩ rfl⟩
  ·refine sL (bV (k:=a) zo fq) ?_;rw[rd];refine sL (tw (k:=(P.ix s.1 a).toNat) zo zo) ?_;refine sL (bV (k:=a) zo fq) ?_;rw[rd];refine sL (tw (k:=(P.ix s.1 a).toNat) zo zo) ?_;refine sI ?_;exact⟨a+1,zo,zd,aC ⟨by simp only[ep,vW];rfl,by simp only[el,kP];rfl,by exact sK⟩ rfl⟩
  ·refine sI ?_;exact⟨a+1,zo,zd,aC ⟨by simp only[ep,y8];rfl,by simp only[el,pT];rfl,by exact sK⟩ rfl⟩
  refine sL (bV (k:=a) zo fq) ?_;rw[rd];refine sL (tw (k:=(P.ix s.1 a).toNat) zo zo) ?_;refine sI ?_;exact⟨a+1,zo,zd,aC ⟨by simp only[ep,y8];rfl,by simp only[el,kP];rfl,by exact sK⟩ rfl⟩
 have fq:a=(P.bE s.1).length:=by have:¬a<(P.bE s.1).length:=sO
                                 omega
 subst fq;refine sL (jv P (k:=s.1.toNat) zo zo) ?_;refine sS (λh3=>?_) λh3=>?_
 ·have h3:P.kind s.1.toNat=6:=sO;rw[ab zo] at e;rw[e];exact .refl _
 have h3:P.kind s.1.toNat≠6:=sO;rw[ae zo] at e;rw[e];refine bb [1,3,5,7,8] (λa:Nat=>[(11,aa a)]) (λ_=>[]) (λa=>a<=(P.bE s.1).length/\∀j,j<a->¬P.GP M s.1 j) (λa=>(P.bE s.1).length-a) 0 ?_;refine sW ?_;refine⟨⟨zo,λj h=>zo⟩,by exact sK,rfl,?_⟩;clear h2 ha;rintro a ⟨ha,bR⟩;refine ck ?_;rw[aI];refine sS (λh2=>?_) λh2=>?_
 ·have fq:a<(P.bE s.1).length:=sO;have L':=af.CK (P:=P) (n:=s.1) fq;have rd:(P.bE s.1).getD a 0=P.ix s.1 a:=rfl;obtain⟨X,hX⟩:∃X:Nat,P.ix s.1 a=X:=⟨_,(uY L'.1).symm⟩;rw[hX] at rd L';refine bb [1,3,5,7,8,11] (λk:Nat=>[(12,aa k)]) (λ_=>[]) (λk=>k<=P.aH.length/\(val M X=0->∀i,i<k->¬P.hold M s.1 X i)) (λk=>P.aH.length-k) 0 ?_;refine sW ?_;refine⟨⟨zo,λ_ j h=>zo⟩,by exact sK,rfl,?_⟩;rintro k ⟨hk,cg⟩;refine ck ?_;rw[aI,lM];have next:(val M X=0->¬P.hold M s.1 X k)->(val M X=0->∀i,i<k+1->¬P.hold M s.1 X i):=λh1 h2 i h3=>by
   by_cases e:i=k
   ·subst e;exact h1 h2
   exact cg h2 i zo
  refine sS (λh4=>?_) λh4=>?_
  ·have ai:k<P.aH.length:=sO;refine sL (bV (k:=a) zo fq) ?_;rw[rd];refine sL (tw (k:=X) zo zo) ?_;cases h5:(val M X==0)
   ·refine aQ ?_;refine⟨k+1,⟨zo,next λh=>by rw[h] at h5;cases h5⟩,zd,aC (by exact sK) rfl⟩
   have h5:val M X=0:=sO;refine sW ?_;refine sL (tw (k:=k) zo zo) ?_;cases h6:decide (val M k>0)
   ·refine aQ ?_;refine⟨k+1,⟨zo,next λh q=>by rw[gQ q.2.1] at h6;cases h6⟩,zd,aC (by exact sK) rfl⟩
   have h6:0<val M k:=pH h6;refine sW ?_;refine sL (bV (k:=a) zo fq) ?_;rw[rd];refine sC (zxo P hP lk k X ai zo s.1) ?_;cases h7:((k:Int) != X&&P.xP s.1 k X)
   ·refine aQ ?_;refine⟨k+1,⟨zo,next λh q=>?_⟩,zd,aC (by exact sK) rfl⟩;have:=(af.Yb h5 h6).1 q;rw[af.Eb.2 this.2,Bool.and_true] at h7;have:=this.1;exact sO
   rw[gr,af.Eb] at h7;refine sW ?_;rw[af.XJ fq ⟨by rw[hX,bO];omega,k,ai,by rw[hX,bO];exact(af.Yb h5 h6).2 ⟨λe=>by subst e;simp at h7,h7.2⟩⟩];exact .refl _
  have ai:k=P.aH.length:=by have:¬k<P.aH.length:=sO
                            omega
  subst ai;refine sI ?_;refine⟨a+1,⟨zo,λj hj=>?_⟩,zd,aC (by exact sK) rfl⟩;by_cases e:j=a
  ·subst e;rintro⟨q0,i,q1,q2⟩;rw[hX,bO] at q0 q2;have:=hM.pos X;exact cg zo i q1 q2
  exact bR j zo
 have fq:a=(P.bE s.1).length:=by have:¬a<(P.bE s.1).length:=sO
                                 omega
 subst fq;rw[af.Yv bR];exact .refl _
end
section
variable(P:af)
theorem zoG(hP:P.Fits)(M:ah)(h1:P.lI M=0):ao aj 37 [b7 P,jx P.aR,aF M]<|aF<|P.eZ M:=by
 obtain⟨hE,hB⟩:=af.Lz h1;obtain⟨h0,_,xo⟩:=af.kB hE;have hK:=af.fo hB;have eN:P.eZ M=P.oA M P.aR P.aR.length:=by unfold af.eZ;rw[ae h1]
 refine bt ?_;rw[eN];refine bQ (eo 7 1 zs rfl) ?_;refine bb [1,2,3] (λ((k,c,l):Nat×Nat×ah)=>[(7,.own 1 c 0 c),(8,aa k)]) (λ(k,c,l)=>[(1,.vec true c 1<|aw l)]) (λ(k,c,l)=>k<=P.aR.length/\c=l.length/\c<=k/\l=P.oA M P.aR k) (λ(k,c,l)=>P.aR.length-k) (0,0,[]) ?_;refine sW ?_;refine⟨⟨zo,rfl,zo,rfl⟩,by exact sK,rfl,?_⟩;rintro⟨k,c,l⟩ ⟨hk,hc,lH,hl⟩;refine ck ?_;rw[BD];refine sS (λh2=>?_) λh2=>?_
 ·have ai:k<P.aR.length:=sO;have uM:=af.yW hE ai;have eT:P.oA M P.aR (k+1)=if P.pb M (P.aR.getD k (0,0,0))=true then P.oA M P.aR k++[(k:Int)] else P.oA M P.aR k:=rfl
  refine sL (uZ (k:=k) zo ai) ?_;generalize P.aR.getD k (0,0,0)=s at uM eT;refine sC (zzR P hP h0 M hK s uM) ?_;cases hm:P.pb M s
  ·refine aQ ?_;refine⟨(k+1,c,l),⟨zo,hc,zo,by rw[eT,hm,hl];rfl⟩,zd,?_⟩;exact aL 2 zs rfl sQ sQ
  refine ke ?_;refine⟨(k+1,c+1,l++[(k:Int)]),⟨zo,by simp[hc],zo,by rw[eT,hm,hl];rfl⟩,zd,?_⟩;refine aL 2 zs rfl sQ (sU ?_);exact aV<|kJ hc
 have ai:k=P.aR.length:=by have:¬k<P.aR.length:=sO
                           omega
 subst ai;rw[<-hl];exact oY hc rfl
theorem CJ(g:Nat->Int)(k:Nat)(a b:Int):fB (fB g k a) k b=fB g k b:=by
 funext i;unfold fB
 grind
def af.qN(P:af)(M:ah)(s:bP):Nat->Int
 |0=>0
 |f+1=>if 9<P.fv M s f then 7 else P.qN M s f
theorem SC{P:af}{M:ah}{s:bP}:∀n,(P.qN M s n=7/\∃f,f<n/\9<P.fv M s f)\/(P.qN M s n=0/\∀f,f<n->¬9<P.fv M s f)
 |0=>.inr ⟨rfl,λf h=>zo⟩
 |n+1=>by
  simp only[af.qN];split
  ·rename_i h;exact .inl ⟨rfl,n,zo,h⟩
  rename_i h;rcases SC (P:=P) (M:=M) (s:=s) n with⟨e,f,h1,h2⟩|⟨e,h1⟩
  ·exact .inl ⟨e,f,zo,h2⟩
  refine .inr ⟨e,λf hf=>?_⟩;by_cases q:f=n
  ·subst q;exact h
  exact h1 f zo
theorem Zy(hP:P.Fits)(h0:P.aU=0)(M:ah)(hM:P.Mark M)(s:bP)(hs:P.CR s) :
  ao aj 38 [b7 P,aF M,.agg<|wG s] (.aJ [aF<|P.uq M s,aa<|P.mX M s]):=by
 obtain⟨lq,lk⟩:=jo h0;have hn:=hs.node;have l2:=P.Cz s.1;have lM:=hM.len;have DY:=hs.out;have eE:P.mX M s=if P.kind s.1.toNat=3 then 0 else if ∃f,f<P.aH.length/\9<P.fv M s f then 7 else 0:=by unfold af.mX;rfl
 have eL:P.uq M s=if P.kind s.1.toNat=3 then gl P.aH.length λ_=>0 else if P.mX M s=0 then gl P.aH.length<|P.fv M s else []:=rfl
 refine bt ?_;rw[aI,lM];refine⟨zo,zo,zo,?_⟩;rw[bO,show List.map D.sc [Value.int .i64 0]=[aa 0] from rfl,yE];refine sW ?_;refine sL (jv P (k:=s.1.toNat) zo zo) ?_;refine sS (λh1=>?_) λh1=>?_
 ·have h1:P.kind s.1.toNat=3:=sO;rw[ae h1] at eE eL;rw[eE,eL];exact .aJ _ _ (.cons _ _ _ _ (vV rfl) (.cons _ _ _ _ (.refl _) .nil))
 have h1:P.kind s.1.toNat≠3:=sO;rw[ab h1] at eE eL;refine sC (Oz P hP zo s.1) ?_;refine bb [1,3,5,8,9] (λ((f,g):Nat×(Nat->Int))=>[(10,aa<|P.qN M s f),(11,aa f)]) (λ(f,g)=>[(2,.vec true 0 1<|aw<|gl P.aH.length g)]) (λ(f,g)=>f<=P.aH.length/\∀i,g i=if i<f then P.fv M s i else 0) (λ(f,g)=>P.aH.length-f) (0,λ_=>0) ?_;refine sW ?_;refine⟨⟨zo,λi=>rfl⟩,by exact sK,rfl,?_⟩;rintro⟨f,g⟩ ⟨hf,hg⟩;refine ck ?_;rw[aI,lM];refine sS (λh2=>?_) λh2=>?_
 ·have EC:f<P.aH.length:=sO;have v1:=hM.pos f;have v2:=hM.top f;have b1:=af.QA hM s f;have eBase:P.mQ M s f=val M f-if P.qx M s f=true then 1 else 0:=rfl
  have eD0:P.qx M s f=(decide (P.dst f=s.1)&&(s.2.1==(f:Int)||decide (s.2.1<0)&&decide (0<val M f))):=rfl;refine sL (tw (k:=f) zo zo) ?_;refine sB ?_;refine⟨_,bX f zo zo,?_⟩;refine sW ?_;rw[kV (k:=f) zo];refine sL (oR P (k:=f) zo EC) ?_;cases h3:(P.dst f==s.1)
  ·have eD:P.qx M s f=false:=(by rw[eD0,gI<|sO];rfl);rw[ab<|by rw[eD];decide,Int.sub_zero] at eBase;refine sW ?_;rw[<-eBase];refine bb [1,3,5,8,9,10,11] (λk:Nat=>[(12,aa k)]) (λk=>[(2,.vec true 0 1<|aw<|gl P.aH.length<|fB g f<|P.mQ M s f+P.jd s f k)]) (λk=>k<=(P.cn s.1).length) (λk=>(P.cn s.1).length-k) 0 ?_;refine sW ?_;refine⟨zo,by exact sK,by rw[show P.jd s f 0=0 from rfl,Int.add_zero];rfl,?_⟩;rintro k hk;refine ck ?_;rw[aI];refine sS (λh8=>?_) λh8=>?_
   ·have ai:k<(P.cn s.1).length:=sO;have H8:=af.EJ (P:=P) (n:=s.1) ai;have b2:=af.zf P s f k;refine sL (bV (k:=k) zo ai) ?_;rw[show(P.cn s.1).getD k 0=P.lS s.1 k from rfl];cases h9:(P.lS s.1 k==(f:Int))
    ·refine aQ ?_;refine⟨k+1,zo,zd,aC (by exact sK) ?_⟩;have:=af.tK (P:=P) (s:=s) (k:=k) (f:=f) (.inl<|sO);dsimp only;rw[this];rfl
    have h9:P.lS s.1 k=(f:Int):=sO;refine sW ?_;refine⟨zo,?_⟩;refine sW ?_;refine⟨zc,?_⟩;refine sW ?_;have eb:((s.2.2.fdiv<|2^min (k:Int).toNat IntKind.i64.bits).tmod 2==1)=oO s.2.2 k:=rfl;rw[eb];cases hb:oO s.2.2 k
    ·refine aQ ?_;refine⟨k+1,zo,zd,aC (by exact sK) ?_⟩;have:=af.tK (P:=P) (s:=s) (k:=k) (f:=f) (.inr hb);dsimp only;rw[this];rfl
    have hh:=af.Ex h9 hb;refine bC ?_;refine⟨_,bX f zo zo,?_⟩;refine sW ?_;rw[kq];refine sIB ?_;refine⟨_,bX f zo zo,?_⟩;refine aQ ?_;refine⟨k+1,zo,zd,aC (by exact sK) ?_⟩;dsimp only;rw[kV (k:=f) zo,CJ,hh,<-Int.add_assoc];rfl
   have ai:k=(P.cn s.1).length:=by have:¬k<(P.cn s.1).length:=sO
                                   omega
   subst ai;refine sB ?_;refine⟨_,bX f zo zo,?_⟩;refine sW ?_;rw[kq,show P.mQ M s f+P.jd s f (P.cn s.1).length=P.fv M s f from rfl];have eT:P.qN M s (f+1)=if 9<P.fv M s f then 7 else P.qN M s f:=rfl
   have jw:∀i,fB g f (P.fv M s f) i=if i<f+1 then P.fv M s i else 0:=λi=>by
    by_cases e:i=f
    ·subst e;rw[kq,ae zo]
    rw[tv e,hg];by_cases q:i<f
    ·rw[ae q,ae zo]
    rw[ab q,ab zo]
   refine sS (λfh=>?_) λfh=>?_
   ·rw[ae<|sO] at eT;refine sI ?_;refine⟨(f+1,fB g f<|P.fv M s f),⟨zo,jw⟩,zd,aC ⟨by simp only[eT];rfl,by exact sK⟩ rfl⟩
   rw[ab<|sO] at eT;refine sI ?_;refine⟨(f+1,fB g f<|P.fv M s f),⟨zo,jw⟩,zd,aC ⟨by simp only[eT];rfl,by exact sK⟩ rfl⟩
  rw[gQ<|sO,kP] at eD0;refine sW ?_;cases h4:(s.2.1==(f:Int))
  ·rw[h4,vW] at eD0;refine sW ?_;cases h5:decide (s.2.1<0)
   ·have eD:P.qx M s f=false:=(by rw[eD0,h5];rfl);rw[ab<|by rw[eD];decide,Int.sub_zero] at eBase;refine sW ?_;rw[<-eBase];refine bb [1,3,5,8,9,10,11] (λk:Nat=>[(12,aa k)]) (λk=>[(2,.vec true 0 1<|aw<|gl P.aH.length<|fB g f<|P.mQ M s f+P.jd s f k)]) (λk=>k<=(P.cn s.1).length) (λk=>(P.cn s.1).length-k) 0 ?_;refine sW ?_;refine⟨zo,by exact sK,by rw[show P.jd s f 0=0 from rfl,Int.add_zero];rfl,?_⟩;rintro k hk;refine ck ?_;rw[aI];refine sS (λh8=>?_) λh8=>?_
    ·have ai:k<(P.cn s.1).length:=sO;have H8:=af.EJ (P:=P) (n:=s.1) ai;have b2:=af.zf P s f k;refine sL (bV (k:=k) zo ai) ?_;rw[show(P.cn s.1).getD k 0=P.lS s.1 k from rfl];cases h9:(P.lS s.1 k==(f:Int))
     ·refine aQ ?_;refine⟨k+1,zo,zd,aC (by exact sK) ?_⟩;have:=af.tK (P:=P) (s:=s) (k:=k) (f:=f) (.inl<|sO);dsimp only;rw[this];rfl
     have h9:P.lS s.1 k=(f:Int):=sO;refine sW ?_;refine⟨zo,?_⟩;refine sW ?_;refine⟨zc,?_⟩;refine sW ?_;have eb:((s.2.2.fdiv<|2^min (k:Int).toNat IntKind.i64.bits).tmod 2==1)=oO s.2.2 k:=rfl;rw[eb];cases hb:oO s.2.2 k
     ·refine aQ ?_;refine⟨k+1,zo,zd,aC (by exact sK) ?_⟩;have:=af.tK (P:=P) (s:=s) (k:=k) (f:=f) (.inr hb);dsimp only;rw[this];rfl
     have hh:=af.Ex h9 hb;refine bC ?_;refine⟨_,bX f zo zo,?_⟩;refine sW ?_;rw[kq];refine sIB ?_;refine⟨_,bX f zo zo,?_⟩;refine aQ ?_;refine⟨k+1,zo,zd,aC (by exact sK) ?_⟩;dsimp only;rw[kV (k:=f) zo,CJ,hh,<-Int.add_assoc];rfl
    have ai:k=(P.cn s.1).length:=by have:¬k<(P.cn s.1).length:=sO
                                    omega
    subst ai;refine sB ?_;refine⟨_,bX f zo zo,?_⟩;refine sW ?_;rw[kq,show P.mQ M s f+P.jd s f (P.cn s.1).length=P.fv M s f from rfl];have eT:P.qN M s (f+1)=if 9<P.fv M s f then 7 else P.qN M s f:=rfl
    have jw:∀i,fB g f (P.fv M s f) i=if i<f+1 then P.fv M s i else 0:=λi=>by
     by_cases e:i=f
     ·subst e;rw[kq,ae zo]
     rw[tv e,hg];by_cases q:i<f
     ·rw[ae q,ae zo]
     rw[ab q,ab zo]
    refine sS (λfh=>?_) λfh=>?_
    ·rw[ae<|sO] at eT;refine sI ?_;refine⟨(f+1,fB g f<|P.fv M s f),⟨zo,jw⟩,zd,aC ⟨by simp only[eT];rfl,by exact sK⟩ rfl⟩
    rw[ab<|sO] at eT;refine sI ?_;refine⟨(f+1,fB g f<|P.fv M s f),⟨zo,jw⟩,zd,aC ⟨by simp only[eT];rfl,by exact sK⟩ rfl⟩
   rw[h5,kP] at eD0;refine sW ?_;refine sL (tw (k:=f) zo zo) ?_;cases h6:decide (val M f>0)
   ·have eD:P.qx M s f=false:=(by rw[eD0];exact h6);rw[ab<|by rw[eD];decide,Int.sub_zero] at eBase;refine sW ?_;rw[<-eBase];refine bb [1,3,5,8,9,10,11] (λk:Nat=>[(12,aa k)]) (λk=>[(2,.vec true 0 1<|aw<|gl P.aH.length<|fB g f<|P.mQ M s f+P.jd s f k)]) (λk=>k<=(P.cn s.1).length) (λk=>(P.cn s.1).length-k) 0 ?_;refine sW ?_;refine⟨zo,by exact sK,by rw[show P.jd s f 0=0 from rfl,Int.add_zero];rfl,?_⟩;rintro k hk;refine ck ?_;rw[aI];refine sS (λh8=>?_) λh8=>?_
    ·have ai:k<(P.cn s.1).length:=sO;have H8:=af.EJ (P:=P) (n:=s.1) ai;have b2:=af.zf P s f k;refine sL (bV (k:=k) zo ai) ?_;rw[show(P.cn s.1).getD k 0=P.lS s.1 k from rfl];cases h9:(P.lS s.1 k==(f:Int))
     ·refine aQ ?_;refine⟨k+1,zo,zd,aC (by exact sK) ?_⟩;have:=af.tK (P:=P) (s:=s) (k:=k) (f:=f) (.inl<|sO);dsimp only;rw[this];rfl
     have h9:P.lS s.1 k=(f:Int):=sO;refine sW ?_;refine⟨zo,?_⟩;refine sW ?_;refine⟨zc,?_⟩;refine sW ?_;have eb:((s.2.2.fdiv<|2^min (k:Int).toNat IntKind.i64.bits).tmod 2==1)=oO s.2.2 k:=rfl;rw[eb];cases hb:oO s.2.2 k
     ·refine aQ ?_;refine⟨k+1,zo,zd,aC (by exact sK) ?_⟩;have:=af.tK (P:=P) (s:=s) (k:=k) (f:=f) (.inr hb);dsimp only;rw[this];rfl
     have hh:=af.Ex h9 hb;refine bC ?_;refine⟨_,bX f zo zo,?_⟩;refine sW ?_;rw[kq];refine sIB ?_;refine⟨_,bX f zo zo,?_⟩;refine aQ ?_;refine⟨k+1,zo,zd,aC (by exact sK) ?_⟩;dsimp only;rw[kV (k:=f) zo,CJ,hh,<-Int.add_assoc];rfl
    have ai:k=(P.cn s.1).length:=by have:¬k<(P.cn s.1).length:=sO
                                    omega
    subst ai;refine sB ?_;refine⟨_,bX f zo zo,?_⟩;refine sW ?_;rw[kq,show P.mQ M s f+P.jd s f (P.cn s.1).length=P.fv M s f from rfl];have eT:P.qN M s (f+1)=if 9<P.fv M s f then 7 else P.qN M s f:=rfl
    have jw:∀i,fB g f (P.fv M s f) i=if i<f+1 then P.fv M s i else 0:=λi=>by
     by_cases e:i=f
     ·subst e;rw[kq,ae zo]
     rw[tv e,hg];by_cases q:i<f
     ·rw[ae q,ae zo]
     rw[ab q,ab zo]
    refine sS (λfh=>?_) λfh=>?_
    ·rw[ae<|sO] at eT;refine sI ?_;refine⟨(f+1,fB g f<|P.fv M s f),⟨zo,jw⟩,zd,aC ⟨by simp only[eT];rfl,by exact sK⟩ rfl⟩
    rw[ab<|sO] at eT;refine sI ?_;refine⟨(f+1,fB g f<|P.fv M s f),⟨zo,jw⟩,zd,aC ⟨by simp only[eT];rfl,by exact sK⟩ rfl⟩
   have eD:P.qx M s f:=(by rw[eD0];exact h6);rw[ae eD] at eBase;refine bC ?_;refine⟨_,bX f zo zo,?_⟩;refine sW ?_;rw[kq];refine sIB ?_;refine⟨_,bX f zo zo,?_⟩;refine sW ?_;rw[kV (k:=f) zo,CJ,<-eBase];refine bb [1,3,5,8,9,10,11] (λk:Nat=>[(12,aa k)]) (λk=>[(2,.vec true 0 1<|aw<|gl P.aH.length<|fB g f<|P.mQ M s f+P.jd s f k)]) (λk=>k<=(P.cn s.1).length) (λk=>(P.cn s.1).length-k) 0 ?_;refine sW ?_;refine⟨zo,by exact sK,by rw[show P.jd s f 0=0 from rfl,Int.add_zero];rfl,?_⟩;rintro k hk;refine ck ?_;rw[aI];refine sS (λh8=>?_) λh8=>?_
   ·have ai:k<(P.cn s.1).length:=sO;have H8:=af.EJ (P:=P) (n:=s.1) ai;have b2:=af.zf P s f k;refine sL (bV (k:=k) zo ai) ?_;rw[show(P.cn s.1).getD k 0=P.lS s.1 k from rfl];cases h9:(P.lS s.1 k==(f:Int))
    ·refine aQ ?_;refine⟨k+1,zo,zd,aC (by exact sK) ?_⟩;have:=af.tK (P:=P) (s:=s) (k:=k) (f:=f) (.inl<|sO);dsimp only;rw[this];rfl
    have h9:P.lS s.1 k=(f:Int):=sO;refine sW ?_;refine⟨zo,?_⟩;refine sW ?_;refine⟨zc,?_⟩;refine sW ?_;have eb:((s.2.2.fdiv<|2^min (k:Int).toNat IntKind.i64.bits).tmod 2==1)=oO s.2.2 k:=rfl;rw[eb];cases hb:oO s.2.2 k
    ·refine aQ ?_;refine⟨k+1,zo,zd,aC (by exact sK) ?_⟩;have:=af.tK (P:=P) (s:=s) (k:=k) (f:=f) (.inr hb);dsimp only;rw[this];rfl
    have hh:=af.Ex h9 hb;refine bC ?_;refine⟨_,bX f zo zo,?_⟩;refine sW ?_;rw[kq];refine sIB ?_;refine⟨_,bX f zo zo,?_⟩;refine aQ ?_;refine⟨k+1,zo,zd,aC (by exact sK) ?_⟩;dsimp only;rw[kV (k:=f) zo,CJ,hh,<-Int.add_assoc];rfl
   have ai:k=(P.cn s.1).length:=by have:¬k<(P.cn s.1).length:=sO
                                   omega
   subst ai;refine sB ?_;refine⟨_,bX f zo zo,?_⟩;refine sW ?_;rw[kq,show P.mQ M s f+P.jd s f (P.cn s.1).length=P.fv M s f from rfl];have eT:P.qN M s (f+1)=if 9<P.fv M s f then 7 else P.qN M s f:=rfl
   have jw:∀i,fB g f (P.fv M s f) i=if i<f+1 then P.fv M s i else 0:=λi=>by
    by_cases e:i=f
    ·subst e;rw[kq,ae zo]
    rw[tv e,hg];by_cases q:i<f
    ·rw[ae q,ae zo]
    rw[ab q,ab zo]
   refine sS (λfh=>?_) λfh=>?_
   ·rw[ae<|sO] at eT;refine sI ?_;refine⟨(f+1,fB g f<|P.fv M s f),⟨zo,jw⟩,zd,aC ⟨by simp only[eT];rfl,by exact sK⟩ rfl⟩
   rw[ab<|sO] at eT;refine sI ?_;refine⟨(f+1,fB g f<|P.fv M s f),⟨zo,jw⟩,zd,aC ⟨by simp only[eT];rfl,by exact sK⟩ rfl⟩
  have eD:P.qx M s f:=(by rw[eD0,h4];rfl);rw[ae eD] at eBase;refine bC ?_;refine⟨_,bX f zo zo,?_⟩;refine sW ?_;rw[kq];refine sIB ?_;refine⟨_,bX f zo zo,?_⟩;refine sW ?_;rw[kV (k:=f) zo,CJ,<-eBase];refine bb [1,3,5,8,9,10,11] (λk:Nat=>[(12,aa k)]) (λk=>[(2,.vec true 0 1<|aw<|gl P.aH.length<|fB g f<|P.mQ M s f+P.jd s f k)]) (λk=>k<=(P.cn s.1).length) (λk=>(P.cn s.1).length-k) 0 ?_;refine sW ?_;refine⟨zo,by exact sK,by rw[show P.jd s f 0=0 from rfl,Int.add_zero];rfl,?_⟩;rintro k hk;refine ck ?_;rw[aI];refine sS (λh8=>?_) λh8=>?_
  ·have ai:k<(P.cn s.1).length:=sO;have H8:=af.EJ (P:=P) (n:=s.1) ai;have b2:=af.zf P s f k;refine sL (bV (k:=k) zo ai) ?_;rw[show(P.cn s.1).getD k 0=P.lS s.1 k from rfl];cases h9:(P.lS s.1 k==(f:Int))
   ·refine aQ ?_;refine⟨k+1,zo,zd,aC (by exact sK) ?_⟩;have:=af.tK (P:=P) (s:=s) (k:=k) (f:=f) (.inl<|sO);dsimp only;rw[this];rfl
   have h9:P.lS s.1 k=(f:Int):=sO;refine sW ?_;refine⟨zo,?_⟩;refine sW ?_;refine⟨zc,?_⟩;refine sW ?_;have eb:((s.2.2.fdiv<|2^min (k:Int).toNat IntKind.i64.bits).tmod 2==1)=oO s.2.2 k:=rfl;rw[eb];cases hb:oO s.2.2 k
   ·refine aQ ?_;refine⟨k+1,zo,zd,aC (by exact sK) ?_⟩;have:=af.tK (P:=P) (s:=s) (k:=k) (f:=f) (.inr hb);dsimp only;rw[this];rfl
   have hh:=af.Ex h9 hb;refine bC ?_;refine⟨_,bX f zo zo,?_⟩;refine sW ?_;rw[kq];refine sIB ?_;refine⟨_,bX f zo zo,?_⟩;refine aQ ?_;refine⟨k+1,zo,zd,aC (by exact sK) ?_⟩;dsimp only;rw[kV (k:=f) zo,CJ,hh,<-Int.add_assoc];rfl
  have ai:k=(P.cn s.1).length:=by have:¬k<(P.cn s.1).length:=sO
                                  omega
  subst ai;refine sB ?_;refine⟨_,bX f zo zo,?_⟩;refine sW ?_;rw[kq,show P.mQ M s f+P.jd s f (P.cn s.1).length=P.fv M s f from rfl];have eT:P.qN M s (f+1)=if 9<P.fv M s f then 7 else P.qN M s f:=rfl
  have jw:∀i,fB g f (P.fv M s f) i=if i<f+1 then P.fv M s i else 0:=λi=>by
   by_cases e:i=f
   ·subst e;rw[kq,ae zo]
   rw[tv e,hg];by_cases q:i<f
   ·rw[ae q,ae zo]
   rw[ab q,ab zo]
  refine sS (λfh=>?_) λfh=>?_
  ·rw[ae<|sO] at eT;refine sI ?_;refine⟨(f+1,fB g f<|P.fv M s f),⟨zo,jw⟩,zd,aC ⟨by simp only[eT];rfl,by exact sK⟩ rfl⟩
  rw[ab<|sO] at eT;refine sI ?_;refine⟨(f+1,fB g f<|P.fv M s f),⟨zo,jw⟩,zd,aC ⟨by simp only[eT];rfl,by exact sK⟩ rfl⟩
 have EC:f=P.aH.length:=by have:¬f<P.aH.length:=sO
                           omega
 subst EC;rcases SC (P:=P) (M:=M) (s:=s) P.aH.length with⟨q1,q2⟩|⟨q1,q2⟩
 ·rw[ae q2] at eE;rw[eE] at eL;rw[q1,eE,eL];refine sW ?_;exact .aJ _ _ (.cons _ _ _ _ (.none _) (.cons _ _ _ _ (.refl _) .nil))
 rw[ab<|by rintro⟨i,h1,h2⟩;exact q2 i h1 h2] at eE;rw[eE,ae rfl] at eL;have e:gl P.aH.length (P.fv M s)=gl P.aH.length g:=ou λi hi=>by rw[hg,ae hi]
 rw[q1,eE,eL,e];refine sW ?_;exact .aJ _ _ (.cons _ _ _ _ (vV rfl) (.cons _ _ _ _ (.refl _) .nil))
end
abbrev To(g:ak)(u v:Nat):Prop:=gx g [(u:Int)] v
theorem nw(g:ak)(v:Nat):To g v v:=by
 have:=gx.base (g:=g) (from_:=[(v:Int)]) (x:=(v:Int))<|by simp
 grind
variable{g:ak}{a b c:Nat}
theorem n9(h:To g a b)(k:To g b c):To g a c:=by
 unfold To at k;generalize hb:[(b:Int)]=fr at k
 induction k with
 |base m=>grind
 |step _ m ih=>exact .step ih m
theorem rZ(h:x∈g.getD a []):To g a x.toNat:=.step (nw g a) h
variable{u:Nat}
theorem Ht{s:Nat->Prop}(h:∀v,s v->∀x∈g.getD v [],s x.toNat)(k:To g u v)(hu:s u):s v:=by
 unfold To at k;generalize hb:[(u:Int)]=fr at k
 induction k with
 |base m=>grind
 |step _ m ih=>grind
structure TJ where
 num:Nat->Nat
 low:Nat->Nat
 part:Nat->Int
 stack:List Nat
 path:List<|Nat×Nat
 count:Nat
 dt:Nat
def up{α:Type}(f:Nat->α)(k:Nat)(v:α):Nat->α:=λi=>if i=k then v else f i
variable{α:Type}
@[simp] theorem oG(f:Nat->α)(k:Nat)(v:α):up f k v k=v:=by simp[up]
theorem kL{f:Nat->α}{v:α}(h:i≠k):up f k v i=f i:=by simp[up,h]
def n5(g:ak)(S:TJ):Nat->Bool->List (Nat×Nat)->Prop
 |U,_,[]=>∀v,v∈S.stack->U<=S.num v
 |U,top,(p,i)::r =>
  p∈S.stack/\S.num p<U /\
  (∀v,v∈S.stack->S.num p<=S.num v->S.num v<U->To g p v/\(v≠p->(∃w,w∈S.stack/\S.num w<S.num v/\To g v w)/\∀x∈g.getD v [],S.num x.toNat≠0/\(S.part x.toNat<0->S.low p<=S.num x.toNat))) /\
  (∀k,k<(g.getD p []).length->(if top=true then k<i else k+1<i)->S.num ((g.getD p []).getD k 0).toNat≠0/\(S.part ((g.getD p []).getD k 0).toNat<0->S.low p<=S.num ((g.getD p []).getD k 0).toNat)) /\
  S.low p<=S.num p/\(∃w,w∈S.stack/\S.num w=S.low p/\To g p w) /\
  (top=false->1<=i/\i<=(g.getD p []).length) /\
  (match r with
   |[]=>True
   |(q,j)::_=>1<=j/\j<=(g.getD q []).length/\((g.getD q []).getD (j-1) 0).toNat=p) /\
  n5 g S (S.num p) false r
theorem n5.tW{g:ak}{S S':TJ}(h3:∀x,S.num x≠0->S'.num x≠0/\(S'.part x<0->S.part x<0/\S'.num x=S.num x)) :
  ∀(r:List<|Nat×Nat) {U:Nat} {top:Bool},(∀v,v∈S'.stack->S'.num v<U->v∈S.stack/\S.num v=S'.num v)->(∀v,v∈S.stack->S.num v<U->v∈S'.stack/\S'.num v=S.num v/\S'.low v=S.low v)->n5 g S U top r->n5 g S' U top r
 |[],U,top,h1,h2,h=>λv hv=>by
  rcases gK (S'.num v) U with q|q
  ·obtain⟨a,b⟩:=h1 v hv q;have:=h v a;omega
  exact q
 |(p,i)::r,U,top,h1,h2,h=>by
  obtain⟨g1,g2,g3,g4,g5,⟨w,w1,w2,w3⟩,g7,g8,g9⟩:=h;obtain⟨p1,p2,p3⟩:=h2 p g1 g2;refine⟨p1,by omega,λv hv a b=>?_,λk hk ht=>?_,by omega,?_,g7,g8,?_⟩
  ·obtain⟨c1,c2⟩:=h1 v hv b;obtain⟨d1,d2⟩:=g3 v c1 (by omega) (by omega);refine⟨d1,λb9=>?_⟩;obtain⟨⟨w,e1,e2,e3⟩,e4⟩:=d2 b9;obtain⟨f1,f2,f3⟩:=h2 w e1 (by omega);refine⟨⟨w,f1,by omega,e3⟩,λx hx=>?_⟩;obtain⟨n1,n2⟩:=e4 x hx;obtain⟨m1,m2⟩:=h3 _ n1;refine⟨m1,λq=>?_⟩;obtain⟨o1,o2⟩:=m2 q;have:=n2 o1;omega
  ·obtain⟨n1,n2⟩:=g4 k hk ht;obtain⟨m1,m2⟩:=h3 _ n1;refine⟨m1,λq=>?_⟩;obtain⟨o1,o2⟩:=m2 q;have:=n2 o1;omega
  ·obtain⟨f1,f2,f3⟩:=h2 w w1 (by omega);exact⟨w,f1,by omega,w3⟩
  rw[p2];exact n5.tW h3 r (λv hv q=>h1 v hv<|by omega) (λv hv q=>h2 v hv<|by omega) g9
structure TjI(g:ak)(S:TJ):Prop where
 stk:∀v,v∈S.stack↔S.num v≠0/\S.part v<0
 srt:S.stack.Pairwise λa b=>S.num b<S.num a
 cnt:∀v,S.num v<=S.count
 node:∀v,S.num v≠0->v<g.length
 par:∀v,0<=S.part v->S.part v<(S.dt:Int)/\S.num v≠0
 cls:∀v,0<=S.part v->∀x∈g.getD v [],0<=S.part x.toNat
 same:∀u v,0<=S.part u->0<=S.part v->(S.part u=S.part v↔To g u v/\To g v u)
 seg:n5 g S (S.count+1) true S.path
 size:S.dt+S.stack.length<=S.count
 seen:cQ (λv=>decide (S.num v≠0)) g.length+S.count=g.length
 deep:S.path.length+cQ (λv=>decide (S.num v≠0)) g.length<=g.length
 GK:∀u v,S.num u=S.num v->S.num u≠0->u=v
def TJ.open(S:TJ)(v:Nat)(path:List<|Nat×Nat):TJ:=⟨up S.num v<|S.count+1,up S.low v<|S.count+1,S.part,v::S.stack,(v,0)::path,S.count+1,S.dt⟩
variable{S:TJ}
theorem ZX(hv:v<n)(h:S.num v=0):cQ (λw=>decide (up S.num v (S.count+1) w≠0)) n+1=cQ (λw=>decide (S.num w≠0)) n:=by
 have:=JN (f:=λw=>if decide (S.num w≠0)=true then 0 else 1) (f':=λw=>if decide (up S.num v (S.count+1) w≠0)=true then 0 else 1) n hv λj _ b9=>by rw[kL b9]
 unfold cQ;rw[oG] at this
 grind
theorem TjI.opened(h:TjI g S)(hv:v<g.length)(h0:S.num v=0){path:List<|Nat×Nat}(hp:path.length<=S.path.length)
  (hs:n5 g S (S.count+1) false path) (hl:match path with|[]=>True|(q,j)::_=>1<=j/\j<=(g.getD q []).length/\((g.getD q []).getD (j-1) 0).toNat=v):TjI g<|S.open v path:=by
 have hvs:v ∉ S.stack:=λq=>((h.stk v).1 q).1 h0;have Ob:S.part v<0:=by
  rcases rp (S.part v) 0 with q|q
  ·exact q
  exact absurd h0 (h.par v q).2
 have b9:∀w,w∈S.stack->w≠v:=λw hw e=>hvs<|e▸hw;have qW:∀w,S.num w≠0->w≠v:=λw hw e=>hw<|e▸h0;have hun:=ZX hv h0;refine⟨λw=>?_,?_,λw=>?_,λw hw=>?_,λw hw=>?_,h.cls,h.same,?_,?_,?_,?_,?_⟩
 ·show w∈v::S.stack↔up S.num v (S.count+1) w≠0/\S.part w<0;by_cases e:w=v
  ·subst e;simp[Ob]
  rw[kL e,<-h.stk w];simp[e]
 ·show(v::S.stack).Pairwise λa b=>up S.num v (S.count+1) b<up S.num v (S.count+1) a;refine List.pairwise_cons.2 ⟨λw hw=>?_,h.srt.imp_of_mem λ{a b} ha hb q=>?_⟩
  ·rw[oG,kL<|b9 w hw];have:=h.cnt w;omega
  rw[kL<|b9 a ha,kL<|b9 b hb];exact q
 ·show up S.num v (S.count+1) w<=S.count+1;by_cases e:w=v
  ·subst e;rw[oG];omega
  rw[kL e];have:=h.cnt w;omega
 ·by_cases e:w=v
  ·subst e;exact hv
  exact h.node w (by
   have:up S.num v (S.count+1) w≠0:=hw;rw[kL e] at this;exact this)
 ·obtain⟨a,b⟩:=h.par w hw;refine⟨a,?_⟩;show up S.num v (S.count+1) w≠0;rw[kL<|qW w b];exact b
 ·show n5 g (S.open v path) (S.count+1+1) true<|(v,0)::path;refine⟨List.mem_cons_self ..,?_,λw hw a b=>?_,λk _ hk=>?_,?_,⟨v,List.mem_cons_self ..,?_,nw g v⟩,λq=>(by cases q),hl,?_⟩
  ·show up S.num v (S.count+1) v<_;rw[oG];omega
  ·have e:w=v:=by
    rcases eQ.1 hw with e|e
    ·exact e
    have a:up S.num v (S.count+1) v<=up S.num v (S.count+1) w:=a;rw[oG,kL<|b9 w e] at a;have:=h.cnt w;omega
   subst e;exact⟨nw g w,λq=>absurd rfl q⟩
  ·rw[ae rfl] at hk;omega
  ·show up S.low v (S.count+1) v<=up S.num v (S.count+1) v;rw[oG,oG];exact aS _
  ·show up S.num v (S.count+1) v=up S.low v (S.count+1) v;rw[oG,oG]
  have e:(S.open v path).num v=S.count+1:=oG ..;rw[e];refine n5.tW (S:=S) (S':=S.open v path) (λx hx=>⟨?_,λq=>⟨q,?_⟩⟩) path (λw hw q=>?_) (λw hw q=>?_) hs
  ·show up S.num v (S.count+1) x≠0;rw[kL<|qW x hx];exact hx
  ·show up S.num v (S.count+1) x=_;rw[kL<|qW x hx]
  ·have q:up S.num v (S.count+1) w<S.count+1:=q;by_cases e:w=v
   ·subst e;rw[oG] at q;omega
   refine⟨(eQ.1 hw).resolve_left e,?_⟩;show _=up S.num v (S.count+1) w;rw[kL e]
  have e:=b9 w hw;refine⟨List.mem_cons_of_mem _ hw,?_,?_⟩
  ·show up S.num v (S.count+1) w=_;rw[kL e]
  show up S.low v (S.count+1) w=_;rw[kL e]
 ·have:=h.size;show S.dt+(v::S.stack).length<=S.count+1
  grind
 ·have:=h.seen;show cQ (λw=>decide (up S.num v (S.count+1) w≠0)) g.length+(S.count+1)=g.length;omega
 ·have:=h.deep;show((v,0)::path).length+cQ (λw=>decide (up S.num v (S.count+1) w≠0)) g.length<=g.length
  grind
 intro a b e ha;have e:up S.num v (S.count+1) a=up S.num v (S.count+1) b:=e;have ha:up S.num v (S.count+1) a≠0:=ha;have ca:=h.cnt a;have cb:=h.cnt b;by_cases e1:a=v<;>by_cases e2:b=v
 ·omega
 ·subst e1;rw[oG,kL e2] at e;omega
 ·subst e2;rw[oG,kL e1] at e;omega
 rw[kL e1,kL e2] at e;rw[kL e1] at ha;exact h.GK a b e ha
variable{p:Nat}{r:List<|Nat×Nat}
theorem n5.next{U:Nat}(h:n5 g S U true<|(p,i)::r)(hi:i<(g.getD p []).length):n5 g S U false<|(p,i+1)::r:=by
 obtain⟨g1,g2,g3,g4,g5,g6,g7,g8,g9⟩:=h;exact⟨g1,g2,g3,λk hk ht=>g4 k hk (by
  rw[ab<|by decide] at ht;rw[ae rfl];omega),g5,g6,λ_=>⟨by omega,by omega⟩,g8,g9⟩
theorem TjI.push(h:TjI g S)(hp:S.path=(p,i)::r)(hi:i<(g.getD p []).length)(hv:((g.getD p []).getD i 0).toNat<g.length)(h0:S.num ((g.getD p []).getD i 0).toNat=0) :
  TjI g (S.open ((g.getD p []).getD i 0).toNat<|(p,i+1)::r):=by
 refine h.opened hv h0 (by rw[hp];simp) (n5.next (by rw[<-hp];exact h.seg) hi) ⟨by omega,by omega,?_⟩
 grind
def TJ.skip(S:TJ)(p i:Nat)(r:List<|Nat×Nat)(x:Nat):TJ:=⟨S.num,if S.part x<0 then up S.low p<|min (S.low p)<|S.num x else S.low,S.part,S.stack,(p,i+1)::r,S.count,S.dt⟩
theorem TjI.skip{g:ak}{S:TJ}(h:TjI g S){p i:Nat}{r:List<|Nat×Nat}(hp:S.path=(p,i)::r)(hi:i<(g.getD p []).length)(h0:S.num ((g.getD p []).getD i 0).toNat≠0) :
  TjI g (S.skip p i r ((g.getD p []).getD i 0).toNat):=by
 have hx:(g.getD p []).getD i 0∈g.getD p []:=df hi;generalize mI:(g.getD p []).getD i 0=x at *;have re:=h.seg;rw[hp] at re;obtain⟨g1,g2,g3,g4,g5,⟨w,w1,w2,w3⟩,g7,g8,g9⟩:=re;have Cr:∀v,S.num v<S.num p->(S.skip p i r x.toNat).low v=S.low v:=λv hv=>by
  show(if S.part x.toNat<0 then up S.low p<|min (S.low p)<|S.num x.toNat else S.low) v=_;split
  ·rw[kL λe=>by subst e;omega]
  rfl
 have ug:(S.skip p i r x.toNat).low p=if S.part x.toNat<0 then min (S.low p)<|S.num x.toNat else S.low p:=by
  show(if S.part x.toNat<0 then up S.low p<|min (S.low p)<|S.num x.toNat else S.low) p=_;split
  ·rw[oG]
  rfl
 have hle:(S.skip p i r x.toNat).low p<=S.low p:=by grind
 refine⟨h.stk,h.srt,h.cnt,h.node,h.par,h.cls,h.same,?_,h.size,h.seen,?_,h.GK⟩
 ·show n5 g (S.skip p i r x.toNat) (S.count+1) true<|(p,i+1)::r;refine⟨g1,g2,λv hv a b=>?_,λk hk ht=>?_,?_,?_,λq=>(by cases q),g8,?_⟩
  ·obtain⟨d1,d2⟩:=g3 v hv a b;refine⟨d1,λb9=>⟨(d2 b9).1,λy hy=>?_⟩⟩;obtain⟨n1,n2⟩:=(d2 b9).2 y hy;exact⟨n1,λq=>jI hle<|n2 q⟩
  ·rw[ae rfl] at ht;rcases gK k i with q|q
   ·obtain⟨n1,n2⟩:=g4 k hk (by rw[ae rfl];exact q);exact⟨n1,λz=>jI hle<|n2 z⟩
   have:k=i:=by omega
   subst this;rw[mI];refine⟨h0,λz=>?_⟩;have z:S.part x.toNat<0:=z;rw[ug,ae z];exact Nat.min_le_right _ _
  ·exact jI hle g5
  ·rw[ug];by_cases z:S.part x.toNat<0
   ·rw[ae z];rcases Nat.le_total (S.low p)<|S.num x.toNat with q|q
    ·rw[v7 q];exact⟨w,w1,w2,w3⟩
    rw[Nat.min_eq_right q];exact⟨x.toNat,(h.stk _).2 ⟨h0,z⟩,rfl,rZ hx⟩
   rw[ab z];exact⟨w,w1,w2,w3⟩
  exact n5.tW (S:=S) (S':=S.skip p i r x.toNat) (λy hy=>⟨hy,λq=>⟨q,rfl⟩⟩) r (λv hv q=>⟨hv,rfl⟩) (λv hv q=>⟨hv,rfl,Cr v q⟩) g9
 have:=h.deep;rw[hp] at this;exact this
def TJ.back(S:TJ)(n p j:Nat)(r:List<|Nat×Nat):TJ:=⟨S.num,up S.low p<|min (S.low p)<|S.low n,S.part,S.stack,(p,j)::r,S.count,S.dt⟩
theorem TjI.back{g:ak}{S:TJ}(h:TjI g S){n i p j:Nat}{r:List<|Nat×Nat}(hp:S.path=(n,i)::(p,j)::r)(hi:(g.getD n []).length<=i)(hl:S.low n≠S.num n):TjI g<|S.back n p j r:=by
 have re:=h.seg;rw[hp] at re;obtain⟨g1,g2,g3,g4,g5,⟨w,w1,w2,w3⟩,g7,⟨k1,k2,k3⟩,f1,f2,f3,f4,f5,⟨u,u1,u2,u3⟩,f7,f8,f9⟩:=re;have Cr:∀v,S.num v<S.num p->(S.back n p j r).low v=S.low v:=λv hv=>by
  show up S.low p (min (S.low p)<|S.low n) v=_;rw[kL λe=>by subst e;omega]
 have ug:(S.back n p j r).low p=min (S.low p) (S.low n):=oG ..;have rf:To g p n:=by
  have:=rZ (g:=g) (a:=p)<|df (l:=g.getD p []) (k:=j-1)<|by omega
  grind
 have VD:S.low n<S.num n:=by omega
 refine⟨h.stk,h.srt,h.cnt,h.node,h.par,h.cls,h.same,?_,h.size,h.seen,?_,h.GK⟩
 ·show n5 g (S.back n p j r) (S.count+1) true ((p,j)::r)
  refine⟨f1,by have:S.num p<S.num n:=f2
               have:S.num n<S.count+1:=g2;show S.num p<S.count+1;omega,λv hv a b=>?_,λk hk ht=>?_,?_,?_,λq=>(by cases q),f8,?_⟩
  ·have a:S.num p<=S.num v:=a;have b:S.num v<S.count+1:=b;rcases gK (S.num v)<|S.num n with q|q
   ·obtain⟨d1,d2⟩:=f3 v hv a q;refine⟨d1,λb9=>⟨(d2 b9).1,λy hy=>?_⟩⟩;obtain⟨n1,n2⟩:=(d2 b9).2 y hy;refine⟨n1,λz=>?_⟩;rw[ug];exact jI (Nat.min_le_left _ _)<|n2 z
   obtain⟨d1,d2⟩:=g3 v hv q b;refine⟨n9 rf d1,λb9=>?_⟩;by_cases e:v=n
   ·subst e;refine⟨⟨w,w1,by show S.num w<S.num v;omega,w3⟩,λy hy=>?_⟩;obtain⟨k,hk,rfl⟩:=pd hy;obtain⟨n1,n2⟩:=g4 k hk (by rw[ae rfl];omega);refine⟨n1,λz=>?_⟩;rw[ug];exact jI (Nat.min_le_right _ _)<|n2 z
   refine⟨(d2 e).1,λy hy=>?_⟩;obtain⟨n1,n2⟩:=(d2 e).2 y hy;refine⟨n1,λz=>?_⟩;rw[ug];exact jI (Nat.min_le_right _ _)<|n2 z
  ·rw[ae rfl] at ht;rw[ug];rcases gK (k+1) j with q|q
   ·obtain⟨n1,n2⟩:=f4 k hk (by rw[ab<|by decide];exact q);exact⟨n1,λz=>jI (Nat.min_le_left _ _)<|n2 z⟩
   have:k=j-1:=by omega
   subst this;rw[k3];refine⟨((h.stk n).1 g1).1,λz=>?_⟩;show min _ _<=S.num n;omega
  ·rw[ug];show _<=S.num p;omega
  ·rw[ug];rcases Nat.le_total (S.low p)<|S.low n with q|q
   ·rw[v7 q];exact⟨u,u1,u2,u3⟩
   rw[Nat.min_eq_right q];exact⟨w,w1,w2,n9 rf w3⟩
  exact n5.tW (S:=S) (S':=S.back n p j r) (λy hy=>⟨hy,λq=>⟨q,rfl⟩⟩) r (λv hv q=>⟨hv,rfl⟩) (λv hv q=>⟨hv,rfl,Cr v q⟩) f9
 have:=h.deep;rw[hp] at this;simp only[dC] at this;show((p,j)::r).length+cQ (λv=>decide (S.num v≠0)) g.length<=g.length
 grind
def TJ.shut(S:TJ)(n:Nat)(path:List<|Nat×Nat)(low:Nat->Nat):TJ:=⟨S.num,low,λv=>if v∈S.stack/\S.num n<=S.num v then (S.dt:Int) else S.part v,S.stack.filter λv=>decide (S.num v<S.num n),path,S.count,S.dt+1⟩
theorem UH{α:Type}{p:α->Bool}{a:α}:∀{l:List α},a∈l->p a=false->(l.filter p).length<l.length
 |[],h,_=>by cases h
 |b::l,h,hp=>by
  rw[List.filter_cons];by_cases e:p b=true
  ·rw[ae e];rcases eQ.1 h with q|q
   ·subst q;rw[hp] at e;cases e
   have:=UH q hp;simp only[dC];omega
  rw[ab e];have:=List.length_filter_le p l;simp only[dC];omega
theorem TjI.shut{g:ak}{S:TJ}(h:TjI g S){n i:Nat}{r:List<|Nat×Nat}(hp:S.path=(n,i)::r)(hi:(g.getD n []).length<=i)(hl:S.low n=S.num n){low:Nat->Nat}(Cr:∀v,S.num v<S.num n->low v=S.low v):TjI g<|S.shut n r low:=by
 have re:=h.seg;rw[hp] at re;obtain⟨g1,g2,g3,g4,g5,g6,g7,g8,g9⟩:=re;have qW:=(h.stk n).1 g1;have xW:∀v,(S.shut n r low).part v=if v∈S.stack/\S.num n<=S.num v then (S.dt:Int) else S.part v:=λv=>rfl
 -- the piece of n
 have hE:∀v,v∈S.stack->S.num n<=S.num v->∀x∈g.getD v [],S.num x.toNat≠0/\(S.part x.toNat<0->S.num n<=S.num x.toNat):=λv hv a x hx=>by
  have b:S.num v<S.count+1:=(by have:=h.cnt v;omega);by_cases e:v=n
  ·subst e;obtain⟨k,hk,rfl⟩:=pd hx;obtain⟨n1,n2⟩:=g4 k hk (by rw[ae rfl];omega);exact⟨n1,λz=>by have:=n2 z;omega⟩
  obtain⟨n1,n2⟩:=((g3 v hv a b).2 e).2 x hx;exact⟨n1,λz=>by have:=n2 z;omega⟩
 have AN:∀v,0<=(S.shut n r low).part v↔0<=S.part v\/(v∈S.stack/\S.num n<=S.num v):=λv=>by
  rw[xW];by_cases q:v∈S.stack/\S.num n<=S.num v
  ·rw[ae q];simp[q]
  rw[ab q];simp[q]
 have Ri:∀v,0<=(S.shut n r low).part v->∀x∈g.getD v [],0<=(S.shut n r low).part x.toNat:=λv hv x hx=>by
  rw[AN] at hv⊢;rcases hv with hv|⟨hv,a⟩
  ·exact .inl<|h.cls v hv x hx
  obtain⟨n1,n2⟩:=hE v hv a x hx;rcases rp (S.part x.toNat) 0 with q|q
  ·exact .inr ⟨(h.stk _).2 ⟨n1,q⟩,n2 q⟩
  exact .inl q
 have zH7:∀m v,S.num v<=m->v∈S.stack->S.num n<=S.num v->To g v n:=by
  intro m
  induction m with
  |zero=>intro v a hv b;have:=((h.stk v).1 hv).1;omega
  |succ m ih =>
   intro v a hv b;by_cases e:v=n
   ·subst e;exact nw g v
   obtain⟨⟨w,w1,w2,w3⟩,_⟩:=(g3 v hv b<|by have:=h.cnt v;omega).2 e;have hw:0<=(S.shut n r low).part w:=Ht (s:=λv=>0<=(S.shut n r low).part v) Ri w3<|(AN v).2 (.inr ⟨hv,b⟩);rw[AN] at hw;have hw:w∈S.stack/\S.num n<=S.num w:=by
    rcases hw with q|q
    ·have:=((h.stk w).1 w1).2;omega
    exact q
   exact n9 w3<|ih w (by omega) w1 hw.2
 have zj:∀v,v∈S.stack->S.num n<=S.num v->To g n v/\To g v n:=λv hv a=>⟨(g3 v hv a<|by have:=h.cnt v;omega).1,zH7 _ v (aS _) hv a⟩;have hold:∀u v,0<=S.part u->v∈S.stack->¬To g u v:=λu v hu hv q=>by
  have:=Ht (s:=λv=>0<=S.part v) h.cls q hu;have:=((h.stk v).1 hv).2;omega
 refine⟨λv=>?_,?_,h.cnt,h.node,λv hv=>?_,Ri,λu v hu hv=>?_,?_,?_,h.seen,?_,h.GK⟩
 ·show v∈S.stack.filter _↔S.num v≠0/\(S.shut n r low).part v<0;rw[zg,ja,xW];constructor
  ·rintro⟨a,b⟩;rw[ab λq=>by omega];exact(h.stk v).1 a
  rintro⟨a,b⟩;by_cases q:v∈S.stack/\S.num n<=S.num v
  ·rw[ae q] at b;omega
  rw[ab q] at b;have:=(h.stk v).2 ⟨a,b⟩;exact⟨this,by
   rcases gK (S.num v)<|S.num n with z|z
   ·exact z
   exact absurd ⟨this,z⟩ q⟩
 ·exact h.srt.filter _
 ·show(S.shut n r low).part v<((S.dt+1:Nat):Int)/\S.num v≠0;rw[xW];by_cases q:v∈S.stack/\S.num n<=S.num v
  ·rw[ae q];exact⟨by omega,((h.stk v).1 q.1).1⟩
  rw[ab q];rw[AN] at hv;obtain⟨a,b⟩:=h.par v<|hv.resolve_right q;exact⟨by omega,b⟩
 ·rw[AN] at hu hv;rw[xW,xW];by_cases qu:u∈S.stack/\S.num n<=S.num u<;>by_cases qv:v∈S.stack/\S.num n<=S.num v
  ·rw[ae qu,ae qv];obtain⟨a1,a2⟩:=zj u qu.1 qu.2;obtain⟨b1,b2⟩:=zj v qv.1 qv.2;exact⟨λ_=>⟨n9 a2 b1,n9 b2 a1⟩,λ_=>rfl⟩
  ·rw[ae qu,ab qv];have lW:=hv.resolve_right qv;have:=(h.par v lW).1;exact⟨λe=>by omega,λe=>absurd e.2<|hold v u lW qu.1⟩
  ·rw[ab qu,ae qv];have sH:=hu.resolve_right qu;have:=(h.par u sH).1;exact⟨λe=>by omega,λe=>absurd e.1<|hold u v sH qv.1⟩
  rw[ab qu,ab qv];exact h.same u v (hu.resolve_right qu)<|hv.resolve_right qv
 ·show n5 g (S.shut n r low) (S.count+1) true r;have H7:∀v,v∈(S.shut n r low).stack↔v∈S.stack/\S.num v<S.num n:=λv=>by
   show v∈S.stack.filter _↔_;rw[zg,ja]
  have h9:n5 g (S.shut n r low) (S.num n) false r:=n5.tW (S:=S) (S':=S.shut n r low) (λx hx=>⟨hx,λq=>by
   have q':¬(0<=(S.shut n r low).part x):=(by omega);rw[AN] at q';exact⟨by
    rcases rp (S.part x) 0 with z|z
    ·exact z
    exact absurd (.inl z) q',rfl⟩⟩) r (λv hv q=>⟨((H7 v).1 hv).1,rfl⟩) (λv hv q=>⟨(H7 v).2 ⟨hv,q⟩,rfl,Cr v q⟩) g9
  match r,g8,h9 with
  |[],_,h9 =>
   intro v hv;have:=h9 v hv;have:=((H7 v).1 hv).2;have:S.num n<=S.num v:=h9 v hv;omega
  |(p,j)::r,g8,h9 =>
   obtain⟨f1,f2,f3,f4,f5,f6,f7,f8,f9⟩:=h9;refine⟨f1,?_,λv hv a b=>?_,λk hk ht=>?_,f5,f6,λq=>(by cases q),f8,f9⟩
   ·have:S.num p<S.num n:=f2;show S.num p<S.count+1;have:=h.cnt n;omega
   ·exact f3 v hv a ((H7 v).1 hv).2
   rw[ae rfl] at ht;rcases gK (k+1) j with q|q
   ·exact f4 k hk<|by rw[ab<|by decide];exact q
   have:k=j-1:=by omega
   subst this;rw[g8.2.2];refine⟨qW.1,λz=>?_⟩;have:=(AN n).2 (.inr ⟨g1,aS _⟩);omega
 ·have:=h.size;have h1:=UH (p:=λv=>decide (S.num v<S.num n)) g1 (by simp);show S.dt+1+(S.stack.filter λv=>decide (S.num v<S.num n)).length<=S.count;omega
 have:=h.deep;rw[hp] at this;simp only[dC] at this;show r.length+cQ (λv=>decide (S.num v≠0)) g.length<=g.length;omega
theorem TjI.zero(g:ak):TjI g ⟨λ_=>0,λ_=>0,λ_=>-1,[],[],0,0⟩ where
 stk v:=by simp
 srt:=by simp
 cnt _:=aS _
 node v h:=absurd rfl h
 par v h:=by have h:(0:Int)<=-1:=h;omega
 cls v h:=by have h:(0:Int)<=-1:=h;omega
 same u v h:=by have h:(0:Int)<=-1:=h;omega
 seg:=λv hv=>by cases hv
 size:=by simp
 seen:=by
  show cQ (λv=>decide ((0:Nat)≠0)) g.length+0=g.length;have:∀n,cQ (λ_=>decide ((0:Nat)≠0)) n=n:=λn=>by
   induction n with
   |zero=>rfl
   |succ n ih=>unfold cQ at ih⊢;simp only[jO,ih];simp
  rw[this];rfl
 deep:=by
  show 0+cQ (λv=>decide ((0:Nat)≠0)) g.length<=g.length;have:=yb (λv=>decide ((0:Nat)≠0)) g.length;omega
 GK u v _ h:=absurd rfl h
theorem TjI.empty(h:TjI g S)(hp:S.path=[]):S.stack=[]:=by
 have hs:=h.seg;rw[hp] at hs
 cases e:S.stack with
 |nil=>rfl
 |cons v r =>
  have:=hs v (by rw[e];simp);have:=h.cnt v;omega
theorem TjI.done(h:TjI g S)(hp:S.path=[])(hv:S.num v≠0):0<=S.part v:=by
 rcases rp (S.part v) 0 with q|q
 ·have:=(h.stk v).2 ⟨hv,q⟩;rw[h.empty hp] at this;cases this
 exact q
def rL(g:ak):List (Nat×Nat)->Nat
 |[]=>0
 |(p,i)::r=>(g.getD p []).length-i+1+rL g r
def TJ.fuel(g:ak)(S:TJ):Nat:=jO (λv=>if S.num v=0 then (g.getD v []).length+2 else 0) g.length+rL g S.path
theorem zt4(hv:v<g.length)(h0:S.num v=0)(path:List<|Nat×Nat):TJ.fuel g (S.open v path)+1+rL g S.path=TJ.fuel g S+rL g path:=by
 have:=JN (f:=λw=>if S.num w=0 then (g.getD w []).length+2 else 0) (f':=λw=>if up S.num v (S.count+1) w=0 then (g.getD w []).length+2 else 0) g.length hv λj _ b9=>by rw[kL b9]
 unfold TJ.fuel;show jO (λw=>if up S.num v (S.count+1) w=0 then (g.getD w []).length+2 else 0) g.length+((g.getD v []).length-0+1+rL g path)+1+rL g S.path=_;rw[oG,ae h0,ab<|by omega] at this;omega
def xq(p:aq):Nat->Nat->Nat
 |i,0=>i
 |i,d+1=>if p i=true then i else xq p (i+1) d
theorem X1(p:aq):∀(d i:Nat),i<=xq p i d/\xq p i d<=i+d/\(∀j,i<=j->j<xq p i d->p j=false)/\(xq p i d<i+d->p (xq p i d))
 |0,i=>⟨aS _,aS _,λj h1 h2=>by simp only[xq] at h2;omega,λh=>by simp[xq] at h⟩
 |d+1,i=>by
  simp only[xq];split
  ·rename_i h;exact⟨aS _,by omega,λj h1 h2=>by omega,λ_=>h⟩
  rename_i h;obtain⟨h1,h2,h3,h4⟩:=X1 p d<|i+1;refine⟨by omega,by omega,λj g1 g2=>?_,λg=>h4<|by omega⟩;by_cases e:j=i
  ·subst e;simpa using h
  exact h3 j (by omega) g2
def fst(p:aq)(e i:Nat):Nat:=xq p i<|e-i
variable{e:Nat}
theorem Iw{p:aq}(h:i<=e):i<=fst p e i/\fst p e i<=e/\(∀j,i<=j->j<fst p e i->p j=false)/\(fst p e i<e->p (fst p e i)):=by
 obtain⟨h1,h2,h3,h4⟩:=X1 p (e-i) i;exact⟨h1,by unfold fst;omega,h3,λg=>h4<|by unfold fst at g;omega⟩
variable{t:Nat}
theorem fst_eq{p:aq}(h1:i<=t)(h2:t<=e)(h3:∀j,i<=j->j<t->p j=false)(h4:t<e->p t):fst p e i=t:=by
 obtain⟨g1,g2,g3,g4⟩:=Iw (p:=p) (e:=e) (i:=i) (by omega);rcases xS (fst p e i) t with q|q|q
 ·have:=h3 _ g1 q;rw[g4<|by omega] at this;cases this
 ·exact q
 have:=g3 t h1 q;rw[h4<|by omega] at this;cases this
theorem zuE(hp:S.path=(p,i)::r)(hi:i<(g.getD p []).length)(hv:v<g.length)(h0:S.num v=0):TJ.fuel g (S.open v<|(p,i+1)::r)+2=TJ.fuel g S:=by
 have:=zt4 hv h0<|(p,i+1)::r;rw[hp] at this;simp only[rL] at this;omega
theorem zt1{x:Nat}(hp:S.path=(p,i)::r)(hi:i<(g.getD p []).length):TJ.fuel g (S.skip p i r x)+1=TJ.fuel g S:=by
 unfold TJ.fuel;rw[hp];show _+((g.getD p []).length-(i+1)+1+rL g r)+1=_+((g.getD p []).length-i+1+rL g r);show jO (λv=>if S.num v=0 then _ else 0) _+_+1=_;omega
theorem zsK{j:Nat}(hp:S.path=(n,i)::(p,j)::r):TJ.fuel g (S.back n p j r)<TJ.fuel g S:=by
 unfold TJ.fuel;rw[hp];show jO (λv=>if S.num v=0 then _ else 0) _+((g.getD p []).length-j+1+rL g r)<_+((g.getD n []).length-i+1+((g.getD p []).length-j+1+rL g r));omega
variable{low:Nat->Nat}
theorem Va(hp:S.path=(n,i)::r):TJ.fuel g (S.shut n r low)<TJ.fuel g S:=by
 unfold TJ.fuel;rw[hp];show jO (λv=>if S.num v=0 then _ else 0) _+rL g r<_+((g.getD n []).length-i+1+rL g r);omega
def hasB(same:Nat->Nat->Bool)(k:Nat):Bool:=(List.range k).any λb=>same b k
def kp(same:Nat->Nat->Bool):Nat->Nat
 |0=>0
 |k+1=>kp same k+if hasB same k=true then 0 else 1
def o6(same:Nat->Nat->Bool)(k:Nat):Nat:=kp same<|fst (λb=>same b k) k 0
structure Eqv(same:Nat->Nat->Bool)(n:Nat):Prop where
 refl:∀a,a<n->same a a=true
 symm:∀a b,a<n->b<n->same a b->same b a=true
 trans:∀a b c,a<n->b<n->c<n->same a b->same b c->same a c=true
theorem Mg(same:Nat->Nat->Bool):∀k,kp same k<=k
 |0=>aS _
 |k+1=>by simp only[kp];have:=Mg same k;split<;>omega
variable{same:Nat->Nat->Bool}
theorem Q'(h:Eqv same n)(hk:k<n)(hb:b<k)(hs:same b k)(hf:∀c,c<b->same c k=false):o6 same k=kp same b/\o6 same b=kp same b:=by
 constructor
 ·unfold o6;rw[fst_eq (i:=0) (t:=b) (kZ _) (by omega) (λj _ hj=>hf j hj) λ_=>hs]
 unfold o6;rw[fst_eq (i:=0) (t:=b) (kZ _) (aS _) (λj _ hj=>?_) λz=>by omega];rw[FG];intro q;have:=h.trans j b k (by omega) (by omega) hk q hs
 grind
theorem QH(hf:∀c,c<k->same c k=false):o6 same k=kp same k/\hasB same k=false:=by
 constructor
 ·unfold o6;rw[fst_eq (i:=0) (t:=k) (kZ _) (aS _) (λj _ hj=>hf j hj) λz=>by omega]
 unfold hasB
 grind
theorem MZ(h:Eqv same n)(hk:k<n)(hb:b<k)(hs:same b k):o6 same k=o6 same b/\hasB same k:=by
 refine⟨?_,mJ.2 ⟨b,jz.2 hb,hs⟩⟩;obtain⟨g1,g2,g3,g4⟩:=Iw (p:=λb=>same b k) (e:=k) (i:=0)<|kZ _;have cG:fst (λb=>same b k) k 0<k:=by
  grind
 have hc:=g4 cG;generalize fst (λb=>same b k) k 0=c at *;have hcb:c<=b:=by
  grind
 have e1:=(Q' h hk cG hc λd hd=>g3 d (kZ _) hd);rw[e1.1];by_cases e:c=b
 ·grind
 refine(Q' h (k:=b) (by omega) (show c<b by omega) (h.trans c k b (by omega) hk (by omega) hc<|h.symm b k (by omega) hk hs) λd hd=>?_).1.symm;rw[FG];intro q;have:=h.trans d b k (by omega) (by omega) hk q hs
 grind
theorem Wb(h:Eqv same n)(hk:k<n):o6 same k<n:=by
 unfold o6;have:=(Iw (p:=λb=>same b k) (e:=k) (i:=0)<|kZ _).2.1;have:=Mg same<|fst (λb=>same b k) k 0;omega
theorem zy7(h:Eqv same n)(ha:a<n)(hb:b<n):o6 same a=o6 same b↔same a b:=by
 have mono:∀i j,i<=j->kp same i<=kp same j:=λi j lC=>by
  obtain⟨d,rfl⟩:=Nat.exists_eq_add_of_le lC;clear lC
  induction d with
  |zero=>grind
  |succ d ih=>exact jI ih<|by rw[<-Nat.add_assoc];simp only[kp];omega
 have first:∀k,k<n->∃c,c<=k/\same c k/\(∀d,d<c->same d c=false)/\o6 same k=kp same c:=λk hk=>by
  obtain⟨g1,g2,g3,g4⟩:=Iw (p:=λb=>same b k) (e:=k) (i:=0)<|kZ _;refine⟨fst (λb=>same b k) k 0,g2,?_,λd hd=>?_,rfl⟩
  ·rcases gK (fst (λb=>same b k) k 0) k with q|q
   ·exact g4 q
   rw[show fst (λb=>same b k) k 0=k by omega];exact h.refl k hk
  rw[FG];intro q;rcases gK (fst (λb=>same b k) k 0) k with z|z
  ·have:=h.trans d _ k (by omega) (by omega) hk q (g4 z)
   grind
  repeat grind
 constructor
 ·intro e;obtain⟨c,c1,c2,c3,c4⟩:=first a ha
  obtain⟨d,d1,d2,d3,d4⟩:=first b hb
  have ecd:c=d:=by
   rcases xS c d with q|q|q
   ·have h1:=mono (c+1) d q;simp only[kp,(QH c3).2] at h1
    grind
   ·exact q
   have h1:=mono (d+1) c q;simp only[kp,(QH d3).2] at h1
   grind
  subst ecd;exact h.trans a c b ha (by omega) hb (h.symm c a (by omega) ha c2) d2
 intro e;rcases xS a b with q|q|q
 ·exact(MZ h hb q e).1.symm
 ·rw[q]
 exact(MZ h ha q<|h.symm a b ha hb e).1
noncomputable def rv(g:ak)(a b:Nat):Bool:=gL g [(a:Int)] b&&gL g [(b:Int)] a
theorem ng:rv g a b↔To g a b/\To g b a:=by
 unfold rv;rw[gr,pO,pO]
theorem Qt(g:ak)(n:Nat):Eqv (rv g) n where
 refl a _:=ng.2 ⟨nw g a,nw g a⟩
 symm a b _ _ h:=ng.2 (ng.1 h).symm
 trans a b c _ _ _ h k:=ng.2 ⟨n9 (ng.1 h).1 (ng.1 k).1,n9 (ng.1 k).2 (ng.1 h).2⟩
def gn(f:Nat->Nat):Nat->Int:=λi=>(f i:Int)
def je(g:ak)(num low:Nat->Nat)(part:Nat->Int)(Z:ah)(h ar count dt:Nat):aE :=
 [.vec true 0 1<|aw<|gl g.length<|gn num,.vec true 0 1<|aw<|gl g.length<|gn low,.vec true 0 1<|aw<|gl g.length part,.row true [bN g,.own 0 0 0 g.length,.own 1 0 0 g.length,.own 2 0 0 g.length,.own 4 ar 0 h,aa count,aa dt],.vec true ar 1<|aw Z]
variable{Z:ah}{h count:Nat}
theorem Qw{num:Nat->Nat}{part:Nat->Int}{ar dt:Nat}:∀o∈je g num low part Z h ar count dt,o.under 5:=by
 intro o ho;simp only[je,eQ,uH,or_false] at ho;rcases ho with rfl|rfl|rfl|rfl|rfl<;>simp[al.under,aG,aK,bz _<|l5 g]
theorem Ke(f:Nat->Nat)(k v:Nat):fB (gn f) k (v:Int)=gn (up f k v):=by
 funext i;unfold fB gn up
 grind
theorem KY:List.drop 0 (List.take h<|aw Z)++List.drop 0 (List.take 1 [[aa x]])=aw (Z.take h++[x]):=by simp[aw,List.map_take]
theorem WK(g:ak)(hn:g.length<=1000000000)(num low:Nat->Nat)(part:Nat->Int)(Z:ah)(h ar count dt:Nat)(hh:h<=Z.length)(hh':h<=1000000000)(hc:count<=1000000000)(v:Nat)(hv:v<g.length) :
  bZ aj 331 [.loc 3 0,aa v] (je g num low part Z h ar count dt) (.aJ []) (je g (up num v<|count+1) (up low v<|count+1) part (Z.take h++[(v:Int)]) (h+1) (ar+1) (count+1) dt):=by
 refine jb fZ zs (by simp[je]) ?_ zu Qw;unfold je;refine sR ?_;refine sIB ?_;refine⟨_,bX v zo hv,?_⟩;refine bC ?_;refine⟨_,bX v zo hv,?_⟩;refine sWJ ?_;refine⟨?_,zs⟩;rw[show(count:Int)+1=((count+1:Nat):Int) from rfl,kV (k:=v) zo,kV (k:=v) zo,Ke,Ke,KY];rfl
def Aj(part:Nat->Int)(st:List Nat)(dt:Nat):Nat->Int:=λv=>if v∈st then (dt:Int) else part v
theorem zvp(part:Nat->Int)(dt:Nat):Aj part [] dt=part:=by funext v;simp[Aj]
theorem WL(part:Nat->Int)(st:List Nat)(dt k:Nat):fB (Aj part st dt) k (dt:Int)=Aj part (st++[k]) dt:=by
 funext i;unfold fB Aj;repeat grind
theorem zxQ(g:ak)(hn:g.length<=1000000000)(num low:Nat->Nat)(part:Nat->Int)(Z:ah)(pre post:List Nat)(n:Nat)(ar count dt:Nat)(hh:(pre++n::post).length<=Z.length)(hh':(pre++n::post).length<=1000000000)(hg:dt<=1000000000)
  (hZ:∀j,j<(pre++n::post).length->Z.getD ((pre++n::post).length-1-j) 0=(((pre++n::post).getD j 0:Nat):Int)) (bW:∀v∈pre++n::post,v<g.length) (hp:n ∉ pre) :
  bZ aj 332 [.loc 3 0,aa n] (je g num low part Z (pre++n::post).length ar count dt) (.aJ []) (je g num low (Aj part (pre++[n]) dt) Z post.length ar count<|dt+1):=by
 refine jb fZ zs (by simp[je]) ?_ zu Qw
 (apply ry;focus (repeat' constructor))
 generalize pC:pre++n::post=st at *
 refine cq [0,1] (λ_:Nat=>[]) (λj=>je g num low (Aj part (st.take j) dt) Z (st.length-j) ar count dt)
  (λj=>j<=pre.length) (λj=>pre.length-j) 0 ?_
 refine sW ?_;refine⟨zo,by exact sK,by rw[s5,zvp];rfl,?_⟩;rintro j hj;have hlen:st.length=pre.length+post.length+1:=by rw[<-pC];simp;omega
 have hkz:=hZ j zo;have vO:st.getD j 0∈st:=by rw[a8,aX zo];exact iZ _
 have rh:=bW _ vO;have RI:st.take (j+1)=st.take j++[st.getD j 0]:=by
  rw[jP,aX zo,a8,aX zo];rfl
 have Js:st.getD j 0=n↔j=pre.length:=by
  rw[<-pC];constructor
  ·intro e;rcases gK j pre.length with q|q
   ·exfalso;rw[a8,iz q,aX q] at e;exact hp<|e▸iZ q
   omega
  intro e;subst e;rw[a8,jF<|aS _,xb];rfl
 generalize hk:st.getD j 0=k at *;unfold je;refine ck ?_;refine sIB ?_;refine⟨_,bV (l:=Z) (k:=st.length-1-j) zo zo,?_⟩;rw[hkz];refine aQ ?_;refine⟨zo,zo,zo,?_⟩;refine bC ?_;refine⟨_,bX k zo rh,?_⟩;refine sWS (λq=>?_) λq=>?_
 ·have q:k=n:=sO;have q':=Js.1 q;refine sI ?_;have rf:st.take (j+1)=pre++[n]:=by
   rw[<-pC,q',show pre++n::post=(pre++[n])++post by simp,List.take_left' zs]
  refine⟨?_,zs⟩;rw[kV (k:=k) zo,WL,<-RI,rf,show 0+((st.length-j-0:Nat)-1:Int).toNat=post.length by omega];rfl
 have q:k≠n:=sO;have q':=λz=>q<|Js.2 z;refine⟨j+1,zo,zd,aC (by exact sK) ?_⟩;rw[kV (k:=k) zo,WL,<-RI,show 0+((st.length-j-0:Nat)-1:Int).toNat=st.length-(j+1) by omega]
structure TR where
 S:TJ
 Z:ah
 ar:Nat
structure ZOK(st:List Nat)(Z:ah):Prop where
 len:st.length<=Z.length
 at_:∀j,j<st.length->Z.getD (st.length-1-j) 0=((st.getD j 0:Nat):Int)
theorem ZOK.push{st:List Nat}(h:ZOK st Z)(v:Nat):ZOK (v::st) (Z.take st.length++[(v:Int)]) where
 len:=by have:=h.len;simp;omega
 at_ j hj:=by
  have hl:=h.len;simp only[dC] at hj⊢
  cases j with
  |zero =>
   rw[a8,jF zq];rw[show st.length+1-1-0-(Z.take st.length).length=0 by simp;omega];rfl
  |succ j =>
   have:=h.at_ j zo;rw[yI,<-this,a8,a8,iz zq,List.getElem?_take,ae zo,show st.length+1-1-(j+1)=st.length-1-j by omega]
theorem ZOK.drop{pre post:List Nat}(h:ZOK (pre++post) Z):ZOK post Z where
 len:=by have:=h.len;simp at this;omega
 at_ j hj:=by
  have:=h.at_ (pre.length+j) zq;rw[a8 (l:=pre++post),jF zo,GQ,<-a8,cL,show pre.length+post.length-1-(pre.length+j)=post.length-1-j by omega] at this;exact this
structure TRI(g:ak)(R:TR):Prop where
 tj:TjI g R.S
 zok:ZOK R.S.stack R.Z
def TR.open(R:TR)(v:Nat)(path:List<|Nat×Nat):TR:=⟨R.S.open v path,R.Z.take R.S.stack.length++[(v:Int)],R.ar+1⟩
def stepT(g:ak)(R:TR):TR :=
 match R.S.path with
 |[]=>R
 |(p,i)::r =>
  if i<(g.getD p []).length then
   if R.S.num ((g.getD p []).getD i 0).toNat=0 then R.open ((g.getD p []).getD i 0).toNat<|(p,i+1)::r
   else ⟨R.S.skip p i r ((g.getD p []).getD i 0).toNat,R.Z,R.ar⟩
  else match r with
   |[]=>⟨R.S.shut p [] R.S.low,R.Z,R.ar⟩
   |(q,j)::r'=>if R.S.low p=R.S.num p then ⟨R.S.shut p ((q,j)::r')<|up R.S.low q<|min (R.S.low q)<|R.S.low p,R.Z,R.ar⟩ else ⟨R.S.back p q j r',R.Z,R.ar⟩
def runT(g:ak):Nat->TR->TR
 |0,R=>R
 |k+1,R=>if R.S.path=[] then R else runT g k<|stepT g R
variable{R:TR}
theorem zxV(h:R.S.path=[]):∀k,runT g k R=R
 |0=>rfl
 |k+1=>by simp only[runT,ae h]
theorem TjI.split(h:TjI g S)(hn:n∈S.stack):∃pre post,S.stack=pre++n::post/\n ∉ pre/\(∀v,v∈pre++[n]↔v∈S.stack/\S.num n<=S.num v)/\S.stack.filter (λv=>decide (S.num v<S.num n))=post:=by
 obtain⟨pre,post,e⟩:=List.append_of_mem hn;have hs:=h.srt;rw[e,List.pairwise_append] at hs;obtain⟨s1,s2,s3⟩:=hs;rw[List.pairwise_cons] at s2;have p1:∀v∈pre,S.num n<S.num v:=λv hv=>s3 v hv n zs;have p2:∀v∈post,S.num v<S.num n:=λv hv=>s2.1 v hv;refine⟨pre,post,e,λq=>by have:=p1 n q;omega,λv=>?_,?_⟩
 ·grind
 rw[e,Gc,List.filter_cons,ab zs];have f1:pre.filter (λv=>decide (S.num v<S.num n))=[]:=List.filter_eq_nil_iff.2 λv hv=>by have:=p1 v hv;simp;omega
 have f2:post.filter (λv=>decide (S.num v<S.num n))=post:=List.filter_eq_self.2 λv hv=>by simpa using p2 v hv
 grind
theorem TjI.Xq(h:TjI g S)(hp:S.path=[(p,i)]):S.low p=S.num p:=by
 have re:=h.seg;rw[hp] at re;obtain⟨g1,g2,g3,g4,g5,⟨w,w1,w2,w3⟩,g7,g8,g9⟩:=re;have:=g9 w w1;omega
theorem TRI.shut{g:ak}{R:TR}(h:TRI g R){n i:Nat}{r:List<|Nat×Nat}(hp:R.S.path=(n,i)::r)(hi:(g.getD n []).length<=i)(hl:R.S.low n=R.S.num n){low:Nat->Nat}(Cr:∀v,R.S.num v<R.S.num n->low v=R.S.low v):TRI g ⟨R.S.shut n r low,R.Z,R.ar⟩:=by
 refine⟨h.tj.shut hp hi hl Cr,?_⟩;have hn:n∈R.S.stack:=by have:=h.tj.seg;rw[hp] at this;exact this.1
 obtain⟨pre,post,e,e1,e2,e3⟩:=h.tj.split hn;show ZOK (R.S.stack.filter _) R.Z;rw[e3];have:=h.zok;rw[e,show pre++n::post=(pre++[n])++post by simp] at this;exact this.drop
theorem RR(aY:∀v x,x∈g.getD v []->x.toNat<g.length)(h:TRI g R)(hp:R.S.path≠[]):TRI g (stepT g R)/\TJ.fuel g (stepT g R).S<TJ.fuel g R.S/\∀x,R.S.num x≠0->(stepT g R).S.num x≠0:=by
 unfold stepT
 cases e:R.S.path with
 |nil=>grind
 |cons q r =>
  obtain⟨p,i⟩:=q;dsimp only;by_cases hi:i<(g.getD p []).length
  ·rw[ae hi];have hv:=aY p _<|df hi;by_cases h0:R.S.num ((g.getD p []).getD i 0).toNat=0
   ·rw[ae h0];refine⟨⟨h.tj.push e hi hv h0,h.zok.push _⟩,by have:=zuE e hi hv h0;show TJ.fuel g (R.S.open _ _)<_;omega,λx hx=>?_⟩;show up R.S.num _ _ x≠0;rw[kL λq=>hx<|by rw[q];exact h0];exact hx
   rw[ab h0];exact⟨⟨h.tj.skip e hi h0,h.zok⟩,by have:=zt1 (x:=((g.getD p []).getD i 0).toNat) e hi;show TJ.fuel g (R.S.skip _ _ _ _)<_;omega,λx hx=>hx⟩
  rw[ab hi]
  cases r with
  |nil =>
   exact⟨h.shut e zo (h.tj.Xq e) λ_ _=>rfl,Va e,λx hx=>hx⟩
  |cons q r =>
   obtain⟨q,j⟩:=q;dsimp only;by_cases hl:R.S.low p=R.S.num p
   ·rw[ae hl];have re:=h.tj.seg;rw[e] at re;obtain⟨g1,g2,g3,g4,g5,g6,g7,g8,f1,f2,f3,f4,f5,f6,f7,f8,f9⟩:=re;refine⟨h.shut e zo hl λv _=>?_,Va e,λx hx=>hx⟩;by_cases ev:v=q
    ·subst ev;rw[oG];omega
    rw[kL ev]
   rw[ab hl];exact⟨⟨h.tj.back e zo hl,h.zok⟩,zsK e,λx hx=>hx⟩
theorem UG{g:ak}(aY:∀v x,x∈g.getD v []->x.toNat<g.length):∀(k:Nat) {R:TR},TRI g R->TJ.fuel g R.S<=k->TRI g (runT g k R)/\(runT g k R).S.path=[]/\∀x,R.S.num x≠0->(runT g k R).S.num x≠0
 |0,R,h,hk=>by
  have hp:R.S.path=[]:=by
   cases e:R.S.path with
   |nil=>rfl
   |cons q r=>obtain⟨p,i⟩:=q;unfold TJ.fuel at hk;rw[e] at hk;simp only[rL] at hk;omega
  exact⟨h,hp,λx hx=>hx⟩
 |k+1,R,h,hk=>by
  simp only[runT];by_cases hp:R.S.path=[]
  ·rw[ae hp];exact⟨h,hp,λx hx=>hx⟩
  rw[ab hp];obtain⟨a,b,c⟩:=RR aY h hp;obtain⟨a',b',c'⟩:=UG aY k a zo;exact⟨a',b',λx hx=>c' x<|c x hx⟩
theorem TRI.root(h:TRI g R)(hp:R.S.path=[])(hv:v<g.length)(h0:R.S.num v=0):TRI g<|R.open v []:=by
 refine⟨h.tj.opened hv h0 (kZ _) ?_ trivial,h.zok.push v⟩;have:=h.tj.seg;rw[hp] at this;exact this
def yU(g:ak)(R:TR)(v:Nat):TR:=runT g (TJ.fuel g (R.open v []).S)<|R.open v []
def ju(g:ak):Nat->TR
 |0=>⟨⟨λ_=>0,λ_=>0,λ_=>-1,[],[],0,0⟩,[],0⟩
 |k+1=>if (ju g k).S.num k=0 then yU g (ju g k) k else ju g k
theorem zuH(aY:∀v x,x∈g.getD v []->x.toNat<g.length)(h:TRI g R)(hp:R.S.path=[])(hv:v<g.length)(h0:R.S.num v=0) :
  TRI g (yU g R v)/\(yU g R v).S.path=[]/\(yU g R v).S.num v≠0/\∀x,R.S.num x≠0->(yU g R v).S.num x≠0:=by
 obtain⟨a,b,c⟩:=UG aY _ (h.root hp hv h0)<|aS _;refine⟨a,b,c v ?_,λx hx=>c x ?_⟩
 ·show up R.S.num v (R.S.count+1) v≠0;rw[oG];omega
 show up R.S.num v (R.S.count+1) x≠0;by_cases e:x=v
 ·grind
 rw[kL e];exact hx
theorem FU{g:ak}(aY:∀v x,x∈g.getD v []->x.toNat<g.length):∀k,k<=g.length->TRI g (ju g k)/\(ju g k).S.path=[]/\∀j,j<k->(ju g k).S.num j≠0
 |0,_=>⟨⟨TjI.zero g,⟨aS _,λj hj=>by cases hj⟩⟩,rfl,λj hj=>by cases hj⟩
 |k+1,hk=>by
  obtain⟨a,b,c⟩:=FU aY k zo;simp only[ju];by_cases h0:(ju g k).S.num k=0
  ·rw[ae h0];obtain⟨a',b',c',d'⟩:=zuH aY a b (show k<g.length by omega) h0;refine⟨a',b',λj hj=>?_⟩;by_cases e:j=k
   ·subst e;exact c'
   exact d' j<|c j zo
  rw[ab h0];refine⟨a,b,λj hj=>?_⟩;by_cases e:j=k
  ·subst e;exact h0
  exact c j zo
theorem ztP(aY:∀v x,x∈g.getD v []->x.toNat<g.length):(∀i,i<g.length->0<=(ju g g.length).S.part i/\(ju g g.length).S.part i<((ju g g.length).S.dt:Int)) /\
  (∀i j,i<g.length->j<g.length->((ju g g.length).S.part i=(ju g g.length).S.part j↔rv g i j))/\(ju g g.length).S.dt<=g.length:=by
 obtain⟨a,b,c⟩:=FU aY g.length<|aS _;have hd:=λi (hi:i<g.length)=>a.tj.done b<|c i hi;refine⟨λi hi=>⟨hd i hi,(a.tj.par i<|hd i hi).1⟩,λi j hi hj=>?_,?_⟩
 ·rw[a.tj.same i j (hd i hi)<|hd j hj,ng]
 have h1:=a.tj.size;have h2:=a.tj.seen;omega
def pz(l:List<|Nat×Nat):fc:=l.map λq=>[aa q.1,aa q.2]
variable(l:List<|Nat×Nat)
@[simp] theorem zzT:dF<|pz l:=c6 _ (λl=>by simp[aA,Pure]) l
variable{m:Nat}
@[simp] theorem zBF:bB m (pz l)↔True:=⟨λ_=>trivial,λ_=>bm _<|zzT l⟩
variable{l:List<|Nat×Nat}
theorem Lg(hz:z=k)(h:k<l.length):(pz l)[z]? = some [.sc (.int .i64 (l.getD k (0,0)).1),.sc (.int .i64 (l.getD k (0,0)).2)]:=by
 subst hz;rw[a8,aX h];simp[pz,h]
theorem zBD(hz:z=k):(pz l).set z [aa a,aa b]=pz (l.set k (a,b)):=by
 subst hz;simp[pz,List.map_set]
theorem zA9{Z:List<|Nat×Nat}:List.drop 0 (List.take h<|pz Z)++List.drop 0 (List.take 1 [[aa a,aa 0]])=pz (Z.take h++[(a,0)]):=by simp[pz,List.map_take]
structure POK(pa:List<|Nat×Nat)(PZ:List<|Nat×Nat):Prop where
 len:pa.length<=PZ.length
 eq:PZ.take pa.length=pa.reverse
variable{PZ:List<|Nat×Nat}
theorem POK.top{q:Nat×Nat}(h:POK (q::r) PZ):PZ.getD r.length (0,0)=q:=by
 have h1:=h.len;have h2:=h.eq;simp only[dC,List.reverse_cons] at h1 h2;have h3:(PZ.take<|r.length+1).getD r.length (0,0)=(r.reverse++[q]).getD r.length (0,0):=by rw[h2]
 grind
theorem POK.set{q q':Nat×Nat}{r PZ:List<|Nat×Nat}(h:POK (q::r) PZ):POK (q'::r) (PZ.set r.length q') where
 len:=by have:=h.len;simpa using this
 eq:=by
  have h1:=h.len;have h2:=h.eq;simp only[dC,List.reverse_cons] at h1 h2⊢;rw[List.take_set,h2,List.set_append_right _ _ zs];simp
theorem POK.push(h:POK r PZ)(q:Nat×Nat):POK (q::r) (PZ.take r.length++[q]) where
 len:=by have:=h.len;simp;omega
 eq:=by
  have h1:=h.len;rw[fG zq,h.eq];simp
theorem POK.pop{q:Nat×Nat}(h:POK (q::r) PZ):POK r PZ where
 len:=by have:=h.len;simp at this;omega
 eq:=by
  have h2:=h.eq;simp only[dC,List.reverse_cons] at h2;have h3:(PZ.take<|r.length+1).take r.length=(r.reverse++[q]).take r.length:=(by rw[h2]);rw[List.take_take,v7 zo,List.take_left' zs] at h3;exact h3
def si(g:ak)(R:TR):aE:=je g R.S.num R.S.low R.S.part R.Z R.S.stack.length R.ar R.S.count R.S.dt
theorem QW{g:ak}{num low:Nat->Nat}{part:Nat->Int}{Z:ah}{h ar count dt:Nat}(X:aE) :
  []++((je g num low part Z h ar count dt).map (al.aP λi=>([]:aE).length+i)++X)=je g num low part Z h ar count dt++X:=by
 have e:(λi=>([]:aE).length+i)=λi=>0+i:=rfl;have hg:=λρ=>iQ (ρ:=ρ) _<|l5 g;have h1:=λρ l=>jW (ρ:=ρ) _<|c6 (λn:Int=>[aa n]) (λl=>by simp[aA,Pure]) l;simp only[je,fR,jc,al.aP,bL,hg,aw,h1,nG,pQ];simp only[D.aP,lp,fy]
theorem zlB{num:Nat->Nat}{part:Nat->Int}{ar dt:Nat}:dX 5<|je g num low part Z h ar count dt:=by
 simp[je,dX,al.under,aG,aK,bz _<|l5 g]
theorem OE{g:ak}{f:FuncId}{v:Int}{num low Rp RY:Nat->Nat}{part RJ:Nat->Int}{Z Z':ah}{h ar count dt h' bY Wm Rv:Nat}
  (hA:bZ aj f [.loc 3 0,aa v] (je g num low part Z h ar count dt) (.aJ [])<|je g Rp RY RJ Z' h' bY Wm Rv) (X:aE) :
  bZ aj f [.loc 3 0,aa v] (je g num low part Z h ar count dt++X) (.aJ []) (je g Rp RY RJ Z' h' bY Wm Rv++X) :=
 rX hA [] X (by simp[je]) (by simp[je,aG,aK]) zlB (by simp[bL,D.aP]) (by simp[D.aP,bL]) (QW X) (QW X)
theorem TRI.bounds(h:TRI g R)(hn:g.length<=1000000000):R.S.stack.length<=1000000000/\R.S.count<=1000000000/\R.S.dt<=1000000000/\R.S.path.length<=1000000000:=by
 have h1:=h.tj.size;have h2:=h.tj.seen;have h3:=h.tj.deep;omega
theorem Xj(hn:g.length<=1000000000)(hI:TRI g R)(hp:p∈R.S.stack)(low:Nat->Nat)(path:List<|Nat×Nat)(X:aE) :
  bZ aj 332 [.loc 3 0,aa p] (je g R.S.num low R.S.part R.Z R.S.stack.length R.ar R.S.count R.S.dt++X) (.aJ []) (si g ⟨R.S.shut p path low,R.Z,R.ar⟩++X):=by
 have hb:=hI.bounds hn;obtain⟨pre,post,e,e1,e2,e3⟩:=hI.tj.split hp;have bW:∀v∈pre++p::post,v<g.length:=λv hv=>hI.tj.node v ((hI.tj.stk v).1<|e▸hv).1;have hl:=hI.zok.len;have ha:=hI.zok.at_;rw[e] at hl ha hb;have hC:=zxQ g hn R.S.num low R.S.part R.Z pre post p R.ar R.S.count R.S.dt hl hb.1 hb.2.2.1 ha bW e1;have ep:Aj R.S.part (pre++[p]) R.S.dt=(R.S.shut p path low).part:=by
  funext v;show(if v∈pre++[p] then _ else _)=if v∈R.S.stack/\R.S.num p<=R.S.num v then _ else _
  by_cases q:v∈pre++[p]
  ·rw[ae q,ae<|(e2 v).1 q]
  rw[ab q,ab λz=>q<|(e2 v).2 z]
 have es:(R.S.shut p path low).stack=post:=e3;have:=OE hC X;rw[ep,<-e,<-es] at this;exact this
theorem zwK(g:ak)(hn:g.length<=1000000000)(iM:∀l∈g,bq l g.length)(hF:iu g)(R:TR)(hR:TRI g R)(hp:R.S.path=[])(v:Nat)(hv:v<g.length)(h0:R.S.num v=0) :
  bZ aj 289 [.loc 3 0,aa v] (si g R) (.aJ []) (si g<|yU g R v):=by
 have cR:=λk=>ft iM k;have aY:∀v x,x∈g.getD v []->x.toNat<g.length:=λv x hx=>by have:=cZ (cR v) hx;omega
 have hb:=hR.bounds hn;have hB:=OE (WK g hn R.S.num R.S.low R.S.part R.Z R.S.stack.length R.ar R.S.count R.S.dt hR.zok.len hb.1 hb.2.1 v hv) [.vec true 0 2 (pz [(v,0)])];refine jb fZ zs (by simp[si,je]) ?_ zu Qw;have Yz:=hR.root hp hv h0;have eF:yU g R v=runT g (TJ.fuel g (R.open v []).S) (R.open v []):=rfl;generalize yU g R v=Fin at *;have eO:si g (R.open v [])=je g (up R.S.num v (R.S.count+1)) (up R.S.low v (R.S.count+1)) R.S.part (R.Z.take R.S.stack.length++[(v:Int)]) (R.S.stack.length+1) (R.ar+1) (R.S.count+1) R.S.dt:=rfl;rw[<-eO] at hB;clear eO;have ep:(R.open v []).S.path=[(v,0)]:=rfl;generalize R.open v []=R0 at *;unfold si je at hB⊢;refine sR ?_;refine sA hB ?_
 refine cq [0] (λ((R,PZ,pver,k):TR×List (Nat×Nat)×Nat×Nat)=>[(4,.own 5 pver 0 R.S.path.length)]) (λ(R,PZ,pver,k)=>si g R++[.vec true pver 2<|pz PZ])
  (λ(R,PZ,pver,k)=>TRI g R/\POK R.S.path PZ/\TJ.fuel g R.S<=k/\runT g k R=Fin) (λ(R,PZ,pver,k)=>TJ.fuel g R.S) (R0,[(v,0)],0,TJ.fuel g R0.S) ?_
 refine sW ?_;refine⟨⟨Yz,by rw[ep];exact⟨zs,rfl⟩,aS _,eF.symm⟩,⟨by rw[ep];rfl,by exact sK⟩,rfl,?_⟩;clear hB Yz ep eF;rintro⟨R,PZ,pver,k⟩ ⟨hI,Fs,hk,Hh⟩;have hb:=hI.bounds hn
 cases ep:R.S.path with
 |nil =>
  rw[zxV ep] at Hh;subst Hh;have Ml:R.S.path.length=0:=(by rw[ep];rfl);unfold si je;refine ck ?_;rw[Ml];refine sW ?_;show(5:Nat)<=6;omega
 |cons q r =>
  obtain⟨p,i⟩:=q;have bW:=hI.tj.seg;rw[ep] at bW Fs;have tC:=bW.1;have rf:=hI.tj.node p ((hI.tj.stk p).1 tC).1;have PX:=RR aY hI (by rw[ep];simp);obtain⟨k',rfl⟩:∃k',k=k'+1:=⟨k-1,by have:=PX.2.1;omega⟩;have Di:runT g k' (stepT g R)=Fin:=(by rw[<-Hh];simp only[runT];rw[ab<|by rw[ep];simp]);have cG:=PX.2.1;have mG:=PX.1;have zgv:=Fs.top;have ED:=Fs.len;rw[ep] at hb;simp only[dC] at hb ED;have Cj:=hF.at p;have Ml:R.S.path.length=r.length+1:=(by rw[ep];rfl);generalize lQ:stepT g R=R' at *;unfold si je bN;refine ck ?_;rw[Ml];refine sS (λq0=>?_) λq0=>?_
  ·have fS:(pz PZ)[r.length]? = some [aa p,aa i]:=(by rw[Lg rfl zo,zgv]);refine sIB ?_;rw[show 0+(((r.length+1-0:Nat):Int)-1).toNat=r.length by omega];refine⟨_,fS,?_⟩;refine sW ?_;refine⟨_,fS,?_⟩;refine sW ?_;refine sL (eV (k:=p) zo rf) ?_;rw[aI];refine sS (λhi=>?_) λhi=>?_
   ·have hi:i<(g.getD p []).length:=sO;have hx:=cZ (cR p)<|df hi;refine⟨_,fS,?_⟩;refine sW ?_;refine sL (eV (k:=p) zo rf) ?_;refine⟨_,fS,?_⟩;refine sW ?_;refine sL (bV (l:=g.getD p []) (k:=i) zo hi) ?_;refine⟨_,fS,?_⟩;refine aQ ?_;refine⟨_,fS,?_⟩;refine sW ?_;rw[show(i:Int)+1=((i+1:Nat):Int) from rfl,zBD (k:=r.length) rfl];have Lb:=Fs.set (q':=(p,i+1));have hSl:(PZ.set r.length (p,i+1)).length=PZ.length:=zs;have gp:stepT g R=if R.S.num ((g.getD p []).getD i 0).toNat=0 then R.open ((g.getD p []).getD i 0).toNat<|(p,i+1)::r else ⟨R.S.skip p i r ((g.getD p []).getD i 0).toNat,R.Z,R.ar⟩:=by
     unfold stepT;rw[ep];simp only[ae hi]
    have mI:∀k,k=i->(g.getD p []).getD k 0=(g.getD p []).getD i 0:=λk e=>by rw[e]
    generalize (g.getD p []).getD i 0=x at *;obtain⟨to,rfl⟩:∃to:Nat,x=to:=⟨x.toNat,zo⟩;rw[bO] at gp;have IE:to<g.length:=zo;refine sB ?_;refine⟨_,bX to zo IE,?_⟩;refine sW ?_;rw[show gn R.S.num to=(R.S.num to:Int) from rfl];refine sS (λh1=>?_) λh1=>?_
    ·have h1:R.S.num to=0:=sO;rw[ae h1,lQ] at gp;subst gp;have hB:=OE (WK g hn R.S.num R.S.low R.S.part R.Z R.S.stack.length R.ar R.S.count R.S.dt hI.zok.len hb.1 hb.2.1 to IE) [.vec true pver 2<|pz<|PZ.set r.length (p,i+1)];unfold je bN at hB;refine sA hB ?_;refine sJ ?_;refine⟨(R.open to<|(p,i+1)::r,(PZ.set r.length (p,i+1)).take (r.length+1)++[(to,0)],pver+1,k'),⟨mG,Lb.push (to,0),zo,Di⟩,zd,?_⟩;refine aL 6 zs rfl sQ (sU ?_);exact aV zA9
    have h1:R.S.num to≠0:=sO;rw[ab h1,lQ] at gp;subst gp;have hcn:=hI.tj.cnt to;have lz:=hI.tj.cnt p;refine sB ?_;refine⟨_,bX to zo IE,?_⟩;refine sWS (λh2=>?_) λh2=>?_
    ·have h2:R.S.part to<0:=sO;have YZ:(pz<|PZ.set r.length (p,i+1))[r.length]? = some [aa p,aa ((i+1:Nat):Int)]:=by
      rw[Lg rfl zo,Lb.top]
     refine⟨_,YZ,?_⟩;refine sW ?_;refine⟨_,YZ,?_⟩;refine bC ?_;refine⟨_,bX p zo rf,?_⟩;refine bC ?_;refine⟨_,bX to zo IE,?_⟩;refine bC ?_;refine⟨_,bX p zo rf,?_⟩;refine sW ?_;have el:(R.S.skip p i r to).low=up R.S.low p (min (R.S.low p)<|R.S.num to):=ae h2;refine⟨(⟨R.S.skip p i r to,R.Z,R.ar⟩,PZ.set r.length (p,i+1),pver,k'),⟨mG,Lb,zo,Di⟩,zd,aC (by exact sK) ?_⟩;dsimp only;rw[el,show min (gn R.S.low p) (gn R.S.num to)=((min (R.S.low p) (R.S.num to):Nat):Int) by unfold gn;omega,kV (k:=p) zo,Ke];rfl
    have h2:¬R.S.part to<0:=sO;have el:(R.S.skip p i r to).low=R.S.low:=ab h2;refine⟨(⟨R.S.skip p i r to,R.Z,R.ar⟩,PZ.set r.length (p,i+1),pver,k'),⟨mG,Lb,zo,Di⟩,zd,aC (by exact sK) ?_⟩;dsimp only;rw[el];rfl
   have hi:(g.getD p []).length<=i:=sO;refine⟨_,fS,?_⟩;refine aQ ?_;refine⟨zo,zo,zo,?_⟩;refine sW ?_;rw[show 0+(((r.length+1-0:Nat):Int)-1).toNat=r.length by omega];have H4:=Fs.pop;have jC:=hI.tj.cnt p;have ug:R.S.low p<=R.S.num p:=bW.2.2.2.2.1
   cases r with
   |nil =>
    have gp:stepT g R=⟨R.S.shut p [] R.S.low,R.Z,R.ar⟩:=by
     unfold stepT;rw[ep];simp only[ab<|Nat.not_lt.2 hi]
    rw[lQ] at gp;refine bC ?_;refine⟨_,bX p zo rf,?_⟩;refine bC ?_;refine⟨_,bX p zo rf,?_⟩;refine sW ?_;rw[show gn R.S.low p=(R.S.low p:Int) from rfl,show gn R.S.num p=(R.S.num p:Int) from rfl];have C7:=hI.tj.Xq ep;refine sS (λh3=>?_) λh3=>?_
    ·have hC:=Xj hn hI tC R.S.low [] [.vec true pver 2<|pz PZ];unfold si je bN at hC;refine sA hC ?_;subst gp;refine⟨(⟨R.S.shut p [] R.S.low,R.Z,R.ar⟩,PZ,pver,k'),⟨mG,H4,zo,Di⟩,zd,aC (by exact sK) rfl⟩
    exfalso;exact sO
   |cons q r =>
    obtain⟨q,j⟩:=q;have Yc:=bW.2.2.2.2.2.2.2.2;have hqs:=Yc.1;have Xd:=hI.tj.node q ((hI.tj.stk q).1 hqs).1;have b9:p≠q:=λe=>by
     have:=Yc.2.1;rw[e] at this;omega
    have gp:stepT g R=if R.S.low p=R.S.num p then ⟨R.S.shut p ((q,j)::r)<|up R.S.low q<|min (R.S.low q)<|R.S.low p,R.Z,R.ar⟩ else ⟨R.S.back p q j r,R.Z,R.ar⟩:=by
     unfold stepT;rw[ep];simp only[ab<|Nat.not_lt.2 hi]
    rw[lQ] at gp;have zGF:(pz PZ)[r.length]? = some [aa q,aa j]:=(by rw[Lg rfl (by simp at ED;omega),H4.top]);rw[dC] at ED hb;rw[dC];refine sS (λq5=>?_) λq5=>?_
    ·refine sIB ?_;rw[show 0+(((r.length+1-(0+0):Nat):Int)-1).toNat=r.length by omega];refine⟨_,zGF,?_⟩;refine bC ?_;refine⟨_,bX q zo Xd,?_⟩;refine bC ?_;refine⟨_,bX p zo rf,?_⟩;refine bC ?_;refine⟨_,bX q zo Xd,?_⟩;refine sW ?_;rw[show min (gn R.S.low q) (gn R.S.low p)=((min (R.S.low q) (R.S.low p):Nat):Int) by unfold gn;omega,kV (k:=q) zo,Ke];refine sB ?_;refine⟨_,bX p zo rf,?_⟩;refine bC ?_;refine⟨_,bX p zo rf,?_⟩;refine sW ?_;rw[show gn (up R.S.low q<|min (R.S.low q)<|R.S.low p) p=(R.S.low p:Int) by unfold gn;rw[kL b9],show gn R.S.num p=(R.S.num p:Int) from rfl];refine sS (λh3=>?_) λh3=>?_
     ·have h3:R.S.low p=R.S.num p:=sO;rw[ae h3] at gp;have hC:=Xj hn hI tC (up R.S.low q<|min (R.S.low q)<|R.S.low p) ((q,j)::r) [.vec true pver 2<|pz PZ];unfold si je bN at hC;refine sA hC ?_;subst gp;refine⟨(⟨R.S.shut p ((q,j)::r)<|up R.S.low q<|min (R.S.low q)<|R.S.low p,R.Z,R.ar⟩,PZ,pver,k'),⟨mG,H4,zo,Di⟩,zd,aC (by exact sK) rfl⟩
     have h3:R.S.low p≠R.S.num p:=sO;rw[ab h3] at gp;subst gp;refine⟨(⟨R.S.back p q j r,R.Z,R.ar⟩,PZ,pver,k'),⟨mG,H4,zo,Di⟩,zd,aC (by exact sK) rfl⟩
    exfalso;exact sO
  exfalso;exact sO
noncomputable def bJ(g:ak):Nat->Int:=gn<|o6<|rv g
noncomputable def nT(g:ak):ah:=gl g.length<|bJ g
def GD(same:Nat->Nat->Bool)(part:Nat->Int)(name:Nat->Int)(k:Nat):Prop:=∀i:Nat,(∃b,b<k/\part b=(i:Int)/\name i=(o6 same b:Int)+1)\/((∀b,b<k->part b≠(i:Int))/\name i=0)
theorem ztR{part:Nat->Int}{name:Nat->Int}(hk:k<n)(h:GD same part name k)(hp:∀i,i<n->0<=part i)(hs:∀i j,i<n->j<n->(part i=part j↔same i j))(h0:name (part k).toNat=0) :
  o6 same k=kp same k/\kp same (k+1)=kp same k+1/\GD same part (fB name (part k).toNat<|(kp same k:Int)+1) (k+1):=by
 have nP:=hp k hk;have cg:∀c,c<k->same c k=false:=λc hc=>by
  rw[FG];intro q;have e:=(hs c k zo hk).2 q;rcases h (part k).toNat with⟨b,b1,b2,b3⟩|⟨b1,b2⟩
  ·omega
  grind
 obtain⟨e1,e2⟩:=QH cg;refine⟨e1,by simp[kp,e2],λi=>?_⟩;unfold fB;by_cases e:i=(part k).toNat
 ·left;refine⟨k,zo,zo,by rw[ae e,e1]⟩
 rw[ab e];rcases h i with⟨b,b1,b2,b3⟩|⟨b1,b2⟩
 ·exact .inl ⟨b,zo,b2,b3⟩
 refine .inr ⟨λb hb q=>?_,b2⟩;by_cases eb:b=k
 ·subst eb;omega
 exact b1 b zo q
theorem zto{part:Nat->Int}{name:Nat->Int}(he:Eqv same n)(hk:k<n)(h:GD same part name k)(hp:∀i,i<n->0<=part i)(hs:∀i j,i<n->j<n->(part i=part j↔same i j))(h0:name (part k).toNat≠0) :
  name (part k).toNat=(o6 same k:Int)+1/\kp same (k+1)=kp same k/\GD same part name (k+1):=by
 have nP:=hp k hk;rcases h (part k).toNat with⟨b,b1,b2,b3⟩|⟨b1,b2⟩
 ·obtain⟨e1,e2⟩:=MZ he hk b1<|(hs b k zo hk).1 zo;refine⟨by rw[b3,e1],by simp[kp,e2],λi=>?_⟩;rcases h i with⟨c,c1,c2,c3⟩|⟨c1,c2⟩;repeat grind
 grind
theorem TP(g:ak)(hn:g.length<=1000000000)(iM:∀l∈g,bq l g.length)(hF:iu g):ao aj 218 [bN g]<|aF<|nT g:=by
 have cR:=λk=>ft iM k;have aY:∀v x,x∈g.getD v []->x.toNat<g.length:=λv x hx=>by have:=cZ (cR v) hx;omega
 refine bS fZ ?_;have hV:=λk (hk:k<g.length) h0=>zwK g hn iM hF (ju g k) (FU aY k zo).1 (FU aY k zo).2.1 k hk h0;have xe:=λk hk=>FU aY k hk;have e00:∀k,List.replicate k (List.map D.sc [Value.int .i64 0])=aw (gl k λ_=>0):=yE;unfold bN;refine sR ?_;rw[aI];refine⟨zo,zo,zo,?_⟩;rw[bO];refine sW ?_;refine⟨zo,zo,zo,?_⟩;rw[bO];refine sW ?_;refine⟨zo,zo,zo,?_⟩;rw[bO];refine sW ?_;refine bb [3,4,22] (λk:Nat=>[(23,aa k)]) (λk=>[(2,.vec true 0 1<|aw<|gl g.length λi=>if i<k then -1 else 0)]) (λk=>k<=g.length) (λk=>g.length-k) 0 ?_;refine sW ?_;refine⟨zo,by exact sK,by rw[e00];simp;rfl,?_⟩;rintro k hk;refine bf (λq0=>?_) λq0=>?_
 ·have q0:k<g.length:=sO;refine sB ?_;refine⟨_,bX k zo q0,?_⟩;refine aQ ?_;refine⟨k+1,zo,zd,aC (by exact sK) ?_⟩;rw[kV (k:=k) zo,ou (g':=λi=>if i<k+1 then -1 else 0) λi _=>by
   show fB (λi=>if i<k then -1 else 0) k (-1) i=if i<k+1 then -1 else 0
   unfold fB;by_cases e:i=k
   ·subst e;simp
   by_cases e2:i<k
   ·rw[ab e,ae<|show i<k+1 by omega];exact ae e2
   rw[ab e,ab<|show ¬i<k+1 by omega];exact ab e2]
  rfl
 have q0:k=g.length:=sO;subst q0;rw[ou (g':=λ_=>-1) λi hi=>ae hi];refine bQ (gG 3 4 1 zs rfl rfl) ?_;have e0:List.replicate g.length (List.map D.sc [Value.int .i64 0])=aw (gl g.length (gn λ_=>0)):=yE _;rw[e0];refine cq [3,4,33] (λk:Nat=>[(34,aa k)]) (λk=>si g (ju g k)) (λk=>k<=g.length) (λk=>g.length-k) 0 ?_;refine dd ?_;rintro k hk;obtain⟨s1,s2,s3⟩:=xe k hk;unfold si je bN at hV⊢;refine bf (λq0=>?_) λq0=>?_
 ·have q0:k<g.length:=sO;have hVk:=hV k q0;refine sB ?_;refine⟨_,bX k zo q0,?_⟩;refine sW ?_;rw[show gn (ju g k).S.num k=((ju g k).S.num k:Int) from rfl];refine sS (λh0=>?_) λh0=>?_
  ·have h0:(ju g k).S.num k=0:=sO;refine sA (hVk h0) ?_;refine sI ?_;refine⟨k+1,zo,zd,aC (by exact sK) ?_⟩;dsimp only;rw[show ju g (k+1)=yU g (ju g k) k from ae h0]
  have h0:¬(ju g k).S.num k=0:=sO;refine sI ?_;refine⟨k+1,zo,zd,aC (by exact sK) ?_⟩;dsimp only;rw[show ju g (k+1)=ju g k from ab h0]
 have q0:k=g.length:=sO;subst q0;obtain⟨f1,f2,f3⟩:=ztP aY;clear hV xe s1 s2 s3 e0;generalize (ju g g.length).S.num=num at *;generalize (ju g g.length).S.low=low at *;generalize (ju g g.length).S.part=part at *;generalize (ju g g.length).S.dt=dt at *;generalize (ju g g.length).S.count=count at *;generalize (ju g g.length).S.stack.length=h at *;generalize (ju g g.length).ar=ar at *;generalize (ju g g.length).Z=Z at *;refine⟨zo,zo,zo,?_⟩;rw[bO];refine sW ?_;refine⟨zo,zo,zo,?_⟩;rw[bO];refine sW ?_;have e0:∀k,List.replicate k (List.map D.sc [Value.int .i64 0])=aw (gl k λ_=>0):=yE;rw[e0,e0];have hq:=Qt g g.length;have hp:=λi hi=>(f1 i hi).1
 refine bb [4,7,9,56] (λ((k,name):Nat×(Nat->Int))=>[(8,aa ((kp (rv g) k:Nat):Int)),(57,aa k)]) (λ(k,name)=>[(5,.vec true 0 1<|aw<|gl dt name),(6,.vec true 0 1<|aw<|gl g.length λi=>if i<k then bJ g i else 0)])
  (λ(k,name)=>k<=g.length/\GD (rv g) part name k) (λ(k,name)=>g.length-k) (0,λ_=>0) ?_
 refine sW ?_;refine⟨⟨zo,λi=>.inr ⟨λb hb=>zo,rfl⟩⟩,by exact sK,by simp;rfl,?_⟩;rintro⟨k,name⟩ ⟨hk,hN⟩;have hpc:=Mg (rv g) k;refine bf (λq0=>?_) λq0=>?_
 ·have q0:k<g.length:=sO;have Bl:=f1 k q0;have pV:=ztR q0 hN hp f2;have hold:=zto hq q0 hN hp f2;obtain⟨pk,Fi⟩:∃pk:Nat,part k=pk:=⟨(part k).toNat,zo⟩;rw[Fi] at Bl pV hold;rw[bO] at pV hold;refine sB ?_;refine⟨_,bX k zo q0,?_⟩;rw[Fi];refine bC ?_;refine⟨_,bX pk zo zo,?_⟩;refine sW ?_;have DY:∀v,v=bJ g k->aw (gl g.length<|fB (λi=>if i<k then bJ g i else 0) k v)=aw (gl g.length λi=>if i<k+1 then bJ g i else 0):=λv hv=>by
   rw[ou λi _=>?_];show fB (λi=>if i<k then bJ g i else 0) k v i=if i<k+1 then bJ g i else 0
   unfold fB;by_cases e:i=k
   ·subst e;rw[ae rfl,ae zo,hv]
   by_cases e2:i<k
   ·rw[ab e,ae<|show i<k+1 by omega];exact ae e2
   rw[ab e,ab<|show ¬i<k+1 by omega];exact ab e2
  refine sS (λh0=>?_) λh0=>?_
  ·have h0:name pk=0:=sO;obtain⟨n1,n2,n3⟩:=pV h0;refine sIB ?_;refine⟨_,bX k zo q0,?_⟩;rw[Fi];refine bC ?_;refine⟨_,bX pk zo zo,?_⟩;refine sW ?_;rw[kV (k:=pk) zo];refine sB ?_;refine⟨_,bX k zo q0,?_⟩;rw[Fi];refine bC ?_;refine⟨_,bX pk zo zo,?_⟩;refine sW ?_;rw[kq];refine sIB ?_;refine⟨_,bX k zo q0,?_⟩;refine aQ ?_;have e8:aa (((kp (rv g) k:Nat):Int)+1)=aa ((kp (rv g) (k+1):Nat):Int):=(by rw[n2];rfl);refine⟨(k+1,fB name pk<|(kp (rv g) k:Int)+1),⟨zo,n3⟩,zd,aC ⟨e8,by exact sK⟩ ?_⟩;dsimp only;rw[kV (k:=k) zo,DY _<|by unfold bJ gn;rw[n1];omega];rfl
  have h0:¬name pk=0:=sO;obtain⟨n1,n2,n3⟩:=hold h0;refine sB ?_;refine⟨_,bX k zo q0,?_⟩;rw[Fi];refine bC ?_;refine⟨_,bX pk zo zo,?_⟩;refine sW ?_;have jC:=Wb hq q0;rw[n1];refine sIB ?_;refine⟨_,bX k zo q0,?_⟩;refine aQ ?_;have e8:aa ((kp (rv g) k:Nat):Int)=aa ((kp (rv g) (k+1):Nat):Int):=(by rw[n2]);refine⟨(k+1,name),⟨zo,n3⟩,zd,aC ⟨e8,by exact sK⟩ ?_⟩;dsimp only;rw[kV (k:=k) zo,DY _<|by unfold bJ gn;omega];rfl
 have q0:k=g.length:=sO;subst q0;rw[ou (g':=bJ g) λi hi=>ae hi];exact vV rfl
def Ab(g:ak)(c:Nat):Prop:=∃x,x∈g.getD c []/\To g x.toNat c
def Fw(g:ak)(sets:List aq)(v:Nat):Prop:=∃c,To g v c/\Ab g c/\∀S,S∈sets->∃d,S d/\To g c d/\To g d c
open Classical in
noncomputable def fwB(g:ak)(sets:List aq)(v:Nat):Bool:=decide (Fw g sets v)
variable{sets:List aq}
theorem zD:fwB g sets v↔Fw g sets v:=by unfold fwB;simp
variable{b:Bool}
theorem Pw(h:b↔Fw g sets v):b=fwB g sets v:=by
 rw[j9,h,zD]
theorem Fw.back(h:Fw g sets v)(k:To g u v):Fw g sets u:=by
 obtain⟨c,h1,h2,h3⟩:=h;exact⟨c,n9 k h1,h2,h3⟩
variable{d:Nat}
theorem I2(h:Ab g c)(h1:To g c d)(h2:To g d c):Ab g d:=by
 obtain⟨x,hx,k⟩:=h
 -- the first going of a dk from d to c,or d is c
 have key:∀{a b:Nat},To g a b->a=b\/∃y,y∈g.getD a []/\To g y.toNat b:=by
  intro a b q;unfold To at q
  induction q with
  |base m=>grind
  |step q m ih =>
   rcases ih with e|⟨y,y1,y2⟩
   ·subst e;exact .inr ⟨_,m,nw g _⟩
   exact .inr ⟨y,y1,.step y2 m⟩
 rcases key h2 with e|⟨y,y1,y2⟩
 ·subst e;exact⟨x,hx,k⟩
 exact⟨y,y1,n9 y2 h1⟩
inductive Hit(g:ak)(z S:aq):Nat->Prop
 |one {i:Nat} {x:Int} (h:z i=true) (k:x∈g.getD i []) (hz:z x.toNat=true) (hs:S x.toNat=true):Hit g z S i
 |more {i:Nat} {x:Int} (h:z i=true) (k:x∈g.getD i []) (hz:z x.toNat=true) (hs:Hit g z S x.toNat):Hit g z S i
variable{z S:aq}
theorem Hit.here(h:Hit g z S i):z i:=by cases h<;>assumption
open Classical in
theorem XI(h:To g u v)(hz:∀w,To g w v->z w)(k:Hit g z S v):Hit g z S u:=by
 unfold To at h;generalize hw:v=w at h
 induction h generalizing v with
 |base m=>grind
 |step q m ih=>subst hw;exact ih (λw hw=>hz w (.step hw m)) (.more (hz _<|rZ m) m k.here k) rfl
theorem zue(h:Ab g c)(hs:S d)(h1:To g c d)(h2:To g d c)(hz:∀w,To g w c->z w):Hit g z S c:=by
 have jn:∀w,To g w d->z w:=λw hw=>hz w<|n9 hw h2
 -- the last going into d on a dk round
 have key:∀{a b:Nat},To g a b->a=b\/∃w y,To g a w/\y∈g.getD w []/\y.toNat=b:=by
  intro a b q;unfold To at q
  cases q with
  |base m=>grind
  |step q m=>exact .inr ⟨_,_,q,m,rfl⟩
 obtain⟨y,y1,y2⟩:=I2 h h1 h2
 have fin:∀w x,To g c w->x∈g.getD w []->x.toNat=d->Hit g z S c:=λw x q m e =>
  XI q (λu hu=>jn u<|e▸gx.step hu m) (.one (jn w<|e▸rZ m) m (by rw[e];exact jn d<|nw g d)<|by rw[e];exact hs)
 rcases key<|n9 (rZ y1) y2 with e|⟨w,x,w1,w2,w3⟩
 ·rcases key y2 with e2|⟨w,x,w1,w2,w3⟩
  ·grind
  exact fin w x (n9 h1<|n9 (rZ y1) w1) w2 w3
 repeat grind
theorem PI(hz:∀v,Fw g sets v->z v)(hS:S∈sets)(h:Fw g sets v):Hit g z S v:=by
 obtain⟨c,h1,h2,h3⟩:=h;obtain⟨d,d1,d2,d3⟩:=h3 S hS;have hc:Fw g sets c:=⟨c,nw g c,h2,h3⟩;exact XI h1 (λw hw=>hz w<|hc.back hw)<|zue h2 d1 d2 d3 λw hw=>hz w<|hc.back hw
def ga(g:ak)(z:aq):ak:=(List.range g.length).map λv=>if z v=true then (g.getD v []).filter λx=>z x.toNat else []
@[simp] theorem Ek(g:ak)(z:aq):(ga g z).length=g.length:=by simp[ga]
theorem B9:x∈(ga g z).getD v []↔x∈g.getD v []/\z v/\z x.toNat:=by
 by_cases h:v<g.length
 ·rw[a8,aX<|by simpa using h];simp only[ga,Gr,List.getElem_range,sj];repeat grind
 have e1:(ga g z).getD v []=[]:=by rw[a8,dG<|by simpa using h];rfl
 grind
theorem KX(h:To (ga g z) u v):To g u v:=by
 unfold To at h
 induction h with
 |base m=>simp only[cV] at m;subst m;simpa using nw g u
 |step q m ih=>exact .step ih (B9.1 m).1
theorem E'(aY:∀v x,x∈g.getD v []->x.toNat<g.length)(hu:u<g.length)(h:To g u v):v<g.length:=Ht (s:=λv=>v<g.length) (λv _ x hx=>aY v x hx) h hu
theorem sink{g:ak}(aY:∀v x,x∈g.getD v []->x.toNat<g.length):∀(m v:Nat),v<g.length->g.length-cQ (gL g [(v:Int)]) g.length<=m->∃c,To g v c/\∀d,To g c d->To g d c
 |0,v,hv,h=>by
  have h1:=nK (s:=λ_=>false) (s':=gL g [(v:Int)]) (n:=g.length) hv (λ_ _ q=>by cases q) rfl (pO.2<|nw g v);have h2:=yb (λ_=>false) g.length;omega
 |m+1,v,hv,h=>by
  by_cases q:∀d,To g v d->To g d v
  ·exact⟨v,nw g v,q⟩
  obtain⟨d,hd⟩:=Classical.not_forall.1 q;obtain⟨d1,d2⟩:=Classical.not_imp.1 hd;have cG:=nK (s:=gL g [(d:Int)]) (s':=gL g [(v:Int)]) (n:=g.length) hv (λj _ q=>pO.2<|n9 d1<|pO.1 q) (by
   rw[FG];exact λq=>d2<|pO.1 q) (pO.2<|nw g v)
  have:=yb (gL g [(d:Int)]) g.length;obtain⟨c,c1,c2⟩:=sink aY m d (E' aY hv d1) (by omega);exact⟨c,n9 d1 c1,c2⟩
theorem Lf(aY:∀v x,x∈g.getD v []->x.toNat<g.length)(hz:∀v,z v->v<g.length)(h:∀v,z v->∀S,S∈sets->Hit g z S v)(b9:sets≠[])(hv:z v):Fw g sets v:=by
 have yl:∀v x,x∈(ga g z).getD v []->x.toNat<(ga g z).length:=λv x hx=>by rw[Ek];exact aY v x (B9.1 hx).1
 obtain⟨c,c1,c2⟩:=sink yl _ v (by rw[Ek];exact hz v hv)<|aS _;have zc:z c=true:=Ht (s:=λv=>z v=true) (λv _ x hx=>(B9.1 hx).2.2) c1 hv;have key:∀S i,Hit g z S i->∃x d,x∈(ga g z).getD i []/\To (ga g z) x.toNat d/\S d=true:=λS i q=>by
  induction q with
  |one h k hz hs=>exact⟨_,_,B9.2 ⟨k,h,hz⟩,nw _ _,hs⟩
  |more h k hz _ ih =>
   obtain⟨x,d,i1,i2,i3⟩:=ih;exact⟨_,d,B9.2 ⟨k,h,hz⟩,n9 (rZ i1) i2,i3⟩
 refine⟨c,KX c1,?_,λS hS=>?_⟩
 ·obtain⟨S,hS⟩:=List.exists_mem_of_ne_nil _ b9;obtain⟨x,d,i1,i2,i3⟩:=key S c<|h c zc S hS;exact⟨x,(B9.1 i1).1,KX<|c2 _<|rZ i1⟩
 obtain⟨x,d,i1,i2,i3⟩:=key S c<|h c zc S hS;have hd:=n9 (rZ i1) i2;exact⟨d,i3,KX hd,KX<|c2 d hd⟩
def Wlk(g:ak)(to:aq):Nat->Nat->Prop
 |0,v=>to v=true
 |d+1,v=>∃x,x∈g.getD v []/\Wlk g to d x.toNat
def Far(g:ak)(to:aq)(v d:Nat):Prop:=Wlk g to d v/\∀e,e<d->¬Wlk g to e v
variable{to:aq}
theorem DB(h:Far g to v d)(k:Far g to v e):d=e:=by
 rcases xS d e with q|q|q
 ·exact absurd h.1<|k.2 d q
 ·exact q
 exact absurd k.1<|h.2 e q
theorem Uf:∀{d:Nat},Wlk g to d v->∃e,e<=d/\Far g to v e
 |d,h=>by
  induction d using Nat.strongRecOn with
  |ind d ih =>
   by_cases q:∃e,e<d/\Wlk g to e v
   ·obtain⟨e,h1,h2⟩:=q;obtain⟨f,h3,h4⟩:=ih e h1 h2;exact⟨f,zo,h4⟩
   exact⟨d,aS _,h,λe he w=>q ⟨e,he,w⟩⟩
theorem Mf:Far g to v 0↔to v:=⟨λh=>h.1,λh=>⟨h,λe he=>zo⟩⟩
theorem Hb(h:Far g to v<|d+1):∃x,x∈g.getD v []/\Far g to x.toNat d:=by
 obtain⟨x,h1,h2⟩:=h.1;obtain⟨e,h3,h4⟩:=Uf h2;by_cases q:e=d
 ·subst q;exact⟨x,h1,h4⟩
 exact absurd ⟨x,h1,h4.1⟩<|h.2 (e+1) zo
theorem zwy(hx:x∈g.getD v [])(h:Far g to x.toNat d):∃e,e<=d+1/\Far g to v e:=Uf (d:=d+1) ⟨x,hx,h.1⟩
theorem U1:Far g to v (d+1)↔(∃x,x∈g.getD v []/\Far g to x.toNat d)/\∀e,e<=d->¬Far g to v e:=by
 constructor
 ·intro h;exact⟨Hb h,λe he k=>by have:=DB h k;omega⟩
 rintro⟨⟨x,h1,h2⟩,h3⟩;obtain⟨e,h4,h5⟩:=zwy h1 h2;repeat grind
theorem QR{g:ak}{to:aq}{n:Nat}(aY:∀v x,x∈g.getD v []->x.toNat<n):∀{d v:Nat},v<n->Far g to v d->∀e,e<=d->∃u,u<n/\Far g to u e
 |0,v,hv,h,e,he=>⟨v,hv,by rw[show e=0 by omega];exact h⟩
 |d+1,v,hv,h,e,he=>by
  by_cases q:e=d+1
  ·subst q;exact⟨v,hv,h⟩
  obtain⟨x,h1,h2⟩:=Hb h;exact QR aY (aY v x h1) h2 e zo
theorem zBA(aY:∀v x,x∈g.getD v []->x.toNat<n)(hv:v<n)(h:Far g to v d):d<n:=by
 have key:∀k,k<=d+1->∃s:Nat->Bool,cQ s n+k<=n/\∀u,s u->∃e,e<k/\Far g to u e:=by
  intro k
  induction k with
  |zero=>intro _;exact⟨λ_=>false,by have:=yb (λ_=>false) n;omega,λu hu=>by cases hu⟩
  |succ k ih =>
   intro hk;obtain⟨s,h1,h2⟩:=ih zo;obtain⟨u,h3,h4⟩:=QR aY hv h k zo;have hs:s u=false:=by
    cases q:s u with
    |false=>rfl
    |true =>
     obtain⟨e,h5,h6⟩:=h2 u q;have:=DB h4 h6;omega
   have:=nK (s:=s) (s':=mark s u) h3 (λj _ hj=>fo hj) hs<|km _ _;refine⟨mark s u,zo,λw hw=>?_⟩;rcases nE.1 hw with rfl|hw;repeat grind
 obtain⟨s,h1,_⟩:=key (d+1)<|aS _;omega
structure Bfs(g:ak)(to:aq)(o:Nat->Int)(Q:List Nat):Prop where
 sound:∀n,0<=o n->Far g to n (o n).toNat
 node:∀n∈Q,0<=o n
 sort:∀i j,i<j->j<Q.length->o (Q.getD i 0)<=o (Q.getD j 0)/\o (Q.getD j 0)<=o (Q.getD i 0)+1
 done:∀n,0<=o n->n∈Q\/∀k x,x∈g.getD k []->x.toNat=n->0<=o k
 all:∀n d,Far g to n d->(∀q∈Q,(d:Int)<=o q)->0<=o n
structure vZ(g:ak)(to:aq)(o:Nat->Int)(Q:List Nat)(n:Nat)(B:List Nat):Prop where
 sound:∀n,0<=o n->Far g to n (o n).toNat
 node:∀n∈Q,0<=o n
 here:0<=o n
 low:∀q∈Q,o n<=o q/\o q<=o n+1
 sort:∀i j,i<j->j<Q.length->o (Q.getD i 0)<=o (Q.getD j 0)
 done:∀m,0<=o m->m∈Q\/(m=n/\∀k∈B,0<=o k)\/(m≠n/\∀k x,x∈g.getD k []->x.toNat=m->0<=o k)
 all:∀m d,Far g to m d->(d:Int)<=o n->0<=o m
variable{o:Nat->Int}{Q B:List Nat}
theorem vZ.skip(h:vZ g to o Q n B)(hk:0<=o k):vZ g to o Q n (B++[k]) where
 sound:=h.sound
 node:=h.node
 here:=h.here
 low:=h.low
 sort:=h.sort
 done m hm:=by
  rcases h.done m hm with q|⟨rfl,q⟩|q
  ·exact .inl q
  ·refine .inr (.inl ⟨rfl,λj hj=>?_⟩);rcases dz.1 hj with w|w
   ·exact q j w
   rw[cV] at w;subst w;exact hk
  exact .inr (.inr q)
 all:=h.all
variable{l:List Nat}
theorem Oq{r:List Nat}(h:a<l.length):(l++r).getD a 0=l.getD a 0:=by
 grind
theorem zp5{x:Nat}:(l++[x]).getD l.length 0=x:=by
 grind
theorem zV(h:k<l.length):l.getD k 0∈l:=by
 grind
def qI(o:Nat->Int)(k:Nat)(v:Int):Nat->Int:=λi=>if i=k then v else o i
theorem rY{v:Int}(h:i≠k):qI o k v i=o i:=by simp[qI,h]
@[simp] theorem tz(o:Nat->Int)(k:Nat)(v:Int):qI o k v k=v:=by simp[qI]
theorem vZ.push(h:vZ g to o Q n B)(hk:o k<0)(hx:x∈g.getD k [])(hn:x.toNat=n) :
  vZ g to (qI o k<|o n+1) (Q++[k]) n (B++[k]):=by
 have rh:k≠n:=λe=>by subst e;have:=h.here;omega
 have old:∀m,0<=o m->qI o k (o n+1) m=o m:=λm hm=>rY λe=>by subst e;omega
 have en:qI o k (o n+1) n=o n:=old n h.here;have ge:∀m,0<=qI o k (o n+1) m->m=k\/0<=o m:=λm hm=>by
  by_cases e:m=k
  ·exact .inl e
  rw[rY e] at hm;exact .inr hm
 have up:∀m,0<=o m->0<=qI o k (o n+1) m:=λm hm=>by rw[old m hm];exact hm
 have zMn:Far g to k<|(o n).toNat+1:=by
  refine U1.2 ⟨⟨x,hx,by rw[hn];exact h.sound n h.here⟩,λe he w=>?_⟩;have:=h.all k e w (by have:=h.here;omega);omega
 have h0:=h.here;constructor
 ·intro m hm;rcases ge m hm with rfl|q
  ·rw[tz,show(o n+1).toNat=(o n).toNat+1 by omega];exact zMn
  rw[old m q];exact h.sound m q
 ·intro m hm;rcases dz.1 hm with w|w
  ·exact up m<|h.node m w
  rw[cV] at w;subst w;rw[tz];omega
 ·rw[en];exact h0
 ·intro q hq;rw[en];rcases dz.1 hq with w|w
  ·rw[old q<|h.node q w];exact h.low q w
  rw[cV] at w;subst w;rw[tz];omega
 ·intro i j lC hj;rw[cL,lb] at hj;by_cases e:j=Q.length
  ·subst e;rw[Oq lC,zp5,tz,old _<|h.node _<|zV lC];exact(h.low _<|zV lC).2
  rw[Oq zo,Oq zo,old _<|h.node _<|zV zo,old _<|h.node _<|zV zo];exact h.sort i j lC zo
 ·intro m hm;rcases ge m hm with rfl|q
  ·exact .inl zs
  rcases h.done m q with w|⟨rfl,w⟩|⟨w,w2⟩
  ·exact .inl<|Fh _ w
  ·refine .inr (.inl ⟨rfl,λj hj=>?_⟩);rcases dz.1 hj with z|z
   ·exact up j<|w j z
   rw[cV] at z;subst z;rw[tz];omega
  exact .inr (.inr ⟨w,λj y h1 h2=>up j<|w2 j y h1 h2⟩)
 intro m d h1 h2;rw[en] at h2;exact up m<|h.all m d h1 h2
theorem Bfs.pop(h:Bfs g to o<|n::Q):vZ g to o Q n [] where
 sound:=h.sound
 node m hm:=h.node m<|List.mem_cons_of_mem _ hm
 here:=h.node n List.mem_cons_self
 low q hq:=by
  obtain⟨k,hk,rfl⟩:=iD.1 hq;have:=h.sort 0 (k+1) zo zq;simpa [a8,aX hk] using this
 sort i j lC hj:=by
  have:=(h.sort (i+1) (j+1) zo zq).1;simpa using this
 done m hm:=by
  rcases h.done m hm with q|q
  ·rcases eQ.1 q with q|q
   ·exact .inr (.inl ⟨q,λk hk=>by cases hk⟩)
   exact .inl q
  by_cases e:m=n
  ·exact .inr (.inl ⟨e,λk hk=>by cases hk⟩)
  exact .inr (.inr ⟨e,q⟩)
 all m d h1 h2:=h.all m d h1 λq hq=>by
  rcases eQ.1 hq with w|w
  ·subst w;exact h2
  obtain⟨k,hk,rfl⟩:=iD.1 w;have:=(h.sort 0 (k+1) zo zq).1;have e:(n::Q).getD (k+1) 0=Q[k]:=(by simp[a8,aX hk]);rw[e] at this;have e0:(n::Q).getD 0 0=n:=rfl;rw[e0] at this;omega
theorem vZ.fin(h:vZ g to o Q n B)(hB:∀k x,x∈g.getD k []->x.toNat=n->k∈B):Bfs g to o Q where
 sound:=h.sound
 node:=h.node
 sort i j lC hj:=by
  have h1:=h.sort i j lC hj;have h2:=h.low _<|zV (l:=Q) (k:=i) zo;have h3:=h.low _<|zV hj;omega
 done m hm:=by
  rcases h.done m hm with q|⟨rfl,q⟩|⟨_,q⟩
  ·exact .inl q
  ·exact .inr λk x h1 h2=>q k<|hB k x h1 h2
  exact .inr q
 all m d h1 h2:=by
  have step:∀d m,Far g to m d->(∀q∈Q,(d:Int)<=o q)->0<=o m:=by
   intro d
   induction d using Nat.strongRecOn with
   |ind d ih =>
    intro m h1 h2;by_cases e:(d:Int)<=o n
    ·exact h.all m d h1 e
    cases d with
    |zero=>exfalso;have:=h.here;omega
    |succ d =>
     obtain⟨x,hx,hf⟩:=Hb h1;have CO:0<=o x.toNat:=ih d zo x.toNat hf λq hq=>by have:=h2 q hq;omega
     have ex:=DB hf<|h.sound _ CO;rcases h.done x.toNat CO with q|⟨q1,q2⟩|⟨_,q⟩
     ·have:=h2 _ q;omega
     ·exact q2 m<|hB m x hx q1
     exact q m x hx rfl
  exact step d m h1 h2
theorem Bfs.fin(h:Bfs g to o []):Far g to n d↔o n=d:=by
 constructor
 ·intro k;have h1:=h.all n d k λq hq=>by cases hq
  have:=DB k<|h.sound n h1;omega
 intro k;have:=h.sound n zo
 grind
theorem Bfs.begin(ho:∀n,o n=if to n=true/\n∈Q then 0 else -1)(hQ:∀n,to n↔n∈Q):Bfs g to o Q where
 sound n hn:=by
  rw[ho] at hn;split at hn
  ·rename_i q;rw[ho,ae q];exact Mf.2 q.1
  omega
 node n hn:=by rw[ho,ae ⟨(hQ n).2 hn,hn⟩];exact Int.le_refl _
 sort i j lC hj:=by
  have h1:=zV (l:=Q) (k:=i) zo;have h2:=zV (l:=Q) (k:=j) hj;rw[ho<|Q.getD i 0,ho<|Q.getD j 0,ae ⟨(hQ _).2 h1,h1⟩,ae ⟨(hQ _).2 h2,h2⟩];omega
 done n hn:=by
  rw[ho] at hn;split at hn
  ·rename_i q;exact .inl q.2
  omega
 all n d h1 h2:=by
  by_cases e:Q=[]
  ·subst e;have none:∀d m,¬Wlk g to d m:=by
    intro d
    induction d with
    |zero=>intro m h;exact absurd ((hQ m).1 h) zs
    |succ d ih=>rintro m ⟨x,_,h⟩;exact ih _ h
   exact absurd h1.1<|none d n
  obtain⟨q,hq⟩:=List.exists_mem_of_ne_nil Q e;have:=h2 q hq;rw[ho,ae ⟨(hQ q).2 hq,hq⟩] at this;have:d=0:=zo;subst this;have ht:=Mf.1 h1;rw[ho,ae ⟨ht,(hQ n).1 ht⟩];exact Int.le_refl _
structure ow(g:ak)(to:aq)(o:Nat->Int)(r k:Nat):Prop where
 old:∀n d:Nat,d<=r->(o n=(d:Int)+1↔Far g to n d)
 new:∀n,n<k->(o n=(r:Int)+2↔Far g to n (r+1))
 rest:∀n,k<=n->o n≠(r:Int)+2
 gf:∀n,o n≠0->∃d:Nat,d<=r+1/\o n=(d:Int)+1
variable{r:Nat}
theorem ow.tW(h:ow g to o r k)(hk:o k≠0\/∀x,x∈g.getD k []->o x.toNat≠(r:Int)+1):ow g to o r (k+1) where
 old:=h.old
 new n hn:=by
  by_cases e:n=k
  ·subst e;refine⟨λq=>absurd q<|h.rest n<|aS _,λq=>?_⟩;rcases hk with hk|hk
   ·obtain⟨d,h1,h2⟩:=h.gf n hk;have h3:=h.rest n<|aS _;have h4:=(h.old n d zo).1 h2;have:=DB h4 q;omega
   obtain⟨x,h1,h2⟩:=Hb q;exact absurd ((h.old x.toNat r<|aS _).2 h2)<|hk x h1
  exact h.new n zo
 rest n hn:=h.rest n zo
 gf:=h.gf
theorem ow.bD(h:ow g to o r k)(hk:o k=0)(hx:x∈g.getD k [])(ho:o x.toNat=(r:Int)+1):ow g to (qI o k<|(r:Int)+2) r (k+1) where
 old n d hd:=by
  by_cases e:n=k
  ·subst e;rw[tz];refine⟨λq=>zo,λq=>?_⟩;have:=(h.old n d hd).2 q;omega
  rw[rY e];exact h.old n d hd
 new n hn:=by
  by_cases e:n=k
  ·subst e;rw[tz];refine⟨λ_=>U1.2 ⟨⟨x,hx,(h.old x.toNat r<|aS _).1 ho⟩,λe he w=>?_⟩,λ_=>rfl⟩;have:=(h.old n e he).2 w;omega
  rw[rY e];exact h.new n zo
 rest n hn:=by
  rw[rY zo];exact h.rest n zo
 gf n hn:=by
  by_cases e:n=k
  ·subst e;rw[tz];exact⟨r+1,aS _,zo⟩
  rw[rY e] at hn⊢;exact h.gf n hn
theorem ow.begin(h:∀n,o n=if to n=true then 1 else 0):ow g to o 0 0 where
 old n d hd:=by
  rw[show d=0 by omega,Mf,h];split<;>simp_all
 new n hn:=zo
 rest n _:=by rw[h];split<;>simp
 gf n hn:=by
  rw[h] at hn⊢;split
  ·exact⟨0,zo,zs⟩
  rename_i q;rw[ab q] at hn;exact absurd rfl hn
theorem ow.next(h:ow g to o r n)(cg:∀m,n<=m->∀d,¬Far g to m d):ow g to o (r+1) 0 where
 old m d hd:=by
  by_cases e:d=r+1
  ·subst e;by_cases q:m<n
   ·have:=h.new m q;rw[show((r+1:Nat):Int)+1=(r:Int)+2 by omega];exact this
   refine⟨λw=>?_,λw=>absurd w<|cg m zo _⟩;exact absurd zo<|h.rest m zo
  exact h.old m d zo
 new m hm:=zo
 rest m _:=by
  intro w;obtain⟨d,h1,h2⟩:=h.gf m zo;omega
 gf m hm:=by
  obtain⟨d,h1,h2⟩:=h.gf m hm;exact⟨d,zo,h2⟩
def ey(p:aq)(l:ah):Nat->Int
 |0=>-1
 |k+1=>if p (l.getD k 0).toNat=true/\(ey p l k<0\/l.getD k 0<ey p l k) then l.getD k 0 else ey p l k
theorem BB{p:aq}{l:ah}(h0:∀k,k<l.length->0<=l.getD k 0):∀k,k<=l.length ->
  (ey p l k=-1/\∀j,j<k->p (l.getD j 0).toNat=false)\/(0<=ey p l k/\p (ey p l k).toNat/\(∃j,j<k/\l.getD j 0=ey p l k)/\∀j,j<k->p (l.getD j 0).toNat->ey p l k<=l.getD j 0)
 |0,_=>.inl ⟨rfl,λj h=>zo⟩
 |k+1,hk=>by
  have nP:=h0 k zo;simp only[ey];rcases BB (p:=p) h0 k zo with⟨e,h⟩|⟨h1,h2,⟨i,h3,vD⟩,h4⟩
  ·split
   ·rename_i q;refine .inr ⟨nP,q.1,⟨k,zo,rfl⟩,λj hj hp=>?_⟩;by_cases w:j=k
    ·subst w;omega
    rw[h j zo] at hp;cases hp
   rename_i q;refine .inl ⟨e,λj hj=>?_⟩;by_cases w:j=k
   ·subst w
    cases hp:p (l.getD j 0).toNat with
    |false=>rfl
    |true=>exact absurd ⟨hp,.inl zo⟩ q
   exact h j zo
  split
  ·rename_i q;refine .inr ⟨nP,q.1,⟨k,zo,rfl⟩,λj hj hp=>?_⟩;by_cases w:j=k
   ·subst w;omega
   have:=h4 j zo hp;omega
  rename_i q;refine .inr ⟨h1,h2,⟨i,zo,vD⟩,λj hj hp=>?_⟩;by_cases w:j=k
  ·subst w;rcases rp (l.getD j 0)<|ey p l j with z|z
   ·exact absurd ⟨hp,.inr z⟩ q
   exact z
  exact h4 j zo hp
def ir(o:Nat->Int)(l:ah):Nat->Int
 |0=>-1
 |k+1=>if 0<=o (l.getD k 0).toNat/\(ir o l k<0\/o (l.getD k 0).toNat<o (ir o l k).toNat\/(o (l.getD k 0).toNat=o (ir o l k).toNat/\l.getD k 0<ir o l k)) then l.getD k 0 else ir o l k
theorem Fx{o:Nat->Int}{l:ah}(h0:∀k,k<l.length->0<=l.getD k 0):∀k,k<=l.length ->
  (ir o l k=-1/\∀j,j<k->o (l.getD j 0).toNat<0)\/(0<=ir o l k/\0<=o (ir o l k).toNat/\(∃j,j<k/\l.getD j 0=ir o l k) /\
   ∀j,j<k->0<=o (l.getD j 0).toNat->o (ir o l k).toNat<o (l.getD j 0).toNat\/(o (ir o l k).toNat=o (l.getD j 0).toNat/\ir o l k<=l.getD j 0))
 |0,_=>.inl ⟨rfl,λj h=>zo⟩
 |k+1,hk=>by
  have nP:=h0 k zo;simp only[ir];rcases Fx (o:=o) h0 k zo with⟨e,h⟩|⟨h1,h2,⟨i,h3,vD⟩,h4⟩
  ·split
   ·rename_i q;refine .inr ⟨nP,q.1,⟨k,zo,rfl⟩,λj hj hp=>?_⟩;by_cases w:j=k
    ·subst w;exact .inr ⟨rfl,Int.le_refl _⟩
    have:=h j zo;omega
   rename_i q;refine .inl ⟨e,λj hj=>?_⟩;by_cases w:j=k
   ·subst w;rcases rp (o (l.getD j 0).toNat) 0 with z|z
    ·exact z
    exact absurd ⟨z,.inl zo⟩ q
   exact h j zo
  split
  ·rename_i q;refine .inr ⟨nP,q.1,⟨k,zo,rfl⟩,λj hj hp=>?_⟩;by_cases w:j=k
   ·subst w;exact .inr ⟨rfl,Int.le_refl _⟩
   have h5:=h4 j zo hp;have h6:=q.2;omega
  rename_i q;refine .inr ⟨h1,h2,⟨i,zo,vD⟩,λj hj hp=>?_⟩;by_cases w:j=k
  ·subst w;by_cases z:o (l.getD j 0).toNat<o (ir o l j).toNat\/(o (l.getD j 0).toNat=o (ir o l j).toNat/\l.getD j 0<ir o l j)
   ·exact absurd ⟨hp,.inr z⟩ q
   omega
  exact h4 j zo hp
variable{l:ah}
theorem TM(h0:∀k,k<l.length->0<=l.getD k 0)(ha:0<=ir o l l.length) :
  ey (λn=>decide (o n=o (ir o l l.length).toNat)) l l.length=ir o l l.length/\∀d:Int,0<=d->d<o (ir o l l.length).toNat->ey (λn=>decide (o n=d)) l l.length=-1:=by
 rcases Fx (o:=o) h0 l.length<|aS _ with⟨e,_⟩|⟨h1,h2,⟨i,h3,vD⟩,h4⟩
 ·omega
 constructor
 ·rcases BB (p:=λn=>decide (o n=o (ir o l l.length).toNat)) h0 l.length<|aS _ with⟨e,h⟩|⟨k1,k2,⟨j,k3,Dw⟩,k4⟩
  ·have:=h i h3;rw[vD] at this;simp at this
  have g1:=k4 i h3 (by rw[vD];simp);have k2:=pH k2;have g2:=h4 j k3 (by rw[Dw,k2];exact h2);rw[Dw,k2] at g2;rw[vD] at g1;omega
 intro d rz hd;rcases BB (p:=λn=>decide (o n=d)) h0 l.length<|aS _ with⟨e,h⟩|⟨k1,k2,⟨j,k3,Dw⟩,k4⟩
 ·exact e
 have k2:=pH k2;have g2:=h4 j k3 (by rw[Dw,k2];exact rz);rw[Dw,k2] at g2;omega
theorem zqA(h0:∀k,k<l.length->0<=l.getD k 0)(ha:ir o l l.length<0)(d:Int)(hd:0<=d):ey (λn=>decide (o n=d)) l l.length=-1:=by
 rcases Fx (o:=o) h0 l.length<|aS _ with⟨_,h⟩|⟨h1,_⟩
 ·rcases BB (p:=λn=>decide (o n=d)) h0 l.length<|aS _ with⟨e,_⟩|⟨k1,k2,⟨j,k3,Dw⟩,k4⟩;repeat grind
 omega
def wB(L:ak)(n t:Nat):ak :=
 if (L.getD t []).length=0\/(L.getD t []).getD ((L.getD t []).length-1) 0≠(n:Int) then L.set t<|L.getD t []++[(n:Int)] else L
theorem zs4(L:ak)(n t:Nat):(wB L n t).length=L.length:=by unfold wB;split<;>simp
variable{L:ak}
theorem zCs(h:t<L.length):(L.set t l).getD m []=if m=t then l else L.getD m []:=by
 grind
theorem zud(h:t<L.length):x∈(wB L n t).getD m []↔x∈L.getD m []\/(m=t/\x=(n:Int)):=by
 unfold wB;repeat grind
def pI(g:ak)(n:Nat):Nat->ak->ak
 |0,L=>L
 |k+1,L=>wB (pI g n k L) n ((g.getD n []).getD k 0).toNat
def dR(g:ak):Nat->ak
 |0=>List.replicate g.length []
 |n+1=>pI g n (g.getD n []).length<|dR g n
theorem Kn(g:ak)(n:Nat):∀(k:Nat) (L:ak),(pI g n k L).length=L.length
 |0,_=>rfl
 |k+1,L=>by simp only[pI];rw[zs4,Kn g n k L]
theorem qJ(g:ak):∀n,(dR g n).length=g.length
 |0=>by simp[dR]
 |n+1=>by simp only[dR];rw[Kn,qJ g n]
theorem Zf{g:ak}{n m:Nat}{x:Int}(hg:∀v y,y∈g.getD v []->y.toNat<g.length){L:ak}(hL:L.length=g.length):∀{k:Nat},k<=(g.getD n []).length ->
  (x∈(pI g n k L).getD m []↔x∈L.getD m []\/(x=(n:Int)/\∃j,j<k/\((g.getD n []).getD j 0).toNat=m))
 |0,_=>⟨.inl,λh=>h.elim id λ⟨_,j,hj,_⟩=>zo⟩
 |k+1,hk=>by
  simp only[pI];have hm:=df (l:=g.getD n []) (k:=k) zo;rw[zud<|by rw[Kn,hL];exact hg n _ hm,Zf hg hL zo];constructor
  ·rintro((h|⟨h,j,hj,e⟩)|⟨e,h⟩)
   ·exact .inl h
   ·exact .inr ⟨h,j,zo,e⟩
   exact .inr ⟨h,k,zo,e.symm⟩
  rintro(h|⟨h,j,hj,e⟩)
  ·exact .inl (.inl h)
  by_cases q:j=k
  ·subst q;exact .inr ⟨e.symm,h⟩
  exact .inl (.inr ⟨h,j,zo,e⟩)
theorem zL{g:ak}{m:Nat}{x:Int}(hg:∀v y,y∈g.getD v []->y.toNat<g.length):∀{n:Nat},n<=g.length ->
  (x∈(dR g n).getD m []↔∃k,k<n/\x=(k:Int)/\∃y,y∈g.getD k []/\y.toNat=m)
 |0,_=>by
  simp only[dR];rw[a8,vi];constructor
  ·intro h;split at h<;>simp at h
  rintro⟨k,h,_⟩;omega
 |n+1,hn=>by
  simp only[dR];rw[Zf hg (qJ g n)<|aS _,zL hg zo];constructor
  ·rintro(⟨k,h1,h2,h3⟩|⟨h,j,hj,e⟩)
   ·exact⟨k,zo,h2,h3⟩
   exact⟨n,zo,h,_,df hj,e⟩
  rintro⟨k,h1,h2,y,h3,h4⟩;by_cases q:k=n
  ·subst q;obtain⟨j,hj,e⟩:=pd h3;exact .inr ⟨h2,j,hj,by rw[e];exact h4⟩
  exact .inl ⟨k,zo,h2,y,h3,h4⟩
theorem zuq:(wB L n t).getD m []=L.getD m []\/((wB L n t).getD m []=L.getD m []++[(n:Int)]/\((L.getD m []).length=0\/(L.getD m []).getD ((L.getD m []).length-1) 0≠(n:Int))):=by
 unfold wB;repeat grind
theorem Kg{g:ak}{n m:Nat}{L:ak}:∀k,(pI g n k L).getD m []=L.getD m []\/(pI g n k L).getD m []=L.getD m []++[(n:Int)]
 |0=>.inl rfl
 |k+1=>by
  simp only[pI];rcases zuq (L:=pI g n k L) (n:=n) (t:=((g.getD n []).getD k 0).toNat) (m:=m) with h|⟨h,q⟩
  ·rw[h];exact Kg k
  rcases Kg (g:=g) (n:=n) (m:=m) (L:=L) k with w|w
  ·rw[h,w];exact .inr rfl
  rw[w] at q;exfalso;rcases q with q|q
  ·simp at q
  apply q;rw[cL,lb,Nat.add_sub_cancel,a8,jF<|aS _,xb];rfl
theorem zv(g:ak):∀n m,((dR g n).getD m []).length<=n
 |0,m=>by
  simp only[dR];rw[a8,vi];split<;>simp
 |n+1,m=>by
  simp only[dR];have:=zv g n m;rcases Kg (g:=g) (n:=n) (m:=m) (L:=dR g n) (g.getD n []).length with h|h
  ·rw[h];omega
  rw[h,cL,lb];omega
theorem gx.one(g:ak)(v:Nat):gx g [(v:Int)] v:=by
 have:=gx.base (g:=g) (from_:=[(v:Int)]) (x:=(v:Int)) zs;rwa [bO] at this
theorem gx.trans{a:ah}(h:gx g a u)(k:gx g [(u:Int)] v):gx g a v:=by
 induction k with
 |base hx =>
  grind
 |step _ hx ih=>exact .step ih hx
theorem Sd(aY:∀v y,y∈g.getD v []->0<=y/\y.toNat<g.length)(hu:u<g.length):gx g [(u:Int)] v->gx (dR g g.length) [(v:Int)] u:=by
 intro h;have key:∀w,gx g [(u:Int)] w->w<g.length/\gx (dR g g.length) [(w:Int)] u:=by
  intro w hw
  induction hw with
  |base hx =>
   rw[cV] at hx;subst hx;exact⟨by simpa using hu,by rw[bO];exact gx.one _ u⟩
  |@step a x ha hx ih =>
   have Nh:=aY a x hx;refine⟨Nh.2,?_⟩;have e:(a:Int)∈(dR g g.length).getD x.toNat []:=(zL (λv y hy=>(aY v y hy).2)<|aS _).2 ⟨a,ih.1,rfl,x,hx,rfl⟩;have s:gx (dR g g.length) [((x.toNat:Nat):Int)] a:=by
    have:=gx.step (g:=dR g g.length) (from_:=[((x.toNat:Nat):Int)]) (u:=x.toNat) (gx.one _ x.toNat) e
    grind
   exact s.trans ih.2
 grind
theorem Tt(aY:∀v y,y∈g.getD v []->0<=y/\y.toNat<g.length):gx (dR g g.length) [(v:Int)] u->gx g [(u:Int)] v:=by
 intro h;have key:∀w,gx (dR g g.length) [(v:Int)] w->gx g [(w:Int)] v:=by
  intro w hw
  induction hw with
  |base hx =>
   rw[cV] at hx;subst hx;rw[bO];exact gx.one g v
  |@step a x ha hx ih =>
   obtain⟨k,hk,rfl,y,hy,hya⟩:=(zL (λv y hy=>(aY v y hy).2)<|aS _).1 hx;rw[bO];have s:gx g [(k:Int)] y.toNat:=gx.step (u:=k) (gx.one g k) hy;rw[hya] at s;exact s.trans ih
 grind
theorem Yk(hl:∀x∈l,0<=x):gx g l v↔∃x∈l,gx g [x] v:=by
 constructor
 ·intro h
  induction h with
  |@base x hx=>exact⟨x,hx,.base zs⟩
  |step _ hx ih=>obtain⟨x,h1,h2⟩:=ih;exact⟨x,h1,.step h2 hx⟩
 rintro⟨x,hx,h⟩;have e:x=((x.toNat:Nat):Int):=by have:=hl x hx;omega
 rw[e] at h;exact gx.trans (.base hx) h
def gy(l:ah):Nat->Bool:=λv=>l.contains (v:Int)
noncomputable def Ag(g:ak)(n:Nat):Bool:=(g.getD n []).any λx=>bJ g x.toNat==bJ g n
noncomputable def okT(g:ak)(k i:Nat):Bool:=(List.range k).any λn=>bJ g n==(i:Int)&&Ag g n
noncomputable def od(g:ak)(l:ah)(i:Nat):Bool:=l.any λx=>bJ g x.toNat==(i:Int)
noncomputable def BV(g:ak)(F:ak)(i:Nat):Bool:=okT g g.length i&&F.all λl=>od g l i
theorem parts_eq{b:Nat}(ha:a<g.length)(hb:b<g.length):bJ g a=bJ g b↔rv g a b:=by
 rw[<-zy7 (Qt g g.length) ha hb];unfold bJ gn;omega
theorem wZ(ha:a<g.length):0<=bJ g a/\bJ g a<(g.length:Int):=by
 have:=Wb (Qt g g.length) ha;unfold bJ gn;omega
theorem FI(aY:∀v x,x∈g.getD v []->x.toNat<g.length)(hn:n<g.length):Ag g n↔Ab g n:=by
 unfold Ag;rw[mJ];constructor
 ·rintro⟨x,hx,e⟩;rw[ib,parts_eq (aY n x hx) hn,ng] at e;exact⟨x,hx,e.1⟩
 rintro⟨x,hx,e⟩;exact⟨x,hx,by rw[ib,parts_eq (aY n x hx) hn,ng];exact⟨e,rZ hx⟩⟩
variable{F:ak}
theorem PQ(aY:∀v x,x∈g.getD v []->x.toNat<g.length)(hF:∀l∈F,bq l g.length)(he:e<g.length)(hi:bJ g e=(i:Int)) :
  BV g F i=true↔Ab g e/\∀S,S∈F.map gy->∃d,S d/\To g e d/\To g d e:=by
 unfold BV;rw[gr,kb];have h1:okT g g.length i=true↔Ab g e:=by
  unfold okT;rw[mJ];constructor
  ·rintro⟨n,hn,q⟩;have hn:=jz.1 hn;rw[gr,ib,<-hi,parts_eq hn he,ng,FI aY hn] at q;exact I2 q.2 q.1.1 q.1.2
  intro q;exact⟨e,jz.2 he,by rw[gr,ib];exact⟨hi,(FI aY he).2 q⟩⟩
 rw[h1];refine and_congr_right λ_=>?_;constructor
 ·intro h S hS;obtain⟨l,hl,rfl⟩:=dq.1 hS;have:=h l hl;unfold od at this;rw[mJ] at this;obtain⟨x,hx,q⟩:=this;have Nh:=cZ (hF l hl) hx;rw[ib,<-hi,parts_eq zo he,ng] at q;refine⟨x.toNat,?_,q.2,q.1⟩;unfold gy
  grind
 intro h l hl;obtain⟨d,d1,d2,d3⟩:=h (gy l)<|dq.2 ⟨l,hl,rfl⟩;unfold gy at d1;rw[u7] at d1;have Nh:=cZ (hF l hl) d1;unfold od;rw[mJ];refine⟨(d:Int),d1,?_⟩;rw[bO,ib,<-hi,parts_eq zo he,ng]
 grind
theorem zsG(aY:∀l∈g,bq l g.length)(hF:∀l∈F,bq l g.length){ends:ah}(he:∀x,x∈ends↔0<=x/\x<(g.length:Int)/\BV g F (bJ g x.toNat).toNat)(hv:v<g.length) :
  gL (dR g g.length) ends v=fwB g (F.map gy) v:=by
 have cR:=λk=>ft aY k;have FF:∀v x,x∈g.getD v []->x.toNat<g.length:=λv x hx=>by have:=cZ (cR v) hx;omega
 have TN:∀v x,x∈g.getD v []->0<=x/\x.toNat<g.length:=λv x hx=>by have:=cZ (cR v) hx;omega
 refine Pw ?_;rw[pO,Yk λx hx=>((he x).1 hx).1];constructor
 ·rintro⟨x,hx,h⟩;obtain⟨a1,a2,a3⟩:=(he x).1 hx;obtain⟨e,rfl⟩:∃e:Nat,x=e:=⟨x.toNat,zo⟩;rw[bO] at a3;have GS:e<g.length:=zo;have hp:=wZ GS;exact⟨e,Tt TN h,(PQ FF hF GS zo).1 a3⟩
 rintro⟨c,h1,h2⟩;have fN:=E' FF hv h1;have hp:=wZ fN;exact⟨(c:Int),(he _).2 ⟨zo,zo,by rw[bO];exact(PQ FF hF fN zo).2 h2⟩,Sd TN hv h1⟩
theorem Y6(g:ak)(k i:Nat):okT g (k+1) i=(okT g k i||(bJ g k==(i:Int)&&Ag g k)):=by
 unfold okT;rw[qf,tZ];simp
theorem ZA(h:k<l.length):od g (l.take<|k+1) i=(od g (l.take k) i||bJ g (l.getD k 0).toNat==(i:Int)):=by
 unfold od;rw[jP,aX h,tZ,a8,aX h];simp
theorem Ze{p:α->Bool}{l:List α}(h:k<l.length)(d:α):(l.take<|k+1).all p=((l.take k).all p&&p (l.getD k d)):=by
 rw[jP,aX h,List.all_append,a8,aX h];simp
theorem n8{z:Nat}{f f':aq}(hz:z=i)(h:∀v,v<n->f' v=if v=i then b else f v):(bF n f).set z [ay b]=bF n f':=by
 subst hz;rw[oI];exact iI λv hv=>(h v hv).symm
theorem zyC(g:ak)(x:Int)(hx:0<=x/\x<(g.length:Int))(n:Nat)(hn:n<g.length):ao aj 335 [aa x,.ax [aF<|nT g],.ax [aa n]]<|ay<|bJ g x.toNat==bJ g n:=by
 refine bS fZ ?_;unfold nT aF;refine sR ?_;refine sL (bX x.toNat zo zo) ?_;refine sL (bX n zo hn) ?_;exact .refl _
theorem zxk(g:ak)(hn:g.length<=1000000)(iM:∀l∈g,bq l g.length)(hF:iu g)(F:ak)(CW:iu F)(hFi:∀l∈F,bq l g.length):ao aj 305 [bN g,aF<|nT g,bN F]<|bx g.length<|BV g F:=by
 have cR:=λk=>ft iM k;have zDc:=λk=>ft hFi k;have s9:=CW.len;refine bS fZ ?_;have hc:=λk (hk:k<g.length)=>mh (λn=>aa n) (λa=>by simp[Pure]) (g.getD k []) (by have:=hF.at k;omega) (λx=>bJ g x.toNat==bJ g k) 335 [.ax [aF<|nT g],.ax [aa k]] zp λa ha=>zyC g a (cZ (cR k) ha) k hk;unfold bN;refine sR ?_;rw[aI];refine⟨zo,zo,zo,?_⟩;rw[bO,show List.map D.sc [Value.bool false]=[ay false] from rfl,jS];refine sW ?_;rw[aI];refine bb [0,2,4,7,19,20] (λk:Nat=>[(21,aa k)]) (λk=>[(1,.vec true 0 1<|bF g.length<|okT g k)]) (λk=>k<=g.length) (λk=>g.length-k) 0 ?_;refine dd ?_;rintro k hk;refine bf (λq0=>?_) λq0=>?_
 ·have q0:k<g.length:=sO;have hp:=wZ q0;have e1:=Y6 g k;refine sL (eV (k:=k) zo q0) ?_;refine sN (hc k q0) ?_;rw[show((g.getD k []).any λx=>bJ g x.toNat==bJ g k)=Ag g k from rfl];cases r:Ag g k
  ·refine aQ ?_;refine⟨k+1,zo,zd,?_⟩;refine aL 2 zs rfl sQ (sU ?_);exact aV<|iI λi _=>by rw[e1,r,Bool.and_false,wM]
  refine sW ?_;refine sL (bX k zo q0) ?_;refine sB ?_;refine⟨_,bc (bJ g k).toNat zo zo,?_⟩;refine aQ ?_;refine⟨k+1,zo,zd,?_⟩;rw[n8 (i:=(bJ g k).toNat) (f':=okT g<|k+1) zo λv _=>by
   rw[e1,r,Bool.and_true];by_cases e:v=(bJ g k).toNat
   ·rw[ae e,show(bJ g k==(v:Int))=true by rw[ib];omega,Bool.or_true]
   rw[ab e,show(bJ g k==(v:Int))=false by rw[beq_eq_false_iff_ne];omega,wM]]
  exact aL 2 zs rfl sQ sQ
 have q0:k=g.length:=sO;subst q0;clear hc;rw[aI];refine bb [0,4,7,36,37] (λk:Nat=>[(38,aa k)]) (λk=>[(1,.vec true 0 1<|bF g.length λi=>okT g g.length i&&(F.take k).all λl=>od g l i)]) (λk=>k<=F.length) (λk=>F.length-k) 0 ?_;refine sW ?_;refine⟨zo,by exact sK,by simp only[s5,List.all_nil,Bool.and_true];rfl,?_⟩;rintro k hk;refine bf (λq0=>?_) λq0=>?_
 ·have q0:k<F.length:=sO;have hFk:=CW.at k;refine sL (eV (g:=F) (k:=k) zo q0) ?_;rw[aI];refine⟨zo,zo,zo,?_⟩;rw[bO,show List.map D.sc [Value.bool false]=[ay false] from rfl,jS];refine sW ?_;rw[aI];have hlr:=λj (hj:j<(F.getD k []).length)=>cZ (zDc k)<|df hj;have eall:=λi=>Ze (p:=λl=>od g l i) q0 [];generalize hle:F.getD k []=l at *;refine bb [0,4,7,12,36,37,38,45,46] (λj:Nat=>[(47,aa j)]) (λj=>[(2,.vec true 0 1<|bF g.length<|od g<|l.take j)]) (λj=>j<=l.length) (λj=>l.length-j) 0 ?_;refine dd ?_;rintro j hj;refine bf (λq1=>?_) λq1=>?_
  ·have q1:j<l.length:=sO;have hx:=hlr j q1;have e1:=λi=>ZA (g:=g) (i:=i) q1;refine sL (bV (l:=l) (k:=j) zo q1) ?_;generalize l.getD j 0=x at *;have hp:=wZ (g:=g) (a:=x.toNat) zo;refine sL (bX x.toNat zo zo) ?_;refine sB ?_;refine⟨_,bc (bJ g x.toNat).toNat zo zo,?_⟩;refine aQ ?_;refine⟨j+1,zo,zd,aC (by exact sK) ?_⟩;rw[n8 (i:=(bJ g x.toNat).toNat) (f':=od g<|l.take<|j+1) zo λv _=>by
    rw[e1];by_cases e:v=(bJ g x.toNat).toNat
    ·rw[ae e,show(bJ g x.toNat==(v:Int))=true by rw[ib];omega,Bool.or_true]
    rw[ab e,show(bJ g x.toNat==(v:Int))=false by rw[beq_eq_false_iff_ne];omega,wM]]
   rfl
  have q1:j=l.length:=sO;subst q1;rw[dM];generalize hA:(λi=>okT g g.length i&&(F.take k).all λl=>od g l i)=A at *;have eA:∀i,(okT g g.length i&&(F.take<|k+1).all λl=>od g l i)=(A i&&od g l i):=λi=>by rw[eall,<-hA,Bool.and_assoc]
  refine bb [0,4,7,12,36,37,38,59] (λi:Nat=>[(60,aa i)]) (λi=>[(1,.vec true 0 1<|bF g.length λv=>if v<i then A v&&od g l v else A v)]) (λi=>i<=g.length) (λi=>g.length-i) 0 ?_;refine dd ?_;rintro i hi;refine bf (λq2=>?_) λq2=>?_
  ·have q2:i<g.length:=sO;have eat:(if i<i then A i&&od g l i else A i)=A i:=ab zo;have eput:∀b,b=(A i&&od g l i)->∀v,v<g.length->(if v<i+1 then A v&&od g l v else A v)=if v=i then b else if v<i then A v&&od g l v else A v:=λb hb v _=>by
    by_cases e:v=i
    ·subst e;rw[ae zo,ae rfl,hb]
    rw[ab e];by_cases e2:v<i
    ·rw[ae e2,ae zo]
    rw[ab e2,ab zo]
   refine sB ?_;refine⟨_,bc i zo q2,?_⟩;rw[eat];cases r:A i
   ·refine bC ?_;refine⟨_,bc i zo q2,?_⟩;refine aQ ?_;refine⟨i+1,zo,zd,aC (by exact sK) ?_⟩;rw[n8 (i:=i) zo<|eput false<|by rw[r];rfl];rfl
   refine bC ?_;refine⟨_,bc i zo q2,?_⟩;refine bC ?_;refine⟨_,bc i zo q2,?_⟩;refine aQ ?_;refine⟨i+1,zo,zd,aC (by exact sK) ?_⟩;rw[n8 (i:=i) zo<|eput (od g l i)<|by rw[r];rfl];rfl
  have q2:i=g.length:=sO;subst q2;refine sI ?_;refine⟨k+1,zo,zd,?_⟩;dsimp only;refine aL 2 zs rfl sQ (sU ?_);exact aV<|iI λi hi=>by rw[ae hi,eA]
 have q0:k=F.length:=sO;subst q0;rw[dM];exact qi rfl
structure bg where
 start:ah
 next:ak
 label:ah
 fair:ak
def bg.cells(W:bg):bj:=[aF W.start,bN W.next,iw W.label,bN W.fair]
def gh(W:bg):D:=.agg W.cells
variable(W:bg)
@[simp] theorem wE:aA W.cells:=by simp[bg.cells,aA,cX,l5,yr]
@[simp] theorem zot:Pure<|gh W:=by simp[gh,Pure,wE]
structure bg.Fits(W:bg):Prop where
 start:W.start.length<=17592186043904
 next:W.next.length<=17592186043904
 label:W.label.length<=17592186043904
 fair:W.fair.length<=17592186043904
 yu:∀l∈W.next,l.length<=17592186043904
 xM:∀l∈W.fair,l.length<=17592186043904
def bg.aU(W:bg):Int :=
 if 600<W.next.length\/80<W.fair.length then 2
 else if W.label.length≠W.next.length\/bq W.start W.next.length=false then 1
 else if (W.next.any λl=>l.isEmpty||!(bq l W.next.length))=true then 1
 else if (W.fair.any λl=>!(bq l W.next.length))=true then 1
 else 0
theorem zyx(x:Int)(n:Nat):ao aj 276 [aa x,.ax [aa n]]<|ay<|decide (x<0)||decide (x>=(n:Int)):=by
 refine bS fZ ?_;refine sRS (λh=>?_) λh=>?_
 ·exact cf zs
 exact cf zs
variable(l:ah)
theorem Ot(hl:l.length<=9223372036854775807)(n:Nat):ao aj 205 [aF l,aa n] (.sc (.bool !(bq l n))):=by
 refine bt ?_;refine sN (mh (λn=>aa n) (λa=>by simp[Pure]) l hl (λx=>decide (x<0)||decide (x>=(n:Int))) 276 [.ax [aa n]] zp λa _=>zyx a n) ?_;rw[L1];exact .refl _
theorem zs0(hl:l.length<=9223372036854775807)(n:Nat):ao aj 207 [aF l,.ax [aa n]] (.sc (.bool !(bq l n))):=by
 refine bt ?_;refine sC (Ot l hl n) ?_;exact .refl _
theorem J5(hW:W.Fits):ao aj 153 [gh W]<|aa W.aU:=by
 have b1:=hW.start;have b2:=hW.next;have b3:=hW.label;have b4:=hW.fair;refine bt ?_;rw[aI];have fin:∀{H:aE} {z:Int},z=W.aU->Deep H (aa z) (aa W.aU):=λh=>h▸.refl _;refine sS (λh1=>?_) λh1=>?_
 ·exact fin<|by unfold bg.aU;rw[ae<|sO]
 rw[aI];refine sS (λh2=>?_) λh2=>?_
 ·exact fin<|by unfold bg.aU;rw[ae<|sO]
 have c1:¬(600<W.next.length\/80<W.fair.length):=sO;rw[aI];refine sS (λh3=>?_) λh3=>?_
 ·exact fin<|by unfold bg.aU;rw[ab c1,ae<|sO]
 refine sC (Ot W.start zo W.next.length) ?_;refine sS (λh4=>?_) λh4=>?_
 ·exact fin<|by unfold bg.aU;rw[ab c1,ae (.inr<|by simpa using h4)]
 have c2:¬(W.label.length≠W.next.length\/bq W.start W.next.length=false):=by
  rintro(q|q)
  ·exact sO
  rw[q] at h4;cases h4
 refine bb [1,3,29,30] (λk:Nat=>[(31,aa k)]) (λ_=>[]) (λk=>k<=W.next.length/\∀j (hj:j<k) (hl:j<W.next.length),(W.next[j].isEmpty||!(bq W.next[j] W.next.length))=false) (λk=>W.next.length-k) 0 ?_;refine sW ?_;refine⟨⟨zo,λj hj=>zo⟩,by exact sK,rfl,?_⟩;rintro k ⟨hk,bR⟩;refine bf (λg=>?_) λg=>?_
 ·have ai:k<W.next.length:=sO;refine sL (YG (k:=k) zo ai) ?_;rw[aI];have bk:=hW.yu _<|iZ ai;refine sS (λg1=>?_) λg1=>?_
  ·have e1:(W.next[k]).isEmpty:=(by rw[List.isEmpty_iff_length_eq_zero];exact sO);exact fin<|by unfold bg.aU;rw[ab c1,ab c2,ae<|PN ai<|by rw[e1];rfl]
  have e1:(W.next[k]).isEmpty=false:=(by rw[<-uQ,List.isEmpty_iff_length_eq_zero];exact sO);refine sC (Ot W.next[k] zo W.next.length) ?_;refine sS (λg2=>?_) λg2=>?_
  ·exact fin<|by unfold bg.aU;rw[ab c1,ab c2,ae<|PN ai<|by rw[g2,e1];rfl]
  refine sI ?_;refine⟨k+1,⟨zo,λj hj hl=>?_⟩,zd,aC (by exact sK) rfl⟩;by_cases e:j=k
  ·subst e;rw[e1,g2];rfl
  exact bR j zo hl
 have ai:¬k<W.next.length:=sO;have c3:¬(W.next.any λl=>l.isEmpty||!(bq l W.next.length))=true:=by rw[ND λj hj=>bR j zo hj];simp
 refine sN (Lq aF cX W.fair zo (λl=>!(bq l W.next.length)) 207 [.ax [aa W.next.length]] zp λa ha=>zs0 a (by have:=hW.xM a ha;omega) _) ?_;refine sS (λg3=>?_) λg3=>?_
 ·exact fin<|by unfold bg.aU;rw[ab c1,ab c2,ab c3,ae g3]
 exact fin<|by unfold bg.aU;rw[ab c1,ab c2,ab c3,ab<|by rw[g3];simp]
theorem qH(h:W.aU=0):W.label.length=W.next.length/\W.next.length<=600/\W.fair.length<=80/\bq W.start W.next.length/\(∀l∈W.next,l.length≠0/\bq l W.next.length)/\∀l∈W.fair,bq l W.next.length:=by
 unfold bg.aU at h;split at h
 ·exact absurd h zc
 split at h
 ·exact absurd h zc
 split at h
 ·exact absurd h zc
 split at h
 ·exact absurd h zc
 rename_i h1 h2 h3 h4;refine⟨zo,zo,zo,?_,λl hl=>?_,λl hl=>?_⟩
 ·have:=not_or.1 h2;simpa using this.2
 ·rw[uQ,yK] at h3;have:=h3 l hl;simp only[sq,FX,not_or,Bool.not_eq_false,List.isEmpty_iff_length_eq_zero] at this;exact this
 rw[uQ,yK] at h4;simpa using h4 l hl
section
def pg(n:Int):bj:=[aa n]
@[simp] theorem I7(n:Int):aG m<|pg n:=by simp[pg,aG,aK]
theorem YQ(g:ak)(hg:l7 g=0)(hF:iu g):ao aj 69 [bN g]<|bN<|dR g g.length:=by
 obtain⟨hn,aY⟩:=oP.1 hg;refine bS fZ ?_;unfold bN;refine sR ?_;rw[aI];refine⟨zo,zo,zo,?_⟩;rw[bO];refine sW ?_;refine bQ (yX 0 1 g.length 0 zs rfl) ?_;refine cq [3,12,13] (λn:Nat=>[(14,aa n)]) (λn=>.vec true 0 1 (iT 1<|dR g n)::eu 1 pg (dR g n)) (λn=>n<=g.length) (λn=>g.length-n) 0 ?_;refine sW ?_;refine⟨zo,by exact sK,?_,?_⟩
 ·show _::_=_::_;rw[xL 1 _ pg];exact bH (λx=>al.vec true 0 1 x::_)<|x' (α:=Int) 1 _
 rintro n l8;refine ck ?_;rw[aI];have lG:=qJ g n;refine sS (λh1=>?_) λh1=>?_
 ·have du:n<g.length:=sO;refine sL (eV (k:=n) zo du) ?_;rw[aI];have lx:=hF.at n;have lR:∀k,(pI g n k<|dR g n).length=g.length:=λk=>by rw[Kn,lG]
  refine cq [3,4,12,13,14,19,20] (λk:Nat=>[(21,aa k)]) (λk=>.vec true 0 1 (iT 1<|pI g n k<|dR g n)::eu 1 pg (pI g n k<|dR g n)) (λk=>k<=(g.getD n []).length) (λk=>(g.getD n []).length-k) 0 ?_;refine dd ?_;rintro k hk;have hl:=lR k;refine bf (λh2=>?_) λh2=>?_
  ·have ai:k<(g.getD n []).length:=sO;have hx:=nZ (ft aY n) ai;refine sL (bV (k:=k) zo ai) ?_;have et:pI g n (k+1) (dR g n)=wB (pI g n k (dR g n)) n ((g.getD n []).getD k 0).toNat:=rfl;generalize (g.getD n []).getD k 0=x at hx et;refine sB ?_;refine⟨_,kW (i:=x.toNat) zo zo,?_⟩;refine sW ?_;refine MH zo ?_;refine sW ?_;generalize hR:pI g n k (dR g n)=R at hl et⊢;rw[ua];have cR:(R.getD x.toNat []).length<=n+1:=by
    have h5:=zv g n x.toNat;rcases Kg (g:=g) (n:=n) (m:=x.toNat) (L:=dR g n) k with h|h
    ·rw[<-hR,h];omega
    rw[<-hR,h,cL,lb];omega
   have eE:wB R n x.toNat=if (R.getD x.toNat []).length=0\/(R.getD x.toNat []).getD ((R.getD x.toNat []).length-1) 0≠(n:Int) then R.set x.toNat<|R.getD x.toNat []++[(n:Int)] else R:=rfl
   cases h3:(((R.getD x.toNat []).length:Int)==0)
   ·refine sW ?_;have b9:(R.getD x.toNat []).length≠0:=sO;refine sB ?_;refine⟨_,kW (i:=x.toNat) zo zo,?_⟩;refine aQ ?_;refine MH zo ?_;refine sW ?_;refine⟨zo,zo,?_⟩;refine sW ?_;refine MH zo ?_;refine sW ?_;refine⟨_,bV (l:=R.getD x.toNat []) (k:=(R.getD x.toNat []).length-1) zo zo,?_⟩;refine sWS (λh4=>?_) λh4=>?_
    ·have uo:(R.getD x.toNat []).length=0\/(R.getD x.toNat []).getD ((R.getD x.toNat []).length-1) 0≠(n:Int):=.inr<|sO;refine sB ?_;refine⟨_,kW (i:=x.toNat) zo zo,?_⟩;refine sW ?_;refine wo ?_;refine sW ?_;refine sY ?_;refine u4 zo ?_;refine sW ?_;refine⟨by unfold iF;simp only[lD,fg,dC,fy];omega,?_⟩;refine sW ?_;refine xg (R.getD x.toNat []++[(n:Int)]) zo ?_ ?_
     ·exact uK
     refine bC ?_;refine⟨_,kW (i:=x.toNat) zo zo,?_⟩;refine aQ ?_;refine⟨k+1,zo,zd,?_⟩;dsimp only;rw[et,eE,ae uo];refine aL (g.length+1) (by simp[lG]) (by simp[hl]) (by exact sQ) ⟨⟨rfl,rfl,rfl,aV<|vT zo zo _ zs,vf zq⟩,vG I7⟩
    have uo:¬((R.getD x.toNat []).length=0\/(R.getD x.toNat []).getD ((R.getD x.toNat []).length-1) 0≠(n:Int)):=by
     rintro(q|q)
     ·exact b9 q
     exact sO
    refine sI ?_;refine⟨k+1,zo,zd,?_⟩;dsimp only;rw[et,eE,ab uo];exact aC (by exact sK) rfl
   refine sW ?_;have b9:(R.getD x.toNat []).length=0:=sO;have uo:(R.getD x.toNat []).length=0\/(R.getD x.toNat []).getD ((R.getD x.toNat []).length-1) 0≠(n:Int):=.inl b9;refine sB ?_;refine⟨_,kW (i:=x.toNat) zo zo,?_⟩;refine sW ?_;refine wo ?_;refine sW ?_;refine sY ?_;refine u4 zo ?_;refine sW ?_;refine⟨by unfold iF;simp only[lD,fg,dC,fy];omega,?_⟩;refine sW ?_;refine xg (R.getD x.toNat []++[(n:Int)]) zo ?_ ?_
   ·exact uK
   refine bC ?_;refine⟨_,kW (i:=x.toNat) zo zo,?_⟩;refine aQ ?_;refine⟨k+1,zo,zd,?_⟩;dsimp only;rw[et,eE,ae uo];refine aL (g.length+1) (by simp[lG]) (by simp[hl]) (by exact sQ) ⟨⟨rfl,rfl,rfl,aV<|vT zo zo _ zs,vf zq⟩,vG I7⟩
  have ai:k=(g.getD n []).length:=by have:¬k<(g.getD n []).length:=sO
                                     omega
  subst ai;refine sI ?_;refine⟨n+1,zo,zd,?_⟩;exact aC (by exact sK) rfl
 have du:n=g.length:=by have:¬n<g.length:=sO
                        omega
 subst du;have:=Vi (H:=al.vec true 0 1 (iT 1<|dR g g.length)::eu 1 pg (dR g g.length)) (b:=1) (an:=1) (c:=pg) (L:=dR g g.length) (λi hi=>by
  rw[show i+1=i+1 from rfl,B0];exact vP hi)
 refine .own _ _ _ _ _ _ _ _ rfl ?_;rw[cB<|by simp[lG]];exact this
end
section
open Classical in
noncomputable def cP(g:ak)(to:aq)(n:Nat):Int:=if h:∃d,Far g to n d then ((Classical.choose h:Nat):Int) else -1
theorem AZ:Far g to n d↔cP g to n=d:=by
 unfold cP;constructor
 ·intro h;have hx:∃d,Far g to n d:=⟨d,h⟩;rw[dif_pos hx];exact bH _<|DB (Classical.choose_spec hx) h
 intro h;split at h;repeat grind
theorem QB(h:cP g to n<0):cP g to n=-1:=by
 unfold cP at h⊢;split at h;repeat grind
theorem zzj(h:Bfs g to o [])(hm:∀n,-1<=o n)(n:Nat):o n=cP g to n:=by
 rcases rp (o n) 0 with q|q
 ·rcases rp (cP g to n) 0 with w|w
  ·rw[QB w];have:=hm n;omega
  have:=h.fin.1 (AZ.2<|show cP g to n=((cP g to n).toNat:Nat) by omega);omega
 have:=AZ.1 (h.fin.2<|show o n=((o n).toNat:Nat) by omega);omega
def j8(to:aq):Nat->ah
 |0=>[]
 |n+1=>if to n=true then j8 to n++[(n:Int)] else j8 to n
theorem Hr{to:aq}{x:Int}:∀{n:Nat},x∈j8 to n↔∃i,i<n/\to i/\x=(i:Int)
 |0=>by simp[j8]
 |n+1=>by
  simp only[j8];split
  ·rename_i h;rw[dz,Hr,cV];constructor
   ·rintro(⟨i,h1,h2,h3⟩|h1)
    ·exact⟨i,zo,h2,h3⟩
    exact⟨n,zo,h,h1⟩
   rintro⟨i,h1,h2,h3⟩;by_cases e:i=n
   ·subst e;exact .inr h3
   exact .inl ⟨i,zo,h2,h3⟩
  rename_i h;rw[Hr];constructor
  ·rintro⟨i,h1,h2,h3⟩;exact⟨i,zo,h2,h3⟩
  rintro⟨i,h1,h2,h3⟩;refine⟨i,?_,h2,h3⟩;by_cases e:i=n
  ·subst e;exact absurd h2 h
  omega
theorem Tc(to:aq):∀n,(j8 to n).length<=n
 |0=>by simp[j8]
 |n+1=>by simp only[j8];have:=Tc to n;split<;>simp<;>omega
variable{lo hi:Nat}
theorem DF(h1:lo<hi)(h2:hi<=Z.length):(Z.take hi).drop lo=Z.getD lo 0::(Z.take hi).drop (lo+1):=by
 rw[Ct<|by rw[fg];omega,List.getElem_take,a8,aX zo];rfl
theorem zz{k:Int}:((aw Z).take hi).drop lo++[[aa k]]=aw ((Z.take hi).drop lo++[k]):=by
 simp[aw]
end
section
def kf(l:ah):List Nat:=l.map Int.toNat
theorem DE(l r:ah):kf (l++r)=kf l++kf r:=by simp[kf]
theorem zH{l:ah}:n∈kf l↔∃x∈l,x.toNat=n:=by simp[kf]
variable{v:Int}
theorem Cq{z:Nat}(hz:z=k):(aw<|gl n o).set z [aa v]=aw (gl n<|qI o k v):=kV hz
def vu(to:aq)(k:Nat):Nat->Int:=λi=>if i<k then (if to i=true then 0 else -1) else 0
theorem Za(h:v=if to k=true then 0 else -1)(o:Nat->Int)(ho:∀i,i≠k->o i=vu to k i)(hk:o k=v):∀i,o i=vu to (k+1) i:=by
 intro i;by_cases e:i=k
 ·subst e;rw[hk,h];simp[vu]
 rw[ho i e];by_cases q:i<k
 ·simp[vu,q,show i<k+1 by omega]
 simp[vu,q,show ¬i<k+1 by omega]
theorem zs8{N:Nat}(gp:∀i,N<=i->to i=false):Bfs g to (λi=>if to i=true then 0 else -1)<|kf<|j8 to N:=by
 have hQ:∀n,to n↔n∈kf (j8 to N):=λn=>by
  rw[zH];constructor
  ·intro h;have hn:n<N:=by
    rcases gK n N with q|q
    ·exact q
    rw[gp n q] at h;cases h
   exact⟨(n:Int),Hr.2 ⟨n,hn,h,rfl⟩,zs⟩
  rintro⟨x,hx,rfl⟩;obtain⟨i,_,h2,rfl⟩:=Hr.1 hx;simpa using h2
 exact Bfs.begin (λn=>by
  by_cases h:to n=true
  ·rw[ae h,ae ⟨h,(hQ n).1 h⟩]
  rw[ab h,ab λq=>h q.1]) hQ
structure QOk(g:ak)(to:aq)(o:Nat->Int)(Z:ah):Prop where
 gf:∀x∈Z,0<=x/\x<(g.length:Int)
 low:∀n,-1<=o n
 out:∀n,g.length<=n->o n=-1
theorem Pg(aY:∀l∈g,bq l g.length)(hn:n<g.length)(h:Far g to n d):d<g.length :=
 zBA (λv x hx=>by have:=cZ (ft aY v) hx;omega) hn h
theorem UE(to:aq):∀n,(j8 to n).length+cQ to n=n
 |0=>rfl
 |n+1=>by
  have:=UE to n;unfold cQ at this⊢;simp only[j8,jO];cases h:to n<;>simp<;>omega
def lost(o:Nat->Int)(n:Nat):Nat:=cQ (λi=>decide (0<=o i)) n
theorem zpP(to:aq)(n:Nat):(j8 to n).length+lost (λi=>if to i=true then 0 else -1) n=n:=by
 have h:=UE to n;have e:lost (λi=>if to i=true then 0 else -1) n=cQ to n:=Ns n λj _=>by
  grind
 grind
theorem zvD(hk:k<n)(h:o k<0)(hv:0<=v):lost (qI o k v) n<lost o n :=
 nK hk (λj _ hj=>by
  have hj:=pH hj;rw[ja,rY λe=>by subst e;omega];exact hj) (by simpa using h) (by simpa using hv)
theorem Qv(x:Int)(r:ah):kf (x::r)=x.toNat::kf r:=rfl
theorem QOk.put(h:QOk g to o Z)(hk:k<g.length)(hv:0<=v){lo hi:Nat}:QOk g to (qI o k v) ((Z.take hi).drop lo++[(k:Int)]) where
 gf x hx:=by
  rcases dz.1 hx with q|q
  ·exact h.gf x<|xR<|List.mem_of_mem_drop q
  rw[cV] at q;subst q;omega
 low n:=by
  by_cases e:n=k
  ·subst e;rw[tz];omega
  rw[rY e];exact h.low n
 out n hn:=by rw[rY zo];exact h.out n hn
theorem zzE(g:ak)(hg:l7 g=0)(hF:iu g)(to:aq)(gp:∀i,g.length<=i->to i=false) :
  ao aj 139 [bN g,bx g.length to] (aF<|gl g.length<|cP g to):=by
 obtain⟨hn,aY⟩:=oP.1 hg;have yl:∀v y,y∈g.getD v []->y.toNat<g.length:=λv x hx=>by have:=cZ (ft aY v) hx;omega
 refine bt ?_;refine sC (YQ g hg hF) ?_;generalize hT:dR g g.length=T;have lT:T.length=g.length:=by rw[<-hT,qJ]
 have mT:∀(m:Nat) (x:Int),x∈T.getD m []↔∃k,k<g.length/\x=(k:Int)/\∃y,y∈g.getD k []/\y.toNat=m:=λm x=>by rw[<-hT];exact zL yl<|aS _
 have rT:∀m,(T.getD m []).length<=g.length:=λm=>by rw[<-hT];exact zv g g.length m
 clear hT;unfold bN bx;rw[aI];refine⟨zo,zo,zo,?_⟩;rw[bO,show List.map D.sc [Value.int .i64 0]=[aa 0] from rfl,yE];refine sW ?_;rw[Ep];refine bQ (eo 7 1 zs rfl) ?_
 refine bb [5,6,18,19] (λk:Nat=>[(7,.own 1 (j8 to k).length 0 (j8 to k).length),(20,aa k)]) (λk=>[(0,.vec true 0 1<|aw<|gl g.length<|vu to k),(1,.vec true (j8 to k).length 1<|aw<|j8 to k)])
  (λk=>k<=g.length) (λk=>g.length-k) 0 ?_
 refine sW ?_;refine⟨zo,by exact sK,by rw[ou (g':=vu to 0) λi _=>by simp[vu]];rfl,?_⟩;rintro k hk;refine bf (λh1=>?_) λh1=>?_
 ·have ai:k<g.length:=sO;refine sL (bc k zo ai) ?_;refine sB ?_;refine⟨_,bX k zo ai,?_⟩;refine sW ?_;cases ht:to k
  ·refine aQ ?_;refine⟨k+1,zo,zd,?_⟩;have em:j8 to (k+1)=j8 to k:=(by simp[j8,ht]);dsimp only;rw[em];refine aC (by exact sK) ?_;rw[Cq (k:=k) zo,ou (g':=vu to<|k+1) λi _=>Za (v:=-1) (by simp[ht]) _ (λi hi=>rY hi) (tz _ _ _) i];rfl
  refine bC ?_;refine⟨[aa (-1)],by rw[Cq (k:=k) zo,bX k zo ai,tz],?_⟩;refine sW ?_;have OJ:=Tc to k;refine ee ?_;refine⟨k+1,zo,zd,?_⟩;have em:j8 to (k+1)=j8 to k++[(k:Int)]:=(by simp[j8,ht]);dsimp only;rw[em];have el:(j8 to k++[(k:Int)]).length=(j8 to k).length+1:=zs;rw[el]
  (refine aL 2 zs rfl ?_ ?_<;>(repeat' (first|exact trivial|exact rfl|exact .refl _|refine And.intro ?_ ?_|(simp[aK,aG,bB,-List.map_take,-List.map_drop];done))))
  ·exact aV (by
    rw[Cq (k:=k) zo,Cq (k:=k) zo,ou (g':=vu to<|k+1) λi _=>Za (v:=0) (by simp[ht]) _ (λi hi=>by rw[rY hi,rY hi]) (tz _ _ _) i])
  exact aV (by
   rw[fG zs,dP];simp[aw])
 have ai:k=g.length:=by have:¬k<g.length:=sO
                        omega
 subst ai
 refine bb [5,6] (λ((o,Z,lo,hi,ar):(Nat->Int)×ah×Nat×Nat×Nat)=>[(7,.own 1 ar lo hi)]) (λ(o,Z,lo,hi,ar)=>[(0,.vec true 0 1<|aw<|gl g.length o),(1,.vec true ar 1<|aw Z)])
  (λ(o,Z,lo,hi,ar)=>lo<=hi/\hi<=Z.length/\QOk g to o Z/\hi-lo+lost o g.length<=g.length/\Bfs g to o (kf<|(Z.take hi).drop lo)) (λ(o,Z,lo,hi,ar)=>hi-lo+lost o g.length) (λi=>if to i=true then 0 else -1,j8 to g.length,0,(j8 to g.length).length,(j8 to g.length).length) ?_
 refine sW ?_;have Og:=zpP to g.length;refine⟨⟨zo,zo,⟨λx hx=>?_,λn=>by split<;>omega,λn hn=>by simp[gp n hn]⟩,zo,by rw[dM,dP];exact zs8 gp⟩,by exact sK,by rw[ou (g':=λi=>if to i=true then 0 else -1) λi hi=>by simp[vu,hi]];rfl,?_⟩
 ·obtain⟨i,h1,_,rfl⟩:=Hr.1 hx;omega
 rintro⟨o,Z,lo,hi,ar⟩ ⟨G5,n4,hq,hu,hB⟩;refine bf (λh1=>?_) λh1=>?_
 ·have h1:lo<hi:=sO;rw[DF h1 n4,Qv] at hB;have hx:=hq.gf (Z.getD lo 0)<|df zo;generalize hX:Z.getD lo 0=x at hB hx;refine sB ?_;refine⟨_,bV (l:=Z) (k:=lo) zo zo,?_⟩;refine sW ?_;rw[hX];refine⟨zo,zo,zo,?_⟩;refine sW ?_;rw[show lo+(hi-lo)=hi by omega];refine sL (eV (g:=T) (k:=x.toNat) zo zo) ?_;rw[aI];have hL:=rT x.toNat;have mL:=mT x.toNat;generalize T.getD x.toNat []=L at hL mL
  refine bb [5,6,10,48,49] (λ((o',Z',cj,aT,bY,k):(Nat->Int)×ah×Nat×Nat×Nat×Nat)=>[(7,.own 1 bY cj aT),(50,aa k)]) (λ(o',Z',cj,aT,bY,k)=>[(0,.vec true 0 1<|aw<|gl g.length o'),(1,.vec true bY 1<|aw Z')])
   (λ(o',Z',cj,aT,bY,k)=>k<=L.length/\cj<=aT/\aT<=Z'.length/\QOk g to o' Z'/\aT-cj+lost o' g.length<hi-lo+lost o g.length/\vZ g to o' (kf<|(Z'.take aT).drop cj) x.toNat (kf<|L.take k)) (λ(o',Z',cj,aT,bY,k)=>L.length-k) (o,Z,lo+1,hi,ar,0) ?_
  refine sW ?_;refine⟨⟨zo,zo,n4,hq,zo,hB.pop⟩,by exact sK,rfl,?_⟩;rintro⟨o',Z',cj,aT,bY,k⟩ ⟨hk,mC,mA,Pz,sH,hJ⟩;refine bf (λh3=>?_) λh3=>?_
  ·have ai:k<L.length:=sO;obtain⟨v,rj,rr,y,HG,Bv⟩:=(mL<|L.getD k 0).1<|df ai;refine sL (bV (l:=L) (k:=k) zo ai) ?_;rw[rr];refine sB ?_;refine⟨_,bX v zo rj,?_⟩;refine sW ?_;have eT:kf (L.take<|k+1)=kf (L.take k)++[v]:=by
    rw[jP,aX ai,DE];rw[a8,aX ai] at rr;simp at rr;simp[kf,rr]
   refine sS (λh4=>?_) λh4=>?_
   ·have h4:o' v<0:=sO;have hb:=Pg aY zo<|hJ.sound x.toNat hJ.here;have h0:=hJ.here;refine sB ?_;refine⟨_,bX x.toNat zo zo,?_⟩;refine aQ ?_;refine sB ?_;refine⟨_,bX v zo rj,?_⟩;refine ke ?_;have GU:=zvD (n:=g.length) rj h4 (v:=o' x.toNat+1) zo;have hp:=hJ.push h4 HG Bv;refine⟨(qI o' v<|o' x.toNat+1,(Z'.take aT).drop cj++[(v:Int)],0,aT-cj+1,bY+1,k+1),⟨zo,zo,zq,Pz.put rj zo,zo,?_⟩,zd,?_⟩
    ·rw[dP,fG zq,DE,eT];exact hp
    (refine aL 2 zs rfl ?_ ?_<;>(repeat' (first|exact trivial|exact rfl|exact .refl _|refine And.intro ?_ ?_|(simp[aK,aG,bB,-List.map_take,-List.map_drop];done))))
    ·exact aV<|Cq zo
    exact aV zz
   have h4:0<=o' v:=sO;refine sI ?_;refine⟨(o',Z',cj,aT,bY,k+1),⟨zo,mC,mA,Pz,sH,by rw[eT];exact hJ.skip h4⟩,zd,?_⟩;exact aC (by exact sK) rfl
  have ai:k=L.length:=by have:¬k<L.length:=sO
                         omega
  subst ai;refine⟨(o',Z',cj,aT,bY),⟨mC,mA,Pz,zo,hJ.fin λk y h1 h2=>?_⟩,zd,?_⟩
  ·have hk:k<g.length:=by
    rcases gK k g.length with q|q
    ·exact q
    rw[a8,dG q] at h1;cases h1
   rw[dM];exact zH.2 ⟨(k:Int),(mL k).2 ⟨k,hk,rfl,y,h1,h2⟩,zs⟩
  exact aC (by exact sK) rfl
 have h0:hi=lo:=sO;subst h0;rw[DA<|by rw[fg];omega] at hB;rw[ou (g':=cP g to) λi _=>zzj hB hq.low i];exact vV rfl
end
section
noncomputable def n7(g:ak)(o:Nat->Int):Nat->Int->ah
 |0,a=>[a]
 |d+1,a=>a::n7 g o d (ey (λn=>decide (o n=(d:Int))) (g.getD a.toNat []) (g.getD a.toNat []).length)
theorem W0(g:ak)(o:Nat->Int):∀d a,(n7 g o d a).length=d+1
 |0,_=>rfl
 |d+1,a=>by simp only[n7,dC,W0 g o d]
noncomputable def ki(g:ak)(from_:ah)(to:aq):Int:=ir (cP g to) from_ from_.length
noncomputable def pZ(g:ak)(from_:ah)(to:aq):ah:=if 0<=ki g from_ to then n7 g (cP g to) (cP g to (ki g from_ to).toNat).toNat<|ki g from_ to else []
theorem zyU(g:ak)(to:aq)(n:Nat):-1<=cP g to n:=by
 rcases rp (cP g to n) 0 with h|h
 ·rw[QB h];omega
 omega
theorem KS{g:ak}(aY:∀l∈g,bq l g.length){to:aq}{a d:Nat}(h:cP g to a=(d:Int)+1) :
  0<=ey (λn=>decide (cP g to n=(d:Int))) (g.getD a []) (g.getD a []).length/\ey (λn=>decide (cP g to n=(d:Int))) (g.getD a []) (g.getD a []).length<(g.length:Int) /\
   cP g to (ey (λn=>decide (cP g to n=(d:Int))) (g.getD a []) (g.getD a []).length).toNat=(d:Int):=by
 have hB:=ft aY a;obtain⟨x,hx,hf⟩:=Hb (AZ.2<|show cP g to a=((d+1:Nat):Int) by omega);obtain⟨j,hj,ej⟩:=pd hx;rcases BB (p:=λn=>decide (cP g to n=(d:Int))) (λk hk=>(nZ hB hk).1) (g.getD a []).length<|aS _ with⟨_,q⟩|⟨q1,q2,⟨i,q3,q4⟩,_⟩
 ·have:=q j hj;rw[ej] at this;have:=of_decide_eq_false this;exact absurd (AZ.1 hf) this
 refine⟨q1,?_,pH q2⟩;rw[<-q4];exact(nZ hB q3).2
theorem IA{g:ak}{from_:ah}(hf:bq from_ g.length){to:aq}(h:0<=ki g from_ to):ki g from_ to<(g.length:Int)/\0<=cP g to (ki g from_ to).toNat:=by
 rcases Fx (o:=cP g to) (λk hk=>(nZ hf hk).1) from_.length<|aS _ with⟨q,_⟩|⟨q1,q2,⟨i,q3,q4⟩,_⟩
 ·unfold ki at h;omega
 unfold ki;refine⟨?_,q2⟩;rw[<-q4];exact(nZ hf q3).2
theorem Li(aY:∀l∈g,bq l g.length)(hn:n<g.length):cP g to n<(g.length:Int):=by
 rcases rp (cP g to n) 0 with h|h
 ·omega
 have:=Pg aY hn (AZ.2<|show cP g to n=((cP g to n).toNat:Int) by omega);omega
variable{l:ah}{N:Nat}
theorem zpc(hl:bq l N)(k:Nat)(hk:k<=l.length):ir o l k<(N:Int)/\-1<=ir o l k:=by
 rcases Fx (o:=o) (λk hk=>(nZ hl hk).1) k hk with⟨q,_⟩|⟨q1,q2,⟨i,q3,q4⟩,_⟩
 ·omega
 rw[<-q4];have:=nZ hl (k:=i) zo;omega
theorem zqy{p:aq}(hl:bq l N)(k:Nat)(hk:k<=l.length):ey p l k<(N:Int)/\-1<=ey p l k:=by
 rcases BB (p:=p) (λk hk=>(nZ hl hk).1) k hk with⟨q,_⟩|⟨q1,q2,⟨i,q3,q4⟩,_⟩
 ·omega
 rw[<-q4];have:=nZ hl (k:=i) zo;omega
theorem HL{a:Int}:n7 g o (d+1) a=a::n7 g o d (ey (λn=>decide (o n=(d:Int))) (g.getD a.toNat []) (g.getD a.toNat []).length):=rfl
theorem zyj(g:ak)(hg:l7 g=0)(hF:iu g)(from_:ah)(hf:bq from_ g.length)(s9:from_.length<=9223372036854775807)(to:aq)(gp:∀i,g.length<=i->to i=false) :
  ao aj 73 [bN g,aF from_,bx g.length to] (.aJ [aF<|pZ g from_ to,ay<|decide (0<=ki g from_ to),aa 0]):=by
 obtain⟨hn,aY⟩:=oP.1 hg;refine bt ?_;refine sC (ME g hF) ?_;refine sS (λh1=>?_) λh1=>?_
 ·exfalso;exact sO
 refine sC (Lk g from_ s9) ?_;rw[hf];refine sW ?_;rw[Ep,aI];refine sS (λh3=>?_) λh3=>?_
 ·exfalso;exact sO
 refine sC (zzE g hg hF to gp) ?_;rw[aI];have ml:=λi (h:i<g.length)=>Li aY (to:=to) h;have Iz:=zyU g to;have eW:ki g from_ to=ir (cP g to) from_ from_.length:=rfl;have eL:pZ g from_ to=if 0<=ki g from_ to then n7 g (cP g to) (cP g to (ki g from_ to).toNat).toNat<|ki g from_ to else []:=rfl
 have bW:=@IA g from_ hf to;have gR:=@KS g aY to;generalize cP g to=o at ml Iz eW eL bW gR;refine bb [0,10,36,37] (λk:Nat=>[(11,aa<|ir o from_ k),(38,aa k)]) (λ_=>[]) (λk=>k<=from_.length) (λk=>from_.length-k) 0 ?_;refine dd ?_;rintro k hk;refine bf (λh4=>?_) λh4=>?_
 ·have ai:k<from_.length:=sO;have hx:=nZ hf ai;have hr:=zpc (o:=o) hf k zo;refine sL (bV (l:=from_) (k:=k) zo ai) ?_;have eS:ir o from_ (k+1)=if 0<=o (from_.getD k 0).toNat/\(ir o from_ k<0\/o (from_.getD k 0).toNat<o (ir o from_ k).toNat\/(o (from_.getD k 0).toNat=o (ir o from_ k).toNat/\from_.getD k 0<ir o from_ k)) then from_.getD k 0 else ir o from_ k:=rfl
  generalize from_.getD k 0=x at eS hx;generalize ir o from_ k=a at eS hr;refine sL (bX x.toNat zo zo) ?_;refine sS (λc1=>?_) λc1=>?_
  ·have c1:0<=o x.toNat:=sO;refine sS (λc2=>?_) λc2=>?_
   ·have hc:0<=o x.toNat/\(a<0\/o x.toNat<o a.toNat\/(o x.toNat=o a.toNat/\x<a)):=⟨c1,.inl<|sO⟩;refine aQ ?_;refine⟨k+1,zo,zd,?_⟩;dsimp only;rw[eS,ae hc];exact aC (by exact sK) rfl
   have c2:¬a<0:=sO;refine sL (bX x.toNat zo zo) ?_;refine sL (bX a.toNat zo zo) ?_;refine sS (λc3=>?_) λc3=>?_
   ·have hc:0<=o x.toNat/\(a<0\/o x.toNat<o a.toNat\/(o x.toNat=o a.toNat/\x<a)):=⟨c1,.inr (.inl<|sO)⟩;refine aQ ?_;refine⟨k+1,zo,zd,?_⟩;dsimp only;rw[eS,ae hc];exact aC (by exact sK) rfl
   have c3:¬o x.toNat<o a.toNat:=sO;refine sL (bX x.toNat zo zo) ?_;refine sL (bX a.toNat zo zo) ?_;refine sS (λc4=>?_) λc4=>?_
   ·have c4:o x.toNat=o a.toNat:=sO;refine sS (λc5=>?_) λc5=>?_
    ·have hc:0<=o x.toNat/\(a<0\/o x.toNat<o a.toNat\/(o x.toNat=o a.toNat/\x<a)):=⟨c1,.inr (.inr ⟨c4,sO⟩)⟩;refine aQ ?_;refine⟨k+1,zo,zd,?_⟩;dsimp only;rw[eS,ae hc];exact aC (by exact sK) rfl
    have c5:¬x<a:=sO;have hc:¬(0<=o x.toNat/\(a<0\/o x.toNat<o a.toNat\/(o x.toNat=o a.toNat/\x<a))):=zo;refine aQ ?_;refine⟨k+1,zo,zd,?_⟩;dsimp only;rw[eS,ab hc];exact aC (by exact sK) rfl
   have c4:o x.toNat≠o a.toNat:=sO;have hc:¬(0<=o x.toNat/\(a<0\/o x.toNat<o a.toNat\/(o x.toNat=o a.toNat/\x<a))):=zo;refine aQ ?_;refine⟨k+1,zo,zd,?_⟩;dsimp only;rw[eS,ab hc];exact aC (by exact sK) rfl
  have hc:¬(0<=o x.toNat/\(a<0\/o x.toNat<o a.toNat\/(o x.toNat=o a.toNat/\x<a))):=λh=>sO;refine aQ ?_;refine⟨k+1,zo,zd,?_⟩;dsimp only;rw[eS,ab hc];exact aC (by exact sK) rfl
 have ai:k=from_.length:=by have:¬k<from_.length:=sO
                            omega
 subst ai;rw[<-eW];generalize ki g from_ to=a at eL bW;refine sS (λh5=>?_) λh5=>?_
 ·have h5:¬0<=a:=sO;rw[eL,ab h5,gI h5];exact .aJ _ _ (.cons _ _ _ _ (.none _)<|mE _)
 have h5:0<=a:=sO;obtain⟨KC,Kl⟩:=bW h5;rw[eL,ae h5,gQ h5];generalize hW:n7 g o (o a.toNat).toNat a=W;have ha3:=ml a.toNat zo
 refine bb [0,10] (λ((b,pre):Int×ah)=>[(11,aa b),(14,.own 0 pre.length 0<|pre.length+1)]) (λ(b,pre)=>[(0,.vec true pre.length 1<|aw<|pre++[b])])
  (λ(b,pre)=>0<=b/\b<(g.length:Int)/\0<=o b.toNat/\pre.length+(o b.toNat).toNat<=20000/\pre++n7 g o (o b.toNat).toNat b=W) (λ(b,pre)=>(o b.toNat).toNat) (a,[]) ?_
 refine sW ?_;refine⟨⟨h5,KC,Kl,zq,hW⟩,by exact sK,rfl,?_⟩;rintro⟨b,pre⟩ ⟨FO,GZ,Xh,hb4,u9⟩;refine ck ?_;refine sL (bX b.toNat zo zo) ?_;have hb6:=ml b.toNat zo;refine sS (λh6=>?_) λh6=>?_
 ·obtain⟨d,ed⟩:∃d:Nat,o b.toNat=(d:Int)+1:=⟨(o b.toNat).toNat-1,by have h6:0<o b.toNat:=sO
                                                                   omega⟩
  obtain⟨n1,n2,n3⟩:=gR ed;rw[show(o b.toNat).toNat=d+1 by omega,HL] at u9;refine sL (eV (g:=g) (k:=b.toNat) zo zo) ?_;rw[aI];have hB:=ft aY b.toNat;have QU:=hF.at b.toNat;generalize g.getD b.toNat []=L at n1 n2 n3 u9 hB QU;refine bb [0,10,11,14,92,93] (λk:Nat=>[(15,aa<|ey (λn=>decide (o n=(d:Int))) L k),(94,aa k)]) (λ_=>[]) (λk=>k<=L.length) (λk=>L.length-k) 0 ?_;refine dd ?_;rintro k hk;refine bf (λh7=>?_) λh7=>?_
  ·have ai:k<L.length:=sO;have hx:=nZ hB ai;refine sL (bV (l:=L) (k:=k) zo ai) ?_;have eS:ey (λn=>decide (o n=(d:Int))) L (k+1)=if decide (o (L.getD k 0).toNat=(d:Int))=true/\(ey (λn=>decide (o n=(d:Int))) L k<0\/L.getD k 0<ey (λn=>decide (o n=(d:Int))) L k) then L.getD k 0 else ey (λn=>decide (o n=(d:Int))) L k:=rfl
   simp only[ja] at eS;generalize L.getD k 0=x at eS hx;generalize ey (λn=>decide (o n=(d:Int))) L k=y at eS;refine sL (bX x.toNat zo zo) ?_;refine sL (bX b.toNat zo zo) ?_;refine sI ?_;refine sS (λc1=>?_) λc1=>?_
   ·have c1:o x.toNat=d:=sO;refine sS (λc2=>?_) λc2=>?_
    ·have hc:o x.toNat=(d:Int)/\(y<0\/x<y):=⟨c1,.inl<|sO⟩;refine aQ ?_;refine⟨k+1,zo,zd,?_⟩;dsimp only;rw[eS,ae hc];exact aC (by exact sK) rfl
    have c2:¬y<0:=sO;refine sS (λc3=>?_) λc3=>?_
    ·have hc:o x.toNat=(d:Int)/\(y<0\/x<y):=⟨c1,.inr<|sO⟩;refine aQ ?_;refine⟨k+1,zo,zd,?_⟩;dsimp only;rw[eS,ae hc];exact aC (by exact sK) rfl
    have hc:¬(o x.toNat=(d:Int)/\(y<0\/x<y)):=λh=>sO;refine aQ ?_;refine⟨k+1,zo,zd,?_⟩;dsimp only;rw[eS,ab hc];exact aC (by exact sK) rfl
   have hc:¬(o x.toNat=(d:Int)/\(y<0\/x<y)):=λh=>sO;refine aQ ?_;refine⟨k+1,zo,zd,?_⟩;dsimp only;rw[eS,ab hc];exact aC (by exact sK) rfl
  have ai:k=L.length:=by have:¬k<L.length:=sO
                         omega
  subst ai;generalize ey (λn=>decide (o n=(d:Int))) L L.length=y at n1 n2 n3 u9;refine sJ ?_;refine⟨(y,pre++[b]),⟨n1,n2,zo,zq,?_⟩,zd,?_⟩
  ·rw[n3,bO,<-u9];simp
  dsimp only;rw[show(pre++[b]).length=pre.length+1 by simp];refine aL 1 zs rfl sQ (sU ?_);exact aV<|by rw[fG zs,dP];simp[aw]
 have h6:o b.toNat=0:=sO;rw[h6] at u9;refine .aJ _ _ (.cons _ _ _ _ ?_<|mE _);rw[<-u9];exact .own _ _ _ _ _ _ _ _ rfl (by rw[dP,fG zs];exact gw _)
end
variable{f:FuncId}{d:D}{P:bG}{args':bj}
theorem ztK{args:bj}(hd:jr H args args')(h:ao P f args' d):bZ P f args H d<|y' H:=by
 obtain⟨hf,hp⟩:=h;refine⟨hf,by rw[xV,aI];exact aS _,λJ F w vs az jH iG=>?_⟩;have cG:∀b,F b\/jV J b->b<w.heap.size:=λb hb=>hb.elim (az.lt b) λ⟨i,s,hi,hs⟩=>az.jk hi hs;refine(hp J (λb=>F b\/jV J b) w _ (az.lt.mono (λ_ h=>.inl h) (λ_ _=>rfl) cG)<|x4 az (λ_ _ h=>h) _ _ _ hd iG).mono λe w' hR=>?_;obtain⟨v,F',rfl,h1,h2,h3⟩:=hR;have kv:∀b,b<w.heap.size->w'.heap[b]? = w.heap[b]?:=λb hb=>h3.block b hb<|qj b;refine⟨v,J,F',rfl,⟨λi s hs=>?_,az.one,λi s b o g1 g2 g3 g4=>?_,az.lt.mono (λb hb=>h3.grow b (.inl hb)) (λb hb=>kv b<|az.lt b hb) h1⟩,λid hid=>?_,kO (Jh J) (λ_ h=>h) (λ_ _=>rfl) _ _ h2,?_⟩
 ·obtain⟨o,q1,q2⟩:=az.obj i s hs;refine⟨o.frozen,?_,?_⟩
  ·rw[xV,fx,q1];rfl
  have q3:=sk (J':=J) (F':=F') (w':=w') (bh.le_refl J) (λb hb=>h3.grow b (.inl hb)) (λb hb=>kv b<|az.lt b hb) (λb hb=>kv b<|az.jk hs hb) q2
  cases o with
  |row m cs =>
   obtain⟨k1,k2,k3,k4,k5,b,vals,te,t1,t2,t3,t4,t5⟩:=q3;exact⟨k1,k2,k3,k4,k5,b,vals,te,t1,t2,t3,t4,λ_=>h3.grow b (.inr ⟨i,s,hs,by simp[Site.cE,k1,t1]⟩)⟩
  |vec m v e xs =>
   obtain⟨k1,k2,k3,k4,k5,k6⟩:=q3;refine⟨k1,k2,k3,k4,k5,?_⟩;by_cases hz:s.cap=0
   ·exact .inl hz
   rcases k6 with k6|⟨b,o,vals,te,t1,t2,t3,t4,t5⟩
   ·exact .inl k6
   exact .inr ⟨b,o,vals,te,t1,t2,t3,t4,λ_=>h3.grow b (.inr ⟨i,s,hs,by simp[Site.cE,k1,hz,t1]⟩)⟩
  |dV m I=>exact q3
 ·exfalso;rw[xV,fx] at g3
  cases e:H[i]? with
  |none=>rw[e] at g3;cases g3
  |some x =>
   rw[e] at g3;cases x<;>cases g3<;>cases g4
 ·rw[xV,aI];exact jH id hid
 exact⟨h3.os,h3.tape,h3.output,h3.size,λb hb _=>kv b hb,λb hb=>kv b<|az.lt b hb,bh.le_refl J,λb hb=>h3.grow b (.inl hb),λb hb=>.inl hb,λb hb=>by
  rcases h3.pJ b hb with q|q|q
  ·rcases q with q|q
   ·exact .inl q
   exact .inr (.inl q)
  ·exact absurd q<|qj b
  exact .inr (.inr q)⟩
theorem HR{args0 args:bj}{H0 H:aE}(hd:jr H0 args0 args')(h:ao P f args' d)(hp:Pure d)(L:List Nat)(hL:L.length=H0.length)(fE:L.Nodup)
  (iG:aG H0.length args0) (qg:dX H0.length H0) (e1:bL (λi=>L.getD i 0) args0=args)
  (h1:∀i o,H0[i]? = some o->H[L.getD i 0]? = some (o.aP λi=>L.getD i 0)):ov P f args H d (mF H L<|(y' H0).map<|al.aP λi=>L.getD i 0) L :=
 FL (ztK hd h) (by rw[xV,aI]) L hL fE iG qg e1 (iQ _ hp) h1
theorem wO{pre post:bj}{H:aE}{id ar lo hi an:Nat}{q:Bool}{xs:fc}(h:ao P f (pre++.aM an ((xs.take hi).drop lo)::post) d)(hp:Pure d)(Ax:aA pre)(y0:aA post)(Cy:dF xs)
  (hid:H[id]? = some (.vec q ar an xs)):ov P f (pre++.own id ar lo hi::post) H d (H.set id (.vec false ar an xs)) [id]:=by
 have uo:∀(a b:bj) (ρ:Nat->Nat),bL ρ (a++b)=bL ρ a++bL ρ b:=λa b ρ=>by
  induction a with
  |nil=>simp only[bL,nG]
  |cons x r ih=>simp only[pQ,bL,ih]
 have E5:∀(a b:bj),aG 1 a->aG 1 b->aG 1 (a++b):=λa b ha hb=>by
  induction a with
  |nil=>exact hb
  |cons x r ih=>simp only[aG,pQ] at ha⊢;exact⟨ha.1,ih ha.2⟩
 have hda:∀(a b c e:bj),jr [.vec q ar an xs] a b->jr [.vec q ar an xs] c e->jr [.vec q ar an xs] (a++c) (b++e):=λa b c e ha hc=>by
  induction a generalizing b with
  |nil=>cases ha;exact hc
  |cons x r ih=>cases ha with|cons _ _ _ _ h k=>exact .cons _ _ _ _ h<|ih _ k
 have:=HR (args0:=pre++.own 0 ar lo hi::post) (H0:=[.vec q ar an xs]) (H:=H) (args:=pre++.own id ar lo hi::post)
  (hda _ _ _ _ (mE pre) (.cons _ _ _ _ (.own _ _ _ _ _ _ _ _ rfl (gw _))<|mE post)) h hp [id] rfl zs (E5 _ _ (bI _ Ax) ⟨zu,bI _ y0⟩) ⟨bm _ Cy,trivial⟩
  (by rw[uo,mj _ Ax];simp only[bL,D.aP,mj _ y0];rfl) (λi o ho=>by
   cases i with
   |zero =>
    simp at ho;subst ho;show H[id]? = _;rw[hid];simp only[al.aP,jW _ Cy]
   |succ i=>simp at ho)
 simpa [y',al.frozen,al.aP,jW _ Cy,mF] using this
def gW(N:Nat)(T:Nat->ah)(k:Nat)(c:ah):ak:=(List.range N).map λi=>if i<k then T i else if i=k then c else []
@[simp] theorem UU(N:Nat)(T:Nat->ah)(k:Nat)(c:ah):(gW N T k c).length=N:=by simp[gW]
variable{c:ah}{N:Nat}{T:Nat->ah}
theorem zvP(h:i<N):(gW N T k c).getD i []=if i<k then T i else if i=k then c else []:=by
 rw[a8,aX<|by simpa using h];simp[gW]
theorem SV(h:k<N):(gW N T k c).getD k []=c:=by
 rw[zvP h,ab zo,ae rfl]
theorem Rb{c':ah}(h:k<N):(gW N T k c).set k c'=gW N T k c':=by
 refine pS λi=>?_;rw[Hm];by_cases e:k=i
 ·subst e;rw[ae rfl,ae<|by simpa using h,aX<|by simpa using h];simp[gW]
 rw[ab e];by_cases hi:i<N
 ·rw[aX<|by simpa using hi,aX<|by simpa using hi];simp only[gW,Gr,List.getElem_range];repeat grind
 rw[dG zq,dG zq]
theorem Yl:gW N T k (T k)=gW N T (k+1) []:=by
 unfold gW;repeat grind
variable(N:Nat)
theorem Wk(T:Nat->ah):gW N T 0 []=List.replicate N []:=by
 refine pS λi=>?_;by_cases h:i<N
 ·rw[aX<|by simpa using h,aX<|by simpa using h];simp[gW]
 rw[dG zq,dG zq]
theorem RB(T:Nat->ah)(c:ah):gW N T N c=(List.range N).map T:=by
 unfold gW;exact vj λi hi=>ae<|jz.1 hi
theorem WX(aY:∀l∈g,bq l g.length)(z:aq):∀l∈ga g z,bq l (ga g z).length:=by
 intro l hl;obtain⟨v,hv,rfl⟩:=dq.1 hl;rw[Ek];split
 ·exact iS λx hx=>cZ (ft aY v) (zg.1 hx).1
 rfl
theorem Yq(hF:iu g)(z:aq):iu<|ga g z:=by
 refine⟨by rw[Ek];exact hF.len,λl hl=>?_⟩;obtain⟨v,hv,rfl⟩:=dq.1 hl;have:=hF.at v;repeat grind
theorem zuC(hg:l7 g=0):l7 (dR g g.length)=0/\iu (dR g g.length)/\qU (dR g g.length) (λ_=>false)<=g.length*g.length:=by
 obtain⟨hn,aY⟩:=oP.1 hg;have FF:∀v x,x∈g.getD v []->x.toNat<g.length:=λv x hx=>by have:=cZ (ft aY v) hx;omega
 have hr:∀l∈dR g g.length,∃m,l=(dR g g.length).getD m []:=λl hl=>by
  obtain⟨m,hm,rfl⟩:=iD.1 hl;exact⟨m,by rw[a8,aX hm];rfl⟩
 refine⟨oP.2 ⟨by rw[qJ];exact hn,λl hl=>?_⟩,⟨by rw[qJ];omega,λl hl=>?_⟩,?_⟩
 ·obtain⟨m,rfl⟩:=hr l hl;rw[qJ];refine iS λx hx=>?_;obtain⟨k,hk,rfl,_⟩:=(zL FF<|aS _).1 hx;omega
 ·obtain⟨m,rfl⟩:=hr l hl;have:=zv g g.length m;omega
 have key:∀n,jO (λv=>if false=true then 0 else ((dR g g.length).getD v []).length) n<=n*g.length:=λn=>by
  induction n with
  |zero=>simp[jO]
  |succ n ih =>
   simp only[jO] at ih⊢;have:=zv g g.length n
   grind
 have:=key (dR g g.length).length;rw[qJ] at this;unfold qU;rw[qJ];exact this
theorem MB(g:ak)(hg:l7 g=0)(hF:iu g):ao aj 28 [bN g] (.aJ [bN<|dR g g.length,aa 0]):=by
 refine bt ?_;refine sC (ME g hF) ?_;refine sS (λh1=>?_) λh1=>?_
 ·exfalso;exact sO
 refine sC (YQ g hg hF) ?_;exact .refl _
theorem V6(hn:n=L.length):D.aM 1 (((L.map λl=>[aF l]).take n).drop 0)=bN L:=by
 subst hn;unfold bN;rw[cB zs]
@[simp] theorem zAI:aK m (iw l)↔True:=⟨λ_=>trivial,λ_=>bz _<|yr l⟩
def dw(g:ak)(z:aq)(v k:Nat):ah:=if z v=true then ((g.getD v []).take k).filter λx=>z x.toNat else []
theorem Tk(h:k<(g.getD v []).length):dw g z v (k+1)=if z v=true/\z ((g.getD v []).getD k 0).toNat=true then dw g z v k++[(g.getD v []).getD k 0] else dw g z v k:=by
 unfold dw;generalize g.getD v []=L at h⊢;cases hz:z v
 ·simp
 rw[ae rfl,ae rfl,jP,aX h,Gc,a8,aX h]
 grind
theorem R4(g:ak)(z:aq)(v k:Nat):(dw g z v k).length<=k:=by
 unfold dw;repeat grind
theorem UM(g:ak)(z:aq):(List.range g.length).map (λv=>dw g z v (g.getD v []).length)=ga g z:=by
 unfold ga dw
 grind
def jl(fC:aq)(k:Nat):ah:=((List.range k).filter fC).map λn:Nat=>(n:Int)
variable(fC:aq)
theorem Jd(k:Nat):jl fC (k+1)=if fC k=true then jl fC k++[(k:Int)] else jl fC k:=by
 unfold jl;rw[qf,Gc,oD]
 grind
theorem Jr(k:Nat):(jl fC k).length<=k:=by
 unfold jl
 grind
theorem uU{fC:aq}:x∈jl fC k↔0<=x/\x<(k:Int)/\fC x.toNat:=by
 unfold jl;repeat grind
theorem YA(hW:W.Fits)(hc:W.aU=0)(z:aq):ao aj 248 [gh W,bx W.next.length z]<|bx W.next.length<|fwB (ga W.next z)<|W.fair.map gy:=by
 obtain⟨_,qs,xC,_,gR,iW⟩:=qH W hc;have iM:∀l∈W.next,bq l W.next.length:=λl hl=>(gR l hl).2;have vJ:iu W.next:=⟨hW.next,hW.yu⟩;have CW:iu W.fair:=⟨hW.fair,hW.xM⟩;have cR:=λk=>ft iM k;refine bS (fY [27]) ?_;unfold gh;refine sR ?_;rw[aI];refine⟨zo,zo,zo,?_⟩;rw[bO];refine sW ?_;rw[aI];refine pj (λ_:Unit=>[(1,bx W.next.length z),(2,.loc 0 0),(5,.own 1 0 0 W.next.length)]) (λ_=>[.row true W.cells,.vec true 0 1<|(ga W.next z).map λl=>[aF l]]) (λ_=>True) ?_ ?_
 ·refine sR ?_;refine bQ (yX 1 1 W.next.length 0 zs rfl) ?_;refine cq [1,2,5,23,24] (λk:Nat=>[(25,aa k)]) (λk=>.row true W.cells::.vec true 0 1 (iT 2<|gW W.next.length (λv=>dw W.next z v (W.next.getD v []).length) k [])::eu 1 l6 (gW W.next.length (λv=>dw W.next z v (W.next.getD v []).length) k [])) (λk=>k<=W.next.length) (λk=>W.next.length-k) 0 ?_;refine sW ?_;refine⟨zo,by exact sK,?_,?_⟩
  ·rw[Wk];show _::_::_=_::_::_;rw[xL 1 _ l6];exact bH (λx=>al.row true W.cells::al.vec true 0 1 x::_)<|x' (α:=Int) 2 _
  rintro k hk;refine bf (λq0=>?_) λq0=>?_
  ·have q0:k<W.next.length:=sO;have Cj:=vJ.at k;refine sL (eV (g:=W.next) (k:=k) zo q0) ?_;rw[aI]
   refine cq [1,2,5,6,23,24,25,30,31] (λj:Nat=>[(32,aa j)]) (λj=>.row true W.cells::.vec true 0 1 (iT 2<|gW W.next.length (λv=>dw W.next z v (W.next.getD v []).length) k<|dw W.next z k j)::eu 1 l6 (gW W.next.length (λv=>dw W.next z v (W.next.getD v []).length) k<|dw W.next z k j))
    (λj=>j<=(W.next.getD k []).length) (λj=>(W.next.getD k []).length-j) 0 ?_
   refine sW ?_;refine⟨zo,by exact sK,by rw[show dw W.next z k 0=[] by unfold dw;split<;>simp],?_⟩;rintro j hj;refine bf (λq1=>?_) λq1=>?_
   ·have q1:j<(W.next.getD k []).length:=sO;have eS:=Tk (z:=z) q1;have hx:=cZ (cR k)<|df q1;have qY:=R4 W.next z k j;refine sL (bV (l:=W.next.getD k []) (k:=j) zo q1) ?_;refine sL (bc k zo q0) ?_;generalize (W.next.getD k []).getD j 0=x at *;have same:(z k=true/\z x.toNat->False)->dw W.next z k (j+1)=dw W.next z k j:=λh=>by rw[eS,ab h]
    cases zk:z k
    ·refine aQ ?_;refine⟨j+1,zo,zd,aC (by exact sK) ?_⟩;dsimp only;rw[same λq=>by rw[zk] at q;cases q.1]
    refine sW ?_;refine sL (bc x.toNat zo zo) ?_;cases zx:z x.toNat
    ·refine aQ ?_;refine⟨j+1,zo,zd,aC (by exact sK) ?_⟩;dsimp only;rw[same λq=>by rw[zx] at q;cases q.2]
    rw[ae ⟨zk,zx⟩] at eS;refine bC ?_;refine⟨_,kW (i:=k) zo zq,?_⟩;refine sW ?_;have js:(gW W.next.length (λv=>dw W.next z v (W.next.getD v []).length) k<|dw W.next z k j).set k (dw W.next z k j++[x])=gW W.next.length (λv=>dw W.next z v (W.next.getD v []).length) k (dw W.next z k<|j+1):=(by rw[Rb q0,<-eS]);have hlen:(gW W.next.length (λv=>dw W.next z v (W.next.getD v []).length) k<|dw W.next z k j).length=W.next.length:=UU ..;have OH:(gW W.next.length (λv=>dw W.next z v (W.next.getD v []).length) k<|dw W.next z k j).getD k []=dw W.next z k j:=SV q0;generalize gW W.next.length (λv=>dw W.next z v (W.next.getD v []).length) k (dw W.next z k j)=R at *;refine wo ?_;refine sW ?_;refine sY ?_;refine u4 zo ?_;refine sW ?_;rw[OH];refine⟨by unfold iF;simp only[lD,fg,dC,fy];omega,?_⟩;refine sW ?_;refine xg (dw W.next z k j++[x]) zo ?_ ?_
    ·exact uK
    refine bC ?_;refine⟨_,kW (i:=k) zo zo,?_⟩;refine aQ ?_;refine⟨j+1,zo,zd,?_⟩;dsimp only;rw[js];refine aL (W.next.length+2) zs zs (by exact sQ) ⟨⟨rfl,.refl _,bI _<|wE W⟩,⟨rfl,rfl,rfl,aV ?_,vf zq⟩,vG Kz⟩;exact(vT zo zo (dw W.next z k j++[x]) zs).trans (by rw[js])
   have q1:j=(W.next.getD k []).length:=sO;subst q1;rw[show gW W.next.length (λv=>dw W.next z v (W.next.getD v []).length) k (dw W.next z k (W.next.getD k []).length)=gW W.next.length (λv=>dw W.next z v (W.next.getD v []).length) (k+1) [] from Yl];refine sI ?_;exact⟨k+1,zo,zd,aC (by exact sK) rfl⟩
  have q0:k=W.next.length:=sO;subst q0;rw[RB,UM];refine⟨(),trivial,aL 2 zs rfl (by exact sQ) ⟨⟨rfl,.refl _,bI _<|wE W⟩,⟨rfl,rfl,rfl,CA (c:=l6) (λi hi=>by simp[mq]) λi hi=>?_,bm _<|uP _⟩,A9 _⟩⟩;show(eu 1 l6<|ga W.next z)[i]? = _;exact vP hi
 intro _ _;have g1:=WX iM z;have g2:=Yq vJ z;have hl:=Ek W.next z;have g3:l7 (ga W.next z)=0:=oP.2 ⟨zo,g1⟩;obtain⟨t1,t2,t3⟩:=zuC g3;have xe:=TP (ga W.next z) zo g1 g2;have SY:=zxk (ga W.next z) zo g1 g2 W.fair CW (λl dO=>by rw[hl];exact iW l dO);have V5:=MB (ga W.next z) g3 g2;have jC:=λk (hk:k<(ga W.next z).length)=>wZ hk;obtain⟨fC,QY⟩:∃fC:Nat->Bool,fC=λv=>z v&&BV (ga W.next z) W.fair (bJ (ga W.next z) v).toNat:=⟨_,rfl⟩;have UR:∀v,v<(ga W.next z).length->gL (dR (ga W.next z) (ga W.next z).length) (jl fC W.next.length) v=fwB (ga W.next z) (W.fair.map gy) v:=λv hv=>zsG g1 (λl dO=>by rw[hl];exact iW l dO) (λx=>by
  rw[uU,hl,QY];refine and_congr_right λ_=>and_congr_right λhx=>?_;show(z x.toNat&&BV _ _ _)=true↔_;rw[gr];refine⟨λq=>q.2,λq=>⟨?_,q⟩⟩;have mU:x.toNat<(ga W.next z).length:=(by have:=hx;omega);have hp:=jC _ mU;obtain⟨⟨y,y1,_⟩,_⟩:=(PQ (λv x hx=>by have:=cZ (ft g1 v) hx;omega) (λl dO=>by rw[hl];exact iW l dO) mU zo).1 q;exact(B9.1 y1).2.1) hv
 have P0:=LV _ t1 t2 (jl fC W.next.length) (by rw[qJ,hl];exact iS λx hx=>⟨(uU.1 hx).1,(uU.1 hx).2.1⟩) (by have:=Jr fC W.next.length;have:=Bk (show(ga W.next z).length<=600 by omega) (show(ga W.next z).length<=600 by omega);omega);rw[qJ,V2 λi hi=>UR i hi] at P0;have cut:=V6 (L:=ga W.next z) hl.symm;rw[<-cut] at xe SY V5;clear UR g1 g2 g3 t1 t2 t3;refine sW ?_;refine sE (wO (pre:=[]) (post:=[]) xe (cX _) trivial trivial (uP _) rfl) ?_;refine sE (wO (pre:=[]) (post:=[_,_]) SY (lg _ _) trivial ⟨cX _,l5 _,trivial⟩ (uP _) rfl) ?_;refine bQ (eo 12 1 zs rfl) ?_;refine bb [1,5,10,11,66] (λ((k,c):Nat×Nat)=>[(12,.own 2 c 0 c),(67,aa k)]) (λ(k,c)=>[(2,.vec true c 1<|aw<|jl fC k)]) (λ(k,c)=>k<=W.next.length/\c=(jl fC k).length) (λ(k,c)=>W.next.length-k) (0,0) ?_;refine sW ?_;refine⟨⟨zo,rfl⟩,by exact sK,rfl,?_⟩;rintro⟨k,c⟩ ⟨hk,gb⟩;have fN:=Jr fC k;have eS:=Jd fC k;refine bf (λq0=>?_) λq0=>?_
 ·have q0:k<W.next.length:=sO;have hp:=jC k zo;have egk:fC k=(z k&&BV (ga W.next z) W.fair (bJ (ga W.next z) k).toNat):=(by rw[QY]);refine sL (bc k zo q0) ?_;cases zk:z k
  ·rw[zk,pT] at egk;rw[egk,ab zc] at eS;refine aQ ?_;refine⟨(k+1,c),⟨zo,by rw[eS];exact gb⟩,zd,aC (by exact sK) ?_⟩;dsimp only;rw[eS];rfl
  rw[zk,kP] at egk;refine sW ?_;refine sL (bX k zo zo) ?_;refine sL (bc (bJ (ga W.next z) k).toNat zo zo) ?_;rw[<-egk];cases gk:fC k
  ·rw[gk,ab zc] at eS;refine aQ ?_;refine⟨(k+1,c),⟨zo,by rw[eS];exact gb⟩,zd,aC (by exact sK) ?_⟩;dsimp only;rw[eS];rfl
  rw[gk,ae rfl] at eS;refine ke ?_;refine⟨(k+1,c+1),⟨zo,by rw[eS,cL,<-gb];rfl⟩,zd,?_⟩;dsimp only;rw[eS];refine aL 3 zs rfl sQ (sU ?_);exact aV<|by rw[gb,KY,dM]
 have q0:k=W.next.length:=sO;subst q0;refine sE (wO (pre:=[]) (post:=[]) V5 zp trivial trivial (uP _) rfl) ?_;rw[show aF (jl fC W.next.length)=D.aM 1 (List.drop 0<|List.take c<|aw<|jl fC W.next.length) from by rw[cB<|by simp[aw];omega];rfl] at P0;refine sE (wO (pre:=[_]) (post:=[]) P0 zp ⟨l5 _,trivial⟩ trivial (c6 _ (λl=>by simp[aA,Pure]) _) rfl) ?_;rw[hl];exact .refl _

namespace af
variable{P:af}
theorem YY(h:P.ew=0):P.nf P.kr:=by
 have e:P.kr=gl P.aH.length (rq P):=by unfold kr;rw[ae h]
 unfold nf bq;rw[e,KA,gQ rfl,kP,kb];intro x hx;unfold gl at hx;obtain⟨i,_,rfl⟩:=dq.1 hx;unfold rq;split<;>decide
variable{M:ah}{s:bP}
theorem fin_pos(hM:P.Mark M)(hm:P.pb M s)(f:Nat):0<=P.fv M s f:=by
 have h1:=hM.pos f;have h2:=(P.zf s f (P.cn s.1).length).1;unfold fv mQ;split
 ·rename_i hd;unfold qx at hd;rw[gr,sq] at hd;have:0<val M f:=by
   rcases hd.2 with q|q
   ·have q:s.2.1=(f:Int):=(by grind);unfold pb at hm
    grind
   repeat grind
  omega
 omega
theorem zzD(hM:P.nf M)(hm:P.pb M s)(he:P.mX M s=0):P.nf<|P.uq M s:=by
 have hK:=fo hM;unfold mX at he;unfold uq;by_cases h3:P.kind s.1.toNat=3
 ·rw[ae h3];unfold nf bq;rw[KA,gQ rfl,kP,kb];intro x hx;unfold gl at hx;obtain⟨i,_,rfl⟩:=dq.1 hx;decide
 rw[ab h3] at he;split at he
 ·cases he
 rename_i cg;have KD:P.mX M s=0:=by unfold mX;rw[ab h3,ab cg]
 rw[ab h3,ae KD];unfold nf bq;rw[KA,gQ rfl,kP,kb];intro x hx;unfold gl at hx;obtain⟨i,hi,rfl⟩:=dq.1 hx;have h4:=fin_pos hK hm i;have h5:¬9<P.fv M s i:=λq=>cg ⟨i,jz.1 hi,q⟩;rw[gr,ja,ja];omega
end af
section
def fj(L:ak):fc:=L.map λl=>[aF l]
variable(L:ak)
@[simp] theorem Fb:dF<|fj L:=c6 _ (λl=>by simp[aA,cX]) L
@[simp] theorem zyb:bB m (fj L)↔True:=⟨λ_=>trivial,λ_=>bm _<|Fb L⟩
@[simp] theorem zCn:(fj L).length=L.length:=by simp[fj]
variable{L:ak}
theorem HB{c:Nat}{x:ah}(h:c=L.length):List.drop 0 (List.take c<|fj L)++[[aF x]]=fj (L++[x]):=by
 subst h;rw[cB zs];simp[fj]
theorem Dd{z:Nat}(hz:z=k)(h:k<L.length):(fj L)[z]? = some [aF<|L.getD k []]:=by
 unfold fj
 grind
theorem Se{id:Nat}{q:Bool}(hn:n=L.length)(h:H[id]? = some (.vec q v 1<|fj L)):Deep H (.own id v 0 n)<|bN L:=by
 subst hn;exact .own _ _ _ _ _ _ _ _ h<|by rw[cB zs];exact gw _
end
def zh(Z:ah)(i:Nat)(p:Nat):Int:=if p<i\/Z.length-i<=p then Z.getD (Z.length-1-p) 0 else Z.getD p 0
theorem zyM(Z:ah):gl Z.length (λp=>Z.getD p 0)=Z:=by
 apply Ea zs;intro i h1 h2;have:=EI (n:=Z.length) (g:=λp=>Z.getD p 0) h2
 grind
theorem zCb{g:Nat->Int}(h:∀p,p<Z.length->g p=Z.getD (Z.length-1-p) 0):gl Z.length g=Z.reverse:=by
 apply Ea zs;intro i h1 h2;have hi:i<Z.length:=by grind
 have:=EI (n:=Z.length) (g:=g) hi
 grind
theorem Um(Z:ah)(hl:Z.length<=17592186044416)(v:Nat):bZ aj 294 [.own 0 v 0 Z.length] [.vec true v 1<|aw Z] (.aJ []) [.vec true v 1<|aw Z.reverse]:=by
 refine jb fZ zs zs ?_ zu (by simp[al.under]);refine sR ?_;rw[ua];refine sI ?_;refine bb [0] (λi:Nat=>[(2,aa i),(3,aa<|(Z.length:Int)-1-i)]) (λi=>[(0,.vec true v 1<|aw<|gl Z.length<|zh Z i)]) (λi=>2*i<=Z.length+1) (λi=>Z.length+1-i) 0 ?_;refine sW ?_;refine⟨zo,⟨rfl,by show D.sc _=D.sc _;simp,trivial⟩,by
  rw[ou (g':=λp=>Z.getD p 0) λp hp=>by unfold zh;rw[ab zo],zyM];rfl,?_⟩
 rintro i hi;refine bf (λh1=>?_) λh1=>?_
 ·have h1:(i:Int)<(Z.length:Int)-1-i:=sO;refine sB ?_;refine⟨_,bX (Z.length-1-i) zo zo,?_⟩;refine bC ?_;refine⟨_,bX i zo zo,?_⟩;refine bC ?_;refine⟨_,bX i zo zo,?_⟩;refine bC ?_;rw[kV (k:=i) zo];refine⟨_,bX (Z.length-1-i) zo zo,?_⟩;refine aQ ?_;refine sI ?_;refine⟨i+1,zo,zd,?_⟩;refine aC ⟨rfl,by show D.sc _=D.sc _;simp;omega,by exact sK⟩ ?_;rw[kV (k:=Z.length-1-i) zo,ou (g':=zh Z<|i+1) λp hp=>?_]
  ·rfl
  by_cases e1:p=Z.length-1-i
  ·subst e1;rw[kq];unfold zh;rw[ab zo,ae zo]
   congr 1
   omega
  rw[tv e1];by_cases e2:p=i
  ·subst e2;rw[kq];unfold zh;rw[ab zo,ae zo]
  rw[tv e2];unfold zh;by_cases q:p<i\/Z.length-i<=p
  ·rw[ae q,ae zo]
  rw[ab q,ab zo]
 have h1:¬(i:Int)<(Z.length:Int)-1-i:=sO;refine⟨?_,zs⟩;rw[<-zCb (Z:=Z) (g:=zh Z i) λp hp=>?_]
 ·rfl
 unfold zh;split
 ·rfl
 congr 1
 omega
abbrev cd:=Int×Int
abbrev aZ:=Int×Int
structure SpR where
 e:Int
 marks:ak
 aN:List cd
 cur:List aZ
 last:cd
def qM(marks:ak)(m:ah):Nat:=marks.idxOf m
def uF(m:ah)(tok:Int):Bool:=m.any λx=>decide (x>tok)
def jM(marks:ak)(m:ah)(tok:Int)(st:Nat):Int:=if uF m tok=true then 7 else if m∈marks then 0 else if marks.length=st then 8 else 0
def jh(marks:ak)(m:ah)(tok:Int)(st:Nat):ak:=if jM marks m tok st=0/\¬m∈marks then marks++[m] else marks
def lE(marks:ak)(aN:List cd)(m:ah)(tok:Int)(st:Nat)(o:cd):List cd:=if jM marks m tok st=0/\¬m∈marks then aN++[o] else aN
def mf(marks:ak)(m:ah)(tok:Int)(st:Nat):Int:=if jM marks m tok st=0 then (qM (jh marks m tok st) m:Int) else 0
namespace af
noncomputable def ij(P:af)(tok:Int)(st:Nat)(n:Nat)(M:ah):ah->ak->List cd->List aZ->cd->SpR
 |[],marks,aN,cur,last=>⟨0,marks,aN,cur,last⟩
 |k::r,marks,aN,cur,_ =>
  if P.nO M k≠0 then ⟨P.nO M k,marks,aN,cur,((n:Int),k)⟩
  else if jM marks (P.gJ M k) tok st≠0 then ⟨jM marks (P.gJ M k) tok st,marks,aN,cur,((n:Int),k)⟩
  else P.ij tok st n M r (jh marks (P.gJ M k) tok st) (lE marks aN (P.gJ M k) tok st ((n:Int),k)) (cur++[(k,mf marks (P.gJ M k) tok st)]) ((n:Int),k)
structure SpF where
 e:Int
 marks:ak
 aN:List cd
 next:List<|List aZ
 last:cd
noncomputable def lZ(P:af)(tok:Int)(st:Nat):Nat->Nat->ak->List cd->List (List aZ)->cd->SpF
 |0,_,marks,aN,next,last=>⟨0,marks,aN,next,last⟩
 |f+1,n,marks,aN,next,last =>
  if n<marks.length then
   if (P.ij tok st n (marks.getD n []) (P.eZ<|marks.getD n []) marks aN [] last).e≠0 then
    ⟨(P.ij tok st n (marks.getD n []) (P.eZ<|marks.getD n []) marks aN [] last).e,(P.ij tok st n (marks.getD n []) (P.eZ<|marks.getD n []) marks aN [] last).marks,
     (P.ij tok st n (marks.getD n []) (P.eZ<|marks.getD n []) marks aN [] last).aN,next,(P.ij tok st n (marks.getD n []) (P.eZ<|marks.getD n []) marks aN [] last).last⟩
   else P.lZ tok st f (n+1) (P.ij tok st n (marks.getD n []) (P.eZ<|marks.getD n []) marks aN [] last).marks (P.ij tok st n (marks.getD n []) (P.eZ<|marks.getD n []) marks aN [] last).aN
    (next++[(P.ij tok st n (marks.getD n []) (P.eZ<|marks.getD n []) marks aN [] last).cur]) (P.ij tok st n (marks.getD n []) (P.eZ<|marks.getD n []) marks aN [] last).last
  else ⟨0,marks,aN,next,last⟩
structure Sp(P:af)(tok:Int)(st:Nat)(marks:ak)(aN:List cd):Prop where
 one:marks.Nodup
 fC:∀m∈marks,P.nf m=true
 room:marks.length<=st
 len:aN.length=marks.length
 back:∀i,0<i->i<aN.length->0<=(aN.getD i (0,0)).1/\(aN.getD i (0,0)).1<(i:Int)
 root:aN.length=0\/(aN.getD 0 (0,0))=(-1,-1)
variable{marks:ak}{m:ah}{tok:Int}{st:Nat}
theorem ztE(h:jM marks m tok st=0):uF m tok=false/\(m∈marks\/marks.length≠st):=by
 unfold jM at h;repeat grind
variable{P:af}
theorem Sp.put{aN:List cd}(h:Sp P tok st marks aN)(hm:P.nf m){a k:Int}(ha:0<=a)(hl:a<(marks.length:Int)):Sp P tok st (jh marks m tok st)<|lE marks aN m tok st (a,k):=by
 unfold jh lE;split
 ·rename_i q;obtain⟨q1,q2⟩:=q;have h3:=(ztE q1).2.resolve_left q2;have hr:=h.room;have hlen:=h.len;refine⟨?_,?_,zq,by simp[hlen],?_,?_⟩
  ·rw[List.nodup_append];refine⟨h.one,zs,λx hx y hy=>?_⟩
   grind
  ·intro x hx;rcases dz.1 hx with hx|hx
   ·exact h.fC x hx
   rw[cV] at hx;subst hx;exact hm
  ·intro i hi tH;rw[cL,lb] at tH;by_cases e:i=aN.length
   ·subst e;rw[a8,jF<|aS _,xb];simp;omega
   have:=h.back i hi zo;rw[a8,iz zo,<-a8];exact this
  right;rcases h.root with q|q
  ·omega
  rw[a8,iz zo,<-a8];exact q
 exact h
theorem OF:marks.length<=(jh marks m tok st).length:=by
 unfold jh;split<;>simp
theorem Yw(h:i<marks.length):(jh marks m tok st).getD i []=marks.getD i []:=by
 unfold jh;repeat grind
theorem zwc(h:jM marks m tok st=0):m∈jh marks m tok st:=by
 unfold jh;repeat grind
theorem rB{l:ak}(h:k<l.length):l.getD k []∈l:=by
 grind
variable{k:Int}{M:ah}
theorem Jp(h:k∈P.eZ M):P.lI M=0/\0<=k/\k.toNat<P.aR.length/\P.pb M (P.aR.getD k.toNat (0,0,0)):=by
 unfold eZ at h;split at h
 ·rename_i he;refine⟨he,?_⟩;have key:∀n,n<=P.aR.length->k∈P.oA M P.aR n->0<=k/\k.toNat<n/\P.pb M (P.aR.getD k.toNat (0,0,0))=true:=by
   intro n
   induction n with
   |zero=>intro _ h;simp[oA] at h
   |succ n ih =>
    intro hn h;simp only[oA] at h;repeat grind
  grind
 simp at h
theorem Xw(h:k∈P.eZ M):P.nO M k=P.mX M (P.aR.getD k.toNat (0,0,0))/\P.gJ M k=P.uq M (P.aR.getD k.toNat (0,0,0)):=by
 obtain⟨h1,h2,h3,h4⟩:=Jp h;have e:P.nO M k=P.mX M (P.aR.getD k.toNat (0,0,0)):=by
  unfold nO
  grind
 refine⟨e,?_⟩;unfold gJ;rw[e];split
 ·rfl
 rename_i q;exact(T1 q).symm
theorem Mu(hM:P.nf M)(h:k∈P.eZ M)(he:P.nO M k=0):P.nf<|P.gJ M k:=by
 obtain⟨e1,e2⟩:=Xw h;rw[e2];exact zzD hM (Jp h).2.2.2<|by rw[<-e1];exact he
theorem NJ(P:af)(M:ah):(P.eZ M).length<=P.aR.length:=by
 unfold eZ;split
 ·exact P.Y5 M _ _
 simp
end af
section
theorem ztg{k e:bp}{q:IntKind}(eJ:0<P.types.size)(hk:P.keyType k)(hu:P.underlying k=some (.array n e))(he:P.underlying e=some (.int q))(CI:P.cellsOf e=1)(lH:P.cellsOf k=n)(vs:ah)(hl:vs.length=n)(hw:∀x∈vs,(Lit.int q x).wf) :
  ∃l,keyOf P k (.agg (vs.map<|Value.int q).toArray)=some l:=by
 obtain⟨d,hd⟩:∃d,P.types.size=d+1:=⟨P.types.size-1,zo⟩;have key:∀is:List Nat,(∀i∈is,i<n)->∃r,(is.mapM λi=>P.keyLits (d+1) e<|((vs.map<|Value.int q).drop<|i*P.cellsOf e).take<|P.cellsOf e)=some r:=by
  intro is
  induction is with
  |nil=>intro _;exact⟨[],rfl⟩
  |cons i is ih =>
   intro h;obtain⟨r,hr⟩:=ih λj hj=>h j (by simp[hj]);have hi:=h i zs;have e1:((vs.map<|Value.int q).drop<|i*P.cellsOf e).take (P.cellsOf e)=[.int q<|vs[i]'zo]:=by
    rw[CI,BQ,Ct zq];simp
   refine⟨[.int q<|vs[i]'zo]::r,?_⟩;rw[List.mapM_cons,hr,e1];simp only[Program.keyLits,he]
   grind
 obtain⟨r,hr⟩:=key (List.range n) λi hi=>jz.1 hi;unfold keyOf;rw[hu];simp only[hk,Value.formed,hu,lH,kP];rw[ae<|by simp[hl],hd];show ∃l,(P.keyLits (d+1+1) k (vs.map<|Value.int q).toArray.toList).map _=some l;rw[Program.keyLits];simp only[hu];rw[ae<|by simp[hl,lH],hr]
 ·exact⟨_,rfl⟩
 exact hu
def xD(m:ah):ah:=(List.range 30).map λi=>m.getD i 0
def BX(m:ah):bj:=(xD m).map λx=>.sc (.int .i8 x)
def vM(m:ah):aW:=.agg ((BX m).map scV).toArray
theorem Nl(m:ah):vM m=.agg ((xD m).map<|Value.int .i8).toArray:=by
 unfold vM BX;rw[yD];rfl
variable{m:ah}
theorem Xp{m':ah}(hl:m.length=m'.length)(pA:m.length<=30)(h:vM m=vM m'):m=m':=by
 rw[Nl,Nl] at h;have h:=(Value.agg.injEq _ _).mp h;have h:=bH Array.toList h;simp only[List.toList_toArray] at h;have h:xD m=xD m':=by
  have:=bH (List.map λv=>match v with|Value.int _ x=>x|_=>0) h;simpa [yD,Function.comp_def] using this
 apply Ea hl;intro i h1 h2;have:=bH (λl:ah=>l[i]?) h;simp only[xD,fx,xK<|show i<30 by omega,C4,Option.some.injEq] at this
 grind
noncomputable def wF(marks:ak):Nat->aW->Option aW
 |0=>λ_=>none
 |k+1=>qS (wF marks k) (vM<|marks.getD k []) (.int .i64 k)
noncomputable def fM(marks:ak):aW->Option aW:=wF marks marks.length
theorem Xf{marks:ak}{m:ah}:∀k,k<=marks.length->wF (marks++[m]) k=wF marks k
 |0,_=>rfl
 |k+1,h=>by
  simp only[wF];rw[Xf k zo,a8,iz zo,<-a8]
theorem zBq(marks:ak)(m:ah):fM (marks++[m])=qS (fM marks) (vM m) (.int .i64 marks.length):=by
 unfold fM;rw[cL,lb];simp only[wF];rw[Xf _<|aS _,a8,jF<|aS _,xb];rfl
theorem WU{marks:ak}{m:ah}(hl:∀x∈marks,x.length=m.length)(pA:m.length<=30)(hm:¬m∈marks):∀k,k<=marks.length->wF marks k (vM m)=none
 |0,_=>rfl
 |k+1,h=>by
  simp only[wF,qS];rw[ab ?_,WU hl pA hm k zo];intro e;have hk:=af.rB (l:=marks) (k:=k) zo;have:=Xp (hl _ hk).symm pA e;exact hm<|this▸hk
theorem RZ{marks:ak}{m:ah}(hl:∀x∈marks,x.length=m.length)(pA:m.length<=30)(hn:marks.Nodup){i:Nat}(hi:i<marks.length)(hm:marks.getD i []=m):∀k,i<k->k<=marks.length->wF marks k (vM m)=some (.int .i64 i)
 |0,h,_=>zo
 |k+1,h,hk=>by
  simp only[wF,qS];by_cases e:i=k
  ·subst e;rw[hm,ae rfl]
  rw[ab ?_,RZ hl pA hn hi hm k zo zo];intro q;have ZS:=af.rB (l:=marks) (k:=k) zo;have:=Xp (hl _ ZS).symm pA q;rw[<-hm,a8,a8,aX hi,aX zo] at this;exact uB.1 hn i k hi zo zo this
variable{marks:ak}
theorem Me(h:m∈marks):qM marks m<marks.length/\marks.getD (qM marks m) []=m:=by
 unfold qM
 grind
theorem QV(hl:∀x∈marks,x.length=m.length)(pA:m.length<=30)(hn:marks.Nodup)(h:m∈marks):fM marks (vM m)=some (.int .i64<|qM marks m):=by
 obtain⟨h1,h2⟩:=Me h;exact RZ hl pA hn h1 h2 _ h1<|aS _
theorem zzI(hl:∀x∈marks,x.length=m.length)(pA:m.length<=30)(h:¬m∈marks):fM marks (vM m)=none:=WU hl pA h _<|aS _
theorem zwQ{cs:bj}{z:Nat}{c:D}{K:bj->Prop}(hz:z=k)(h:k<cs.length)(hK:K<|cs.set k c):tx cs z [c] K:=by
 subst hz;refine(Er _ _ _ _).2 ⟨zq,?_⟩;rw[List.set_eq_take_append_cons_drop,ae h] at hK
 grind
def su(a b:Int):bj:=[aa a,aa b]
def iy(l:List<|Int×Int):fc:=l.map λo=>su o.1 o.2
def mo(l:List<|Int×Int):D:=.aM 2<|iy l
def jR(L:List<|List aZ):fc:=L.map λl=>[mo l]
variable(l:List<|Int×Int)
@[simp] theorem oz:(iy l).length=l.length:=by simp[iy]
@[simp] theorem D'(l:List<|List aZ):(jR l).length=l.length:=by simp[jR]
@[simp] theorem FD:dF<|iy l:=c6 _ (λl=>by simp[su,aA,Pure]) l
@[simp] theorem yP:Pure<|mo l:=by simp only[mo,Pure];exact FD l
@[simp] theorem ze(l:List<|List aZ):dF<|jR l:=c6 _ (λl=>by simp[aA,yP]) l
variable{m:Nat}
@[simp] theorem zwi:bB m (iy l)↔True:=⟨λ_=>trivial,λ_=>bm _<|FD l⟩
@[simp] theorem zx9(l:List<|List aZ):bB m (jR l)↔True:=⟨λ_=>trivial,λ_=>bm _<|ze l⟩
@[simp] theorem zyg:aK m (mo l)↔True:=⟨λ_=>trivial,λ_=>bz _<|yP l⟩
variable{l:List<|Int×Int}
theorem lu{z:Nat}(hz:z=k)(h:k<l.length):(iy l)[z]? = some (su (l.getD k (0,0)).1 (l.getD k (0,0)).2):=by
 subst hz;unfold iy
 grind
variable{c:Nat}
theorem AH{a b:Int}(h:c=l.length):List.drop 0 (List.take c<|iy l)++[su a b]=iy (l++[(a,b)]):=by
 subst h;rw[cB zs];simp[iy]
theorem U'{L:List<|List aZ}{l:List aZ}(h:c=L.length):List.drop 0 (List.take c<|jR L)++[[mo l]]=jR (L++[l]):=by
 subst h;rw[cB zs];simp[jR]
def CC(P:af)(tok:Int)(st n no nn:Nat)(last:cd):bj:=[.aM 2<|P.nodes.map jj,.aM 2<|P.aH.map lL,aa tok,aa st,.own 2 n 0 n,.own 4 nn 0 nn,.mp 0,.own 3 no 0 no,aa last.1,aa last.2]
noncomputable def nD(P:af)(tok:Int)(st:Nat)(marks:ak)(aN:List cd)(next:List<|List aZ)(last:cd):aE :=
 [.dV true<|ma aj 204<|fM marks,.row true<|CC P tok st marks.length aN.length next.length last,.vec true marks.length 1<|fj marks,.vec true aN.length 2<|iy aN,.vec true next.length 1 (jR next)]
theorem zvG:laidOutB aj:=by kernel_rfl
theorem Wf:Maps.Keyed aj 204:=Maps.Keyed.of_law<|deep_law_laid zvG (m:=2) zo (pH zk) zk<|by rw[Tryz.underlying204]
def AA(m:ah)(k:Nat):bj:=(List.range 30).map λi=>.sc (.int .i8<|if i<k then m.getD i 0 else 0)
theorem ztZ{m:ah}:(AA m k).set k (.sc (.int .i8<|m.getD k 0))=AA m (k+1):=by
 unfold AA;apply pS;repeat grind
variable(m:ah)
theorem zum:AA m m.length=BX m:=by
 unfold AA BX xD;rw[yD];refine vj λi _=>?_;repeat grind
theorem Xx(hl:m.length<=30)(hm:∀x∈m,0<=x/\x<=127):ao aj 125 [aF m] (.agg<|BX m):=by
 refine dh fZ zs zp ?_ (by simp only[Pure,BX];generalize xD m=l;induction l with|nil=>simp[aA]|cons x r ih=>simpa [aA,Pure] using ih);refine sR ?_;rw[aI];refine bb [2,3,6,7] (λk:Nat=>[(8,aa k)]) (λk=>[(1,.row true<|AA m k)]) (λk=>k<=m.length) (λk=>m.length-k) 0 ?_;refine dd ?_;rintro k hk;refine bf (λh1=>?_) λh1=>?_
 ·have ai:k<m.length:=sO;refine sL (bV (l:=m) (k:=k) zo ai) ?_;have hx:=hm _<|df ai;have TC:InR .i8<|m.getD k 0:=by
   unfold InR;generalize m.getD k 0=x at hx;simp[IntKind.wrap,IntKind.bits,IntKind.signed];omega
  refine .inl ⟨TC,?_⟩;refine sW ?_;refine⟨zo,zo,?_⟩;refine sW ?_;refine zwQ (k:=k) zo (by simp[AA];omega) ?_;refine aQ ?_;refine⟨k+1,zo,zd,?_⟩;refine aC (by exact sK) ?_;rw[ztZ];rfl
 have ai:k=m.length:=by have:¬k<m.length:=sO
                        omega
 refine cf ?_;show D.agg (AA m k)=D.agg (BX m);rw[ai,zum]
theorem zpA(hm:∀x∈m,0<=x/\x<=127):∃l,keyOf aj 204 (vM m)=some l:=by
 rw[Nl];refine ztg (pH zk) zk Tryz.underlying204 Tryz.underlying202 zk zk (xD m) (by simp[xD]) λx hx=>?_;unfold xD at hx;obtain⟨i,_,rfl⟩:=dq.1 hx;have:0<=m.getD i 0/\m.getD i 0<=127:=by
  by_cases h:i<m.length
  ·exact hm _<|df h
  rw[a8,dG zo];simp
 simp only[Lit.wf,gr,ja];have h1:IntKind.min .i8=-128:=zc;have h2:IntKind.max .i8=127:=zc;omega
theorem zpz(x tok:Int):ao aj 124 [aa x,.ax [.ax [.dL,.dL,aa tok,.dL,.dL,.dL,.dL,.dL,.dL,.dL]]]<|ay<|decide (x>tok):=by
 refine bt ?_;exact .refl _
theorem zvo(tok:Int):(m.any λx=>decide (x>tok))=uF m tok:=rfl
theorem Sg(P:af)(tok:Int)(st:Nat)(bW:st<=200)(marks:ak)(aN:List cd)(next:List<|List aZ)(last:cd)(hS:af.Sp P tok st marks aN)(pA:P.aH.length<=30)(m:ah)(hm:P.nf m)(o:cd) :
  bZ aj 55 [.loc 1 0,aF m,.agg<|su o.1 o.2] (nD P tok st marks aN next last) (.aJ [aa<|mf marks m tok st,aa<|jM marks m tok st]) (nD P tok st (jh marks m tok st) (lE marks aN m tok st o) next o):=by
 have hM:=af.fo hm;have OJ:=hM.len;have lO:∀x∈m,0<=x/\x<=9:=λx hx=>by
  unfold af.nf at hm;rw[gr] at hm;have:=cZ hm.2 hx;omega
 have hlen:∀x∈marks,x.length=m.length:=λx hx=>by rw[(af.fo<|hS.fC x hx).len,OJ]
 have hr:=hS.room;have oZ:=hS.len;refine jb fZ zs (by simp[nD]) ?_ zu (by
  intro x hx;simp only[nD,eQ,uH,or_false] at hx;rcases hx with rfl|rfl|rfl|rfl|rfl<;>simp[al.under,CC,aG,aK,nD])
 unfold nD CC su;refine sR ?_
 refine .inr (.inl ⟨_,_,.cons _ _ _ _ (.refl _) (.cons _ _ _ _ (.fn _ _ _ _ _ .nil (.cons _ _ _ _ (.loc _ _ _ _ _ rfl (.cons _ _ _ _ (.loc _ _ _ _ _ rfl (.cons _ _ _ _ (.dL _) (.cons _ _ _ _ (.dL _) (.cons _ _ _ _ (.refl _) (.cons _ _ _ _ (.dL _) (.cons _ _ _ _ (.dL _) (.cons _ _ _ _ (.dL _) (.cons _ _ _ _ (.dL _) (.cons _ _ _ _ (.dL _) (.cons _ _ _ _ (.dL _) (.cons _ _ _ _ (.dL _) .nil))))))))))) .nil)) .nil)) .nil),
  mh (λn=>aa n) (λa=>by simp[Pure]) m zo (λx=>decide (x>tok)) 124 [.ax [.ax [.dL,.dL,aa tok,.dL,.dL,.dL,.dL,.dL,.dL,.dL]]] zp (λa _=>zpz a tok),rfl,?_⟩)
 rw[zvo];have eE:jM marks m tok st=if uF m tok=true then 7 else if m∈marks then 0 else if marks.length=st then 8 else 0:=rfl
 refine sW ?_;have qW:∀v,jM marks m tok st=v->v≠0->jh marks m tok st=marks/\lE marks aN m tok st o=aN/\mf marks m tok st=0:=λv h1 h2=>by
  unfold jh lE mf;rw[h1,ab λq=>h2 q.1,ab λq=>h2 q.1,ab h2];exact⟨rfl,rfl,rfl⟩
 cases h1:uF m tok
 ·refine sW ?_;refine sC (Xx m zo λx hx=>by have:=lO x hx;omega) ?_;have lr:=zpA m (λx hx=>by have:=lO x hx;omega);refine⟨fM marks,rfl,Wf,lr,λv hv=>?_,λhv=>?_⟩
  ·refine sW ?_;by_cases h2:m∈marks
   ·have hs:=QV hlen zo hS.one h2;have lW:some v=some (Value.int .i64<|qM marks m):=hv.symm.trans hs;cases lW;have e0:jM marks m tok st=0:=(by rw[eE,h1,ab zs,ae h2]);have eM:jh marks m tok st=marks:=(by unfold jh;rw[ab λq=>q.2 h2]);have eG:lE marks aN m tok st o=aN:=(by unfold lE;rw[ab λq=>q.2 h2]);have eI:mf marks m tok st=(qM marks m:Int):=(by unfold mf;rw[ae e0,eM]);rw[eM,eG,eI,e0];exact⟨rfl,rfl,zs⟩
   exfalso;have:=zzI hlen zo h2;have lW:some v=none:=hv.symm.trans this;cases lW
  refine sW ?_;have h2:¬m∈marks:=λh2=>by
   have hs:=QV hlen zo hS.one h2;have lW:(none:Option aW)=some (Value.int .i64<|qM marks m):=hv.symm.trans hs;cases lW
  refine sS (λh3=>?_) λh3=>?_
  ·have h3:marks.length=st:=sO;have e8:jM marks m tok st=8:=(by rw[eE,h1,ab zs,ab h2,ae h3]);obtain⟨eM,eG,eI⟩:=qW 8 e8 zc;rw[eM,eG,eI,e8];exact⟨rfl,rfl,zs⟩
  have h3:marks.length≠st:=sO;have e0:jM marks m tok st=0:=(by rw[eE,h1,ab zs,ab h2,ab h3]);have eM:jh marks m tok st=marks++[m]:=(by unfold jh;rw[ae ⟨e0,h2⟩]);have eG:lE marks aN m tok st o=aN++[o]:=(by unfold lE;rw[ae ⟨e0,h2⟩]);have eI:mf marks m tok st=(marks.length:Int):=by
   unfold mf;rw[ae e0,eM]
   congr 1
   unfold qM;rw[List.idxOf_append,ab h2];simp
  refine sC (Xx m zo λx hx=>by have:=lO x hx;omega) ?_;refine⟨fM marks,rfl,Wf,lr,hv,?_⟩;refine sWJ ?_;refine sJ ?_;rw[eM,eG,eI,e0];refine⟨rfl,?_,zs⟩;rw[zBq,cL,cL,lb,lb];have g1:=HB (L:=marks) (c:=marks.length) (x:=m) rfl;have g2:=AH (l:=aN) (c:=aN.length) (a:=o.1) (b:=o.2) rfl;rw[<-g1,<-g2];rfl
 have e7:jM marks m tok st=7:=by rw[eE,ae h1]
 obtain⟨eM,eG,eI⟩:=qW 7 e7 zc;refine sW ?_;rw[eM,eG,eI,e7];exact⟨rfl,rfl,zs⟩
end
section
def FZ(R:SpR):List aZ:=if R.e=0 then R.cur else []
namespace af
theorem EM{P:af}{tok:Int}{st n:Nat}{M:ah}{k:Int}{r:ah}{marks:ak}{aN:List cd}{cur:List aZ}{last:cd} :
  P.ij tok st n M (k::r) marks aN cur last=if P.nO M k≠0 then ⟨P.nO M k,marks,aN,cur,((n:Int),k)⟩
  else if jM marks (P.gJ M k) tok st≠0 then ⟨jM marks (P.gJ M k) tok st,marks,aN,cur,((n:Int),k)⟩
  else P.ij tok st n M r (jh marks (P.gJ M k) tok st) (lE marks aN (P.gJ M k) tok st ((n:Int),k)) (cur++[(k,mf marks (P.gJ M k) tok st)]) ((n:Int),k):=rfl
theorem Yu{l:ah}(h:k<l.length):l.drop k=l.getD k 0::l.drop (k+1):=by
 rw[Ct h,a8,aX h];rfl
end af
variable{P:af}{tok:Int}{st:Nat}{marks:ak}{aN:List cd}{last:cd}
theorem L7{next:List<|List aZ}:dX 5<|nD P tok st marks aN next last:=by
 simp[nD,dX,al.under,CC,aG,aK]
theorem P9{next:List<|List aZ}{G R:aE}:xv 5 G (nD P tok st marks aN next last++R) (nD P tok st marks aN next last) :=
 lB _ _ λo ho=>CB L7 o ho
theorem zpn(P:af)(hP:P.Fits)(h1:P.ew=0)(tok:Int)(st:Nat)(bW:st<=200)(marks:ak)(aN:List cd)(next:List<|List aZ)(last:cd)(hS:af.Sp P tok st marks aN)(n:Nat)(hn:n<marks.length) :
  bZ aj 56 [.loc 1 0,aa n] (nD P tok st marks aN next last)
   (.aJ [mo<|FZ<|P.ij tok st n (marks.getD n []) (P.eZ<|marks.getD n []) marks aN [] last,.sc (.int .i64 (P.ij tok st n (marks.getD n []) (P.eZ<|marks.getD n []) marks aN [] last).e)])
   (nD P tok st (P.ij tok st n (marks.getD n []) (P.eZ<|marks.getD n []) marks aN [] last).marks (P.ij tok st n (marks.getD n []) (P.eZ<|marks.getD n []) marks aN [] last).aN next (P.ij tok st n (marks.getD n []) (P.eZ<|marks.getD n []) marks aN [] last).last):=by
 obtain⟨h0,_,xo⟩:=af.kB h1;have pA:=(jo h0).2;have oZ:=hS.len;refine oQ fZ zs (by simp[nD]) ?_ zu;have mD:=hS.fC _<|af.rB hn;have hr:=hS.room;generalize hM:marks.getD n []=M at mD;have hML:=(af.fo mD).len;generalize hR:P.ij tok st n M (P.eZ M) marks aN [] last=R;have eM:P.lI M=0:=by unfold af.lI;rw[ab zo,ae mD]
 have BS:=P.NJ M;have hLs:∀k∈P.eZ M,k∈P.eZ M:=λ_ h=>h;generalize hL:P.eZ M=L at hR BS;unfold nD CC;refine sR ?_;refine sB ?_;refine⟨_,Dd (k:=n) zo hn,?_⟩;refine sW ?_;rw[hM];refine sC (zmi P hP M zo) ?_;rw[hL,aI];refine bQ (eo 6 2 zs rfl) ?_
 refine cq [0,1,30,31] (λ((mk,og,cur,la,k):ak×List cd×List aZ×cd×Nat)=>[(6,.own 5 cur.length 0 cur.length),(32,aa k)]) (λ(mk,og,cur,la,k)=>nD P tok st mk og next la++[.vec true cur.length 2<|iy cur])
  (λ(mk,og,cur,la,k)=>k<=L.length/\af.Sp P tok st mk og/\n<mk.length/\mk.getD n []=M/\cur.length=k/\P.ij tok st n M (L.drop k) mk og cur la=R) (λ(mk,og,cur,la,k)=>L.length-k) (marks,aN,[],last,0) ?_
 refine sW ?_;refine⟨⟨zo,hS,hn,hM,rfl,hR⟩,by exact sK,rfl,?_⟩;rintro⟨mk,og,cur,la,k⟩ ⟨hk,lQ,du,DK,hc,hF⟩;have xl:=lQ.room;have zLt:=lQ.len;unfold nD CC;refine bf (λh2=>?_) λh2=>?_
 ·have ai:k<L.length:=sO;rw[af.Yu ai,af.EM] at hF;have mb:L.getD k 0∈P.eZ M:=(by rw[hL];exact df ai);refine sL (bV (l:=L) (k:=k) zo ai) ?_;generalize L.getD k 0=x at hF mb;refine sB ?_;refine⟨_,Dd (k:=n) zo du,?_⟩;refine sW ?_;rw[DK];refine sC (zub P hP M zo x) ?_;refine sS (λh3=>?_) λh3=>?_
  ·have h3:P.nO M x≠0:=sO;rw[ae h3] at hF;subst hF;have wH:FZ ⟨P.nO M x,mk,og,cur,((n:Int),x)⟩=[]:=ab h3;rw[wH];exact⟨.aJ _ _ (.cons _ _ _ _ (.none _) (.refl _)),P9 (P:=P) (tok:=tok) (st:=st) (marks:=mk) (aN:=og) (next:=next) (last:=((n:Int),x)) (R:=[_])⟩
  have h3:P.nO M x=0:=sO;rw[ab λq=>q h3] at hF;have B6:=af.Mu mD mb h3;generalize P.gJ M x=m at hF B6;refine sA (nk (Sg P tok st bW mk og next ((n:Int),x) lQ pA m B6 ((n:Int),x)) [.vec true cur.length 2<|iy cur] rfl (by simp[aG,aK,su,nD]) L7) ?_;refine sS (λh4=>?_) λh4=>?_
  ·have h4:jM mk m tok st≠0:=sO;rw[ae h4] at hF;have Mr:jh mk m tok st=mk:=(by unfold jh;rw[ab λq=>h4 q.1]);have IB:lE mk og m tok st ((n:Int),x)=og:=(by unfold lE;rw[ab λq=>h4 q.1]);subst hF;have wH:FZ ⟨jM mk m tok st,mk,og,cur,((n:Int),x)⟩=[]:=ab h4;rw[wH];refine⟨.aJ _ _ (.cons _ _ _ _ (.none _) (.refl _)),?_⟩;rw[Mr,IB];exact P9 (P:=P) (tok:=tok) (st:=st) (marks:=mk) (aN:=og) (next:=next) (last:=((n:Int),x)) (R:=[_])
  have h4:jM mk m tok st=0:=sO;rw[ab λq=>q h4] at hF;refine ee ?_;refine⟨(jh mk m tok st,lE mk og m tok st ((n:Int),x),cur++[(x,mf mk m tok st)],((n:Int),x),k+1),⟨zo,lQ.put B6 zo zo,yV du af.OF,by rw[af.Yw du,DK],by simp[hc],hF⟩,zd,?_⟩;dsimp only;rw[show(cur++[(x,mf mk m tok st)]).length=cur.length+1 by simp];refine aL 6 zs rfl sQ (sU ?_);exact aV<|AH rfl
 have ai:k=L.length:=by have:¬k<L.length:=sO
                        omega
 rw[ai,um] at hF;have Hh:R=⟨0,mk,og,cur,la⟩:=hF.symm;subst Hh;have wH:FZ ⟨0,mk,og,cur,la⟩=cur:=ae rfl;rw[wH];refine⟨.aJ _ _ (.cons _ _ _ _ (.own _ _ _ _ _ _ _ _ rfl rfl ?_) (.refl _)),P9 (P:=P) (tok:=tok) (st:=st) (marks:=mk) (aN:=og) (next:=next) (last:=la) (R:=[_])⟩;rw[cB zs];exact .refl _
end
section
namespace af
noncomputable def fp(P:af)(tok:Int)(st:Nat):SpF:=P.lZ tok st 201 0 [P.kr] [(-1,-1)] [] (-1,-1)
theorem Sp.nil(P:af)(tok:Int)(st:Nat):Sp P tok st [] []:=⟨zs,zs,zs,rfl,λi h1 h2=>by simp at h2,.inl rfl⟩
variable{P:af}{tok:Int}
theorem zp1(h:P.ew=0)(ht:1<=tok):uF P.kr tok=false:=by
 unfold uF kr;rw[ae h,yK];intro x hx;unfold gl at hx;obtain⟨i,_,rfl⟩:=dq.1 hx;unfold rq
 grind
variable{st:Nat}
theorem zut(h:P.ew=0)(ht:1<=tok)(hs:1<=st):jM [] P.kr tok st=0/\jh [] P.kr tok st=[P.kr]/\lE [] [] P.kr tok st (-1,-1)=[(-1,-1)]:=by
 have e0:jM [] P.kr tok st=0:=by
  unfold jM;rw[zp1 h ht];simp;omega
 refine⟨e0,?_,?_⟩
 ·unfold jh;rw[ae ⟨e0,zs⟩];rfl
 unfold lE;rw[ae ⟨e0,zs⟩];rfl
theorem Sp.start(h:P.ew=0)(hs:1<=st):Sp P tok st [P.kr] [(-1,-1)] :=
 ⟨zs,λm hm=>by rw[cV] at hm;subst hm;exact YY h,by simpa using hs,rfl,λi h1 h2=>by simp at h2;omega,.inr rfl⟩
theorem Hx{P:af}{tok:Int}{st n:Nat}{M:ah}(hM:P.nf M):∀(L:ah) (marks:ak) (aN:List cd) (cur:List aZ) (last:cd),(∀k∈L,k∈P.eZ M)->Sp P tok st marks aN->n<marks.length ->
  Sp P tok st (P.ij tok st n M L marks aN cur last).marks (P.ij tok st n M L marks aN cur last).aN/\marks.length<=(P.ij tok st n M L marks aN cur last).marks.length /\
   (∀i,i<marks.length->(P.ij tok st n M L marks aN cur last).marks.getD i []=marks.getD i [])
 |[],marks,aN,cur,last,_,hS,_=>⟨hS,aS _,λ_ _=>rfl⟩
 |k::r,marks,aN,cur,last,hL,hS,hn=>by
  rw[EM];split
  ·exact⟨hS,aS _,λ_ _=>rfl⟩
  split
  ·exact⟨hS,aS _,λ_ _=>rfl⟩
  rename_i h1 h2;have hg:=Mu hM (hL k zs) zo;have hl:=OF (marks:=marks) (m:=P.gJ M k) (tok:=tok) (st:=st);have du:n<(jh marks (P.gJ M k) tok st).length:=yV hn hl;have lQ:=hS.put hg (a:=(n:Int)) (k:=k) zo zo;obtain⟨g1,g2,g3⟩:=Hx hM r (jh marks (P.gJ M k) tok st) (lE marks aN (P.gJ M k) tok st ((n:Int),k)) (cur++[(k,mf marks (P.gJ M k) tok st)]) ((n:Int),k) (λj hj=>hL j<|by simp[hj]) lQ du;exact⟨g1,jI hl g2,λi hi=>by rw[g3 i<|yV hi hl,Yw hi]⟩
end af
def Hd(P:af)(tok:Int)(st n no nn:Nat)(last:cd):bj:=[.aM 2<|P.nodes.map jj,.aM 2<|P.aH.map lL,aa tok,aa st,.own 3 n 0 n,.own 5 nn 0 nn,.mp 1,.own 4 no 0 no,aa last.1,aa last.2]
noncomputable def tt(P:af)(tok:Int)(st:Nat)(marks:ak)(aN:List cd)(next:List<|List aZ)(last:cd):aE :=
 [.row true [.aM 2<|P.nodes.map jj,.aM 2<|P.aH.map lL],.dV true<|ma aj 204<|fM marks,.row true<|Hd P tok st marks.length aN.length next.length last,.vec true marks.length 1<|fj marks,.vec true aN.length 2<|iy aN,.vec true next.length 1 (jR next)]
variable{ρ:Nat->Nat}(P:af)
theorem JS:D.aP ρ (.aM 2<|P.nodes.map jj)=.aM 2 (P.nodes.map jj)/\D.aP ρ (.aM 2<|P.aH.map lL)=.aM 2 (P.aH.map lL):=by
 have h:=Ss P;simp only[b7,af.cells,Pure,aA] at h;exact⟨iQ _<|by simpa only[Pure] using h.1,iQ _<|by simpa only[Pure] using h.2.1⟩
theorem Q9(P:af)(tok:Int)(st:Nat)(marks:ak)(aN:List cd)(next:List<|List aZ)(last:cd) :
  [al.row true [.aM 2<|P.nodes.map jj,.aM 2<|P.aH.map lL]]++((nD P tok st marks aN next last).map (al.aP λi=>[al.row true [.aM 2<|P.nodes.map jj,.aM 2<|P.aH.map lL]].length+i)++[])=tt P tok st marks aN next last:=by
 have h1:=λρ=>(JS (ρ:=ρ) P).1;have h2:=λρ=>(JS (ρ:=ρ) P).2;have h3:=λρ=>jW (ρ:=ρ) _<|Fb marks;have h4:=λρ=>jW (ρ:=ρ) _<|FD aN;have h5:=λρ=>jW (ρ:=ρ) _<|ze next;simp only[nD,tt,CC,Hd,fR,jc,al.aP,bL,h1,h2,h3,h4,h5,lv,dC,fy,pQ,nG];simp only[D.aP]
theorem zmM{P:af}{tok:Int}{st:Nat}{marks:ak}{aN:List cd}{next:List<|List aZ}{last:cd}:∀o∈tt P tok st marks aN next last,o.under 6:=by
 intro o ho;simp only[tt,eQ,uH,or_false] at ho;rcases ho with rfl|rfl|rfl|rfl|rfl|rfl<;>simp[al.under,Hd,aG,aK]
theorem ZN(l:List<|Int×Int)(v:aW):D.aP ρ (.aJ [mo l,.sc v])=.aJ [mo l,.sc v]:=by
 simp only[D.aP,bL,iQ _<|yP l]
theorem zAa(u v:aW):D.aP ρ (.aJ [.sc u,.sc v])=.aJ [.sc u,.sc v]:=by
 simp only[D.aP,bL]
theorem Ye{P:af}{f:FuncId}{tok:Int}{st:Nat}{marks SA:ak}{aN RN:List cd}{next:List<|List aZ}{last Ve:cd}{args args':bj}{d d':D}
  (hA:bZ aj f args (nD P tok st marks aN next last) d<|nD P tok st SA RN next Ve) (hu:aG 5 args) (e1:bL (λi=>1+i) args=args') (e2:D.aP (λi=>1+i) d=d') :
  bZ aj f args' (tt P tok st marks aN next last) d' (tt P tok st SA RN next Ve) :=
 rX hA [.row true [.aM 2<|P.nodes.map jj,.aM 2<|P.aH.map lL]] [] rfl hu L7 e1 e2 (Q9 ..) (Q9 ..)
theorem ZY(hP:P.Fits)(h1:P.ew≠0)(tok st:Int):bZ aj 22 [b7 P,aa tok,aa st] [] (.aJ [.sc (.pointer none),aa P.ew]) []:=by
 refine jb (fY [159]) zs zs ?_ zu zs;unfold b7 af.cells;refine sR ?_;refine sC (AQ P hP) ?_;refine sS (λh2=>?_) λh2=>?_
 ·exact kZ _
 exfalso;exact sO
theorem zjo(hP:P.Fits)(h1:P.ew=0)(tok st:Int)(hb:tok<1\/9<tok\/st<1\/200<st):bZ aj 22 [b7 P,aa tok,aa st] [] (.aJ [.sc (.pointer none),aa 1]) []:=by
 refine jb (fY [159]) zs zs ?_ zu zs;unfold b7 af.cells;refine sR ?_;refine sC (AQ P hP) ?_;refine sS (λh2=>?_) λh2=>?_
 ·exfalso;exact sO
 refine sS (λh3=>?_) λh3=>?_
 ·refine sW ?_;exact kZ _
 refine sS (λh4=>?_) λh4=>?_
 ·refine sW ?_;exact kZ _
 refine sS (λh5=>?_) λh5=>?_
 ·refine sW ?_;exact kZ _
 refine sS (λh6=>?_) λh6=>?_
 ·exact kZ _
 exfalso;exact sO
theorem ZH(hP:P.Fits)(h1:P.ew=0)(tok:Int)(ht:1<=tok)(ht':tok<=9)(st:Nat)(hs:1<=st)(IP:st<=200) :
  bZ aj 22 [b7 P,aa tok,aa st] [] (.aJ [.loc 2 0,.sc (.int .i64 (P.fp tok st).e)]) (tt P tok st (P.fp tok st).marks (P.fp tok st).aN (P.fp tok st).next (P.fp tok st).last):=by
 obtain⟨h0,_,xo⟩:=af.kB h1;have pA:=(jo h0).2;refine jb (fY [159]) zs zs ?_ (by simp[aK,aG,tt]) zmM;have hB:=af.YY h1;obtain⟨p1,p2,p3⟩:=af.zut h1 ht hs;unfold b7 af.cells;refine sR ?_;refine sC (AQ P hP) ?_;refine sS (λh2=>?_) λh2=>?_
 ·exfalso;exact sO
 refine sS (λh3=>?_) λh3=>?_
 ·exfalso;exact sO
 refine sS (λh4=>?_) λh4=>?_
 ·exfalso;exact sO
 refine sS (λh5=>?_) λh5=>?_
 ·exfalso;exact sO
 refine sS (λh6=>?_) λh6=>?_
 ·exfalso;exact sO
 refine sC (zp3 P hP) ?_;refine bQ (gG 2 4 1 zs rfl rfl) ?_;refine bQ (gG 2 7 2 zs rfl rfl) ?_;refine bQ (gG 2 5 1 zs rfl rfl) ?_;refine sR ?_;refine sA (Ye (Sg P tok st IP [] [] [] (0,0) (af.Sp.nil P tok st) pA P.kr hB (-1,-1)) (by simp[aG,aK,su]) (by simp only[bL,D.aP,su,iQ _<|cX _])<|zAa _ _) ?_;rw[p1,p2,p3];refine sW ?_;have eF:P.fp tok st=P.lZ tok st 201 0 [P.kr] [(-1,-1)] [] (-1,-1):=rfl;generalize P.fp tok st=F at eF
 refine cq [10] (λ((mk,og,nx,la,n):ak×List cd×List (List aZ)×cd×Nat)=>[(15,aa n)]) (λ(mk,og,nx,la,n)=>tt P tok st mk og nx la)
  (λ(mk,og,nx,la,n)=>n<=mk.length/\af.Sp P tok st mk og/\nx.length=n/\P.lZ tok st (201-n) n mk og nx la=F) (λ(mk,og,nx,la,n)=>201-n) ([P.kr],[(-1,-1)],[],(-1,-1),0) ?_
 refine sW ?_;refine⟨⟨zs,af.Sp.start h1 hs,rfl,eF.symm⟩,by exact sK,rfl,?_⟩;rintro⟨mk,og,nx,la,n⟩ ⟨hn,hS,gR,hF⟩;have hr:=hS.room;obtain⟨f,ef⟩:∃f,201-n=f+1:=⟨200-n,zo⟩;rw[ef] at hF;simp only[af.lZ] at hF;unfold tt Hd;refine bf (λh7=>?_) λh7=>?_
 ·have du:n<mk.length:=sO;rw[ae du] at hF;have az:=af.Hx (tok:=tok) (st:=st) (n:=n) (hS.fC _<|af.rB du) (P.eZ<|mk.getD n []) mk og [] la (λ_ h=>h) hS du;refine sA (Ye (zpn P hP h1 tok st IP mk og nx la hS n du) zu (by simp only[bL,D.aP])<|ZN _ _) ?_;generalize P.ij tok st n (mk.getD n []) (P.eZ<|mk.getD n []) mk og [] la=R at hF az;refine sS (λh8=>?_) λh8=>?_
  ·have h8:R.e≠0:=sO;rw[ae h8] at hF;rw[<-hF];exact⟨rfl,rfl,aS _⟩
  have h8:R.e=0:=sO;rw[ab λq=>q h8] at hF;have wH:FZ R=R.cur:=ae h8;rw[wH];refine ee ?_;refine⟨(R.marks,R.aN,nx++[R.cur],R.last,n+1),⟨zo,az.1,by simp[gR],by rw[show 201-(n+1)=f by omega];exact hF⟩,zd,?_⟩;dsimp only;rw[show(nx++[R.cur]).length=nx.length+1 by simp];refine aL 6 zs rfl sQ (sU ?_);exact aV<|U' rfl
 have du:¬n<mk.length:=sO;rw[ab du] at hF;rw[<-hF];exact⟨rfl,rfl,aS _⟩
end
section
def rt(aN:List cd):Nat->cd->ah
 |0,_=>[]
 |f+1,o=>if o.1<0 then [] else rt aN f (aN.getD o.1.toNat (0,0))++[o.2]
def rtC(aN:List cd)(o:cd):ah:=rt aN (o.1+1).toNat o
def xN(aN:List cd):Prop:=(∀i,0<i->i<aN.length->0<=(aN.getD i (0,0)).1/\(aN.getD i (0,0)).1<(i:Int))/\(aN.length=0\/aN.getD 0 (0,0)=(-1,-1))
variable{aN:List cd}
theorem xN.at(h:xN aN)(hi:i<aN.length):-1<=(aN.getD i (0,0)).1/\(aN.getD i (0,0)).1<(i:Int):=by
 by_cases e:i=0
 ·subst e;rcases h.2 with q|q
  ·omega
  rw[q];simp
 have:=h.1 i zo hi;omega
theorem zzG(h:xN aN):∀(f g:Nat) (o:cd),o.1<(aN.length:Int)->o.1<(f:Int)->o.1<(g:Int)->rt aN f o=rt aN g o:=by
 intro f
 induction f with
 |zero =>
  intro g o h1 h2 h3
  cases g with
  |zero=>rfl
  |succ g=>simp only[rt];rw[ae zo]
 |succ f ih =>
  intro g o h1 h2 h3
  cases g with
  |zero=>simp only[rt];rw[ae zo]
  |succ g =>
   simp only[rt];split
   ·rfl
   have hb:=h.at (i:=o.1.toNat) zo;rw[ih g _ zo zo zo]
variable{o:cd}
theorem zCa(h:xN aN){f:Nat}(h1:o.1<(aN.length:Int))(h2:o.1<(f:Int)):rt aN f o=rtC aN o:=zzG h _ _ o h1 h2 zo
theorem Wr(h:xN aN){a k:Int}(h0:0<=a)(h1:a<(aN.length:Int)):rtC aN (a,k)=rtC aN (aN.getD a.toNat (0,0))++[k]:=by
 unfold rtC;rw[show((a,k):cd).1=a from rfl,show(a+1).toNat=a.toNat+1 by omega];simp only[rt];rw[ab zo];have hb:=h.at (i:=a.toNat) zo;rw[zCa h zo zo];rfl
theorem XQ{aN:List cd}{x:cd}(h:xN aN):∀(f:Nat) (o:cd),o.1<(aN.length:Int)->rt (aN++[x]) f o=rt aN f o
 |0,_,_=>rfl
 |f+1,o,h1=>by
  simp only[rt];split
  ·rfl
  have hb:=h.at (i:=o.1.toNat) zo;have e:(aN++[x]).getD o.1.toNat (0,0)=aN.getD o.1.toNat (0,0):=by
   rw[a8,iz zo,<-a8]
  rw[e,XQ h f _ zo]
theorem Ug{x:cd}(h:xN aN)(h1:o.1<(aN.length:Int)):rtC (aN++[x]) o=rtC aN o:=XQ h _ o h1
theorem YB(aN:List cd):∀(f:Nat) (o:cd),(rt aN f o).length<=f
 |0,_=>by simp[rt]
 |f+1,o=>by
  simp only[rt];split
  ·simp
  have:=YB aN f<|aN.getD o.1.toNat (0,0);rw[cL,lb];omega
namespace af
variable{P:af}{tok:Int}{st:Nat}
theorem Sp.bk{marks:ak}(h:Sp P tok st marks aN):xN aN:=⟨h.back,h.root⟩
theorem Vm{P:af}{tok:Int}{st n:Nat}{M:ah}:∀(L:ah) (marks:ak) (aN:List cd) (cur:List aZ) (last:cd),last.1=(n:Int)\/L≠[]\/last.1=-1 ->
  (P.ij tok st n M L marks aN cur last).last.1=(n:Int)\/(P.ij tok st n M L marks aN cur last).last=last
 |[],marks,aN,cur,last,_=>.inr rfl
 |k::r,marks,aN,cur,last,_=>by
  rw[EM];split
  ·exact .inl rfl
  split
  ·exact .inl rfl
  rcases Vm r (jh marks (P.gJ M k) tok st) (lE marks aN (P.gJ M k) tok st ((n:Int),k)) (cur++[(k,mf marks (P.gJ M k) tok st)]) ((n:Int),k) (.inl rfl) with h|h
  ·exact .inl h
  rw[h];exact .inl rfl
theorem XF{P:af}{tok:Int}{st:Nat}:∀(f n:Nat) (marks:ak) (aN:List cd) (next:List<|List aZ) (last:cd),Sp P tok st marks aN->last.1<(marks.length:Int) ->
  Sp P tok st (P.lZ tok st f n marks aN next last).marks (P.lZ tok st f n marks aN next last).aN/\(P.lZ tok st f n marks aN next last).last.1<((P.lZ tok st f n marks aN next last).marks.length:Int)
 |0,n,marks,aN,next,last,hS,hl=>⟨hS,hl⟩
 |f+1,n,marks,aN,next,last,hS,hl=>by
  simp only[lZ];split
  ·rename_i hn;obtain⟨g1,g2,_⟩:=Hx (tok:=tok) (st:=st) (n:=n) (hS.fC _<|rB hn) (P.eZ<|marks.getD n []) marks aN [] last (λ_ h=>h) hS hn;have g3:(P.ij tok st n (marks.getD n []) (P.eZ<|marks.getD n []) marks aN [] last).last.1=(n:Int)\/(P.ij tok st n (marks.getD n []) (P.eZ<|marks.getD n []) marks aN [] last).last=last:=by
    generalize P.eZ (marks.getD n [])=L
    cases L with
    |nil=>exact .inr rfl
    |cons k r=>exact Vm _ _ _ _ _ (.inr (.inl zs))
   generalize P.ij tok st n (marks.getD n []) (P.eZ<|marks.getD n []) marks aN [] last=R at g1 g2 g3;have g4:R.last.1<(R.marks.length:Int):=by
    rcases g3 with g3|g3
    ·omega
    rw[g3];omega
   split
   ·exact⟨g1,g4⟩
   exact XF f (n+1) _ _ _ _ g1 g4
  exact⟨hS,hl⟩
theorem zCd(h:P.ew=0)(hs:1<=st):Sp P tok st (P.fp tok st).marks (P.fp tok st).aN/\(P.fp tok st).last.1<((P.fp tok st).marks.length:Int) :=
 XF _ _ _ _ _ _ (Sp.start h hs) zs
def rF(tok st:Int):Prop:=tok<1\/9<tok\/st<1\/200<st
instance (tok st:Int):Decidable<|rF tok st:=by unfold rF;infer_instance
noncomputable def c7(P:af)(tok st:Int):Int:=if P.ew≠0 then P.ew else if rF tok st then 1 else (P.fp tok st.toNat).e
noncomputable def exM(P:af)(tok st:Int):ak:=if P.c7 tok st=0 then (P.fp tok st.toNat).marks else []
noncomputable def cu(P:af)(tok st:Int):List<|List aZ:=if P.c7 tok st=0 then (P.fp tok st.toNat).next else []
noncomputable def exW(P:af)(tok st:Int):ah:=if P.ew≠0\/rF tok st\/(P.fp tok st.toNat).e=0 then [] else rtC (P.fp tok st.toNat).aN (P.fp tok st.toNat).last
end af
end
section
@[simp] theorem Z9:dF<|aw l:=by simp[aw,aA,Pure]
theorem znh{ρ:Nat->Nat}:kl ρ (aw l)=aw l:=jW _<|Z9 l
def mS(M:ak)(N:List<|List aZ):D:=.agg [bN M,.aM 1<|jR N]
@[simp] theorem zAw(M:ak)(N:List<|List aZ):Pure<|mS M N:=by simp[mS,Pure,aA,l5,ze]
theorem Zg{id:Nat}{q:Bool}{L:List<|List aZ}(hn:n=L.length)(h:H[id]? = some (.vec q v 1<|jR L)):Deep H (.own id v 0 n) (.aM 1<|jR L):=by
 subst hn;exact .own _ _ _ _ _ _ _ _ h<|by rw[cB zs];exact gw _
def Zq(b:Nat)(P:af)(tok:Int)(st n no nn:Nat)(last:cd):bj:=[.aM 2<|P.nodes.map jj,.aM 2<|P.aH.map lL,aa tok,aa st,.own (b+2) n 0 n,.own (b+4) nn 0 nn,.mp b,.own (b+3) no 0 no,aa last.1,aa last.2]
noncomputable def Oh(b:Nat)(P:af)(tok:Int)(st:Nat)(marks:ak)(aN:List cd)(next:List<|List aZ)(last:cd):aE :=
 [.row true [.aM 2<|P.nodes.map jj,.aM 2<|P.aH.map lL],.dV true<|ma aj 204<|fM marks,.row true<|Zq b P tok st marks.length aN.length next.length last,.vec true marks.length 1<|fj marks,.vec true aN.length 2<|iy aN,.vec true next.length 1 (jR next)]
theorem zqM(b:Nat)(P:af)(tok:Int)(st:Nat)(marks:ak)(aN:List cd)(next:List<|List aZ)(last:cd) :
  (tt P tok st marks aN next last).map (al.aP λi=>[b,b+1,b+2,b+3,b+4,b+5].getD i 0)=Oh (b+1) P tok st marks aN next last:=by
 have h1:=λρ=>(JS (ρ:=ρ) P).1;have h2:=λρ=>(JS (ρ:=ρ) P).2;have h3:=λρ=>jW (ρ:=ρ) _<|Fb marks;have h4:=λρ=>jW (ρ:=ρ) _<|FD aN;have h5:=λρ=>jW (ρ:=ρ) _<|ze next;simp only[Oh,tt,Zq,Hd,fR,jc,al.aP,bL,h1,h2,h3,h4,h5];simp only[D.aP];rfl
variable{args:bj}{e:Int}
theorem zp2{P:af}{tok:Int}{st:Nat}{marks:ak}{aN:List cd}{next:List<|List aZ}{last:cd}(hA:bZ aj 22 args [] (.aJ [.loc 2 0,aa e])<|tt P tok st marks aN next last)(hp:aA args)
  {H:aE} {b:Nat} (hb:H.length=b):ov aj 22 args H (.aJ [.loc (b+2) 0,aa e]) (H++Oh (b+1) P tok st marks aN next last) [b,b+1,b+2,b+3,b+4,b+5] :=
 rA hA hp _ (by rw[hb];rfl) (by simp only[D.aP,bL];rfl) (by rw[zqM])
theorem Uh(hA:bZ aj 22 args [] (.aJ [.sc (.pointer none),aa e]) [])(hp:aA args)
  {H:aE}:ov aj 22 args H (.aJ [.sc (.pointer none),aa e]) H [] :=
 rA hA hp [] rfl (by simp only[D.aP,bL]) zs
theorem Ee(P:af)(hP:P.Fits)(tok st:Int):ao aj 6 [b7 P,aa tok,aa st] (.aJ [mS (P.exM tok st)<|P.cu tok st,aa<|P.c7 tok st]):=by
 refine bS fZ ?_;have OA:aA [b7 P,aa tok,aa st]:=by simp[aA,Pure,Ss]
 unfold b7 af.cells;refine sR ?_;have bad:∀e,e≠0->P.c7 tok st=e->P.exM tok st=[]/\P.cu tok st=[]:=λe h1 h2=>by
  unfold af.exM af.cu;rw[h2,ab h1,ab h1];exact⟨rfl,rfl⟩
 by_cases h1:P.ew=0
 ·by_cases h2:af.rF tok st
  ·have e1:P.c7 tok st=1:=(by unfold af.c7;rw[ab zo,ae h2]);obtain⟨eM,eN⟩:=bad 1 zc e1;refine sE (Uh (zjo P hP h1 tok st h2) OA) ?_;rw[eM,eN,e1];exact .aJ _ _ (.cons _ _ _ _ (.agg _ _ (.cons _ _ _ _ (.none _) (.cons _ _ _ _ (.none _) .nil)))<|mE _)
  have Zv:=h2;unfold af.rF at Zv;obtain⟨s,rfl⟩:∃s:Nat,st=s:=⟨st.toNat,zo⟩;have e1:P.c7 tok s=(P.fp tok s).e:=(by unfold af.c7;rw[ab zo,ab h2,bO]);have hA:=zp2 (ZH P hP h1 tok zo zo s zo zo) OA (H:=[.row true [.aM 2<|P.nodes.map jj,.aM 2<|P.aH.map lL],.row true [au,au]]) (b:=2) rfl;refine sE (hA) ?_;refine sS (λh3=>?_) λh3=>?_
  ·have h3:P.c7 tok s≠0:=(by rw[e1];exact sO);obtain⟨eM,eN⟩:=bad _ h3 rfl;rw[eM,eN,e1];exact .aJ _ _ (.cons _ _ _ _ (.agg _ _ (.cons _ _ _ _ (.none _) (.cons _ _ _ _ (.none _) .nil)))<|mE _)
  have h3:P.c7 tok s=0:=(by rw[e1];exact sO);unfold af.exM af.cu;rw[ae h3,ae h3,h3,bO];exact .aJ _ _ (.cons _ _ _ _ (.agg _ _ (.cons _ _ _ _ (Se rfl rfl) (.cons _ _ _ _ (Zg rfl rfl) .nil)))<|mE _)
 have e1:P.c7 tok st=P.ew:=by unfold af.c7;rw[ae h1]
 obtain⟨eM,eN⟩:=bad _ h1 e1;refine sE (Uh (ZY P hP h1 tok st) OA) ?_;have hb:(P.ew != 0)=true:=by simp[h1]
 rw[hb];refine sW ?_;rw[eM,eN,e1];exact .aJ _ _ (.cons _ _ _ _ (.agg _ _ (.cons _ _ _ _ (.none _) (.cons _ _ _ _ (.none _) .nil)))<|mE _)
end
def gN(N:List<|List aZ):ak:=N.map λl=>l.map λx=>x.2
variable(N:List<|List aZ)
@[simp] theorem oU:(gN N).length=N.length:=by simp[gN]
theorem Qg(i:Nat):(gN N).getD i []=(N.getD i []).map λx=>x.2:=by
 unfold gN
 grind
structure SpN(M:ak)(N:List<|List aZ)(s:Nat):Prop where
 len:N.length=M.length
 pos:1<=M.length
 few:M.length<=200
 row:∀l∈N,l.length<=60
 IX:∀l∈N,∀x∈l,0<=x.1/\x.1<(s:Int)/\0<=x.2/\x.2<(M.length:Int)
 mark:∀m∈M,m.length<=30/\∀x∈m,0<=x
variable{s:Nat}{N:List<|List aZ}{M:ak}
theorem SpN.rowAt(h:SpN M N s)(i:Nat):(N.getD i []).length<=60:=by
 rw[a8]
 cases e:N[i]? with
 |none=>simp
 |some l=>exact h.row l<|o7 e
variable{l:List aZ}
theorem ztX(h:k<l.length):l.getD k (0,0)∈l:=by
 grind
theorem SpN.FY(h:SpN M N s)(hk:k<(N.getD i []).length):0<=((N.getD i []).getD k (0,0)).1/\((N.getD i []).getD k (0,0)).1<(s:Int)/\0<=((N.getD i []).getD k (0,0)).2/\((N.getD i []).getD k (0,0)).2<(M.length:Int):=by
 have hm:=ztX hk;have hi:N.getD i []∈N:=by
  grind
 exact h.IX _ hi _ hm
theorem SpN.graph(h:SpN M N s):l7 (gN N)=0/\iu (gN N):=by
 have hf:=h.few;have hl:=h.len;refine⟨oP.2 ⟨zq,λl dO=>?_⟩,⟨zq,λl dO=>?_⟩⟩
 ·unfold gN at dO;obtain⟨r,hr,rfl⟩:=dq.1 dO;refine iS λx hx=>?_;obtain⟨e,he,rfl⟩:=dq.1 hx;have:=h.IX r hr e he;rw[oU,hl];omega
 unfold gN at dO;obtain⟨r,hr,rfl⟩:=dq.1 dO;have:=h.row r hr;simp;omega
def gm(p:aq)(n:Nat):Nat->Int
 |0=>-1
 |d+1=>if p (n-(d+1))=true then ((n-(d+1):Nat):Int) else gm p n d
theorem IF{p:aq}{n:Nat}:∀d,d<=n->(gm p n d=-1/\∀j,n-d<=j->j<n->p j=false)\/(∃k:Nat,gm p n d=(k:Int)/\n-d<=k/\k<n/\p k/\∀j,n-d<=j->j<k->p j=false)
 |0,_=>.inl ⟨rfl,λj h1 h2=>zo⟩
 |d+1,h=>by
  simp only[gm];by_cases q:p (n-(d+1))=true
  ·rw[ae q];exact .inr ⟨n-(d+1),rfl,aS _,zo,q,λj h1 h2=>zo⟩
  rw[ab q];have q:p (n-(d+1))=false:=(by simpa using q);rcases IF (p:=p) (n:=n) d zo with⟨h1,h2⟩|⟨k,h1,h2,h3,h4,h5⟩
  ·refine .inl ⟨h1,λj g1 g2=>?_⟩;by_cases e:j=n-(d+1)
   ·subst e;exact q
   exact h2 j zo g2
  refine .inr ⟨k,h1,zo,h3,h4,λj g1 g2=>?_⟩;by_cases e:j=n-(d+1)
  ·subst e;exact q
  exact h5 j zo g2
def C9(l:List aZ)(t:Int):Int:=((l.find? λx=>x.2==t).getD (0,0)).1
def ur(N:List<|List aZ)(dk:ah):Nat->ah
 |0=>[]
 |k+1=>ur N dk k++[C9 (N.getD (dk.getD k 0).toNat [])<|dk.getD (k+1) 0]
theorem Rz(N:List<|List aZ)(dk:ah):∀k,(ur N dk k).length=k
 |0=>rfl
 |k+1=>by simp[ur,Rz N dk k]
def CD(N:List<|List aZ)(dk:ah):ah:=ur N dk<|dk.length-1
theorem Wc{t:Int}(hk:k<l.length)(h:(l.getD k (0,0)).2=t)(no:∀j,j<k->(l.getD j (0,0)).2≠t):C9 l t=(l.getD k (0,0)).1:=by
 unfold C9;have e:l.find? (λx=>x.2==t)=some (l.getD k (0,0)):=by
  rw[List.find?_eq_some_iff_getElem];refine⟨by simpa using h,k,hk,by rw[a8,aX hk];rfl,λj hj=>?_⟩
  grind
 rw[e];rfl
theorem zpI{p:aq}{l:ah}(h0:∀k,k<l.length->0<=l.getD k 0)(h:0<=ey p l l.length):ey p l l.length∈l:=by
 rcases BB (p:=p) h0 l.length<|aS _ with⟨e,_⟩|⟨_,_,⟨j,hj,e⟩,_⟩;repeat grind
theorem YJ{g:ak}(aY:∀l∈g,bq l g.length){to:aq}:∀(d:Nat) (a:Int),0<=a->cP g to a.toNat=(d:Int) ->
  ∀i,i+1<(n7 g (cP g to) d a).length->(n7 g (cP g to) d a).getD (i+1) 0∈g.getD ((n7 g (cP g to) d a).getD i 0).toNat []
 |0,a,_,_,i,hi=>by simp[n7] at hi
 |d+1,a,ha,hd,i,hi=>by
  obtain⟨n1,n2,n3⟩:=KS aY (to:=to) (a:=a.toNat) (d:=d) zo;have hm:=zpI (p:=λn=>decide (cP g to n=(d:Int))) (λk hk=>(nZ (ft aY a.toNat) hk).1) n1;have ih:=YJ aY d _ n1 n3;rw[HL] at hi⊢;generalize hb:ey (λn=>decide (cP g to n=(d:Int))) (g.getD a.toNat []) (g.getD a.toNat []).length=b at hi hm ih⊢
  cases i with
  |zero =>
   have e:(n7 g (cP g to) d b).getD 0 0=b:=(by cases d<;>rfl);show(n7 g (cP g to) d b).getD 0 0∈g.getD a.toNat [];rw[e];exact hm
  |succ i =>
   have:=ih i (by simpa using hi);simpa using this
theorem Xu{g:ak}(aY:∀l∈g,bq l g.length){to:aq}:∀(d:Nat) (a:Int),0<=a->a<(g.length:Int)->cP g to a.toNat=(d:Int)->∀x∈n7 g (cP g to) d a,0<=x/\x<(g.length:Int)
 |0,a,h0,h1,_,x,hx=>by simp only[n7,cV] at hx;subst hx;exact⟨h0,h1⟩
 |d+1,a,h0,h1,hd,x,hx=>by
  obtain⟨n1,n2,n3⟩:=KS aY (to:=to) (a:=a.toNat) (d:=d) zo;rw[HL] at hx;rcases eQ.1 hx with rfl|hx
  ·exact⟨h0,h1⟩
  exact Xu aY d _ n1 n2 n3 x hx
theorem Nk(aY:∀l∈g,bq l g.length){from_:ah}(hf:bq from_ g.length){to:aq} :
  (∀i,i+1<(pZ g from_ to).length->(pZ g from_ to).getD (i+1) 0∈g.getD ((pZ g from_ to).getD i 0).toNat [])/\(∀x∈pZ g from_ to,0<=x/\x<(g.length:Int))/\(pZ g from_ to).length<=g.length:=by
 unfold pZ;split
 ·rename_i h;obtain⟨s1,s2⟩:=IA hf h;have hd:=Li aY (to:=to) (n:=(ki g from_ to).toNat) zo;have e:cP g to (ki g from_ to).toNat=((cP g to (ki g from_ to).toNat).toNat:Int):=zo;refine⟨YJ aY _ _ h e,Xu aY _ _ h s1 e,?_⟩;rw[W0];omega
 simp
end Go.Proofs.YtmajadpcpohneaaGreatDoor
