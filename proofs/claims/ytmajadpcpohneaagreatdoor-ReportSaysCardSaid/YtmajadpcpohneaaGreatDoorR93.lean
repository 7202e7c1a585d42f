/-
  Parts of a proof, joined. No statement is proved here.
-/
import Derived.Test.YtmajadpcpohneaaGreatDoorR91
import Derived.Test.YtmajadpcpohneaaGreatDoorR92
import Derived.Test.YtmajadpcpohneaaGreatDoorProg
import Derived.Shelf.Strconv.Itoa3
import Derived.Lib.ItoaLen
import Derived.WalkKit
import Derived.DeepKeys4
import Derived.Test.YtmajadpcpohneaaGreatDoorR90
namespace Go.Proofs.YtmajadpcpohneaaGreatDoor
set_option linter.unusedSimpArgs false
set_option linter.unusedVariables false
set_option maxRecDepth 100000
set_option maxHeartbeats 8000000
set_option linter.unusedSectionVars false
open Go.RowKit
section
variable{mk:ak}{m:ah}
theorem zpM(hn:mk.Nodup){i:Nat}(hi:i<mk.length)(h:mk.getD i []=m):qM mk m=i:=by
 have hm:m∈mk:=h▸af.rB hi;obtain⟨h1,h2⟩:=Me hm;have h3:mk[qM mk m]=mk[i]:=by
  grind
 rcases xS (qM mk m) i with q|q|q
 ·exact absurd h3<|uB.1 hn _ _ h1 hi q
 ·exact q
 exact absurd h3.symm<|uB.1 hn _ _ hi h1 q
theorem zB0(h:∀j,j<mk.length->mk.getD j []≠m):¬m∈mk:=λhm=>by
 obtain⟨h1,h2⟩:=Me hm;exact h _ h1 h2
variable{tok:Int}
theorem zqf{f:Nat}(hf:f<m.length)(h:m.getD f 0>tok):uF m tok:=by
 unfold uF;rw[mJ];exact⟨_,df hf,by simpa using h⟩
theorem zm9(h:∀f,f<m.length->¬m.getD f 0>tok):uF m tok=false:=by
 unfold uF;rw[yK];intro x hx;obtain⟨k,hk,rfl⟩:=pd hx
 grind
def GX(og:List cd)(wy:ak):Prop:=wy.length=og.length/\∀i,i<og.length->wy.getD i []=rtC og (og.getD i (0,0))
theorem GX.put{og:List cd}{wy:ak}(h:GX og wy)(hb:xN og){n k:Int}(h0:0<=n)(h1:n<(og.length:Int)):GX (og++[(n,k)])<|wy++[wy.getD n.toNat []++[k]]:=by
 obtain⟨hl,hw⟩:=h;refine⟨by simp[hl],λi hi=>?_⟩;rw[cL,lb] at hi;by_cases e:i=og.length
 ·subst e;rw[a8,jF zo,hl,xb,a8 (l:=og++_),jF<|aS _,xb];show wy.getD n.toNat []++[k]=rtC (og++[(n,k)]) (n,k);rw[Ug hb (o:=(n,k)) h1,Wr hb h0 h1,hw _ zo]
 have CE:=hb.at (i:=i) zo;rw[a8,iz zo,<-a8,a8 (l:=og++_),iz zo,<-a8,hw i zo];rw[Ug hb zo]
theorem zyq(og:List cd)(o:cd):(rtC og o).length<=(o.1+1).toNat:=YB _ _ _
theorem OC{H:aE}{a b:fc}(h:a=b):oy H a b:=h▸gw a
theorem Ju(A:fc)(y:bj):List.drop 0 (List.take (A.length-0+(List.drop 0<|List.take 1 [y]).length)<|List.drop 0 (List.take A.length A)++List.drop 0 (List.take 1 [y]))=A++[y]:=by
 grind
theorem yT(P:af)(hP:P.Fits)(tok st:Int):ao aj 14 [b7 P,aa tok,aa st] (.aJ [mS (P.exM tok st)<|P.cu tok st,aF<|P.exW tok st,aa<|P.c7 tok st]):=by
 refine bS fZ ?_;have bad:∀{H:aE} (e:Int),e≠0->P.c7 tok st=e->P.exW tok st=[]->Deep H (.aJ [.agg [au,au],au,aa e]) (.aJ [mS (P.exM tok st)<|P.cu tok st,aF<|P.exW tok st,aa<|P.c7 tok st]):=λe h1 h2 h3=>by
  unfold af.exM af.cu;rw[h2,ab h1,ab h1,h3];exact .aJ _ _ (.cons _ _ _ _ (.agg _ _ (.cons _ _ _ _ (.none _) (.cons _ _ _ _ (.none _) .nil))) (.cons _ _ _ _ (.none _)<|mE _))
 unfold b7 af.cells;refine sR ?_;refine sC (J6 P hP) ?_;refine sS (λh1=>?_) λh1=>?_
 ·have h1:P.ew≠0:=sO;exact bad _ h1 (by unfold af.c7;rw[ae h1])<|by unfold af.exW;rw[ae (.inl h1)]
 have h1:P.ew=0:=sO
 have bad1:∀{H:aE},af.rF tok st->Deep H (.aJ [.agg [au,au],au,aa 1]) (.aJ [mS (P.exM tok st)<|P.cu tok st,aF<|P.exW tok st,aa<|P.c7 tok st]):=λh =>
  bad 1 zc (by unfold af.c7;rw[ab zo,ae h]) (by unfold af.exW;rw[ae (.inr (.inl h))])
 refine sS (λh2=>?_) λh2=>?_
 ·refine sW ?_;exact bad1<|by unfold af.rF;exact sO
 refine sS (λh3=>?_) λh3=>?_
 ·refine sW ?_;exact bad1<|by unfold af.rF;exact sO
 refine sS (λh4=>?_) λh4=>?_
 ·refine sW ?_;exact bad1<|by unfold af.rF;exact sO
 refine sS (λh5=>?_) λh5=>?_
 ·exact bad1<|by unfold af.rF;exact sO
 clear bad1;obtain⟨s,rfl⟩:∃s:Nat,st=s:=⟨st.toNat,sO⟩;have g2:1<=tok:=sO;have g3:tok<=9:=sO;have g4:1<=s:=sO;have g5:s<=200:=sO;have DW:¬af.rF tok s:=by unfold af.rF;omega
 have e1:P.c7 tok s=(P.fp tok s).e:=by unfold af.c7;rw[ab zo,ab DW,bO]
 have eW:P.exW tok s=if (P.fp tok s).e=0 then [] else rtC (P.fp tok s).aN (P.fp tok s).last:=by
  unfold af.exW;rw[bO];by_cases q:(P.fp tok s).e=0
  ·rw[ae (.inr (.inr q)),ae q]
  rw[ab λw=>w.elim (λq1=>q1 h1) λw=>w.elim (λq1=>DW q1) λq1=>q q1,ab q]
 have eM:P.exM tok s=if (P.fp tok s).e=0 then (P.fp tok s).marks else []:=by unfold af.exM;rw[e1,bO]
 have eN:P.cu tok s=if (P.fp tok s).e=0 then (P.fp tok s).next else []:=by unfold af.cu;rw[e1,bO]
 rw[e1,eW,eM,eN];clear bad e1 eW eM eN h2 h3 h4 h5 DW;obtain⟨h0,_,xo⟩:=af.kB h1;have pA:=(jo h0).2;refine sC (zs2 P hP h1) ?_;have eF:P.fp tok s=P.lZ tok s 201 0 [P.kr] [(-1,-1)] [] (-1,-1):=rfl;generalize P.fp tok s=F at eF;have Kc:=af.Sp.start h1 (tok:=tok) g4;generalize hBg:P.kr=M0 at eF Kc
 refine bQ (aL 4 (H':=[.row true [.aM 2<|P.nodes.map jj,.aM 2<|P.aH.map lL],.row true [au,au],.vec true 0 1<|fj [M0],.vec true 0 1<|fj [[]]])
  (env':=[(1,aa tok),(2,aa s),(3,.loc 0 0),(6,.loc 1 0),(9,jx P.aR),(10,.own 2 0 0 1),(11,.own 3 0 0 1),(12,aa 0)]) zs rfl ?_ ?_) ?_
 ·exact sQ
 ·have hpu:=bI (m:=4) _<|N6 P;exact⟨⟨rfl,.refl _,hpu⟩,⟨rfl,.refl _,zu⟩,⟨rfl,rfl,rfl,.refl _,zs⟩,⟨rfl,rfl,rfl,.cons _ _ _ _ (.cons _ _ _ _ (.none _) (.refl _)) (.refl _),zs⟩,trivial⟩
 refine bQ (gG 1 1 1 zs rfl rfl) ?_
 refine bb [1,2,3,6,9] (λ((mk,og,wy,nx,la,c,n):ak×List cd×ak×List (List aZ)×cd×Nat×Nat)=>[(10,.own 2 c 0<|c+1),(11,.own 3 c 0<|c+1),(12,aa n)])
  (λ(mk,og,wy,nx,la,c,n)=>[(1,.row true [au,.own 4 n 0 n]),(2,.vec true c 1<|fj mk),(3,.vec true c 1<|fj wy),(4,.vec true n 1<|jR nx)])
  (λ(mk,og,wy,nx,la,c,n)=>n<=c+1/\mk.length=c+1/\af.Sp P tok s mk og/\GX og wy/\nx.length=n/\P.lZ tok s (201-n) n mk og nx la=F) (λ(mk,og,wy,nx,la,c,n)=>201-n) ([M0],[(-1,-1)],[[]],[],(-1,-1),0,0) ?_
 refine sW ?_;refine⟨⟨zo,rfl,Kc,⟨rfl,λi hi=>?_⟩,rfl,eF.symm⟩,by exact sK,rfl,?_⟩
 ·have:i=0:=by simp at hi;exact hi
  subst this;rfl
 rintro⟨mk,og,wy,nx,la,c,n⟩ ⟨hn,qt,hS,hW,gR,hF⟩;have hr:=hS.room;have oZ:=hS.len;obtain⟨f,ef⟩:∃f,201-n=f+1:=⟨200-n,zo⟩;rw[ef] at hF;simp only[af.lZ] at hF;refine bf (λh2=>?_) λh2=>?_
 ·have du:n<mk.length:=sO;rw[ae du] at hF;refine sB ?_;refine⟨_,Dd (k:=n) zo du,?_⟩;refine sW ?_;have mD:=hS.fC _<|af.rB du;have az:=af.Hx (tok:=tok) (st:=s) (n:=n) mD (P.eZ<|mk.getD n []) mk og [] la (λ_ h=>h) hS du;have WY:=P.NJ<|mk.getD n [];generalize hM:mk.getD n []=M at hF mD az WY;have eM:P.lI M=0:=(by unfold af.lI;rw[ab zo,ae mD]);refine sC (zoG P hP M eM) ?_;generalize hR:P.ij tok s n M (P.eZ M) mk og [] la=R at hF az;generalize hL:P.eZ M=L at hR WY;refine bQ (eo 14 2 zs rfl) ?_
  refine bb [1,2,3,6,9,12,13] (λ((mk,og,wy,cur,la,c,i):ak×List cd×ak×List aZ×cd×Nat×Nat)=>[(10,.own 2 c 0<|c+1),(11,.own 3 c 0<|c+1),(14,.own 5 i 0 i),(15,aa i)])
   (λ(mk,og,wy,cur,la,c,i)=>[(2,.vec true c 1<|fj mk),(3,.vec true c 1<|fj wy),(5,.vec true i 2<|iy cur)])
   (λ(mk,og,wy,cur,la,c,i)=>i<=L.length/\n<mk.length/\mk.length=c+1/\mk.getD n []=M/\af.Sp P tok s mk og/\GX og wy/\cur.length=i/\P.ij tok s n M (L.drop i) mk og cur la=R) (λ(mk,og,wy,cur,la,c,i)=>L.length-i) (mk,og,wy,[],la,c,0) ?_
  refine sW ?_;refine⟨⟨zo,du,qt,hM,hS,hW,rfl,hR⟩,by exact sK,rfl,?_⟩;rintro⟨mk',vr,El,cur,Sr,c',i⟩ ⟨hi,ss,Qe,DK,lQ,Ba,hc,nC⟩;have xl:=lQ.room;have zLt:=lQ.len;have xX:=Ba.1;refine ck ?_;rw[aI];refine sS (λh3=>?_) λh3=>?_
  ·have aT:i<L.length:=sO;rw[af.Yu aT,af.EM] at nC;have mb:L.getD i 0∈P.eZ M:=(by rw[hL];exact df aT);refine sB ?_;refine⟨_,Dd (L:=El) (k:=n) zo zo,?_⟩;refine sW ?_;have R9:=Ba.2 n zo;have SD:=zyq vr<|vr.getD n (0,0);have hbn:=lQ.bk.at (i:=n) zo;rw[<-R9] at SD;have yz:=Wr lQ.bk (a:=(n:Int)) (k:=L.getD i 0) zo zo;have KV:=Ba.put lQ.bk (n:=(n:Int)) (k:=L.getD i 0) zo zo;rw[bO,<-R9] at yz;rw[bO] at KV;generalize El.getD n []=wn at SD yz KV;refine sJ ?_;refine sL (bV (l:=L) (k:=i) zo aT) ?_;refine sJ ?_;refine sB ?_;refine⟨_,Dd (L:=mk') (k:=n) zo ss,?_⟩;refine sW ?_;rw[DK];refine sL (bV (l:=L) (k:=i) zo aT) ?_;generalize mI:L.getD i 0=x at nC mb yz KV;obtain⟨_,x0,x1,xm⟩:=af.Jp mb;obtain⟨fe,fl⟩:=af.Xw mb;have Mq:=af.fo mD;have uM:=af.yW h1 x1;refine sL (uZ (k:=x.toNat) zo x1) ?_;have LH:=Zy P hP h0 M Mq _ uM;rw[<-fe,<-fl] at LH;refine sC LH ?_;have fin:∀{H:aE} {w:D} (e:Int),e≠0->(⟨e,mk',vr,cur,((n:Int),x)⟩:SpR)=R->Deep H w (aF<|wn++[x])->Deep H (.aJ [.agg [au,au],w,aa e]) (.aJ [mS (if F.e=0 then F.marks else [])<|if F.e=0 then F.next else [],aF<|if F.e=0 then [] else rtC F.aN F.last,aa F.e]):=λe q1 q2 q3=>by
    rw[<-q2] at hF;dsimp only at hF;rw[ae q1] at hF;rw[<-hF];dsimp only;rw[ab q1,ab q1,ab q1,yz];exact .aJ _ _ (.cons _ _ _ _ (.agg _ _ (.cons _ _ _ _ (.none _) (.cons _ _ _ _ (.none _) .nil))) (.cons _ _ _ _ q3<|mE _))
   refine sS (λh4=>?_) λh4=>?_
   ·have h4:P.nO M x≠0:=sO;rw[ae h4] at nC;exact fin _ h4 nC (.own _ _ _ _ _ _ _ _ rfl (OC<|by rw[Ju];simp))
   have h4:P.nO M x=0:=sO;rw[ab λq=>q h4] at nC;have B6:=af.Mu mD mb h4;clear LH fe fl;generalize P.gJ M x=m at nC B6;have OJ:=(af.fo B6).len;refine bb [1,2,3,6,9,10,11,12,13,14,15,16,17] (λf:Nat=>[(19,aa f)]) (λ_=>[]) (λf=>f<=m.length/\∀j,j<f->¬m.getD j 0>tok) (λf=>m.length-f) 0 ?_;refine sW ?_;refine⟨⟨zo,λj hj=>zo⟩,by exact sK,rfl,?_⟩;rintro f ⟨hf,cg⟩;refine ck ?_;rw[aI];refine sS (λh5=>?_) λh5=>?_
   ·have EC:f<m.length:=sO;refine sL (bV (l:=m) (k:=f) zo EC) ?_;refine sS (λh6=>?_) λh6=>?_
    ·have h6:m.getD f 0>tok:=sO;have e7:jM mk' m tok s=7:=(by unfold jM;rw[ae<|zqf EC h6]);rw[e7,ae zc] at nC;exact fin 7 zc nC (.own _ _ _ _ _ _ _ _ rfl (OC<|by rw[Ju];simp))
    have h6:¬m.getD f 0>tok:=sO;refine sI ?_;refine⟨f+1,⟨zo,λj hj=>?_⟩,zd,aC (by exact sK) rfl⟩;by_cases e:j=f
    ·subst e;exact h6
    exact cg j zo
   have hov:uF m tok=false:=zm9 λj hj=>cg j<|sO;clear h5 cg hf;have eE:jM mk' m tok s=if m∈mk' then 0 else if mk'.length=s then 8 else 0:=by unfold jM;rw[hov];rfl
   refine bb [1,2,3,6,9,10,11,12,13,14,15,16,17] (λa:Nat=>[(20,aa a)]) (λ_=>[]) (λa=>a<=mk'.length/\∀j,j<a->mk'.getD j []≠m) (λa=>mk'.length-a) 0 ?_;refine sW ?_;refine⟨⟨zo,λj hj=>zo⟩,by exact sK,rfl,?_⟩;rintro a ⟨ha,cg⟩;refine bf (λh5=>?_) λh5=>?_
   ·have fq:a<mk'.length:=sO;refine sB ?_;refine⟨_,Dd (L:=mk') (k:=a) zo fq,?_⟩;refine sW ?_;have Tj:=(af.fo<|lQ.fC _<|af.rB fq).len;refine sC (ztM (mk'.getD a []) m zo) ?_;by_cases h6:mk'.getD a []=m
    ·rw[gQ h6];refine sW ?_;have hb:((a:Int)==((c'+1-0:Nat):Int))=false:=(by simp;omega);rw[hb];refine sW ?_;have gE:m∈mk':=h6▸af.rB fq;have e0:jM mk' m tok s=0:=(by rw[eE,ae gE]);have eM1:jh mk' m tok s=mk':=(by unfold jh;rw[ab λq=>q.2 gE]);have eG1:lE mk' vr m tok s ((n:Int),x)=vr:=(by unfold lE;rw[ab λq=>q.2 gE]);have eI1:mf mk' m tok s=(a:Int):=(by unfold mf;rw[ae e0,eM1,zpM lQ.one fq h6]);rw[ab λq=>q e0,eM1,eG1,eI1] at nC;refine sL (bV (l:=L) (k:=i) zo aT) ?_;rw[mI];refine ee ?_;refine⟨(mk',vr,El,cur++[(x,(a:Int))],((n:Int),x),c',i+1),⟨zo,ss,Qe,DK,lQ,Ba,by simp[hc],nC⟩,zd,?_⟩;refine aL 6 zs rfl sQ (sU ?_);exact aV<|AH hc.symm
    rw[gI h6];refine aQ ?_;refine⟨a+1,⟨zo,λj hj=>?_⟩,zd,aC (by exact sK) rfl⟩;by_cases e:j=a
    ·subst e;exact h6
    exact cg j zo
   have fq:a=mk'.length:=by have:¬a<mk'.length:=sO
                            omega
   subst fq;have gE:¬m∈mk':=zB0 cg;refine sW ?_;have hb:((mk'.length:Int)==((c'+1-0:Nat):Int))=true:=(by simp;omega);rw[hb];refine sWS (λh6=>?_) λh6=>?_
   ·have h6:mk'.length=s:=sO;have e8:jM mk' m tok s=8:=(by rw[eE,ab gE,ae h6]);rw[e8,ae zc] at nC;exact fin 8 zc nC (.own _ _ _ _ _ _ _ _ rfl (OC<|by rw[Ju];simp))
   have h6:mk'.length≠s:=sO;have e0:jM mk' m tok s=0:=(by rw[eE,ab gE,ab h6]);have eM1:jh mk' m tok s=mk'++[m]:=(by unfold jh;rw[ae ⟨e0,gE⟩]);have eG1:lE mk' vr m tok s ((n:Int),x)=vr++[((n:Int),x)]:=(by unfold lE;rw[ae ⟨e0,gE⟩]);have eI1:mf mk' m tok s=(mk'.length:Int):=by
    unfold mf;rw[ae e0,eM1]
    congr 1
    unfold qM;rw[List.idxOf_append,ab gE];simp
   have xe:=lQ.put B6 (a:=(n:Int)) (k:=x) zo zo;rw[eM1,eG1] at xe;rw[ab λq=>q e0,eM1,eG1,eI1] at nC;refine sJ ?_;refine sJ ?_;refine sL (bV (l:=L) (k:=i) zo aT) ?_;rw[mI];refine ee ?_;refine⟨(mk'++[m],vr++[((n:Int),x)],El++[wn++[x]],cur++[(x,(mk'.length:Int))],((n:Int),x),c'+1,i+1),⟨zo,zq,by simp[Qe],?_,xe,KV,by simp[hc],nC⟩,zd,?_⟩
   ·rw[a8,iz ss,<-a8];exact DK
   (refine aL 6 zs rfl ?_ ?_<;>(repeat' (first|exact trivial|exact rfl|exact .refl _|refine And.intro ?_ ?_|(simp[aK,aG,bB,-List.map_take,-List.map_drop];done))))
   ·exact aV<|HB zo
   ·rw[<-HB (L:=El) (c:=c'+1) (x:=wn++[x]) zo];exact .append _ _ _ _ (.refl _) (.cons _ _ _ _ (.cons _ _ _ _ (.own _ _ _ _ _ _ _ _ rfl rfl (aV<|by rw[Ju];simp)) (.refl _)) (.refl _))
   exact aV<|AH hc.symm
  have aT:i=L.length:=by have:¬i<L.length:=sO
                         omega
  subst aT;rw[um] at nC;have zIQ:R=⟨0,mk',vr,cur,Sr⟩:=nC.symm;subst zIQ;dsimp only at hF;rw[ab λq=>q rfl] at hF;refine ee ?_;refine⟨(mk',vr,El,nx++[cur],Sr,c',n+1),⟨zo,Qe,lQ,Ba,by simp[gR],by rw[show 201-(n+1)=f by omega];exact hF⟩,zd,?_⟩;refine aL 5 zs rfl sQ (sU ?_);rw[<-U' (L:=nx) (c:=n) (l:=cur) gR.symm];refine .append _ _ _ _ (.refl _) (.cons _ _ _ _ (.cons _ _ _ _ (.own _ _ _ _ _ _ _ _ rfl rfl (aV ?_)) (.refl _)) (.refl _));rw[cB zq]
 have du:¬n<mk.length:=sO;rw[ab du] at hF;rw[<-hF];dsimp only;rw[ae rfl,ae rfl,ae rfl];exact .aJ _ _ (.cons _ _ _ _ (.agg _ _ (.cons _ _ _ _ (Se qt.symm rfl) (.cons _ _ _ _ (Zg gR.symm rfl) .nil))) (.cons _ _ _ _ (.none _)<|mE _))
end
section
theorem zz7{L:List<|List aZ}{z k:Nat}(hz:z=k)(h:k<L.length):(jR L)[z]? = some [mo L[k]]:=by
 subst hz;unfold jR
 grind
namespace af
theorem RU{P:af}{tok:Int}{st n:Nat}{M:ah}:∀(L:ah) (marks:ak) (aN:List cd) (cur:List aZ) (last:cd),(P.ij tok st n M L marks aN cur last).cur.length<=cur.length+L.length
 |[],_,_,_,_=>by simp[ij]
 |k::r,marks,aN,cur,last=>by
  rw[EM];split
  ·simp
  split
  ·simp
  have:=RU (P:=P) (tok:=tok) (st:=st) (n:=n) (M:=M) r (jh marks (P.gJ M k) tok st) (lE marks aN (P.gJ M k) tok st ((n:Int),k)) (cur++[(k,mf marks (P.gJ M k) tok st)]) ((n:Int),k);simp at this⊢;omega
theorem Sk{P:af}{tok:Int}{st:Nat}:∀(f n:Nat) (marks:ak) (aN:List cd) (next:List<|List aZ) (last:cd),(∀x∈next,x.length<=P.aR.length) ->
  (∀x∈(P.lZ tok st f n marks aN next last).next,x.length<=P.aR.length)/\(P.lZ tok st f n marks aN next last).next.length<=next.length+f
 |0,_,_,_,next,_,h=>⟨h,aS _⟩
 |f+1,n,marks,aN,next,last,h=>by
  simp only[lZ];split
  ·split
   ·exact⟨h,zs⟩
   have hl:=RU (P:=P) (tok:=tok) (st:=st) (n:=n) (M:=marks.getD n []) (P.eZ<|marks.getD n []) marks aN [] last;have he:=P.NJ<|marks.getD n [];generalize P.ij tok st n (marks.getD n []) (P.eZ<|marks.getD n []) marks aN [] last=R at hl;obtain⟨g1,g2⟩:=Sk (P:=P) (tok:=tok) (st:=st) f (n+1) R.marks R.aN (next++[R.cur]) R.last λx hx=>by
    rcases dz.1 hx with hx|hx
    ·exact h x hx
    rw[cV] at hx;subst hx;exact jI hl<|by rw[fy,lp];exact he
   refine⟨g1,?_⟩;rw[cL,lb] at g2;omega
  exact⟨h,zs⟩
end af
end
variable{z:Nat}
theorem ru{L:List<|List aZ}{k:Nat}(hz:z=k)(h:k<L.length):(jR L)[z]? = some [mo<|L.getD k []]:=by
 rw[zz7 hz h,a8,aX h];rfl
def lh(M:ak)(N:List<|List aZ):bj:=[bN M,.aM 1<|jR N]
structure B5(P:af)(M:ak)(N:List<|List aZ):Prop where
 sp:SpN M N P.aR.length
 steps:P.ew=0
def wq(L:List bP)(l:List aZ)(s:aq):Nat->Nat->Bool
 |0=>s
 |k+1=>mark (wq L l s k) (L.getD (l.getD k (0,0)).1.toNat (0,0,0)).1.toNat
def mz(L:List bP)(N:List<|List aZ):Nat->Nat->Bool
 |0=>λ_=>false
 |n+1=>wq L (N.getD n []) (mz L N n) (N.getD n []).length
def nA(P:af)(s:aq):Nat->ah
 |0=>[]
 |k+1=>if s k=false/\P.kind k≠1 then nA P s k++[(k:Int)] else nA P s k
noncomputable def xu(P:af)(N:List<|List aZ):ah:=nA P (mz P.aR N N.length) P.nodes.length
theorem PK(P:af)(s:aq):∀k,(nA P s k).length<=k
 |0=>by simp[nA]
 |k+1=>by
  have:=PK P s k;simp only[nA];split<;>simp<;>omega
section
def ld(m:ah):Bool:=!(m.any λx=>decide (x>0))
def se(N:List<|List aZ)(i:Nat):ah:=(N.getD i []).map λx=>x.2
@[simp] theorem SR(N:List<|List aZ)(i:Nat):(se N i).length=(N.getD i []).length:=by simp[se]
variable{N:List<|List aZ}{k:Nat}
theorem zys{i:Nat}(h:k<(N.getD i []).length):(se N i).getD k 0=((N.getD i []).getD k (0,0)).2:=by
 unfold se
 grind
def xz(N:List<|List aZ)(n k i:Nat):ah:=if i<n then se N i else if i=n then (se N i).take k else []
def gTo(N:List<|List aZ)(n k:Nat):ak:=(List.range N.length).map<|xz N n k
@[simp] theorem Y7(N:List<|List aZ)(n k:Nat):(gTo N n k).length=N.length:=by simp[gTo]
variable{n:Nat}
theorem Ga{i:Nat}(h:i<N.length):(gTo N n k)[i]? = some (xz N n k i):=by
 simp[gTo,fx,xK h]
theorem V8(h:n<N.length):(gTo N n k).getD n []=(se N n).take k:=by
 rw[a8,Ga h];simp[xz]
theorem zyz{n' k':Nat}(h:∀i,i<N.length->xz N n k i=xz N n' k' i):gTo N n k=gTo N n' k':=by
 unfold gTo;exact vj λi hi=>h i<|jz.1 hi
theorem VW(h:n<N.length)(hk:k<(N.getD n []).length):(gTo N n k).set n ((se N n).take k++[((N.getD n []).getD k (0,0)).2])=gTo N n (k+1):=by
 apply pS;intro i;by_cases hi:i<N.length
 ·rw[Ga hi];by_cases e:i=n
  ·subst e;rw[EP<|by simpa using hi];unfold xz;rw[ab zo,ae rfl,jP,aX<|by simpa using hk,<-zys hk,a8,aX<|by simpa using hk];rfl
  rw[DS λq=>e q.symm,Ga hi];unfold xz;repeat grind
 rw[dG zq,dG zq]
variable(N:List<|List aZ)
theorem W9:gTo N 0 0=List.replicate N.length []:=by
 apply pS;intro i;by_cases hi:i<N.length
 ·rw[Ga hi,vi,ae hi];unfold xz
  grind
 rw[dG zq,dG zq]
theorem Vb(n:Nat):gTo N n (N.getD n []).length=gTo N (n+1) 0:=zyz λi _=>by
 unfold xz;by_cases q:i<n
 ·rw[ae q,ae zo]
 rw[ab q];by_cases e:i=n
 ·subst e;rw[ae rfl,ae zo,fG zs]
 rw[ab e,ab zo];split<;>simp
theorem VT:gTo N N.length 0=gN N:=by
 apply pS;intro i;by_cases hi:i<N.length
 ·rw[Ga hi];unfold xz gN se
  grind
 rw[dG zq,dG zq]
variable(M:ak)
theorem Tb(N:List<|List aZ)(hN:N.length<=100000)(hr:∀i,(N.getD i []).length<=100000):ao aj 29 [mS M N]<|bN<|gN N:=by
 refine bt ?_;rw[D'];refine⟨zo,zo,zo,?_⟩;rw[bO];refine sW ?_;rw[D'];refine bQ (yX 1 1 N.length 0 zs rfl) ?_;refine cq [3,13,14] (λn:Nat=>[(15,aa n)]) (λn=>.row true (lh M N)::.vec true 0 1 (iT 2<|gTo N n 0)::eu 1 pg (gTo N n 0)) (λn=>n<=N.length) (λn=>N.length-n) 0 ?_;refine sW ?_;refine⟨zo,by exact sK,?_,?_⟩
 ·show _::_::_=_::_::_;rw[xL 1 _ pg,W9];exact bH (λx=>al.row true (lh M N)::al.vec true 0 1 x::_)<|x' (α:=Int) 2 _
 rintro n l8;refine bf (λh1=>?_) λh1=>?_
 ·have du:n<N.length:=sO;refine sL (ru (k:=n) zo du) ?_;rw[oz];have lx:=hr n;refine cq [3,4,13,14,15,20,21] (λk:Nat=>[(22,aa k)]) (λk=>.row true (lh M N)::.vec true 0 1 (iT 2<|gTo N n k)::eu 1 pg (gTo N n k)) (λk=>k<=(N.getD n []).length) (λk=>(N.getD n []).length-k) 0 ?_;refine dd ?_;rintro k hk;have lG:=Y7 N n k;refine bf (λh2=>?_) λh2=>?_
  ·have ai:k<(N.getD n []).length:=sO;have js:=VW du ai;have cR:=V8 (k:=k) du;have lrow:((se N n).take k).length=k:=(by rw[fg,SR];omega);refine sL (lu (k:=k) zo ai) ?_;generalize ((N.getD n []).getD k (0,0))=e at js;refine wo ?_;refine sW ?_;refine sY ?_;refine sB ?_;refine⟨_,kW (i:=n) zo zo,?_⟩;refine sW ?_;refine sY ?_;refine JK ?_;refine sW ?_;refine sY ?_;refine u4 zo ?_;refine sW ?_;rw[cR];refine⟨by unfold iF;simp only[lD,fg,dC,fy];omega,?_⟩;refine sW ?_;refine xg ((se N n).take k++[e.2]) zo ?_ ?_
   ·exact uK
   refine bC ?_;refine⟨_,kW (i:=n) zo zo,?_⟩;refine aQ ?_;refine⟨k+1,zo,zd,?_⟩;dsimp only;rw[<-js];refine aL (N.length+2) zs zs (by exact sQ) ⟨⟨rfl,.refl _,by simp[lh,aG,aK]⟩,⟨rfl,rfl,rfl,aV ?_,vf zq⟩,vG I7⟩;exact vT zo zo _ zs
  have ai:k=(N.getD n []).length:=by have:¬k<(N.getD n []).length:=sO
                                     omega
  subst ai;refine sI ?_;refine⟨n+1,zo,zd,?_⟩;rw[Vb];exact aC (by exact sK) rfl
 have du:n=N.length:=by have:¬n<N.length:=sO
                        omega
 subst du;rw[VT];have:=Vi (H:=al.row true (lh M N)::al.vec true 0 1 (iT 2<|gN N)::eu 1 pg (gN N)) (b:=2) (an:=1) (c:=pg) (L:=gN N) (λi hi=>by
  rw[B0,B0];exact vP hi)
 refine .own _ _ _ _ _ _ _ _ rfl ?_;rw[cB zs];exact this
theorem ztY(x:Int):ao aj 67 [aa x]<|ay<|decide (x>0):=by
 refine bt ?_;exact .refl _
theorem zw8(m:ah)(hm:m.length<=100000):ao aj 27 [aF m]<|ay<|ld m:=by
 refine bt ?_;refine sC (mh (λn=>aa n) (λ_=>by simp[Pure]) m zo (λx=>decide (x>0)) 67 [] zp λa _=>ztY a) ?_;exact .refl _
theorem zwu(M:ak)(N:List<|List aZ)(dk:ah)(hw:dk.length<=100000)(hr:∀i,(N.getD i []).length<=100000)(hn:∀k,k<dk.length->0<=dk.getD k 0/\dk.getD k 0<(N.length:Int))
  (he:∀i,i+1<dk.length->dk.getD (i+1) 0∈(gN N).getD (dk.getD i 0).toNat []):ao aj 74 [mS M N,aF dk]<|aF<|CD N dk:=by
 refine bt ?_;refine bQ (eo 5 1 zs rfl) ?_;refine bb [1,2] (λ((k,c,l):Nat×Nat×ah)=>[(5,.own 1 c 0 c),(6,aa<|(k:Int)+1)]) (λ(k,c,l)=>[(1,.vec true c 1<|aw l)]) (λ(k,c,l)=>k<=dk.length-1/\c=l.length/\c=k/\l=ur N dk k) (λ(k,c,l)=>dk.length-k) (0,0,[]) ?_;refine sW ?_;refine⟨⟨zo,rfl,zo,rfl⟩,by exact sK,rfl,?_⟩;rintro⟨k,c,l⟩ ⟨hk,hc,lH,hl⟩;refine ck ?_;rw[aI];refine sS (λh1=>?_) λh1=>?_
 ·have ai:k+1<dk.length:=sO;have qo:=hn k zo;have ss:=hn (k+1) ai;have gE:=he k ai;have eA:ur N dk (k+1)=ur N dk k++[C9 (N.getD (dk.getD k 0).toNat [])<|dk.getD (k+1) 0]:=rfl;have sh:=bV (l:=dk) (z:=k) (k:=k) rfl zo;have He:=bV (l:=dk) (z:=k+1) (k:=k+1) rfl ai;generalize dk.getD k 0=a at qo gE eA sh;generalize dk.getD (k+1) 0=b at ss gE eA He;rw[Qg] at gE;have lx:=hr a.toNat;refine sI ?_;refine sL ((by rw[show((k:Int)+1-1).toNat=k by omega];exact sh)) ?_;refine sL (ru (k:=a.toNat) zo zo) ?_;rw[oz];generalize N.getD a.toNat []=es at gE eA lx;refine bb [1,2,6,23,24] (λj:Nat=>[(5,.own 1 c 0 c),(25,aa j)]) (λ_=>[(1,.vec true c 1<|aw l)]) (λj=>j<=es.length/\∀q,q<j->(es.getD q (0,0)).2≠b) (λj=>es.length-j) 0 ?_;refine sW ?_;refine⟨⟨zo,λq hq=>zo⟩,by exact sK,rfl,?_⟩;rintro j ⟨hj,cg⟩;refine bf (λh2=>?_) λh2=>?_
  ·have de:j<es.length:=sO;refine sL (lu (k:=j) zo de) ?_;have FN:=λh=>Wc (l:=es) (t:=b) de h cg;have EW:(es.getD j (0,0)).2≠b->∀q,q<j+1->(es.getD q (0,0)).2≠b:=λh q hq=>by
    by_cases e:q=j
    ·subst e;exact h
    exact cg q zo
   generalize es.getD j (0,0)=e at FN EW;refine sL ((by rw[show((k:Int)+1).toNat=k+1 by omega];exact He)) ?_;refine sS (λh3=>?_) λh3=>?_
   ·have h3:e.2=b:=sO;refine ee ?_;rw[FN h3] at eA;refine⟨(k+1,c+1,l++[e.1]),⟨zo,by simp[hc],zo,by rw[eA,hl]⟩,zd,?_⟩;refine aL 2 zs rfl sQ (sU ?_);exact aV<|kJ hc
   have h3:e.2≠b:=sO;refine sI ?_;refine⟨j+1,⟨zo,EW h3⟩,zd,?_⟩;exact aL 2 zs rfl sQ sQ
  exfalso
  have de:j=es.length:=by have:¬j<es.length:=sO
                          omega
  obtain⟨x,hx,Qu⟩:=dq.1 gE;obtain⟨q,hq,rfl⟩:=iD.1 hx;refine cg q zo ?_;rw[a8,aX hq];exact Qu
 have ai:k=dk.length-1:=by have:¬k+1<dk.length:=sO
                           omega
 subst ai;unfold CD;rw[<-hl];exact .own _ _ _ _ _ _ _ _ rfl (by rw[dP,fG zq];exact gw _)
theorem zwz{p:aq}:dN (λa=>true==a) ((List.range n).map p)=gm p n n:=by
 rcases IF (p:=p) (n:=n) n<|aS _ with⟨h1,h2⟩|⟨k,h1,h2,h3,h4,h5⟩
 ·rw[h1];exact Av λj hj=>by
   grind
 rw[h1];exact xd (by simpa using h3) (by simp[h4]) λj hj=>by
  grind
noncomputable def ly(N:List<|List aZ)(to:Int):ah:=if to<0 then [] else CD N<|pZ (gN N) [0] λi=>decide ((i:Int)=to)
theorem zBm{g:ak}{c:Nat}(h:∀i,(g.getD i []).length<=c):qU g (λ_=>false)<=g.length*c:=by
 have:=Mk (f:=λv=>if false=true then 0 else (g.getD v []).length) (c:=c) g.length λj _=>by
  grind
 exact this
theorem Y2{to:Int}(hz:(z:Int)=to):(bF n λ_=>false).set (0+to.toNat) [ay true]=bF n λi=>decide ((i:Int)=to):=by
 rw[show 0+to.toNat=z by omega,oI];repeat grind
theorem Yh(N:List<|List aZ)(s:Nat)(hS:SpN M N s)(is_:aq):ao aj 32 [mS M N,bx M.length is_] (.aJ [aa<|gm is_ M.length M.length,aF<|ly N<|gm is_ M.length M.length]):=by
 have hf:=hS.few;have hp:=hS.pos;have hl:=hS.len;obtain⟨g1,g2⟩:=hS.graph;have hI:=N8 ((List.range M.length).map is_) zq true;rw[<-NR,zwz] at hI;have hG:=Tb M N zo (λi=>by have:=hS.rowAt i;omega);have iW:gm is_ M.length M.length=-1\/∃k:Nat,gm is_ M.length M.length=(k:Int)/\k<M.length:=by
  rcases IF (p:=is_) (n:=M.length) M.length<|aS _ with⟨h1,_⟩|⟨k,h1,_,h3,_⟩
  ·exact .inl h1
  exact .inr ⟨k,h1,h3⟩
 generalize gm is_ M.length M.length=f at hI iW;refine bt ?_;refine sC hI ?_;refine sS (λh1=>?_) λh1=>?_
 ·have h1:f<0:=sO;have:f=-1:=zo;subst this;exact .aJ _ _ (.cons _ _ _ _ (.refl _) (.cons _ _ _ _ (by unfold ly;rw[ae zo];exact .none _) .nil))
 have h1:¬f<0:=sO;obtain⟨k,hk,Hn⟩:=iW.resolve_left zo;rw[Ep];refine⟨zo,zo,zo,?_⟩;rw[bO,show List.map D.sc [Value.bool false]=[ay false] from rfl,jS];refine bC ?_;refine⟨_,bc k zo Hn,?_⟩;refine sW ?_;rw[Y2 hk.symm];refine sC hG ?_;have gp:∀i,(gN N).length<=i->(λi:Nat=>decide ((i:Int)=f)) i=false:=λi hi=>gI (by rw[oU] at hi;omega);have h0:bq [0] (gN N).length=true:=iS λx hx=>by rw[cV] at hx;subst hx;rw[oU];omega
 have hW:=zyj (gN N) g1 g2 [0] h0 zs _ gp;have aY:=(oP.1 g1).2;obtain⟨w1,w2,w3⟩:=Nk aY h0 (to:=λi:Nat=>decide ((i:Int)=f));have eL:ly N f=CD N (pZ (gN N) [0] λi=>decide ((i:Int)=f)):=by unfold ly;rw[ab h1]
 rw[eL];rw[show(gN N).length=M.length by rw[oU,hl]] at hW w2 w3;generalize (pZ (gN N) [0] λi=>decide ((i:Int)=f))=dk at hW w1 w2 w3;refine .inr (.inr (.inr (.inr (.inr (.inl ⟨rfl,_,_,.cons _ _ _ _ (.refl _) (.cons _ _ _ _ (.own _ _ _ _ _ _ _ _ rfl (gw _)) (.cons _ _ _ _ (qi rfl) .nil)),hW,?_⟩)))));refine sW ?_;refine sC (zwu M N dk zo (λi=>by have:=hS.rowAt i;omega) (λk hk=>by have:=w2 _<|df hk;omega) w1) ?_;exact .refl _
end
section
def lf(M:ak)(N:List<|List aZ)(i:Nat):Bool:=decide ((N.getD i []).length=0)&&!(ld<|M.getD i [])
def rP(M:ak):Nat->ah
 |0=>[]
 |k+1=>if ld (M.getD k [])=true then rP M k++[(k:Int)] else rP M k
theorem Wg(M:ak):∀k,(rP M k).length<=k
 |0=>by simp[rP]
 |k+1=>by
  have:=Wg M k;simp only[rP];split<;>simp<;>omega
theorem GM{M:ak}{x:Int}:∀{k:Nat},x∈rP M k↔0<=x/\x<(k:Int)/\ld (M.getD x.toNat [])=true
 |0=>by simp[rP];omega
 |k+1=>by
  have ih:=GM (M:=M) (x:=x) (k:=k);simp only[rP];split
  ·rename_i h;rw[dz,ih,cV];constructor
   ·rintro(⟨a,b,c⟩|rfl)
    ·exact⟨a,zo,c⟩
    exact⟨zo,zo,by rw[bO];exact h⟩
   rintro⟨a,b,c⟩;by_cases e:x=(k:Int)
   ·exact .inr e
   exact .inl ⟨a,zo,c⟩
  rename_i h;rw[ih];constructor
  ·rintro⟨a,b,c⟩;exact⟨a,zo,c⟩
  rintro⟨a,b,c⟩;refine⟨a,?_,c⟩;by_cases e:x=(k:Int)
  ·subst e;rw[bO] at c;exact absurd c h
  omega
noncomputable def lY(M:ak)(N:List<|List aZ)(i:Nat):Bool:=!(gL (dR (gN N) (gN N).length) (rP M M.length) i)
def BY(dead:ah)(still never:Int)(ts tn:ah):D:=.agg [aF dead,aa still,aa never,aF ts,aF tn]
noncomputable def findD(P:af)(M:ak)(N:List<|List aZ):D :=
 BY (xu P N) (gm (lf M N) M.length M.length) (gm (lY M N) M.length M.length) (ly N<|gm (lf M N) M.length M.length) (ly N<|gm (lY M N) M.length M.length)
@[simp] theorem R8(dead:ah)(still never:Int)(ts tn:ah):Pure<|BY dead still never ts tn:=by simp[BY,Pure,aA,cX]
variable(P:af)
theorem zy1(hP:P.Fits)(M:ak)(N:List<|List aZ)(hF:B5 P M N):ao aj 31 [b7 P,mS M N]<|aF<|xu P N:=by
 have hS:=hF.sp;have hf:=hS.few;have hl:=hS.len;have l8:P.nodes.length<=20:=(jo (af.kB hF.steps).1).1;refine bt ?_;refine sC (AQ P hP) ?_;rw[aI];refine⟨zo,zo,zo,?_⟩;rw[bO,show List.map D.sc [Value.bool false]=[ay false] from rfl,jS];refine sW ?_;rw[D'];refine bb [2,5,7,25,26] (λn:Nat=>[(27,aa n)]) (λn=>[(2,.vec true 0 1<|bF P.nodes.length<|mz P.aR N n)]) (λn=>n<=N.length) (λn=>N.length-n) 0 ?_;refine dd ?_;rintro n hn;refine bf (λh1=>?_) λh1=>?_
 ·have du:n<N.length:=sO;refine sL (ru (k:=n) zo du) ?_;have lx:=hS.rowAt n;have C5:=λk hk=>hS.FY (i:=n) (k:=k) hk;have eN:mz P.aR N (n+1)=wq P.aR (N.getD n []) (mz P.aR N n) (N.getD n []).length:=rfl;rw[oz];generalize N.getD n []=es at lx C5 eN;generalize mz P.aR N n=s0 at eN;refine bb [2,5,7,25,26,27,31,32] (λj:Nat=>[(33,aa j)]) (λj=>[(2,.vec true 0 1<|bF P.nodes.length<|wq P.aR es s0 j)]) (λj=>j<=es.length) (λj=>es.length-j) 0 ?_;refine dd ?_;rintro j hj;refine bf (λh2=>?_) λh2=>?_
  ·have de:j<es.length:=sO;have he:=C5 j de;have eR:wq P.aR es s0 (j+1)=mark (wq P.aR es s0 j) (P.aR.getD (es.getD j (0,0)).1.toNat (0,0,0)).1.toNat:=rfl;refine sL (lu (k:=j) zo de) ?_;generalize es.getD j (0,0)=e at he eR;have bW:=(af.yW hF.steps (k:=e.1.toNat) zo).node;refine sL (uZ (k:=e.1.toNat) zo zo) ?_;generalize P.aR.getD e.1.toNat (0,0,0)=st at bW eR;refine sB ?_;refine⟨_,bc st.1.toNat zo zo,?_⟩;refine aQ ?_;refine⟨j+1,zo,zd,?_⟩;rw[nV (v:=st.1.toNat) zo,<-eR];exact aL 3 zs rfl sQ sQ
  have de:j=es.length:=by have:¬j<es.length:=sO
                          omega
  subst de;refine sI ?_;rw[<-eN];exact⟨n+1,zo,zd,aC (by exact sK) rfl⟩
 have du:n=N.length:=by have:¬n<N.length:=sO
                        omega
 subst du;have eD:xu P N=nA P (mz P.aR N N.length) P.nodes.length:=rfl;generalize mz P.aR N N.length=s0 at eD;rw[ua];refine bQ (eo 12 1 zs rfl) ?_;refine bb [2,47,48] (λ((k,c,l):Nat×Nat×ah)=>[(12,.own 3 c 0 c),(49,aa k)]) (λ(k,c,l)=>[(3,.vec true c 1<|aw l)]) (λ(k,c,l)=>k<=P.nodes.length/\c=l.length/\c<=k/\l=nA P s0 k) (λ(k,c,l)=>P.nodes.length-k) (0,0,[]) ?_;refine sW ?_;refine⟨⟨zo,rfl,zo,rfl⟩,by exact sK,rfl,?_⟩;clear h1 hn;rintro⟨k,c,l⟩ ⟨hk,hc,lH,dO⟩;refine bf (λh1=>?_) λh1=>?_
 ·have ai:k<P.nodes.length:=sO;have eT:nA P s0 (k+1)=if s0 k=false/\P.kind k≠1 then nA P s0 k++[(k:Int)] else nA P s0 k:=rfl
  refine sB ?_;refine⟨_,bc k zo ai,?_⟩;refine sW ?_;cases hs:s0 k
  ·refine sW ?_;refine sL (jv P (k:=k) zo ai) ?_;refine sS (λh2=>?_) λh2=>?_
   ·have h2:P.kind k≠1:=sO;rw[ae ⟨hs,h2⟩] at eT;refine ee ?_;refine⟨(k+1,c+1,l++[(k:Int)]),⟨zo,by simp[hc],zo,by rw[eT,dO]⟩,zd,?_⟩;refine aL 4 zs rfl sQ (sU ?_);exact aV<|kJ hc
   have h2:P.kind k=1:=sO;rw[ab λq=>q.2 h2] at eT;refine sI ?_;refine⟨(k+1,c,l),⟨zo,hc,zo,by rw[eT,dO]⟩,zd,?_⟩;exact aL 4 zs rfl sQ sQ
  refine sW ?_;rw[ab λq=>by rw[hs] at q;cases q.1] at eT;refine sI ?_;refine⟨(k+1,c,l),⟨zo,hc,zo,by rw[eT,dO]⟩,zd,?_⟩;exact aL 4 zs rfl sQ sQ
 have ai:k=P.nodes.length:=by have:¬k<P.nodes.length:=sO
                              omega
 subst ai;rw[eD,<-dO];exact .own _ _ _ _ _ _ _ _ rfl (by rw[dP,fG zq];exact gw _)
theorem zp7{g:ak}(hg:l7 g=0)(zPm:g.length<=200):l7 (dR g g.length)=0/\iu (dR g g.length)/\qU (dR g g.length) (λ_=>false)<=100000:=by
 obtain⟨hn,aY⟩:=oP.1 hg;have hl:=qJ g g.length;have gE:∀v x,x∈(dR g g.length).getD v []->0<=x/\x<(g.length:Int):=λv x hx=>by
  obtain⟨k,hk,rfl,_⟩:=(zL (λv y hy=>by have:=cZ (ft aY v) hy;omega)<|aS _).1 hx;omega
 have row:∀l∈dR g g.length,∃u,l=(dR g g.length).getD u []:=λl hl=>by
  obtain⟨u,hu,rfl⟩:=iD.1 hl;exact⟨u,by rw[a8,aX hu];rfl⟩
 have qY:=zv g g.length;refine⟨oP.2 ⟨zo,λl h=>?_⟩,⟨zo,λl h=>?_⟩,?_⟩
 ·obtain⟨u,rfl⟩:=row l h;refine iS λx hx=>?_
  grind
 ·grind
 refine jI (zBm (c:=200) λi=>by have:=qY i;omega) ?_
 grind
theorem zwO(hP:P.Fits)(tok st:Int)(he:P.c7 tok st=0)(hF:B5 P (P.exM tok st)<|P.cu tok st):ao aj 10 [b7 P,aa tok,aa st] (.aJ [findD P (P.exM tok st)<|P.cu tok st,aa 0]):=by
 have hE:=Ee P hP tok st;rw[he] at hE;generalize P.exM tok st=M at *;generalize P.cu tok st=N at *;have hS:=hF.sp;have hf:=hS.few;have hl:=hS.len;obtain⟨g1,g2⟩:=hS.graph;refine dh (fY [383,3071]) zs zp ?_ (by unfold findD;simp[Pure,aA,R8]);refine sR ?_;refine sC hE ?_;rw[aI];refine⟨zo,zo,zo,?_⟩;rw[bO,show List.map D.sc [Value.bool false]=[ay false] from rfl,jS];refine sW ?_;refine⟨zo,zo,zo,?_⟩;rw[bO,show List.map D.sc [Value.bool false]=[ay false] from rfl,jS];refine sW ?_;rw[aI];refine bQ (eo 13 1 zs rfl) ?_;refine bb [3,6,8,11,12,41,42] (λ((k,c,l):Nat×Nat×ah)=>[(13,.own 5 c 0 c),(43,aa k)]) (λ(k,c,l)=>[(3,.vec true 0 1<|bF M.length<|sT (lf M N) k false),(5,.vec true c 1<|aw l)]) (λ(k,c,l)=>k<=M.length/\c=l.length/\c<=k/\l=rP M k) (λ(k,c,l)=>M.length-k) (0,0,[]) ?_;refine sW ?_;refine⟨⟨zo,rfl,zo,rfl⟩,by exact sK,by dsimp only;rw[<-Ut M.length (lf M N)];rfl,?_⟩;rintro⟨k,c,l⟩ ⟨hk,hc,lH,dO⟩;refine bf (λh1=>?_) λh1=>?_
 ·have ai:k<M.length:=sO;have zDi:=hS.mark _<|af.rB ai;have eT:rP M (k+1)=if ld (M.getD k [])=true then rP M k++[(k:Int)] else rP M k:=rfl
  have eS:lf M N k=(decide ((N.getD k []).length=0)&&!(ld<|M.getD k [])):=rfl;refine sL (eV (k:=k) zo ai) ?_;generalize M.getD k []=m at zDi eT eS;have Ib:=zw8 m zo;generalize ld m=em at Ib eT eS;refine sL (ru (k:=k) zo zo) ?_;rw[oz];generalize (N.getD k []).length=ln at eS;cases h2:((ln:Int)==0)
  ·have h2:ln≠0:=sO;refine sW ?_;have bW:false=lf M N k:=(by rw[eS,gI h2];rfl);refine sB ?_;refine⟨_,bc k zo ai,?_⟩;refine sW ?_;refine sC Ib ?_;cases em
   ·refine aQ ?_;refine⟨(k+1,c,l),⟨zo,hc,zo,by rw[eT,dO];rfl⟩,zd,?_⟩;rw[GO zo,GB bW];exact aL 6 zs rfl sQ sQ
   refine ke ?_;refine⟨(k+1,c+1,l++[(k:Int)]),⟨zo,by simp[hc],zo,by rw[eT,dO];rfl⟩,zd,?_⟩;rw[GO zo,GB bW];refine aL 6 zs rfl sQ (sU ?_);exact aV<|kJ hc
  have h2:ln=0:=sO;refine sW ?_;refine sC Ib ?_;have bW:(!em)=lf M N k:=(by rw[eS,gQ h2];rfl);refine sB ?_;refine⟨_,bc k zo ai,?_⟩;refine sW ?_;refine sC Ib ?_;cases em
  ·refine aQ ?_;refine⟨(k+1,c,l),⟨zo,hc,zo,by rw[eT,dO];rfl⟩,zd,?_⟩;rw[GO zo,GB bW];exact aL 6 zs rfl sQ sQ
  refine ke ?_;refine⟨(k+1,c+1,l++[(k:Int)]),⟨zo,by simp[hc],zo,by rw[eT,dO];rfl⟩,zd,?_⟩;rw[GO zo,GB bW];refine aL 6 zs rfl sQ (sU ?_);exact aV<|kJ hc
 have ai:k=M.length:=by have:¬k<M.length:=sO
                        omega
 subst ai;have zOT:∀x∈l,0<=x/\x<(M.length:Int):=λx hx=>by rw[dO] at hx;have:=(GM (M:=M)).1 hx;omega
 refine bQ (nX (mq 5) (env':=[(3,.loc 0 0),(6,.loc 1 0),(8,.loc 2 0),(11,.own 3 0 0 M.length),(12,.own 4 0 0 M.length),(13,aF l)])
  (H':=[.row true P.cells,.row true [au,aa 0,aa 0,au,au],.row true<|lh M N,.vec true 0 1<|bF M.length<|sT (lf M N) M.length false,.vec true 0 1<|bF M.length λ_=>false,.vec false c 1<|aw l])
  ⟨.refl _,.refl _,.refl _,.refl _,.refl _,.own _ _ _ _ _ _ _ _ rfl rfl (aV<|by rw[dP,fG zq];rfl),trivial⟩
  ⟨⟨.inl rfl,(λh=>by cases h),.refl _⟩,⟨.inl rfl,(λh=>by cases h),.refl _⟩,⟨.inl rfl,(λh=>by cases h),.refl _⟩,⟨.inl rfl,(λh=>by cases h),rfl,rfl,.refl _⟩,⟨.inl rfl,(λh=>by cases h),rfl,rfl,.refl _⟩,⟨.inr ⟨rfl,rfl⟩,λ_=>rfl,rfl,rfl,.refl _⟩,trivial⟩) ?_
 rw[Xn];refine sR ?_;refine sC (Tb M N zo λi=>by have:=hS.rowAt i;omega) ?_;refine sC (MB (gN N) g1 g2) ?_;obtain⟨t1,t2,t3⟩:=zp7 g1 (by rw[oU];omega);have eB:lY M N=λi=>!(gL (dR (gN N) (gN N).length) (rP M M.length) i):=rfl;have C7:=Wg M M.length;have tl:(dR (gN N) (gN N).length).length=M.length:=by rw[qJ,oU,hl]
 rw[<-dO] at eB C7;have fD:findD P M N=BY (xu P N) (gm (lf M N) M.length M.length) (gm (lY M N) M.length M.length) (ly N<|gm (lf M N) M.length M.length) (ly N<|gm (lY M N) M.length M.length):=rfl;generalize dR (gN N) (gN N).length=tg at t1 t2 t3 tl eB;have hR:=LV tg t1 t2 l (iS λx hx=>by have:=zOT x hx;omega) zo;rw[tl] at hR;refine sC hR ?_;generalize gL tg l=ok at eB;refine bb [3,6,8,11,12,18,83] (λk:Nat=>[(84,aa k)]) (λk=>[(4,.vec true 0 1<|bF M.length<|sT (lY M N) k false)]) (λk=>k<=M.length) (λk=>M.length-k) 0 ?_;refine sW ?_;refine⟨zo,by exact sK,by rw[<-Ut M.length (lY M N)];rfl,?_⟩;clear h1 hk;rintro k hk;refine bf (λh1=>?_) λh1=>?_
 ·have ai:k<M.length:=sO;refine sL (bc k zo ai) ?_;refine sB ?_;refine⟨_,bc k zo ai,?_⟩;refine aQ ?_;refine⟨k+1,zo,zd,aC (by exact sK) ?_⟩;rw[GO zo,GB<|by rw[eB]];rfl
 have ai:k=M.length:=by have:¬k<M.length:=sO
                        omega
 subst ai
 refine bQ (nX (mq 3) (env':=[(3,.loc 0 0),(6,.loc 1 0),(8,.loc 2 0),(11,bx M.length<|lf M N),(12,bx M.length<|lY M N)])
  (H':=[.row true P.cells,.row true [au,aa 0,aa 0,au,au],.row true<|lh M N,.vec false 0 1<|bF M.length<|lf M N,.vec false 0 1<|bF M.length<|sT (lY M N) M.length false,.vec false c 1<|aw l])
  ⟨.refl _,.refl _,.refl _,.own _ _ _ _ _ _ _ _ rfl rfl (aV<|Cv _ _),.own _ _ _ _ _ _ _ _ rfl rfl (aV<|by rw[Cv,Xn]),trivial⟩
  ⟨⟨.inl rfl,(λh=>by cases h),.refl _⟩,⟨.inl rfl,(λh=>by cases h),.refl _⟩,⟨.inl rfl,(λh=>by cases h),.refl _⟩,⟨.inr ⟨rfl,rfl⟩,λ_=>rfl,rfl,rfl,.refl _⟩,⟨.inr ⟨rfl,rfl⟩,λ_=>rfl,rfl,rfl,.refl _⟩,⟨.inl rfl,λ_=>rfl,rfl,rfl,.refl _⟩,trivial⟩) ?_
 have hD:=zy1 P hP M N hF;have zm:=Yh M N _ hS<|lf M N;have xf:=Yh M N _ hS<|lY M N;rw[fD];generalize gm (lf M N) M.length M.length=f1 at *;generalize gm (lY M N) M.length M.length=f2 at *;generalize ly N f1=l1 at *;generalize ly N f2=l2 at *;generalize xu P N=dl at *;refine sR ?_;refine sC hD ?_;refine sC zm ?_;refine sC xf ?_;exact .refl _
end
theorem O4(b:UInt8)(s:aB):(⟨#[b]⟩++s).size=s.size+1:=by rw[mW,Nat.add_comm];rfl
section
variable(P:af)
def fT(t:aB)(l:ah):aB:=l.foldl (λt n=>t++(⟨#[32]⟩++P.name n.toNat)) t
def lnT(t w:aB)(l:ah):aB:=fT P (t++w) l++⟨#[10]⟩
theorem Rc{t:aB}{l:ah}{k:Nat}(h:k<l.length):fT P t (l.take<|k+1)=fT P t (l.take k)++(⟨#[32]⟩++P.name (l.getD k 0).toNat):=by
 unfold fT;rw[jP,aX h,List.foldl_append,a8,aX h];rfl
end
section
variable{P:af}
theorem F7(h8:∀k,k<P.nodes.length->(P.name k).size<=8):∀(l:ah) (t:aB),(∀n∈l,0<=n/\n<P.nodes.length)->(fT P t l).size<=t.size+9*l.length
 |[],t,_=>by simp[fT]
 |n::l,t,hl=>by
  have h1:=hl n zs;have:=F7 h8 l (t++(⟨#[32]⟩++P.name n.toNat)) λm hm=>hl m (by simp[hm]);have h2:=h8 n.toNat zo;rw[show(t++(⟨#[32]⟩++P.name n.toNat)).size=t.size+((P.name n.toNat).size+1) by rw[mW,O4]] at this;rw[dC];show(fT P (t++(⟨#[32]⟩++P.name n.toNat)) l).size<=_;omega
def wrH(P:af)(L:List bP)(A:D)(ar:Nat)(t:aB):aE:=wrB (.aM 2<|P.nodes.map jj) (.aM 2<|P.aH.map lL) (jx L) A ar t
variable{A dl:D}{w:aB}{l:ah}
theorem zzu(h8:∀k,k<P.nodes.length->(P.name k).size<=8){L:List bP}(hA:A=.sc (.pointer none)\/A=.loc 0 3){ar:Nat}{t:aB}(ml:dl=aF l\/dl=au/\l=[])(hl:∀n∈l,0<=n/\n<P.nodes.length)(hs:t.size+w.size+9*l.length<1000000) :
  bZ aj 8 [.loc 0 0,.sc (.string w),dl] (wrH P L A ar t) (.aJ []) (wrH P L (.loc 0 3) (ar+l.length+2)<|lnT P t w l):=by
 have hp:aG 2 [.aM 2<|P.nodes.map jj,.aM 2<|P.aH.map lL,jx L]:=bI _ zp;refine oQ fZ zs (by simp[wrH,wrB]) ?_ zu;refine bQ (nX (λ_=>false) (env':=params 0 [.loc 0 0,.sc (.string w),aF l]) (H':=wrH P L A ar t) ⟨.refl _,.refl _,?_,trivial⟩ ⟨⟨.inl rfl,(λh=>by cases h),.refl _⟩,⟨.inl rfl,(λh=>by cases h),rfl,rfl,.refl _⟩,trivial⟩) ?_
 ·rcases ml with rfl|⟨rfl,rfl⟩
  ·exact .refl _
  exact .none _
 unfold aF wrH;refine sR ?_;refine sA (LQ hA hp (t:=t) (s:=w) zo) ?_;refine sW ?_;rw[aI];refine cq [0,13,14] (λk:Nat=>[(15,aa k)]) (λk=>wrB (.aM 2<|P.nodes.map jj) (.aM 2<|P.aH.map lL) (jx L) (.loc 0 3) (ar+1+k)<|fT P (t++w)<|l.take k) (λk=>k<=l.length) (λk=>l.length-k) 0 ?_;refine dd ?_;rintro k hk;refine bf (λh1=>?_) λh1=>?_
 ·have ai:k<l.length:=sO;refine⟨zo,_,bV (k:=k) zo ai,?_⟩;have hm:=hl (l.getD k 0) (by rw[a8,aX ai];exact iZ ai);have h9:=h8 (l.getD k 0).toNat zo;have hf:=F7 h8 (l.take k) (t++w) λn hn=>hl n<|xR hn;rw[mW,fg] at hf;refine sW ?_;refine sL (jv P rfl zo) ?_;refine⟨by have e:(⟨#[32]⟩:aB).size=1:=rfl;omega,?_⟩;refine sW ?_
  (refine .inr (.inr (.inr (.inl ⟨_,_,by simp[aG,bB,dX,al.under,aK],by simp[aG,bB,dX,al.under,aK],(LQ (.inr rfl) hp (t:=fT P (t++w)<|l.take k) (s:=⟨#[32]⟩++P.name (l.getD k 0).toNat)<|by rw[O4];omega),?_⟩)));((conv=>whnf);repeat(refine⟨rfl,?_⟩;conv=>whnf)))
  rw[<-Rc P ai];refine sI ?_;refine⟨k+1,zo,zd,?_⟩;unfold wrB;exact aL 2 zs rfl sQ sQ
 have ai:k=l.length:=sO;subst ai;rw[dM];have hf:=F7 h8 l (t++w) hl;rw[mW] at hf;refine sW ?_;refine sA (LQ (.inr rfl) hp (t:=fT P (t++w) l) (s:=⟨#[10]⟩)<|by show _+1<=_;omega) ?_;refine sW ?_;rw[show ar+1+l.length+1=ar+l.length+2 by omega];unfold wrB lnT;exact sQ
def wrO(P:af)(L:List bP)(A:D)(j:Nat)(s:Nat×aB):al:=.row true [.aM 2<|P.nodes.map jj,.aM 2<|P.aH.map lL,jx L,A,.own j s.1 0 s.2.size]<|some uf
def wrV(s:Nat×aB):al:=.vec true s.1 1 (oe s.2) true
variable{L:List bP}{s:Nat×aB}
theorem Ev{f:FuncId}{o:Nat}{rest:bj}{A' d:D}{s':Nat×aB}{v':Nat}{xs:fc}(hA:bZ aj f (.loc 0 o::rest) (wrH P L A s.1 s.2) d [wrO P L (.loc 0 3) 1 s',.vec true v' 1 xs true])(hr:aA rest)(hd:Pure d)(hx:dF xs){i j:Nat}(RF:A=.sc (.pointer none)/\A'=.sc (.pointer none)\/A=.loc 0 3/\A'=.loc i 3)
  {H:aE} (h1:H[i]? = some (wrO P L A' j s)) (h2:H[j]? = some (wrV s)):ov aj f (.loc i o::rest) H d ((H.set i<|wrO P L (.loc i 3) j s').set j (.vec true v' 1 xs true)) [i,j]:=by
 have lC:i≠j:=λh=>by subst h;rw[h1] at h2;cases h2
 have hn:∀ρ:Nat->Nat,kl ρ (P.nodes.map jj)=P.nodes.map jj/\kl ρ (P.aH.map lL)=P.aH.map lL/\D.aP ρ (jx L)=jx L:=λρ=>⟨jW _ zp,jW _ zp,iQ _<|Dx L⟩;have hb:∀(ρ:Nat->Nat) t,kl ρ (oe t)=oe t:=λρ t=>jW _<|BE t;refine PL hA [i,j] rfl (by simpa using lC) ⟨by simp[aK,wrH],bI _ hr⟩ ?_ [i,j] rfl (by simp[bL,D.aP,mj _ hr]) (iQ _ hd) (λk o' ho=>?_) ?_
 ·rcases RF with⟨rfl,_⟩|⟨rfl,_⟩<;>simp[wrH,dX,al.under,aG,aK]
 ·match k,ho with
  |0,ho =>
   cases ho;rcases RF with⟨rfl,rfl⟩|⟨rfl,rfl⟩<;>simp[h1,wrO,al.aP,bL,D.aP,hn]
  |1,ho =>
   cases ho;simp[h2,wrV,al.aP,hb]
 simp[mF,wrO,al.aP,bL,D.aP,hn,jW _ hx,wrH]
def ndL(L:List bP)(l:ah):ah:=l.map λk=>(L.getD k.toNat (0,0,0)).1
theorem C8(hL:∀x∈L,0<=x.1/\x.1<P.nodes.length)(h:∀n∈l,0<=n/\n<L.length):∀n∈ndL L l,0<=n/\n<P.nodes.length:=λn hn=>by
 obtain⟨k,hk,rfl⟩:=dq.1 hn;have:=h k hk;rw[a8,aX zo];exact hL _<|iZ _
theorem zu4{k:Nat}(h:k<l.length):ndL L (l.take<|k+1)=ndL L (l.take k)++[(L.getD (l.getD k 0).toNat (0,0,0)).1]:=by
 unfold ndL;rw[jP,aX h,oD,show l.getD k 0=l[k] by rw[a8,aX h];rfl];rfl
theorem UI{ar:Nat}{t:aB}(hl:∀n∈l,0<=n/\n<L.length)(hs:l.length<1000000) :
  bZ aj 33 [.loc 0 0,aF l] (wrH P L (.loc 0 3) ar t) (aF<|ndL L l) (wrH P L (.loc 0 3) ar t):=by
 refine oQ fZ zs (aS _) ?_<|bz _<|cX _;unfold aF wrH wrB;refine sR ?_;rw[aI];refine bQ (eo 5 1 zs rfl) ?_;refine bb [0,8,9] (λk:Nat=>[(5,.own 2 k 0 k),(10,aa k)]) (λk=>[(2,.vec true k 1<|aw<|ndL L<|l.take k)]) (λk=>k<=l.length) (λk=>l.length-k) 0 ?_;refine dd ?_;rintro k hk;refine bf (λh1=>?_) λh1=>?_
 ·have ai:k<l.length:=sO;refine⟨zo,_,bV (k:=k) zo ai,?_⟩;have hm:=hl (l.getD k 0) (by rw[a8,aX ai];exact iZ ai);refine sW ?_;refine⟨hm.1,_,uZ rfl zo,?_⟩
  ((conv=>whnf);repeat(refine⟨rfl,?_⟩;conv=>whnf))
  refine sJ ?_
  (refine .inl ⟨by(unfold InR;rw[po];omega),?_⟩;((conv=>whnf);repeat(refine⟨rfl,?_⟩;conv=>whnf)))
  refine⟨k+1,zo,zd,?_⟩;dsimp only;rw[zu4 ai]
  (refine aL 3 zs rfl ?_ ?_<;>(repeat' (first|exact trivial|exact rfl|exact .refl _|refine And.intro ?_ ?_|(simp[aK,aG,bB,-List.map_take,-List.map_drop];done))))
  exact aV<|kJ<|by rw[ndL,aI,fg];omega
 have ai:k=l.length:=by((try simp only[oo,reduceCtorEq]at*)<;>omega)
 subst ai;rw[dM];refine⟨.own _ _ _ _ _ _ _ _ rfl rfl (aV<|cB<|by simp[aw,ndL]),?_⟩
 (repeat' (first|exact trivial|exact rfl|exact .refl _|refine And.intro ?_ ?_|(simp[aK,aG,bB,-List.map_take,-List.map_drop];done)))
def gV(P:af)(s:Nat×aB)(w:aB)(l:ah):Nat×aB:=(s.1+l.length+2,lnT P s.2 w l)
def C0(c:Bool)(a b:Nat×aB):Nat×aB:=match c with
 |true=>a
 |false=>b
def fdS(P:af)(L:List bP)(dead:ah)(still never:Int)(ts tn:ah)(s:Nat×aB):Nat×aB :=
 let s1:=C0 (decide (dead.length=0)) (C0 (decide (still<0)) (C0 (decide (never<0)) (gV P s ⟨#[115,111,117,110,100]⟩ []) s) s)<|gV P s ⟨#[100,101,97,100]⟩ dead
 let s2:=C0 (decide (still<0)) s1<|gV P s1 ⟨#[115,116,105,108,108]⟩<|ndL L ts
 C0 (decide (never<0)) s2 (gV P s2 ⟨#[110,101,118,101,114]⟩<|ndL L tn)
theorem LU(h8:∀k,k<P.nodes.length->(P.name k).size<=8){L:List bP}(hA:A=.sc (.pointer none)\/A=.loc 0 3)(ml:dl=aF l\/dl=au/\l=[])(hl:∀n∈l,0<=n/\n<P.nodes.length)(hs:s.2.size+w.size+9*l.length<1000000) :
  bZ aj 8 [.loc 0 0,.sc (.string w),dl] (wrH P L A s.1 s.2) (.aJ []) [wrO P L (.loc 0 3) 1<|gV P s w l,wrV<|gV P s w l]:=zzu h8 hA ml hl hs
theorem wW(h8:∀k,k<P.nodes.length->(P.name k).size<=8)(s:Nat×aB)(w:aB)(h:∀n∈l,0<=n/\n<P.nodes.length):(gV P s w l).2.size<=s.2.size+w.size+9*l.length+1:=by
 have h1:=F7 h8 l (s.2++w) h;have h2:(gV P s w l).2.size=(fT P (s.2++w) l).size+1:=by unfold gV lnT;rw[mW];rfl
 grind
theorem zpu(h8:∀k,k<P.nodes.length->(P.name k).size<=8)(hL:∀x∈L,0<=x.1/\x.1<P.nodes.length){dead ts tn:ah}{still never:Int}(hd:∀n∈dead,0<=n/\n<P.nodes.length)(ht:∀n∈ts,0<=n/\n<L.length)(hn:∀n∈tn,0<=n/\n<L.length)(hs:s.2.size+9*(dead.length+ts.length+tn.length)<999000) :
  bZ aj 11 [.loc 0 0,BY dead still never ts tn] (wrH P L (.loc 0 3) s.1 s.2) (.aJ []) [wrO P L (.loc 0 3) 1<|fdS P L dead still never ts tn s,wrV<|fdS P L dead still never ts tn s]:=by
 refine oQ fZ zs (aS _) ?_ zu;have nd:=λ{l:ah}=>C8 (P:=P) (l:=l) hL;have nl:∀l:ah,(ndL L l).length=l.length:=λl=>aI _;have z1:=wW h8 s ⟨#[100,101,97,100]⟩ hd;have z2:=wW h8 s ⟨#[115,116,105,108,108]⟩<|nd ht;have z3:=wW h8 (gV P s ⟨#[100,101,97,100]⟩ dead) ⟨#[115,116,105,108,108]⟩<|nd ht;have e4:(⟨#[100,101,97,100]⟩:aB).size=4:=rfl;have e5:(⟨#[115,116,105,108,108]⟩:aB).size=5:=rfl;have e6:(⟨#[115,111,117,110,100]⟩:aB).size=5:=rfl;have e7:(⟨#[110,101,118,101,114]⟩:aB).size=5:=rfl;rw[nl] at z2 z3;unfold BY wrH;have at_:=λ{f:FuncId} {rest:bj} {d:D} {s s':Nat×aB} (hA:bZ aj f (.loc 0 0::rest) (wrH P L (.loc 0 3) s.1 s.2) d [wrO P L (.loc 0 3) 1 s',wrV s']) (hr:aA rest) (hd:Pure d) (x:al)=>Ev hA hr hd (BE _) (.inr ⟨rfl,rfl⟩) (i:=0) (j:=1) (H:=[wrO P L (.loc 0 3) 1 s,wrV s,x]) rfl rfl;have n1:=λ(s:Nat×aB) (x:al)=>at_ (UI (P:=P) (ar:=s.1) (t:=s.2) ht zo) zp (cX _) x;have n2:=λ(s:Nat×aB) (x:al)=>at_ (UI (P:=P) (ar:=s.1) (t:=s.2) hn zo) zp (cX _) x;have ln:=λ(s:Nat×aB) (x:al) (w:aB) (l:ah) (dl:D) (ml:dl=aF l\/dl=au/\l=[]) (hl:∀n∈l,0<=n/\n<P.nodes.length) (hs:s.2.size+w.size+9*l.length<1000000)=>at_ (LU h8 (L:=L) (.inr rfl) ml hl hs) (by rcases ml with rfl|⟨rfl,_⟩<;>simp[aA,Pure,cX]) zp x;have l1:=λs x (h:s.2.size+100<1000000)=>ln s x ⟨#[115,111,117,110,100]⟩ [] _ (.inr ⟨rfl,rfl⟩) zs (by rw[e6,fy];omega);have l2:=λs x (h:s.2.size+100+9*dead.length<1000000)=>ln s x ⟨#[100,101,97,100]⟩ dead _ (.inl rfl) hd (by rw[e4];omega);have l3:=λs x (h:s.2.size+100+9*ts.length<1000000)=>ln s x ⟨#[115,116,105,108,108]⟩ (ndL L ts) _ (.inl rfl) (nd ht) (by rw[nl,e5];omega);have l4:=λs x (h:s.2.size+100+9*tn.length<1000000)=>ln s x ⟨#[110,101,118,101,114]⟩ (ndL L tn) _ (.inl rfl) (nd hn) (by rw[nl,e7];omega);by_cases h1:dead.length=0<;>by_cases h2:still<0<;>by_cases h3:never<0
 all_goals
  simp only[fdS,h1,h2,h3,decide_true,decide_false]
  ((apply ry;focus (repeat' constructor));((conv=>whnf);repeat(refine⟨rfl,?_⟩;conv=>whnf)))
  repeat' (first
   |(refine wJ (by(try simp only[oo]);omega) ?_;((conv=>whnf);repeat(refine⟨rfl,?_⟩;conv=>whnf)))
   |(refine ue (by(try simp only[oo]);omega) ?_;((conv=>whnf);repeat(refine⟨rfl,?_⟩;conv=>whnf)))
   |(refine .inr (.inr (.inr (.inr (.inl ⟨_,_,_,(n1 _ _),?_⟩))));((conv=>whnf);repeat(refine⟨rfl,?_⟩;conv=>whnf)))
   |refine sE (l4 _ _ zo) ?_
   |(refine .inr (.inr (.inr (.inr (.inl ⟨_,_,_,(n2 _ _),?_⟩))));((conv=>whnf);repeat(refine⟨rfl,?_⟩;conv=>whnf)))
   |refine sE (l1 _ _ zo) ?_
   |refine sE (l2 _ _ zo) ?_
   |refine sE (l3 _ _ zo) ?_
   |fail)
  unfold wrO wrV;exact sQ
end
section
open Go.RowKit Go.Shelf
def zmU:Go.Shelf.Ren:=⟨λ| 171=>9|243=>26|246=>65|283=>132|284=>133|285=>134|286=>135|129=>178|317=>177|318=>179|319=>180|320=>181|337=>240|338=>241|n=>n,λ| 3=>3|9=>9|2=>2|4=>4|171=>213|0=>0|53=>173|37=>42|5=>5|173=>216|212=>249|51=>250|20=>20|213=>251|46=>252|232=>316|233=>317|n=>n,λ| 17=>0|18=>1|19=>2|n=>n⟩
theorem zzp:LaysM.n171 aj zmU:=by
 constructor;constructor;all_goals first|kernel_rfl|(intros;kernel_rfl)|(intros;rfl)
def x6(n:Int):aB:=⟨(Lib.itoa n).toArray⟩
variable{n:Int}
theorem BZ(h0:-9223372036854775808<=n)(h1:n<=9223372036854775807):(x6 n).size<=21:=by
 have:=Lib.itoa_length_le n h0 h1;simpa [x6,ByteArray.size] using this
theorem DH(h0:-9223372036854775808<=n)(h1:n<=9223372036854775807):ao aj 9 [aa n] (.sc (.string<|x6 n)) where
 ok:=⟨_,Tryz.func9,zk,zk⟩
 run J F w vs hF hr:=by
  simp only[bA,rep] at hr;obtain⟨_,_,rfl,rfl,rfl⟩:=hr;obtain⟨_,h2,vals,te,fz,h3,h4⟩:=hF.gl 0 (Lib.pow10Tab.map λz=>.sc (.int .u64 z)) (List.Mem.head _);have ht : Lib.TabIs aj w "internal/strconv.uint64pow10" .u64 Lib.pow10Tab := by
   unfold Lib.TabIs World.var?;rw [show Tryz.prog.globalNamed "internal/strconv.uint64pow10" = some 0 by kernel_rfl]
   simp only[zK,h3];refine bH some<|Array.ext (by simpa using h4) λi i1 i2=>?_;have i3:i<Lib.pow10Tab.length:=(by simpa using i2);obtain⟨u,u1,_,u2⟩:=rn _ 0 i (.sc (.int .u64 Lib.pow10Tab[i])) (by rw[fx,aX i3];rfl) h2;simp only[rep] at u2;subst u2;simp only[World.cell?,h3,lp,wP i1] at u1;simpa using u1
  refine(Any.strconv_Itoa zzp n h0 h1 w ht).mono ?_;rintro e w' ⟨rfl,k,os,rfl⟩;have hb:∀b,b<w.heap.size->(w.heap++os)[b]? = w.heap[b]?:=λb h=>Array.getElem?_append_left h;exact⟨_,F,rfl,λb h=>by show b<(w.heap++os).size;rw[Array.size_append];have:=hF b h;omega,by simp only[rep,x6],rfl,rfl,rfl,by show _<=(w.heap++os).size;rw[Array.size_append];omega,λb h _=>hb b h,λb h=>hb b<|hF b h,bh.le_refl _,λ_ h=>h,λb h=>.inl h,λb h=>.inl h⟩
end
variable(n:Int)
theorem Ar(k n:Int):Small<|cx k n:=.mk _ (by simp[cx,Tree.width,Tree.kids]) λj hj=>by simp[cx,Tree.width,Tree.kids] at hj
variable{k:Int}{a:Tree}
theorem uE(h:Small a):Small<|bK k a:=.mk _ (by simp[bK,Tree.width,Tree.kids]) λj hj=>by
 simp[bK,Tree.width,Tree.kids] at hj;subst hj;exact h
theorem zP{b:Tree}(h:Small a)(h':Small b):Small<|cW k a b:=.mk _ (by simp[cW,Tree.width,Tree.kids]) λj hj=>by
 simp[cW,Tree.width,Tree.kids] at hj
 match j with
 |0=>exact h
 |1=>exact h'
theorem DU(p:Prop) [Decidable p] {b:Tree} (h:Small a) (k:Small b):Small<|if p then a else b:=by split<;>assumption
variable(k:Int)
theorem Uv(a b:Tree):ao aj 314 [aa k,ba a,ba b]<|ba<|cW k a b:=by
 refine bt ?_;exact sP
theorem oS(a:Tree):ao aj 165 [aa k,ba a]<|ba<|bK k a:=by
 refine bt ?_;exact sP
theorem xH(a b:Tree):ao aj 166 [aa k,ba a,ba b]<|ba<|cW k a b:=by
 refine bt ?_;exact sP
theorem BK(a:Tree):ao aj 274 [aa k,ba a]<|ba<|bK k a:=by
 refine bt ?_;exact sP
theorem IN(a b:Tree):ao aj 270 [aa k,ba a,ba b]<|ba<|cW k a b:=by
 refine bt ?_;exact sP
theorem CQ(a:Tree):ao aj 255 [aa k,ba a]<|ba<|bK k a:=by
 refine bt ?_;exact sP
theorem Mj(a b:Tree):ao aj 306 [aa k,ba a,ba b]<|ba<|cW k a b:=by
 refine bt ?_;exact sP
theorem Wh:ao aj 315 [aa k]<|ba<|cx k 0:=by
 refine bt ?_;exact sP
theorem Qn(k n:Int):ao aj 167 [aa k,aa n]<|ba<|cx k n:=by
 refine bt ?_;exact sP
theorem vX:ao aj 252 [aa n]<|ba<|cx 3 n:=by
 refine bt ?_;exact sP
theorem NB:ao aj 273 [aa n]<|ba<|cx 3 n:=by
 refine bt ?_;exact sP
theorem Ad:ao aj 227 [aa n]<|ba<|cx 3 n:=by
 refine bt ?_;refine sC (Qn 3 n) ?_;exact sP
variable(a:Tree)
theorem B2:ao aj 114 [ba a]<|ba<|bK 4 a:=by
 refine bt ?_;refine sC (oS 4 a) ?_;exact sP
variable(b:Tree)
theorem Aq:ao aj 229 [ba a,ba b]<|ba<|cW 5 a b:=by
 refine bt ?_;refine sC (xH 5 a b) ?_;exact sP
theorem Dm:ao aj 226 [ba a,ba b]<|ba<|cW 6 a b:=by
 refine bt ?_;refine sC (xH 6 a b) ?_;exact sP
theorem Kv:ao aj 267 [ba a]<|ba<|bK 4 a:=by
 refine bt ?_;refine sC (BK 4 a) ?_;exact sP
theorem Ky:ao aj 268 [ba a]<|ba<|bK 10 a:=by
 refine bt ?_;refine sC (BK 10 a) ?_;exact sP
theorem LR:ao aj 265 [ba a]<|ba<|bK 11 a:=by
 refine bt ?_;refine sC (BK 11 a) ?_;exact sP
theorem NW:ao aj 272 [ba a,ba b]<|ba<|cW 5 a b:=by
 refine bt ?_;refine sC (IN 5 a b) ?_;exact sP
theorem LN:ao aj 266 [ba a,ba b]<|ba<|cW 6 a b:=by
 refine bt ?_;refine sC (IN 6 a b) ?_;exact sP
theorem BC:ao aj 253 [ba a]<|ba<|bK 4 a:=by
 refine bt ?_;refine sC (CQ 4 a) ?_;exact sP
theorem J4:ao aj 257 [ba a]<|ba<|bK 11 a:=by
 refine bt ?_;refine sC (CQ 11 a) ?_;exact sP
theorem DV:ao aj 259 [ba a,ba b]<|ba<|cW 5 a b:=by
 refine bt ?_;refine sC (Mj 5 a b) ?_;exact sP
theorem B1:ao aj 254 [ba a,ba b]<|ba<|cW 6 a b:=by
 refine bt ?_;refine sC (Mj 6 a b) ?_;exact sP
theorem CU:ao aj 258 [ba a,ba b]<|ba<|cW 8 a b:=by
 refine bt ?_;refine sC (Mj 8 a b) ?_;exact sP
def vn(k a b c:Int):D:=.agg [aa k,aa a,aa b,aa c]
variable(b a c:Int)
@[simp] theorem zAJ(k a b c:Int):Pure<|vn k a b c:=by simp[vn,Pure,aA]
def jm(k a b c:Int):Int :=
 if k<1\/14<k\/a<0\/62<a\/b<0\/62<b\/(k<=4/\b≠0) then 1
 else if (k<=3/\(c<1\/3<c))\/(3<k/\c≠0) then 1 else 0
theorem znk:ao aj 243 [aa k]<|ay<|decide (1<=k)&&decide (k<=3):=by
 refine bt ?_;repeat' (first|refine sS (λh=>?_) λh=>?_|exact cf<|by simp_all)
theorem LP(k a b c:Int):ao aj 184 [vn k a b c]<|aa<|jm k a b c:=by
 refine bt ?_
 repeat' (first
  |refine sS (λh=>?_) λh=>?_
  |refine sC (znk k) ?_
  |exact cf (by unfold jm;congr 2;(repeat' split)<;>first|rfl|exact sO))
theorem Q4(k a b c:Int):ao aj 89 [vn k a b c]<|aa<|jm k a b c:=by
 refine bt ?_
 repeat' (first
  |refine sS (λh=>?_) λh=>?_
  |exact cf (by unfold jm;congr 2;(repeat' split)<;>first|rfl|exact sO))
def gz(n:Int):Tree:=cW 5 (cx 3 n)<|bK 4<|cx 3 63
def nW(a:Int):Nat->Tree
 |0=>bK 10<|gz a
 |n+1=>bK 10<|cW 5 (gz a)<|bK 7<|nW a n
def GV(a b:Int):Tree:=bK 11<|cW 6 (bK 4<|gz a)<|bK 10<|gz b
def Gv(a b:Int):Tree:=cW 6 (cW 8 (bK 4<|gz b)<|gz a)<|bK 11<|bK 4<|gz b
def r8(k a b c:Int):Tree :=
 if k=1 then nW a (c-1).toNat else if k=2 then bK 4<|nW a (c-1).toNat
 else if k=3 then cW 5 (nW a (c-1).toNat)<|bK 4<|nW a c.toNat
 else if k=4 then cW 6 (cW 8 (cx 3 63)<|gz a)<|bK 11<|cx 3 63
 else if k=5 then cW 6 (bK 10<|gz a)<|bK 10<|gz b
 else if k=6 then cW 6 (bK 4<|bK 10<|gz a)<|bK 10<|gz b
 else if k=7 then cW 5 (cW 6 (bK 4<|bK 10<|gz a)<|bK 10<|gz b)<|cW 6 (bK 4<|bK 10<|gz b)<|bK 10<|gz a
 else if k=13 then bK 4<|cW 5 (bK 10<|gz a)<|bK 10<|gz b
 else if k=8 then GV a b else if k=9 then Gv a b else if k=10 then cW 5 (GV a b)<|Gv a b
 else if k=11 then bK 11<|cW 6 (bK 4<|gz a)<|bK 7<|cW 8 (bK 4<|gz a)<|gz b
 else if k=12 then bK 11<|cW 6 (bK 4<|gz a)<|bK 7<|cW 8 (cx 3 63)<|gz b
 else bK 11<|cW 6 (bK 4<|gz a)<|bK 4<|bK 7<|bK 10<|gz b
theorem JW:ao aj 262 [aa n]<|ba<|gz n:=by
 refine bt ?_;refine sC (NB n) ?_;refine sC (NB 63) ?_;refine sC (Kv<|cx 3 63) ?_;refine sC (NW (cx 3 n)<|bK 4<|cx 3 63) ?_;exact sP
theorem Ui:∀n:Nat,n<=3->ao aj 271 [aa a,aa<|n+1] (ba<|nW a n):=by
 intro n
 induction n with
 |zero =>
  intro _;refine bt ?_;refine sC (JW a) ?_
  first|refine sC (Ky<|gz a) ?_|refine sC (BK 10<|gz a) ?_
  exact sP
 |succ n ih =>
  intro hn;refine bt ?_;refine sC (JW a) ?_;refine .inl ⟨zI,?_⟩;rw[show((n+1:Nat):Int)+1-1=(n:Int)+1 by omega];refine sW ?_;refine sC (ih zo) ?_;refine sC (BK 7<|nW a n) ?_;refine sC (NW (gz a)<|bK 7<|nW a n) ?_
  first|refine sC (Ky<|cW 5 (gz a)<|bK 7<|nW a n) ?_|refine sC (BK 10<|cW 5 (gz a)<|bK 7<|nW a n) ?_
  exact sP
theorem NA:ao aj 231 [aa n]<|ba<|gz n:=by
 refine bt ?_;refine sC (Ad n) ?_;refine sC (Ad 63) ?_;refine sC (B2<|cx 3 63) ?_;refine sC (Aq (cx 3 n)<|bK 4<|cx 3 63) ?_;exact sP
theorem YP:∀n:Nat,n<=3->ao aj 232 [aa a,aa<|n+1] (ba<|nW a n):=by
 intro n
 induction n with
 |zero =>
  intro _;refine bt ?_;refine sC (NA a) ?_
  first|refine sC (ref_some<|gz a) ?_|refine sC (oS 10<|gz a) ?_
  exact sP
 |succ n ih =>
  intro hn;refine bt ?_;refine sC (NA a) ?_;refine .inl ⟨zI,?_⟩;rw[show((n+1:Nat):Int)+1-1=(n:Int)+1 by omega];refine sW ?_;refine sC (ih zo) ?_;refine sC (oS 7<|nW a n) ?_;refine sC (Aq (gz a)<|bK 7<|nW a n) ?_
  first|refine sC (ref_some<|cW 5 (gz a)<|bK 7<|nW a n) ?_|refine sC (oS 10<|cW 5 (gz a)<|bK 7<|nW a n) ?_
  exact sP
def iV(k a b c:Int):bj:=[aa k,aa a,aa b,aa c]
theorem Ou(k a b c:Int):ao aj 261 [.ax<|iV k a b c]<|ba<|gz a:=by
 refine dh fZ zs (by simp[aA,Pure,iV]) ?_<|im _;refine sR ?_;refine sC (JW a) ?_;exact sP
theorem O7(k a b c:Int):ao aj 263 [.ax<|iV k a b c]<|ba<|gz b:=by
 refine dh fZ zs (by simp[aA,Pure,iV]) ?_<|im _;refine sR ?_;refine sC (JW b) ?_;exact sP
def fnA(k a b c:Int):D:=.fn (.func 261) [] [.ax<|iV k a b c]
def fnB(k a b c:Int):D:=.fn (.func 263) [] [.ax<|iV k a b c]
theorem zxq(k a b c:Int):ao aj 264 [.ax [fnA k a b c],.ax [fnB k a b c]]<|ba<|GV a b:=by
 refine dh fZ zs (by simp[aA,Pure,iV,fnA,fnB]) ?_<|im _;refine sR ?_;refine sC (Ou k a b c) ?_;refine sC (Kv<|gz a) ?_;refine sC (O7 k a b c) ?_;refine sC (Ky<|gz b) ?_;refine sC (LN _ _) ?_;refine sC (LR _) ?_;exact sP
theorem zvu(k a b c:Int):ao aj 269 [.ax [fnB k a b c],.ax [fnA k a b c]]<|ba<|Gv a b:=by
 refine dh fZ zs (by simp[aA,Pure,iV,fnA,fnB]) ?_<|im _;refine sR ?_
 repeat' (first
  |refine sC (Ou k a b c) ?_
  |refine sC (O7 k a b c) ?_
  |refine sC (Kv _) ?_
  |refine sC (LR _) ?_
  |refine sC (LN _ _) ?_
  |refine sC (IN 8 _ _) ?_
  |exact nB rfl (.refl _))
theorem zxp(k a b c:Int)(h:jm k a b c=0):ao aj 203 [vn k a b c]<|ba<|r8 k a b c:=by
 have hc:(k=1\/k=2\/k=3)->1<=c/\c<=3:=λhk=>by
  unfold jm at h;split at h
  ·omega
  split at h
  ·omega
  omega
 have m1:(k=1\/k=2\/k=3)->ao aj 271 [aa a,aa c] (ba<|nW a (c-1).toNat):=λhk=>by
  have:=Ui a (c-1).toNat (by have:=hc hk;omega);rwa [show(((c-1).toNat:Int))+1=c by have:=hc hk;omega] at this
 have m2:(k=1\/k=2\/k=3)->ao aj 271 [aa a,aa<|c+1] (ba<|nW a c.toNat):=λhk=>by
  have:=Ui a c.toNat (by have:=hc hk;omega);rwa [show((c.toNat:Int))+1=c+1 by have:=hc hk;omega] at this
 refine bS (fY [159]) ?_;refine sR ?_
 refine bQ (nX (λi=>!(Nat.beq i 1)) (env':=[(1,.ax<|iV k a b c),(2,.loc 1 0),(3,.ax [fnA k a b c]),(4,.ax [fnB k a b c]),(5,.fn (.func 264) [] [.ax [fnA k a b c],.ax [fnB k a b c]]),(6,.fn (.func 269) [] [.ax [fnB k a b c],.ax [fnA k a b c]])])
  (H':=[.row false<|iV k a b c,.row true [aa 0,aa 0,au],.row false [fnA k a b c],.row false [fnB k a b c]]) ?_ ?_) ?_
 ·exact sD
 ·exact sD
 refine sR ?_
 repeat' (first
  |refine sS (λh=>?_) λh=>?_
  |refine sC (m1 (sO)) ?_
  |refine sC (m2 (sO)) ?_
  |refine sC (Ou k a b c) ?_
  |refine sC (O7 k a b c) ?_
  |refine sC (zxq k a b c) ?_
  |refine sC (zvu k a b c) ?_
  |refine sC (Kv _) ?_
  |refine sC (Ky _) ?_
  |refine sC (LR _) ?_
  |refine sC (NB _) ?_
  |refine sC (LN _ _) ?_
  |refine sC (NW _ _) ?_
  |refine sC (IN 8 _ _) ?_
  |refine sC (BK 7 _) ?_
  |(refine .inl ⟨by unfold InR;rw[po];have:=hc (sO);omega,?_⟩;refine sW ?_)
  |exact nB (by simp_all [r8]) (.refl _))
theorem Mo:Small<|gz n:=zP (Ar _ _)<|uE<|Ar _ _
theorem VO(a:Int):∀n,Small (nW a n)
 |0=>uE<|Mo a
 |n+1=>uE<|zP (Mo a)<|uE<|VO a n
theorem PO(k a b c:Int):Small<|r8 k a b c:=by
 unfold r8 GV Gv;repeat' (first|exact Mo _|exact VO _ _|exact Ar _ _|apply uE|apply zP|refine DU _ ?_ ?_)
theorem zpE(k a b c:Int)(h:jm k a b c=0):ao aj 164 [vn k a b c]<|ba<|r8 k a b c:=by
 have hc:(k=1\/k=2\/k=3)->1<=c/\c<=3:=λhk=>by
  unfold jm at h;split at h
  ·omega
  split at h
  ·omega
  omega
 have m1:(k=1\/k=2\/k=3)->ao aj 232 [aa a,aa c] (ba<|nW a (c-1).toNat):=λhk=>by
  have:=YP a (c-1).toNat (by have:=hc hk;omega);rwa [show(((c-1).toNat:Int))+1=c by have:=hc hk;omega] at this
 have m2:(k=1\/k=2\/k=3)->ao aj 232 [aa a,aa<|c+1] (ba<|nW a c.toNat):=λhk=>by
  have:=YP a c.toNat (by have:=hc hk;omega);rwa [show((c.toNat:Int))+1=c+1 by have:=hc hk;omega] at this
 refine bt ?_
 repeat' (first
  |refine sS (λh=>?_) λh=>?_
  |refine sC (m1 (sO)) ?_
  |refine sC (m2 (sO)) ?_
  |refine sC (NA _) ?_
  |refine sC (B2 _) ?_
  |refine sC (Ad _) ?_
  |refine sC (Dm _ _) ?_
  |refine sC (Aq _ _) ?_
  |refine sC (xH 8 _ _) ?_
  |refine sC (oS 7 _) ?_
  |refine sC (oS 10 _) ?_
  |refine sC (oS 11 _) ?_
  |(refine .inl ⟨by unfold InR;rw[po];have:=hc (sO);omega,?_⟩;refine sW ?_)
  |exact nB (by simp_all [r8,GV,Gv]) (.refl _))
structure cA where
 kind:Int
 scope:Int
 p:Int
 s:Int
 q:Int
 r:Int
 count:Int
def cm(x:cA):bj:=[aa x.kind,aa x.scope,aa x.p,aa x.s,aa x.q,aa x.r,aa x.count]
def jg(x:cA):D:=.agg<|cm x
variable(x:cA)
@[simp] theorem zCo:Pure<|jg x:=by simp[jg,cm,Pure,aA]
def dJ(x:cA):Int :=
 if x.kind<1\/6<x.kind\/x.scope<1\/5<x.scope\/x.p<0\/63<x.p\/x.s<0\/63<x.s\/(x.kind<5/\x.s≠0)
  \/ x.q<0\/63<x.q\/(x.scope<3/\x.q≠0)\/x.r<0\/63<x.r\/(x.scope≠2/\x.scope<4/\x.r≠0)
  \/ x.count<0\/3<x.count\/(x.kind≠4/\x.count≠0) then 1 else 0
theorem ztr(has:Bool):ao aj 242 [aa n,ay has]<|ay<|decide (0<=n)&&decide (n<=63)&&(has||n==0):=by
 refine bt ?_;repeat' (first|refine sS (λh=>?_) λh=>?_|exact cf<|by simp_all)
theorem x3:ao aj 182 [jg x]<|aa<|dJ x:=by
 refine bt ?_
 repeat' (first
  |refine sS (λh=>?_) λh=>?_
  |refine sC (ztr _ _) ?_
  |exact cf (by unfold dJ;congr 2;(repeat' split)<;>first|rfl|exact sO))
theorem VL:ao aj 87 [jg x]<|aa<|dJ x:=by
 refine bt ?_
 repeat' (first
  |refine sS (λh=>?_) λh=>?_
  |(refine zqQ 5 ?_;(apply ry;focus (repeat' constructor));refine sW ?_)
  |((apply ry;focus (repeat' constructor));refine sW ?_)
  |(refine⟨zo,zo,?_⟩;refine sW ?_)
  |(refine⟨_,rfl,?_⟩;refine sW ?_)
  |(refine .inl ⟨zI,?_⟩;refine sW ?_)
  |exact cf (by unfold dJ;congr 2;(repeat' split)<;>first|rfl|exact sO))
def noP(x:cA):Tree:=bK 4<|cx 3 x.p
def noR(x:cA):Tree:=bK 4<|cx 3 x.r
def yA(x:cA)(more:Bool)(T:Tree):Tree :=
 if x.kind=2 then bK 11<|cx 3 x.p else if x.kind=3 then bK 10<|cx 3 x.p
 else if x.kind=5 then cW 6 (cW 8 (noP x)<|cx 3 x.s)<|bK 11<|noP x
 else if x.kind=6 then bK 11<|cW 6 (noP x)<|bK 10<|cx 3 x.s
 else if x.kind=4/\more=true then cW 6 (cW 8 (noP x)<|cW 5 (cx 3 x.p)<|bK 7 T)<|bK 11<|noP x else bK 11<|noP x
def rM(x:cA):Nat->Tree
 |0=>yA x false<|cx 0 0
 |n+1=>yA x true<|rM x n
def tE(weak:Bool)(a b:Tree):Tree:=if weak=true then cW 6 (cW 8 a b)<|bK 11 a else cW 8 a b
def Dy(x:cA):Tree:=cW 6 (noP x)<|cW 8 (noR x)<|cW 5 (cx 3 x.s)<|noR x
def DX(x:cA)(T:Tree):Tree:=cW 6 (cx 3 x.r)<|cW 5 (cW 5 (cx 3 x.p)<|noR x)<|bK 7 T
def upN(x:cA)(weak more:Bool)(T:Tree):Tree :=
 if x.kind=2 then tE weak (cx 3 x.p)<|cx 3 x.r else if x.kind=3 then cW 8 (noR x)<|cW 5 (cx 3 x.p)<|noR x
 else if x.kind=5 then tE weak (noP x)<|cW 6 (cx 3 x.s)<|cx 3 x.r else if x.kind=6 then tE weak (Dy x)<|cx 3 x.r
 else if x.kind=4/\more=true then tE weak (noP x)<|DX x T
 else tE weak (noP x)<|cx 3 x.r
def upT(x:cA)(weak:Bool):Nat->Tree
 |0=>upN x weak false<|cx 0 0
 |n+1=>upN x weak true<|upT x weak n
def tc(x:cA):Tree :=
 let n:=x.count.toNat
 if x.scope=2 then cW 6 (bK 4<|bK 10<|cx 3 x.r)<|upT x false n
 else if x.scope=3 then cW 6 (bK 11<|bK 4<|cx 3 x.q)<|cW 8 (bK 4<|cx 3 x.q)<|cW 5 (cx 3 x.q)<|rM x n
 else if x.scope=4 then bK 11<|cW 6 (bK 4<|cW 5 (cW 5 (cx 3 x.q)<|noR x)<|bK 10<|cx 3 x.r)<|upT x false n
 else if x.scope=5 then bK 11<|cW 6 (bK 4<|cW 5 (cx 3 x.q)<|noR x)<|upT x true n
 else rM x n
theorem Re(x:cA):∀n,Small (rM x n)
 |0=>by
  unfold rM yA noP;repeat' (first|exact Ar _ _|apply uE|apply zP|refine DU _ ?_ ?_)
 |n+1=>by
  have:=Re x n;unfold rM yA noP;repeat' (first|assumption|exact Ar _ _|apply uE|apply zP|refine DU _ ?_ ?_)
theorem XH(x:cA)(weak:Bool):∀n,Small (upT x weak n)
 |0=>by
  unfold upT upN tE Dy DX noP noR;repeat' (first|exact Ar _ _|apply uE|apply zP|refine DU _ ?_ ?_)
 |n+1=>by
  have:=XH x weak n;unfold upT upN tE Dy DX noP noR;repeat' (first|assumption|exact Ar _ _|apply uE|apply zP|refine DU _ ?_ ?_)
theorem NU:Small<|tc x:=by
 unfold tc noR;repeat' (first|exact Re _ _|exact XH _ _ _|exact Ar _ _|apply uE|apply zP|refine DU _ ?_ ?_)
theorem zp4:∀n:Nat,n<=3->ao aj 260 [jg x,aa n] (ba<|rM x n):=by
 intro n
 induction n with
 |zero =>
  intro _;refine bt ?_
  repeat' (first
   |refine sS (λh=>?_) λh=>?_
   |refine sC (vX _) ?_
   |refine sC (BC _) ?_
   |refine sC (J4 _) ?_
   |refine sC (B1 _ _) ?_
   |refine sC (DV _ _) ?_
   |refine sC (CU _ _) ?_
   |refine sC (CQ 10 _) ?_
   |exact nB (by simp_all [rM,yA,noP]) (.refl _))
 |succ n ih =>
  intro hn;have ih:=ih zo;refine bt ?_
  repeat' (first
   |refine sS (λh=>?_) λh=>?_
   |refine sC (vX _) ?_
   |refine sC (BC _) ?_
   |refine sC (J4 _) ?_
   |refine sC (B1 _ _) ?_
   |refine sC (DV _ _) ?_
   |refine sC (CU _ _) ?_
   |refine sC (CQ 10 _) ?_
   |refine sC (CQ 7 _) ?_
   |refine sC ih ?_
   |(refine .inl ⟨zI,?_⟩;rw[show(((n+1:Nat):Int)-1)=(n:Int) by omega];refine sW ?_)
   |exact nB (by simp_all [rM,yA,noP]) (.refl _))
theorem Hz(weak:Bool)(f g:FuncId)(c1 c2:bj)(h1:aA c1)(h2:aA c2)(a b:Tree)(hA:ao aj f c1<|ba a)(hB:ao aj g c2<|ba b) :
  ao aj 309 [ay weak,.fn (.func f) [] c1,.fn (.func g) [] c2] (ba<|tE weak a b):=by
 refine dh fZ zs (by simp[aA,Pure,h1,h2]) ?_<|im _;refine sR ?_
 repeat' (first
  |refine sS (λh=>?_) λh=>?_
  |refine sC hA ?_
  |refine sC hB ?_
  |refine sC (J4 _) ?_
  |refine sC (B1 _ _) ?_
  |refine sC (CU _ _) ?_
  |exact nB (by simp_all [tE]) (.refl _))
def Fe(x:cA):D:=.fn (.func 307) [] [.ax<|cm x]
def fnR(x:cA):D:=.fn (.func 308) [] [.ax<|cm x]
theorem Gz:ao aj 307 [.ax<|cm x]<|ba<|noP x:=by
 refine dh fZ zs (by simp[aA,Pure,cm]) ?_<|im _;refine sR ?_;refine sC (vX _) ?_;refine sC (BC _) ?_;exact .refl _
theorem A7:ao aj 308 [.ax<|cm x]<|ba<|cx 3 x.r:=by
 refine dh fZ zs (by simp[aA,Pure,cm]) ?_<|im _;refine sR ?_;refine sC (vX _) ?_;exact .refl _
theorem zBX:ao aj 310 [.ax<|cm x]<|ba<|cx 3 x.p:=by
 refine dh fZ zs (by simp[aA,Pure,cm]) ?_<|im _;refine sR ?_;refine sC (vX _) ?_;exact .refl _
theorem zBU:ao aj 311 [.ax<|cm x,.ax [fnR x]]<|ba<|cW 6 (cx 3 x.s)<|cx 3 x.r:=by
 refine dh fZ zs (by simp[aA,Pure,cm,fnR]) ?_<|im _;refine sR ?_
 repeat' (first
  |refine sC (vX _) ?_
  |refine sC (A7 x) ?_
  |refine sC (B1 _ _) ?_
  |exact nB rfl (.refl _))
theorem zBH:ao aj 312 [.ax [Fe x],.ax [fnR x],.ax<|cm x]<|ba<|Dy x:=by
 refine dh fZ zs (by simp[aA,Pure,cm,fnR,Fe]) ?_<|im _;refine sR ?_
 repeat' (first
  |refine sC (vX _) ?_
  |refine sC (Gz x) ?_
  |refine sC (A7 x) ?_
  |refine sC (B1 _ _) ?_
  |refine sC (DV _ _) ?_
  |refine sC (CU _ _) ?_
  |refine sC (BC _) ?_
  |exact nB rfl (.refl _))
theorem zBt(n:Nat)(hn:n<=3)(weak:Bool)(T:Tree)(h:ao aj 256 [jg x,aa n,ay weak]<|ba T) :
  ao aj 313 [.ax [fnR x],.ax<|cm x,.ax [aa ((n+1:Nat):Int)],.ax [ay weak]] (ba<|DX x T):=by
 refine dh fZ zs (by simp[aA,Pure,cm,fnR]) ?_<|im _;refine sR ?_
 repeat' (first
  |refine sC (vX _) ?_
  |refine sC (A7 x) ?_
  |refine sC (B1 _ _) ?_
  |refine sC (DV _ _) ?_
  |refine sC (CQ 7 _) ?_
  |refine sC (BC _) ?_
  |refine sC h ?_
  |(refine .inl ⟨zI,?_⟩;rw[show(((n+1:Nat):Int)-1)=(n:Int) by omega];refine sW ?_)
  |exact nB rfl (.refl _))
theorem W6(n:Nat)(weak:Bool)(T:Tree)(h6:0<n->ao aj 313 [.ax [fnR x],.ax<|cm x,.ax [aa n],.ax [ay weak]] (ba<|DX x T)) :
  ao aj 256 [jg x,aa n,ay weak] (ba<|upN x weak (decide (0<n)) T):=by
 refine bS (fY [39]) ?_;refine sR ?_
 refine bQ (nX (λi=>!(Nat.beq i 3)) (env':=[(3,.ax<|cm x),(4,.ax [aa n]),(5,.ax [ay weak]),(6,.loc 3 0),(7,.ax [Fe x]),(8,.ax [fnR x])])
  (H':=[.row false<|cm x,.row false [aa n],.row false [ay weak],.row true [aa 0,aa 0,au],.row false [Fe x],.row false [fnR x]]) ?_ ?_) ?_
 ·exact sD
 ·exact sD
 refine sR ?_
 repeat' (first
  |refine sS (λh=>?_) λh=>?_
  |refine sC (vX _) ?_
  |refine sC (Gz x) ?_
  |refine sC (A7 x) ?_
  |refine sC (BC _) ?_
  |refine sC (DV _ _) ?_
  |refine sC (CU _ _) ?_
  |refine sC (Hz weak _ _ _ _ (by simp[aA,Pure,cm]) (by simp[aA,Pure,cm]) _ _ (zBX x) (A7 x)) ?_
  |refine sC (Hz weak _ _ _ _ (by simp[aA,Pure,cm]) (by simp[aA,Pure,cm,fnR]) _ _ (Gz x) (zBU x)) ?_
  |refine sC (Hz weak _ _ _ _ (by simp[aA,Pure,cm,fnR,Fe]) (by simp[aA,Pure,cm]) _ _ (zBH x) (A7 x)) ?_
  |refine sC (Hz weak _ _ _ _ (by simp[aA,Pure,cm]) (by simp[aA,Pure,cm,fnR]) _ _ (Gz x) (h6 (sO))) ?_
  |refine sC (Hz weak _ _ _ _ (by simp[aA,Pure,cm]) (by simp[aA,Pure,cm]) _ _ (Gz x) (A7 x)) ?_
  |exact nB (by simp_all [upN,tE,noR]) (.refl _))
theorem zxs(weak:Bool):∀n:Nat,n<=3->ao aj 256 [jg x,aa n,ay weak] (ba<|upT x weak n):=by
 intro n
 induction n with
 |zero=>exact λ_=>W6 x 0 weak (cx 0 0) λh=>zo
 |succ n ih =>
  intro hn;have:=W6 x (n+1) weak (upT x weak n) λ_=>zBt x n zo weak _<|ih zo;rw[show decide (0<n+1)=true from rfl] at this;exact this
theorem zwG(h:dJ x=0):ao aj 202 [jg x]<|ba<|tc x:=by
 have hc:0<=x.count/\x.count<=3:=by
  unfold dJ at h;split at h<;>omega
 have hn:x.count=(x.count.toNat:Int):=zo;have hg:=zp4 x x.count.toNat zo;have hu:=λweak=>zxs x weak x.count.toNat zo;rw[<-hn] at hg hu;clear hn hc h;refine bt ?_
 repeat' (first
  |refine sS (λh=>?_) λh=>?_
  |refine sC hg ?_
  |refine sC (hu true) ?_
  |refine sC (hu false) ?_
  |refine sC (vX _) ?_
  |refine sC (BC _) ?_
  |refine sC (J4 _) ?_
  |refine sC (B1 _ _) ?_
  |refine sC (DV _ _) ?_
  |refine sC (CU _ _) ?_
  |refine sC (CQ 10 _) ?_
  |exact nB (by simp_all [tc,noR]) (.refl _))
theorem zpt(hk:1<=x.kind/\x.kind<=6):∀n:Nat,n<=3->ao aj 230 [jg x,aa n] (ba<|rM x n):=by
 intro n
 induction n with
 |zero =>
  intro _;refine bt ?_
  repeat' (first
   |refine sS (λh=>?_) λh=>?_
   |refine sC (Ad _) ?_
   |refine sC (B2 _) ?_
   |refine sC (Dm _ _) ?_
   |refine sC (Aq _ _) ?_
   |refine sC (xH 8 _ _) ?_
   |refine sC (oS 10 _) ?_
   |refine sC (oS 11 _) ?_
   |exact nB (by unfold rM yA noP;(repeat' split)<;>first|rfl|(exfalso;exact sO)) (.refl _)
   |(exfalso;exact sO))
 |succ n ih =>
  intro hn;have ih:=ih zo;refine bt ?_
  repeat' (first
   |refine sS (λh=>?_) λh=>?_
   |refine sC (Ad _) ?_
   |refine sC (B2 _) ?_
   |refine sC (Dm _ _) ?_
   |refine sC (Aq _ _) ?_
   |refine sC (xH 8 _ _) ?_
   |refine sC (oS 10 _) ?_
   |refine sC (oS 11 _) ?_
   |refine sC (oS 7 _) ?_
   |refine sC ih ?_
   |(refine .inl ⟨zI,?_⟩;rw[show(((n+1:Nat):Int)-1)=(n:Int) by omega];refine sW ?_)
   |exact nB (by rw[show rM x (n+1)=yA x true (rM x n) from rfl];generalize rM x n=T;unfold yA noP;(repeat' split)<;>first|rfl|(exfalso;exact sO)) (.refl _)
   |(exfalso;exact sO))
theorem zwR(w:Bool)(n:Nat):upT x w (n+1)=upN x w true (upT x w n):=rfl
theorem zvT(weak:Bool):∀n:Nat,n<=3->ao aj 228 [jg x,aa n,ay weak] (ba<|upT x weak n):=by
 intro n
 induction n with
 |zero =>
  intro _;refine bt ?_
  repeat' (first
   |refine sS (λh=>?_) λh=>?_
   |refine sC (Ad _) ?_
   |refine sC (B2 _) ?_
   |refine sC (Dm _ _) ?_
   |refine sC (Aq _ _) ?_
   |refine sC (xH 8 _ _) ?_
   |refine sC (oS 11 _) ?_
   |exact nB (by unfold upT upN tE Dy noP noR;(repeat' split)<;>first|rfl|(exfalso;exact sO)) (.refl _)
   |(exfalso;exact sO))
 |succ n ih =>
  intro hn;have ih:=ih zo;refine bt ?_
  repeat' (first
   |refine sS (λh=>?_) λh=>?_
   |refine sC (Ad _) ?_
   |refine sC (B2 _) ?_
   |refine sC (Dm _ _) ?_
   |refine sC (Aq _ _) ?_
   |refine sC (xH 8 _ _) ?_
   |refine sC (oS 11 _) ?_
   |refine sC (oS 7 _) ?_
   |refine sC ih ?_
   |(refine .inl ⟨zI,?_⟩;rw[show(((n+1:Nat):Int)-1)=(n:Int) by omega];refine sW ?_)
   |exact nB (by rw[zwR];generalize upT x _ n=T;unfold upN tE Dy DX noP noR;(repeat' split)<;>first|rfl|(exfalso;exact sO)) (.refl _)
   |(exfalso;exact sO))
theorem zpV(h:dJ x=0):ao aj 163 [jg x]<|ba<|tc x:=by
 have hc:(0<=x.count/\x.count<=3)/\1<=x.kind/\x.kind<=6:=by
  unfold dJ at h;split at h<;>omega
 have hn:x.count=(x.count.toNat:Int):=zo;have hg:=zpt x hc.2 x.count.toNat zo;have hu:=λweak=>zvT x weak x.count.toNat zo;rw[<-hn] at hg hu;clear hn hc h;refine bt ?_
 repeat' (first
  |refine sS (λh=>?_) λh=>?_
  |refine sC hg ?_
  |refine sC (hu true) ?_
  |refine sC (hu false) ?_
  |refine sC (Ad _) ?_
  |refine sC (B2 _) ?_
  |refine sC (Dm _ _) ?_
  |refine sC (Aq _ _) ?_
  |refine sC (xH 8 _ _) ?_
  |refine sC (oS 10 _) ?_
  |refine sC (oS 11 _) ?_
  |exact nB (by simp_all [tc,noR]) (.refl _))
def xc:D:=.fn (.func 158) [] [.loc 0 0,.loc 1 0]
variable{m:Nat}
@[simp] theorem zyh:aK m xc↔0<m/\1<m:=by simp[xc,aK,aG]
theorem zou:ao aj 159 [aa k]<|aa<|bw k:=by
 refine bt ?_;repeat' (first|refine sS (λh=>?_) λh=>?_|exact cf<|by unfold bw;congr 2;(repeat' split)<;>first|rfl|exact sO)
theorem zxD:∀(t:Tree) (d n:Int),Small t->0<=d->d<=21->0<=n->n<=60->bZ aj 158 [ba t,aa d,.loc 0 0,.loc 1 0] [.row true [aa n],.row true [xc]] (.sc (.int .i64 (dj bw t d n).1)) [.row true [.sc (.int .i64 (dj bw t d n).2)],.row true [xc]]:=by
 intro t
 induction t using Tree.ind with
 |h t ih =>
  intro d n hs hd yf hn du;have eJ:=hs.width;refine jb fZ zs zs ?_ zu (by simp[al.under,aG,aK,xc]);refine sR ?_;refine .inl ⟨zI,?_⟩;refine sW ?_;have e:=JA bw t d n;refine sS (λh1=>?_) λh1=>?_
  ·simp at h1;rw[e,ae h1];exact⟨rfl,rfl,zs⟩
  rw[ab<|by simpa using h1] at e;refine sS (λh2=>?_) λh2=>?_
  ·simp at h2;rw[e,ae h2];exact⟨rfl,rfl,zs⟩
  rw[ab<|by simpa using h2] at e;refine sC (zou t.kind) ?_;have odd:eY bw t->dj bw t d n=(1,n+1):=λh=>by rw[e,ae h]
  have bad:eY bw t->(aa 1=.sc (.int .i64 (dj bw t d n).1)/\List.take [al.row true [D.sc<|Value.int IntKind.i64 (dj bw t d n).2],.row true [xc]].length [al.row true [aa<|n+1],.row true [xc],al.row true<|aO t]=[al.row true [D.sc<|Value.int IntKind.i64 (dj bw t d n).2],.row true [xc]]/\[al.row true [D.sc<|Value.int IntKind.i64 (dj bw t d n).2],.row true [xc]].length<=3):=λh=>by
   rw[odd h];exact⟨rfl,rfl,zs⟩
  repeat' (first
   |refine sS (λh=>?_) λh=>?_
   |exact bad (by unfold eY Tree.width;exact sO))
  all_goals
   have cg:¬eY bw t:=(by unfold eY Tree.width;exact sO);rw[ab cg] at e;have qo:n+1<=60:=(by simp at h1;omega);have D5:d<=20:=by simp at h2;omega
   refine wc (λx:Nat×Int=>[(1,aa d),(2,.loc 0 0),(3,.loc 1 0),(4,.loc 2 0),(7,aa x.1)])
    (λx=>[.row true [aa x.2],.row true [xc],.row true<|aO t]) (λx=>x.1<=t.width/\0<=x.2/\x.2<=60/\iN bw t.kids (d+1) (n+1)=iN bw (t.kids.drop x.1) (d+1) x.2) (λx=>t.width-x.1) (0,n+1)
    ⟨zs,zq,qo,rfl⟩ (pN ⟨rfl,rfl,rfl,rfl,rfl,trivial⟩) ?_
   clear h1 h2;rintro⟨k,m⟩ ⟨hk,Bj,Co,hF⟩;refine sRS (λh4=>?_) λh4=>?_
   ·have ai:k<t.width:=(by simpa [Tree.width] using h4);rw[Iy _ ai] at hF;refine sL (db ai) ?_;refine .inl ⟨zI,?_⟩;refine sW ?_
    (refine .inr (.inr (.inr (.inl ⟨_,_,by simp[aG,bB,dX,al.under,aK],by simp[aG,bB,dX,al.under,aK],(nk (ih k ai (d+1) m (hs.aD ai) zo zo Bj Co) [.row true<|aO t] rfl zu (by simp[dX,al.under,aG,aK])),?_⟩)));((conv=>whnf);repeat(refine⟨rfl,?_⟩;conv=>whnf)))
    refine sS (λh5=>?_) λh5=>?_
    ·rw[e,hF,ab<|by simpa using h5];exact⟨rfl,rfl,zs⟩
    have vh:(dj bw (t.aD k) (d+1) m).1=0:=(by simpa using h5);rw[ae vh] at hF;have b1:=(GC bw (t.aD k) (d+1) m).1;have b2:=Ew bw (t.aD k) (d+1) m vh;refine .inl ⟨zW,?_⟩;refine sW ?_;refine⟨(k+1,(dj bw (t.aD k) (d+1) m).2),⟨by dsimp only at *;omega,by dsimp only at *;omega,b2,hF⟩,by dsimp only at *;omega,pN ⟨rfl,rfl,rfl,rfl,rfl,trivial⟩⟩
   have ai:k=t.width:=by have:¬k<t.width:=by simpa [Tree.width] using h4
                         dsimp only at hk;omega
   rw[e,hF,ai,IU];exact⟨rfl,rfl,zs⟩
variable(t:Tree)
theorem yJ(hs:Small t):ao aj 90 [ba t]<|aa<|aU bw t:=by
 refine bt ?_;refine sA (rX (zxD t 1 0 hs zo zo zo zo) [.row true<|aO t] [] rfl zu (by simp[dX,al.under,aG,aK]) (args2:=[ba t,aa 1,.loc 1 0,.loc 2 0]) (by simp[bL,D.aP]) rfl rfl rfl) ?_;exact .refl _
def wK:D:=.fn (.func 160) [] [.loc 0 0,.loc 1 0]
@[simp] theorem zx3:aK m wK↔0<m/\1<m:=by simp[wK,aK,aG]
theorem zn9:ao aj 161 [aa k]<|aa<|c9 k:=by
 refine bt ?_;repeat' (first|refine sS (λh=>?_) λh=>?_|exact cf<|by unfold c9;congr 2;(repeat' split)<;>first|rfl|exact sO)
theorem zvj:∀(t:Tree) (d n:Int),Small t->0<=d->d<=21->0<=n->n<=60->bZ aj 160 [ba t,aa d,.loc 0 0,.loc 1 0] [.row true [aa n],.row true [wK]] (.sc (.int .i64 (dj c9 t d n).1)) [.row true [.sc (.int .i64 (dj c9 t d n).2)],.row true [wK]]:=by
 intro t
 induction t using Tree.ind with
 |h t ih =>
  intro d n hs hd yf hn du;have eJ:=hs.width;refine jb fZ zs zs ?_ zu (by simp[al.under,aG,aK,wK]);refine sR ?_;refine .inl ⟨zI,?_⟩;refine sW ?_;have e:=JA c9 t d n;refine sS (λh1=>?_) λh1=>?_
  ·simp at h1;rw[e,ae h1];exact⟨rfl,rfl,zs⟩
  rw[ab<|by simpa using h1] at e;refine sS (λh2=>?_) λh2=>?_
  ·simp at h2;rw[e,ae h2];exact⟨rfl,rfl,zs⟩
  rw[ab<|by simpa using h2] at e;refine sC (zn9 t.kind) ?_;have odd:eY c9 t->dj c9 t d n=(1,n+1):=λh=>by rw[e,ae h]
  have bad:eY c9 t->(aa 1=.sc (.int .i64 (dj c9 t d n).1)/\List.take [al.row true [D.sc<|Value.int IntKind.i64 (dj c9 t d n).2],.row true [wK]].length [al.row true [aa<|n+1],.row true [wK],al.row true<|aO t]=[al.row true [D.sc<|Value.int IntKind.i64 (dj c9 t d n).2],.row true [wK]]/\[al.row true [D.sc<|Value.int IntKind.i64 (dj c9 t d n).2],.row true [wK]].length<=3):=λh=>by
   rw[odd h];exact⟨rfl,rfl,zs⟩
  repeat' (first
   |refine sS (λh=>?_) λh=>?_
   |exact bad (by unfold eY Tree.width;exact sO))
  all_goals
   have cg:¬eY c9 t:=(by unfold eY Tree.width;exact sO);rw[ab cg] at e;have qo:n+1<=60:=(by simp at h1;omega);have D5:d<=20:=by simp at h2;omega
   refine wc (λx:Nat×Int=>[(1,aa d),(2,.loc 0 0),(3,.loc 1 0),(4,.loc 2 0),(7,aa x.1)])
    (λx=>[.row true [aa x.2],.row true [wK],.row true<|aO t]) (λx=>x.1<=t.width/\0<=x.2/\x.2<=60/\iN c9 t.kids (d+1) (n+1)=iN c9 (t.kids.drop x.1) (d+1) x.2) (λx=>t.width-x.1) (0,n+1)
    ⟨zs,zq,qo,rfl⟩ (pN ⟨rfl,rfl,rfl,rfl,rfl,trivial⟩) ?_
   clear h1 h2;rintro⟨k,m⟩ ⟨hk,Bj,Co,hF⟩;refine sRS (λh4=>?_) λh4=>?_
   ·have ai:k<t.width:=(by simpa [Tree.width] using h4);rw[Iy _ ai] at hF;refine sL (db ai) ?_;refine .inl ⟨zI,?_⟩;refine sW ?_
    (refine .inr (.inr (.inr (.inl ⟨_,_,by simp[aG,bB,dX,al.under,aK],by simp[aG,bB,dX,al.under,aK],(nk (ih k ai (d+1) m (hs.aD ai) zo zo Bj Co) [.row true<|aO t] rfl zu (by simp[dX,al.under,aG,aK])),?_⟩)));((conv=>whnf);repeat(refine⟨rfl,?_⟩;conv=>whnf)))
    refine sS (λh5=>?_) λh5=>?_
    ·rw[e,hF,ab<|by simpa using h5];exact⟨rfl,rfl,zs⟩
    have vh:(dj c9 (t.aD k) (d+1) m).1=0:=(by simpa using h5);rw[ae vh] at hF;have b1:=(GC c9 (t.aD k) (d+1) m).1;have b2:=Ew c9 (t.aD k) (d+1) m vh;refine .inl ⟨zW,?_⟩;refine sW ?_;refine⟨(k+1,(dj c9 (t.aD k) (d+1) m).2),⟨by dsimp only at *;omega,by dsimp only at *;omega,b2,hF⟩,by dsimp only at *;omega,pN ⟨rfl,rfl,rfl,rfl,rfl,trivial⟩⟩
   have ai:k=t.width:=by have:¬k<t.width:=by simpa [Tree.width] using h4
                         dsimp only at hk;omega
   rw[e,hF,ai,IU];exact⟨rfl,rfl,zs⟩
theorem zzt(hs:Small t):ao aj 92 [ba t]<|aa<|aU c9 t:=by
 refine bt ?_;refine sA (rX (zvj t 1 0 hs zo zo zo zo) [.row true<|aO t] [] rfl zu (by simp[dX,al.under,aG,aK]) (args2:=[ba t,aa 1,.loc 1 0,.loc 2 0]) (by simp[bL,D.aP]) rfl rfl rfl) ?_;exact .refl _
theorem zu2:ao aj 275 [aa k]<|aa<|bw k:=by
 refine bt ?_;repeat' (first|refine sS (λh=>?_) λh=>?_|exact cf<|by simp_all [bw])
theorem zt8:∀(t:Tree) (d n:Int),Small t->0<=d->d<=21->0<=n->n<=60->bZ aj 204 ([ba t,aa d]++.loc 0 0::[]) [.row true [aa n]] (.sc (.int .i64 (dj bw t d n).1)) [.row true [.sc (.int .i64 (dj bw t d n).2)]]:=by
 intro t
 induction t using Tree.ind with
 |h t ih =>
  intro d n hs hd yf hn du;have eJ:=hs.width;refine jb fZ zs zs ?_ zu (by simp[al.under,aG,aK]);refine sR ?_;refine .inl ⟨zI,?_⟩;refine sW ?_;have e:=JA bw t d n;refine sS (λh1=>?_) λh1=>?_
  ·simp at h1;rw[e,ae h1];exact⟨rfl,rfl,zs⟩
  rw[ab<|by simpa using h1] at e;refine sS (λh2=>?_) λh2=>?_
  ·simp at h2;rw[e,ae h2];exact⟨rfl,rfl,zs⟩
  rw[ab<|by simpa using h2] at e;refine sC (zu2 t.kind) ?_;have odd:eY bw t->dj bw t d n=(1,n+1):=λh=>by rw[e,ae h]
  have bad:eY bw t->(aa 1=.sc (.int .i64 (dj bw t d n).1)/\List.take [al.row true [D.sc<|Value.int IntKind.i64 (dj bw t d n).2]].length [al.row true [aa<|n+1],al.row true<|aO t]=[al.row true [D.sc<|Value.int IntKind.i64 (dj bw t d n).2]]/\[al.row true [D.sc<|Value.int IntKind.i64 (dj bw t d n).2]].length<=2):=λh=>by
   rw[odd h];exact⟨rfl,rfl,zs⟩
  repeat' (first
   |refine sS (λh=>?_) λh=>?_
   |exact bad (by unfold eY Tree.width;simp_all;try omega))
  all_goals
   have cg:¬eY bw t:=by unfold eY Tree.width;simp_all;try omega
   rw[ab cg] at e;have qo:n+1<=60:=(by simp at h1;omega);have D5:d<=20:=by simp at h2;omega
   refine wc (λx:Nat×Int=>[(1,aa d),(2,.loc 0 0),(48,.aM 3<|t.kids.map gF),(49,.sc (.int .i64 (t.kids.map gF).length)),(50,aa x.1)])
    (λx=>[.row true [aa x.2],.row true<|aO t]) (λx=>x.1<=t.width/\0<=x.2/\x.2<=60/\iN bw t.kids (d+1) (n+1)=iN bw (t.kids.drop x.1) (d+1) x.2) (λx=>t.width-x.1) (0,n+1)
    ⟨zs,zq,qo,rfl⟩ (pN ⟨rfl,rfl,rfl,rfl,rfl,trivial⟩) ?_
   clear h1 h2;rintro⟨k,m⟩ ⟨hk,Bj,Co,hF⟩;refine sRS (λh4=>?_) λh4=>?_
   ·have ai:k<t.width:=(by simpa [Tree.width] using h4);rw[Iy _ ai] at hF;refine sL (db ai) ?_;refine .inl ⟨zI,?_⟩;refine sW ?_;refine sA (r7 (ih k ai (d+1) m (hs.aD ai) zo zo Bj Co) zp zp zp zp zp (id:=0) rfl) ?_;refine sS (λh5=>?_) λh5=>?_
    ·rw[e,hF,ab<|by simpa using h5];exact⟨rfl,rfl,zs⟩
    have vh:(dj bw (t.aD k) (d+1) m).1=0:=(by simpa using h5);rw[ae vh] at hF;have b1:=(GC bw (t.aD k) (d+1) m).1;have b2:=Ew bw (t.aD k) (d+1) m vh;refine .inl ⟨zW,?_⟩;refine sW ?_
    refine⟨(k+1,(dj bw (t.aD k) (d+1) m).2),⟨by dsimp only at *;omega,by dsimp only at *;omega,b2,hF⟩,by dsimp only at *;omega,aL 2 zs rfl ⟨.refl _,zu,.refl _,zu,.refl _,by simp only[aK];exact bm _<|Ch t,.refl _,zu,.refl _,zu,trivial⟩
     ⟨⟨rfl,.refl _,zu⟩,⟨rfl,.refl _,bI _<|eU t⟩,trivial⟩⟩
   have ai:k=t.width:=by have:¬k<t.width:=by simpa [Tree.width] using h4
                         dsimp only at hk;omega
   rw[e,hF,ai,IU];exact⟨rfl,rfl,zs⟩
theorem BJ(hs:Small t):ao aj 151 [ba t]<|aa<|aU bw t:=by
 refine bt ?_;refine sA (r7 (zt8 t 1 0 hs zo zo zo zo) zp zp zp zp zp (H:=[.row true<|aO t,.row true [aa 0]]) (id:=1) rfl) ?_;exact .refl _
theorem zvI:ao aj 304 [aa k]<|aa<|c9 k:=by
 refine bt ?_;repeat' (first|refine sS (λh=>?_) λh=>?_|exact cf<|by simp_all [c9])
theorem zt6:∀(t:Tree) (d n:Int),Small t->0<=d->d<=21->0<=n->n<=60->bZ aj 247 ([ba t,aa d]++.loc 0 0::[]) [.row true [aa n]] (.sc (.int .i64 (dj c9 t d n).1)) [.row true [.sc (.int .i64 (dj c9 t d n).2)]]:=by
 intro t
 induction t using Tree.ind with
 |h t ih =>
  intro d n hs hd yf hn du;have eJ:=hs.width;refine jb fZ zs zs ?_ zu (by simp[al.under,aG,aK]);refine sR ?_;refine .inl ⟨zI,?_⟩;refine sW ?_;have e:=JA c9 t d n;refine sS (λh1=>?_) λh1=>?_
  ·simp at h1;rw[e,ae h1];exact⟨rfl,rfl,zs⟩
  rw[ab<|by simpa using h1] at e;refine sS (λh2=>?_) λh2=>?_
  ·simp at h2;rw[e,ae h2];exact⟨rfl,rfl,zs⟩
  rw[ab<|by simpa using h2] at e;refine sC (zvI t.kind) ?_;have odd:eY c9 t->dj c9 t d n=(1,n+1):=λh=>by rw[e,ae h]
  have bad:eY c9 t->(aa 1=.sc (.int .i64 (dj c9 t d n).1)/\List.take [al.row true [D.sc<|Value.int IntKind.i64 (dj c9 t d n).2]].length [al.row true [aa<|n+1],al.row true<|aO t]=[al.row true [D.sc<|Value.int IntKind.i64 (dj c9 t d n).2]]/\[al.row true [D.sc<|Value.int IntKind.i64 (dj c9 t d n).2]].length<=2):=λh=>by
   rw[odd h];exact⟨rfl,rfl,zs⟩
  repeat' (first
   |refine sS (λh=>?_) λh=>?_
   |exact bad (by unfold eY Tree.width;simp_all;try omega))
  all_goals
   have cg:¬eY c9 t:=by unfold eY Tree.width;simp_all;try omega
   rw[ab cg] at e;have qo:n+1<=60:=(by simp at h1;omega);have D5:d<=20:=by simp at h2;omega
   refine wc (λx:Nat×Int=>[(1,aa d),(2,.loc 0 0),(48,.aM 3<|t.kids.map gF),(49,.sc (.int .i64 (t.kids.map gF).length)),(50,aa x.1)])
    (λx=>[.row true [aa x.2],.row true<|aO t]) (λx=>x.1<=t.width/\0<=x.2/\x.2<=60/\iN c9 t.kids (d+1) (n+1)=iN c9 (t.kids.drop x.1) (d+1) x.2) (λx=>t.width-x.1) (0,n+1)
    ⟨zs,zq,qo,rfl⟩ (pN ⟨rfl,rfl,rfl,rfl,rfl,trivial⟩) ?_
   clear h1 h2;rintro⟨k,m⟩ ⟨hk,Bj,Co,hF⟩;refine sRS (λh4=>?_) λh4=>?_
   ·have ai:k<t.width:=(by simpa [Tree.width] using h4);rw[Iy _ ai] at hF;refine sL (db ai) ?_;refine .inl ⟨zI,?_⟩;refine sW ?_;refine sA (r7 (ih k ai (d+1) m (hs.aD ai) zo zo Bj Co) zp zp zp zp zp (id:=0) rfl) ?_;refine sS (λh5=>?_) λh5=>?_
    ·rw[e,hF,ab<|by simpa using h5];exact⟨rfl,rfl,zs⟩
    have vh:(dj c9 (t.aD k) (d+1) m).1=0:=(by simpa using h5);rw[ae vh] at hF;have b1:=(GC c9 (t.aD k) (d+1) m).1;have b2:=Ew c9 (t.aD k) (d+1) m vh;refine .inl ⟨zW,?_⟩;refine sW ?_
    refine⟨(k+1,(dj c9 (t.aD k) (d+1) m).2),⟨by dsimp only at *;omega,by dsimp only at *;omega,b2,hF⟩,by dsimp only at *;omega,aL 2 zs rfl ⟨.refl _,zu,.refl _,zu,.refl _,by simp only[aK];exact bm _<|Ch t,.refl _,zu,.refl _,zu,trivial⟩
     ⟨⟨rfl,.refl _,zu⟩,⟨rfl,.refl _,bI _<|eU t⟩,trivial⟩⟩
   have ai:k=t.width:=by have:¬k<t.width:=by simpa [Tree.width] using h4
                         dsimp only at hk;omega
   rw[e,hF,ai,IU];exact⟨rfl,rfl,zs⟩
theorem Tw(hs:Small t):ao aj 190 [ba t]<|aa<|aU c9 t:=by
 refine bt ?_;refine sA (r7 (zt6 t 1 0 hs zo zo zo zo) zp zp zp zp zp (H:=[.row true<|aO t,.row true [aa 0]]) (id:=1) rfl) ?_;exact .refl _
variable{H:aE}
theorem LX:Deep H (.agg [aa 0,aa 0,au])<|ba<|cx 0 0:=by exact sP
theorem QC:∀a b:Tree,Small a->ao aj 95 [ba a,ba b] (ay<|dI a b):=by
 intro a
 induction a using Tree.ind with
 |h a ih =>
  intro b hs;refine bt ?_;have no:a.kind≠b.kind\/a.num≠b.num\/a.kids.length≠b.kids.length->false=dI a b:=λh=>Dc (by rintro rfl;simp at h);refine sS (λh1=>?_) λh1=>?_
  ·exact cf<|bH (λx=>ay x)<|no (.inl<|by simpa using h1)
  refine sS (λh2=>?_) λh2=>?_
  ·exact cf<|bH (λx=>ay x)<|no (.inr (.inl<|by simpa using h2))
  refine sS (λh3=>?_) λh3=>?_
  ·exact cf<|bH (λx=>ay x)<|no (.inr (.inr<|by simp at h3;omega))
  simp at h1 h2 h3;have eJ:=hs.width
  refine A5 (λk:Nat=>[(2,.loc 0 0),(3,.loc 1 0),(5,aa k)]) (λ_=>[.row true<|aO a,.row true<|aO b])
   (λk=>k<=a.width/\∀j,j<k->a.aD j=b.aD j) (λk=>a.width-k) 0 ⟨zo,λj h=>zo⟩ (rK ⟨rfl,rfl,rfl,trivial⟩) ?_
  rintro k ⟨hk,bR⟩;refine sRS (λh4=>?_) λh4=>?_
  ·have ai:k<a.width:=(by simpa [Tree.width] using h4);refine sL (db ai) ?_;refine sL (db (t:=b)<|by unfold Tree.width at *;omega) ?_;refine sC (ih k ai (b.aD k)<|hs.aD ai) ?_;refine sS (λh5=>?_) λh5=>?_
   ·exact cf<|bH (λx=>ay x)<|Dc<|by rintro rfl;simp[dI] at h5
   simp[Cs] at h5;refine .inl ⟨zW,?_⟩;refine sW ?_;refine⟨k+1,⟨zo,λj hj=>?_⟩,zd,rK ⟨rfl,rfl,rfl,trivial⟩⟩;by_cases e:j=k
   ·subst e;exact h5
   exact bR j zo
  have ai:¬k<a.width:=(by simpa [Tree.width] using h4);exact cf<|bH (λx=>ay x)<|Pb<|Tree.Pt h1 h2 (by unfold Tree.width;omega) λj hj=>bR j zo
variable(dt:Tree)
theorem zlA(hg:Small dt):ao aj 95 [ba dt,.agg [aa 0,aa 0,au]] (ay<|dI dt<|cx 0 0) :=
 Zi zp (.cons _ _ _ _ (.refl _) (.cons _ _ _ _ LX .nil)) (QC dt (cx 0 0) hg)
theorem zn4:∀a b:Tree,Small a->ao aj 96 [ba a,ba b] (ay<|dI a b):=by
 intro a
 induction a using Tree.ind with
 |h a ih =>
  intro b hs;refine bt ?_;have no:a.kind≠b.kind\/a.num≠b.num\/a.kids.length≠b.kids.length->false=dI a b:=λh=>Dc (by rintro rfl;simp at h);refine sS (λh1=>?_) λh1=>?_
  ·exact cf<|bH (λx=>ay x)<|no (.inl<|by simpa using h1)
  refine sS (λh2=>?_) λh2=>?_
  ·exact cf<|bH (λx=>ay x)<|no (.inr (.inl<|by simpa using h2))
  refine sS (λh3=>?_) λh3=>?_
  ·exact cf<|bH (λx=>ay x)<|no (.inr (.inr<|by simp at h3;omega))
  simp at h1 h2 h3;have eJ:=hs.width
  refine A5 (λk:Nat=>[(2,.loc 0 0),(3,.loc 1 0),(5,aa k)]) (λ_=>[.row true<|aO a,.row true<|aO b])
   (λk=>k<=a.width/\∀j,j<k->a.aD j=b.aD j) (λk=>a.width-k) 0 ⟨zo,λj h=>zo⟩ (rK ⟨rfl,rfl,rfl,trivial⟩) ?_
  rintro k ⟨hk,bR⟩;refine sRS (λh4=>?_) λh4=>?_
  ·have ai:k<a.width:=(by simpa [Tree.width] using h4);refine sL (db ai) ?_;refine sL (db (t:=b)<|by unfold Tree.width at *;omega) ?_;refine sC (ih k ai (b.aD k)<|hs.aD ai) ?_;refine sS (λh5=>?_) λh5=>?_
   ·exact cf<|bH (λx=>ay x)<|Dc<|by rintro rfl;simp[dI] at h5
   simp[Cs] at h5;refine .inl ⟨zW,?_⟩;refine sW ?_;refine⟨k+1,⟨zo,λj hj=>?_⟩,zd,rK ⟨rfl,rfl,rfl,trivial⟩⟩;by_cases e:j=k
   ·subst e;exact h5
   exact bR j zo
  have ai:¬k<a.width:=(by simpa [Tree.width] using h4);exact cf<|bH (λx=>ay x)<|Pb<|Tree.Pt h1 h2 (by unfold Tree.width;omega) λj hj=>bR j zo
theorem zmz(hg:Small dt):ao aj 96 [ba dt,.agg [aa 0,aa 0,au]] (ay<|dI dt<|cx 0 0) :=
 Zi zp (.cons _ _ _ _ (.refl _) (.cons _ _ _ _ LX .nil)) (zn4 dt (cx 0 0) hg)
noncomputable def oH(e:Int)(t:Tree):D:=.aJ [ba<|if e=0 then t else cx 0 0,aa e]
@[simp] theorem zBM(e:Int)(t:Tree):Pure<|oH e t:=by simp[oH,Pure,aA,im]
variable{e:Int}
theorem uy(h:e≠0)(t:Tree):Deep H (.aJ [.agg [aa 0,aa 0,au],aa e])<|oH e t:=by
 unfold oH;rw[ab h];exact .aJ _ _ (.cons _ _ _ _ LX (.cons _ _ _ _ (.refl _) .nil))
variable{t:Tree}
theorem Dq(h:e=0){d:D}(k:Deep H d<|ba t):Deep H (.aJ [d,aa 0])<|oH e t:=by
 subst h;unfold oH;rw[ae rfl];exact .aJ _ _ (.cons _ _ _ _ k (.cons _ _ _ _ (.refl _) .nil))
noncomputable def uR(x:cA):Int:=if dJ x=0 then aU bw<|tc x else dJ x
noncomputable def vL(k a b c:Int):Int:=if jm k a b c=0 then aU bw<|r8 k a b c else jm k a b c
theorem zsW(k a b c:Int):ao aj 150 [vn k a b c]<|oH (vL k a b c)<|r8 k a b c:=by
 refine bS fZ ?_;unfold vL;refine sR ?_;refine sC (LP k a b c) ?_;refine sS (λh1=>?_) λh1=>?_
 ·rw[ab<|sO];exact uy (sO) _
 have h0:jm k a b c=0:=sO;rw[ae h0];refine sC (zxp k a b c h0) ?_;refine sC (BJ _<|PO k a b c) ?_;refine sS (λh2=>?_) λh2=>?_
 ·exact uy (sO) _
 exact Dq (sO) (.refl _)
theorem zew(k a b c:Int)(h0:jm k a b c=0):ao aj 113 [vn k a b c]<|oH (vL k a b c)<|r8 k a b c:=by
 refine bS fZ ?_;unfold vL;rw[ae h0];refine sR ?_;refine sC (zpE k a b c h0) ?_;refine sC (yJ _<|PO k a b c) ?_;refine sS (λh2=>?_) λh2=>?_
 ·exact uy (sO) _
 exact Dq (sO) (.refl _)
theorem zsN:ao aj 149 [jg x]<|oH (uR x)<|tc x:=by
 refine bS fZ ?_;unfold uR;refine sR ?_;refine sC (x3 x) ?_;refine sS (λh1=>?_) λh1=>?_
 ·rw[ab<|sO];exact uy (sO) _
 have h0:dJ x=0:=sO;rw[ae h0];refine sC (zwG x h0) ?_;refine sC (BJ _<|NU x) ?_;refine sS (λh2=>?_) λh2=>?_
 ·exact uy (sO) _
 exact Dq (sO) (.refl _)
theorem zgd(h0:dJ x=0):ao aj 112 [jg x]<|oH (uR x)<|tc x:=by
 refine bS fZ ?_;unfold uR;rw[ae h0];refine sR ?_;refine sC (zpV x h0) ?_;refine sC (yJ _<|NU x) ?_;refine sS (λh2=>?_) λh2=>?_
 ·exact uy (sO) _
 exact Dq (sO) (.refl _)
variable{k:Nat}
theorem zsJ(hk:k<t.width):List.drop 0 (List.take k<|(t.kids.take k).map gF)++[aO<|t.aD k]=(t.kids.take<|k+1).map gF:=by
 have:=Lc gF<|kid_get? hk;rwa [wY] at this
theorem zng:∀t:Tree,t.wf bw->ao aj 152 [ba t] (ba t):=by
 intro t
 induction t using Tree.ind with
 |h t ih =>
  intro cy;have hs:=vl t cy;have eJ:=hs.width;have tX:=tT ((jD _ _).1 cy).1;refine bt ?_;rw[aI];refine bQ (gG 2 2 3 zs rfl rfl) ?_;refine bb [2,3,12,13] (λk:Nat=>[(14,aa k)]) (λk=>[(2,.row true [aa t.kind,aa t.num,.own 3 k 0 k]),(3,.vec true k 3<|(t.kids.take k).map gF)]) (λk=>k<=t.width) (λk=>t.width-k) 0 ?_;refine dd ?_;rintro k hk;refine bf (λh1=>?_) λh1=>?_
  ·have ai:k<t.width:=(by simpa [Tree.width] using h1);refine sL (db ai) ?_;refine sC (ih k ai<|gB cy ai) ?_;refine ee ?_;refine⟨k+1,zo,zd,?_⟩;refine aL 4 zs rfl sQ (sU ?_);exact aV<|zsJ ai
  have ai:k=t.width:=by have:¬k<t.width:=by simpa [Tree.width] using h1
                        omega
  subst ai;refine .agg _ _ (.cons _ _ _ _ (.refl _) (.cons _ _ _ _ (.refl _) (.cons _ _ _ _ (.own _ _ _ _ _ _ _ _ rfl ?_) .nil)));rw[cB<|by simp[Tree.width],Tree.width,dM];exact gw _
def ji(name:aB)(sort:Int)(x:cA)(k a b c:Int)(f g:Tree):bj:=.sc (.string name)::aa sort::(cm x++(iV k a b c++(aO f++aO g)))
def cK(name:aB)(sort:Int)(x:cA)(k a b c:Int)(f g:Tree):D:=.agg<|ji name sort x k a b c f g
theorem NS{a b:bj}(h:aA a)(k:aA b):aA<|a++b:=by
 induction a with
 |nil=>exact k
 |cons d r ih=>exact⟨h.1,ih h.2⟩
@[simp] theorem zqg(name:aB)(sort:Int)(x:cA)(k a b c:Int)(f g:Tree):Pure<|cK name sort x k a b c f g:=by
 simp only[cK,Pure,ji,aA,true_and];exact NS (by simp[cm,aA,Pure])<|NS (by simp[iV,aA,Pure])<|NS (eU f)<|eU g
noncomputable def gu(sort:Int)(x:cA)(k a b c:Int)(f:Tree):Int:=if sort=1 then uR x else if sort=2 then vL k a b c else if sort=3 then aU bw f else 1
noncomputable def cr(sort:Int)(x:cA)(k a b c:Int)(f:Tree):Tree:=if sort=1 then tc x else if sort=2 then r8 k a b c else f
theorem UB(name:aB)(sort:Int)(x:cA)(k a b c:Int)(f g:Tree)(hf:Small f) :
  ao aj 79 [cK name sort x k a b c f g] (oH (gu sort x k a b c f)<|cr sort x k a b c f):=by
 refine bS fZ ?_;refine sRS (λh1=>?_) λh1=>?_
 ·have h1:sort=1:=sO;have e:gu sort x k a b c f=uR x:=(by simp[gu,h1]);have t:cr sort x k a b c f=tc x:=(by simp[cr,h1]);rw[e,t];refine sC (zsN x) ?_;exact .refl _
 have h1:sort≠1:=sO;refine sS (λh2=>?_) λh2=>?_
 ·have h2:sort=2:=sO;have e:gu sort x k a b c f=vL k a b c:=(by simp[gu,h2]);have t:cr sort x k a b c f=r8 k a b c:=(by simp[cr,h2]);rw[e,t];refine sC (zsW k a b c) ?_;exact .refl _
 have h2:sort≠2:=sO;refine sS (λh3=>?_) λh3=>?_
 ·have h3:sort=3:=sO;refine sC (BJ f hf) ?_;have e:gu sort x k a b c f=aU bw f:=(by simp[gu,h1,h2,h3]);have t:cr sort x k a b c f=f:=(by simp[cr,h1,h2]);rw[e,t];refine sS (λh4=>?_) λh4=>?_
  ·exact uy (sO) _
  have h4:aU bw f=0:=sO;refine sC (zng f ((rW _ _).1 h4).2.2) ?_;exact Dq h4 (.refl _)
 have h3:sort≠3:=sO;have e:gu sort x k a b c f=1:=by simp[gu,h1,h2,h3]
 rw[e];exact uy zc _
theorem Rw(name:aB)(sort:Int)(x:cA)(k a b c:Int)(f g:Tree)(hf:Small f) :
  ao aj 51 [cK name sort x k a b c f g] (oH (gu sort x k a b c f)<|cr sort x k a b c f):=by
 refine bS fZ ?_;refine sRS (λh1=>?_) λh1=>?_
 ·have h1:sort=1:=sO;have e:gu sort x k a b c f=uR x:=(by simp[gu,h1]);have t:cr sort x k a b c f=tc x:=(by simp[cr,h1]);rw[e,t];refine sC (VL x) ?_;refine sS (λh4=>?_) λh4=>?_
  ·have h4:dJ x=0:=sO;refine sC (zgd x h4) ?_;exact .refl _
  have h4:dJ x≠0:=sO;have:uR x=dJ x:=by unfold uR;rw[ab h4]
  rw[this];exact uy h4 _
 have h1:sort≠1:=sO;refine sS (λh2=>?_) λh2=>?_
 ·have h2:sort=2:=sO;have e:gu sort x k a b c f=vL k a b c:=(by simp[gu,h2]);have t:cr sort x k a b c f=r8 k a b c:=(by simp[cr,h2]);rw[e,t];refine sC (Q4 k a b c) ?_;refine sS (λh4=>?_) λh4=>?_
  ·have h4:jm k a b c=0:=sO;refine sC (zew k a b c h4) ?_;exact .refl _
  have h4:jm k a b c≠0:=sO;have:vL k a b c=jm k a b c:=by unfold vL;rw[ab h4]
  rw[this];exact uy h4 _
 have h2:sort≠2:=sO;refine sS (λh3=>?_) λh3=>?_
 ·have h3:sort=3:=sO;have e:gu sort x k a b c f=aU bw f:=(by simp[gu,h1,h2,h3]);have t:cr sort x k a b c f=f:=(by simp[cr,h1,h2]);rw[e,t];refine sC (yJ f hf) ?_;refine sS (λh4=>?_) λh4=>?_
  ·exact Dq (sO) (.refl _)
  exact uy (sO) _
 have h3:sort≠3:=sO;have e:gu sort x k a b c f=1:=by simp[gu,h1,h2,h3]
 rw[e];exact uy zc _
theorem WT(sort:Int)(x:cA)(k a b c:Int)(f:Tree)(hf:Small f):Small<|cr sort x k a b c f:=by
 unfold cr;split
 ·exact NU x
 split
 ·exact PO k a b c
 exact hf
theorem dp{a b:Int}(h:a≠b):(a==b)=false:=by simpa using h
theorem gX{a b:Int}(h:a=b):(a==b):=by simpa using h
def rnm(names:List aB)(silent:Bool)(n:Int):aB :=
 if n=63/\silent=true then wR
 else if n<0\/(names.length:Int)<=n\/63<=n then ⟨#[]⟩
 else if fF (names.getD n.toNat ⟨#[]⟩)=false then ⟨#[]⟩
 else if pD names n.toNat (names.getD n.toNat ⟨#[]⟩)=true then ⟨#[]⟩
 else names.getD n.toNat ⟨#[]⟩
def kD(x:cA):ah:=if x.kind=5\/x.kind=6 then [x.s,x.p] else [x.p]
def kG(x:cA):ah:=if x.scope=2 then [x.r] else if x.scope=3 then [x.q] else if x.scope=4\/x.scope=5 then [x.q,x.r] else []
def x5(k a b:Int):ah:=if k<=4 then [a] else [a,b]
def gP(names:List aB)(silent:Bool)(n:Int):Bool:=dZ (rnm names silent n) ⟨#[]⟩
def dU(names:List aB)(sort:Int)(x:cA)(k a b c:Int)(f g:Tree):Int :=
 if sort=1 then (if dJ x=0/\(kD x++kG x).any (gP names true)=true then 4 else dJ x)
 else if sort=2 then (if jm k a b c=0/\(x5 k a b).any (gP names false)=true then 4 else jm k a b c)
 else if sort=3 then (if aU bw f=0 then (if cJ names f then 0 else 4) else aU bw f)
 else if sort=4 then (if aU c9 g=0 then (if cJ names g then 0 else 4) else aU c9 g) else 0
def yc(sort:Int)(x:cA)(k a b c:Int)(f g:Tree):Bool :=
 decide (sort≠1)&&!(x.kind==0&&x.scope==0&&x.p==0&&x.s==0&&x.q==0&&x.r==0&&x.count==0)||decide (sort≠2)&&!(k==0&&a==0&&b==0&&c==0) ||
  decide (sort≠3)&&(f.kind != 0||f.num != 0||decide (f.width>0))||decide (sort≠4)&&(g.kind != 0||g.num != 0||decide (g.width>0))
def ff(names:List aB)(name:aB)(sort:Int)(x:cA)(k a b c:Int)(f g:Tree):Int :=
 if fF name=false\/sort<1\/4<sort then 1 else if dU names sort x k a b c f g≠0 then dU names sort x k a b c f g else if yc sort x k a b c f g=true then 1 else 0
theorem cat3(a b:aB)(c:UInt8):a++⟨#[32]⟩++⟨#[c]⟩++⟨#[32]⟩++b=a++⟨#[32,c,32]⟩++b:=by
 rw[ByteArray.append_assoc (a:=a),ByteArray.append_assoc (a:=a)];rfl
theorem Xl:∀{ts:List Tree} {t:Tree},t∈ts->t.size<=Tree.oB ts
 |a::r,t,h=>by
  simp only[Tree.oB];rcases eQ.1 h with rfl|h
  ·omega
  have:=Xl h;omega
variable{j:Nat}
theorem IS(hj:j<t.width):(t.aD j).size<t.size:=by
 have h:t.aD j∈t.kids:=by rw[Tree.oJ hj];exact iZ _
 have:=Xl h;cases t;simp only[Tree.size,Tree.kids] at this⊢;omega
def fi(names:List aB)(bad:Bool):bj:=[dr names,ay bad]
variable(names:List aB)
@[simp] theorem fH(bad:Bool):aA<|fi names bad:=by simp[fi,aA,Pure,qL]
theorem zv4(k i c:Int):ao aj 333 [aa k,aa i,aa c]<|ay<|rR k i c:=by
 refine bt ?_
 repeat' (first
  |(first|(refine wJ ‹_› ?_;((conv=>whnf);repeat(refine⟨rfl,?_⟩;conv=>whnf)))|(refine ue ‹_› ?_;((conv=>whnf);repeat(refine⟨rfl,?_⟩;conv=>whnf)))|(refine pW (λh=>?_) (λh=>?_)<;>(rw[h];((conv=>whnf);repeat(refine⟨rfl,?_⟩;conv=>whnf)))))
  |exact cf (bH (λb=>D.sc (.bool b)) (by unfold rR;simp_all)))
theorem zyX(t:Tree)(j:Nat)(hj:j<t.width)(eJ:(gZ names<|t.aD j).size<=1000000)(bad GI:Bool)
  (hT:bZ aj 244 ([]++.loc 0 0::[ba<|t.aD j]) [.row true<|fi names bad] (.sc (.string<|gZ names<|t.aD j)) [.row true<|fi names GI]) :
  bZ aj 300 ([]++.loc 0 0::[ba t,aa j]) [.row true<|fi names bad] (.sc (.string<|jU names t j)) [.row true<|fi names GI]:=by
 refine jb fZ zs zs ?_ zu (by simp[al.under,bI _<|fH _ _]);refine sR ?_;refine sL (db hj) ?_;refine sA (r7 hT zp zp (fH _ _) (fH _ _) zp (H:=[.row true<|fi names bad,.row true<|aO t]) (id:=0) rfl) ?_;refine sL (db hj) ?_;refine sC (zv4 t.kind j (t.aD j).kind) ?_;refine sS (λh=>?_) λh=>?_
 ·exact⟨bH (λs=>D.sc (.string s))<|by simp[jU,pB,h],rfl,zs⟩
 refine⟨sM,?_⟩;refine sW ?_;refine⟨sM,?_⟩;refine sW ?_;exact⟨bH (λs=>D.sc (.string s))<|by simp[jU,pB,h],rfl,zs⟩
theorem zxP(hn:pq names):∀t:Tree,t.wf bw->t.size<=60->∀bad:Bool,
  bZ aj 244 ([]++.loc 0 0::[ba t]) [.row true<|fi names bad] (.sc (.string<|gZ names t)) [.row true<|fi names<|bad||!cJ names t]:=by
 intro t
 induction t using Tree.ind with
 |h t ih =>
  intro cy eJ bad;have hs:=vl t cy;have tX:=tT ((jD _ _).1 cy).1;have uO:0<=t.num:=(by have:=((jD _ _).1 cy).1;unfold eY at this;omega);have tsz:∀j,j<t.width->(gZ names<|t.aD j).size<=720/\(t.aD j).size<=60:=λj hj=>by
   have h1:=XE names<|t.aD j;have h2:=IS hj;omega
  have tI:∀j,j<t.width->∀bad:Bool,bZ aj 300 ([]++.loc 0 0::[ba t,aa j]) [.row true<|fi names bad] (.sc (.string<|jU names t j)) [.row true<|fi names<|bad||!cJ names (t.aD j)] :=
   λj hj bad=>zyX names t j hj (by have:=tsz j hj;omega) bad _<|ih j hj (gB cy hj) (tsz j hj).2 bad
  have ksz:∀j,j<t.width->(jU names t j).size<=722:=λj hj=>by
   have:=wb (rR t.kind j (t.aD j).kind)<|gZ names<|t.aD j;have:=tsz j hj;unfold jU;omega
  clear ih;refine jb fZ zs zs ?_ zu (by simp[al.under,bI _<|fH _ _]);refine sR ?_;have fin:∀{s:aB} {b:Bool} {r:bj},s=gZ names t->b=(bad||!cJ names t)->(D.sc (.string s)=.sc (.string (gZ names t))/\List.take 1 [al.row true [dr names,ay b],.row true r]=[al.row true (fi names (bad||!cJ names t))]/\[al.row true (fi names (bad||!cJ names t))].length<=2):=λh1 h2=>by
   subst h1 h2;exact⟨rfl,rfl,zs⟩
  have zero:t.width=0->gZ names t=xj names t.kind t.num ⟨#[]⟩ ⟨#[]⟩/\cJ names t=qy names t.kind t.num:=λh=>⟨Jv names h,IC names h⟩;refine sS (λh1=>?_) λh1=>?_
  ·have hk:t.kind=1:=sO;have:=zero zo;exact fin (by rw[this.1,hk];rfl)<|by rw[this.2,hk];simp[qy]
  refine sS (λh2=>?_) λh2=>?_
  ·have hk:t.kind=2:=sO;have:=zero zo;exact fin (by rw[this.1,hk];rfl)<|by rw[this.2,hk];simp[qy]
  refine sS (λh3=>?_) λh3=>?_
  ·have hk:t.kind=3:=sO;have:=zero zo;refine sC (zxU names hn t.num uO) ?_;cases bad
   ·refine sW ?_;exact fin (by rw[this.1,hk];rfl)<|by rw[this.2,hk];show dZ (nm names t.num) ⟨#[]⟩=_;simp only[qy];cases dZ (nm names t.num) ⟨#[]⟩<;>rfl
   refine sW ?_;exact fin (by rw[this.1,hk];rfl) zs
  clear zero;have one:t.width=1->gZ names t=xj names t.kind t.num (jU names t 0) ⟨#[]⟩/\cJ names t=cJ names (t.aD 0):=λh=>⟨EZ names h,Xc names h<|sO⟩;refine sS (λh4=>?_) λh4=>?_
  ·have hk:t.kind=4:=sO;have hw:t.width=1:=zo;have:=one hw;have:=ksz 0 zo;refine sA (r7 (tI 0 zo bad) zp zp (fH _ _) (fH _ _) zp (H:=[.row true<|fi names bad,.row true<|aO t]) (id:=0) rfl) ?_;refine⟨sM,?_⟩;refine sW ?_;exact fin (by rw[(one hw).1,hk];rfl)<|by rw[(one hw).2]
  refine sS (λh5=>?_) λh5=>?_
  ·have hk:t.kind=7:=sO;have hw:t.width=1:=zo;have:=one hw;have:=ksz 0 zo;refine sA (r7 (tI 0 zo bad) zp zp (fH _ _) (fH _ _) zp (H:=[.row true<|fi names bad,.row true<|aO t]) (id:=0) rfl) ?_;refine⟨sM,?_⟩;refine sW ?_;exact fin (by rw[(one hw).1,hk];rfl)<|by rw[(one hw).2]
  refine sS (λh6=>?_) λh6=>?_
  ·have hk:t.kind=10:=sO;have hw:t.width=1:=zo;have:=one hw;have:=ksz 0 zo;refine sA (r7 (tI 0 zo bad) zp zp (fH _ _) (fH _ _) zp (H:=[.row true<|fi names bad,.row true<|aO t]) (id:=0) rfl) ?_;refine⟨sM,?_⟩;refine sW ?_;exact fin (by rw[(one hw).1,hk];rfl)<|by rw[(one hw).2]
  refine sS (λh7=>?_) λh7=>?_
  ·have hk:t.kind=11:=sO;have hw:t.width=1:=zo;have:=one hw;have:=ksz 0 zo;refine sA (r7 (tI 0 zo bad) zp zp (fH _ _) (fH _ _) zp (H:=[.row true<|fi names bad,.row true<|aO t]) (id:=0) rfl) ?_;refine⟨sM,?_⟩;refine sW ?_;exact fin (by rw[(one hw).1,hk];rfl)<|by rw[(one hw).2]
  clear one;have hw:t.width=2:=sO;have k0:=ksz 0 zo;have k1:=ksz 1 zo;have e1:=Hw names hw;have e2:=SL names hw<|sO;have hk:t.kind=5\/t.kind=6\/t.kind=8\/t.kind=9:=sO;refine⟨zo,zo,?_⟩
  have two:∀{c:UInt8} {r:bj},xj names t.kind t.num (jU names t 0) (jU names t 1)=jU names t 0++⟨#[32,c,32]⟩++jU names t 1 ->
    (D.sc (.string<|jU names t 0++⟨#[32]⟩++⟨#[c]⟩++⟨#[32]⟩++jU names t 1)=.sc (.string<|gZ names t)/\List.take 1 [al.row true [dr names,ay<|(bad||!cJ names (t.aD 0))||!cJ names (t.aD 1)],.row true r]=[al.row true (fi names (bad||!cJ names t))]/\[al.row true (fi names (bad||!cJ names t))].length<=2):=λh =>
   fin (by rw[cat3,e1,h]) (by rw[e2];cases bad<;>cases cJ names (t.aD 0)<;>rfl)
  clear fin;have A0:=uh (tI 0 zo bad) zp zp (fH _ _) (fH _ _) zp (H:=[.row true<|fi names bad,.row true<|aO t]) (id:=0) rfl;have A1:=uh (tI 1 zo<|bad||!cJ names (t.aD 0)) zp zp (fH _ _) (fH _ _) zp (H:=[.row true<|fi names<|bad||!cJ names (t.aD 0),.row true<|aO t]) (id:=0) rfl;rcases hk with hk|hk|hk|hk
  all_goals
   refine⟨_,by rw[hk];rfl,?_⟩;refine sW ?_;refine sE A0 ?_;refine⟨sM,?_⟩;refine sW ?_;refine⟨sM,?_⟩;refine sW ?_;refine⟨sM,?_⟩;refine sW ?_;refine sE A1 ?_;refine⟨sM,?_⟩;refine sW ?_;exact two<|by rw[hk];rfl
noncomputable def CV(names:List aB)(t:Tree):D :=
 if aU bw t=0 then (if cJ names t then .aJ [.sc (.string<|gZ names t),aa 0] else .aJ [.sc (.string ⟨#[]⟩),aa 4]) else .aJ [.sc (.string ⟨#[]⟩),aa<|aU bw t]
theorem ztz(hn:pq names)(t:Tree)(hs:Small t):ao aj 186 [ba t,dr names]<|CV names t:=by
 refine dh fZ zs zp ?_ (by unfold CV;(repeat' split)<;>simp[Pure,aA]);refine sR ?_;refine sC (BJ t hs) ?_;refine sS (λh1=>?_) λh1=>?_
 ·have h:¬aU bw t=0:=sO;unfold CV;rw[ab h];exact sP
 have h:aU bw t=0:=sO;have hz:=(rW _ _).1 h;unfold CV;rw[ae h];refine sA (r7 (zxP names hn t hz.2.2 hz.1 false) zp zp (fH _ _) (fH _ _) zp (H:=[.row true<|aO t,.row true<|fi names false]) (id:=1) rfl) ?_;cases hk:cJ names t
 ·refine sW ?_;exact sP
 refine sW ?_;exact sP
def sx(names:List aB)(t:Tree)(k:Nat):fc:=(List.range k).map λj=>[.sc (.string<|jU names t j)]
theorem tR{names:List aB}(h:j<k):(sx names t k)[j]? = some [.sc (.string<|jU names t j)]:=by
 simp[sx,fx,xK h]
@[simp] theorem zBl(t:Tree)(k:Nat):(sx names t k).length=k:=by simp[sx]
theorem zog(t:Tree)(k:Nat):List.drop 0 (List.take k<|sx names t k)++[[.sc (.string<|jU names t k)]]=sx names t (k+1):=by
 rw[dP,fG zs];simp[sx,qf]
@[simp] theorem MG(t:Tree)(k:Nat):dF<|sx names t k:=c6 _ (λj=>by simp[aA,Pure]) _
def yY(names:List aB)(t:Tree):D:=.aJ [.sc (.string<|if cJ names t then gZ names t else ⟨#[]⟩),ay<|cJ names t]
theorem znB(hn:pq names):∀t:Tree,t.wf bw->t.size<=60->ao aj 91 [ba t,dr names] (yY names t):=by
 intro t
 induction t using Tree.ind with
 |h t ih =>
  intro cy eJ;have hs:=vl t cy;have OV:=hs.width;have tX:=tT ((jD _ _).1 cy).1;have uO:0<=t.num:=(by have:=((jD _ _).1 cy).1;unfold eY at this;omega);have tsz:∀j,j<t.width->(gZ names<|t.aD j).size<=720/\(t.aD j).size<=60:=λj hj=>by
   have h1:=XE names<|t.aD j;have h2:=IS hj;omega
  have ksz:∀j,j<t.width->(jU names t j).size<=722:=λj hj=>by
   have:=wb (rR t.kind j (t.aD j).kind)<|gZ names<|t.aD j;have:=tsz j hj;unfold jU;omega
  refine dh (fY [11851,40523]) zs zp ?_ (by simp[yY,Pure,aA]);refine sR ?_;have bad:∀{j:Nat},j<t.width->cJ names (t.aD j)=false->cJ names t=false:=λ{j} hj h=>by
   rw[CH];simp only[Bool.and_eq_false_iff];refine .inr<|Gi.2 ⟨t.aD j,by rw[Tree.oJ hj];exact iZ _,by simp[h]⟩
  refine wc (λk:Nat=>[(1,dr names),(2,.loc 0 0),(6,.own 1 k 0 k),(7,aa k)])
   (λk=>[.row true<|aO t,.vec true k 1<|sx names t k])
   (λk=>k<=t.width/\∀j,j<k->cJ names (t.aD j)=true) (λk=>t.width-k) 0 ⟨zo,λj h=>zo⟩ (kY (eo 6 1 zs rfl)<|pN ⟨rfl,rfl,rfl,rfl,trivial⟩) ?_
  rintro k ⟨hk,bR⟩;refine sRS (λh1=>?_) λh1=>?_
  ·have ai:k<t.width:=(by simpa [Tree.width] using h1);refine sL (db ai) ?_;have ihk:=ih k ai (gB cy ai) (tsz k ai).2;cases az:cJ names (t.aD k)
   ·simp only[yY,az] at ihk;refine sC ihk ?_;have:=bad ai az;exact cf<|by simp only[yY,this];rfl
   simp only[yY,az,if_true] at ihk;refine sC ihk ?_;have tk:=tsz k ai;have kk:=ksz k ai
   refine pj (λ_:Unit=>[(1,dr names),(2,.loc 0 0),(6,.own 1 k 0 k),(7,aa k),(8,.loc 2 0),(9,.sc (.string<|gZ names<|t.aD k)),(11,ay<|decide ((t.aD k).kind=5\/(t.aD k).kind=6\/(t.aD k).kind=8\/(t.aD k).kind=9))])
    (λ_=>[.row true<|aO t,.vec true k 1<|sx names t k,.row true<|aO<|t.aD k]) (λ_=>True) ?_ ?_
   ·refine sR ?_
    repeat' (first
     |(first|(refine wJ ‹_› ?_;((conv=>whnf);repeat(refine⟨rfl,?_⟩;conv=>whnf)))|(refine ue ‹_› ?_;((conv=>whnf);repeat(refine⟨rfl,?_⟩;conv=>whnf)))|(refine pW (λh=>?_) (λh=>?_)<;>(rw[h];((conv=>whnf);repeat(refine⟨rfl,?_⟩;conv=>whnf)))))
     |exact⟨(),trivial,pN ⟨rfl,rfl,rfl,rfl,rfl,rfl,bH (λb=>D.sc (.bool b)) (by simp_all<;>rfl),trivial⟩⟩)
   rintro _ _;refine sW ?_
   refine pj (λ_:Unit=>[(1,dr names),(2,.loc 0 0),(6,.own 1 k 0 k),(7,aa k),(8,.loc 2 0),(9,.sc (.string<|gZ names<|t.aD k)),(11,ay<|decide ((t.aD k).kind=5\/(t.aD k).kind=6\/(t.aD k).kind=8\/(t.aD k).kind=9)),
     (100,ay<|decide ((k=0/\(t.aD k).kind=t.kind/\((t.aD k).kind=5\/(t.aD k).kind=6))\/(k=1/\(t.aD k).kind=t.kind/\((t.aD k).kind=8\/(t.aD k).kind=9))\/(t.kind=6/\(t.aD k).kind=5)))])
    (λ_=>[.row true<|aO t,.vec true k 1<|sx names t k,.row true<|aO<|t.aD k]) (λ_=>True) ?_ ?_
   ·refine sR ?_;have e0:((k:Int)==0)=decide (k=0):=(by rw[j9];simp);have e1:((k:Int)==1)=decide (k=1):=by rw[j9];simp;omega
    repeat' (first
     |(first|(refine wJ ‹_› ?_;((conv=>whnf);repeat(refine⟨rfl,?_⟩;conv=>whnf)))|(refine ue ‹_› ?_;((conv=>whnf);repeat(refine⟨rfl,?_⟩;conv=>whnf)))|(refine pW (λh=>?_) (λh=>?_)<;>(rw[h];((conv=>whnf);repeat(refine⟨rfl,?_⟩;conv=>whnf)))))
     |exact⟨(),trivial,pN ⟨rfl,rfl,rfl,rfl,rfl,rfl,rfl,bH (λb=>D.sc (.bool b)) (by
       clear ih bR ihk tsz ksz bad;rw[j9];simp only[ib,beq_eq_false_iff_ne,ne_eq,ja,xt,false_iff,true_iff] at *;omega),trivial⟩⟩)
   rintro _ _;refine sW ?_;have bare:jU names t k=if rR t.kind k (t.aD k).kind then gZ names<|t.aD k else ⟨#[40]⟩++gZ names (t.aD k)++⟨#[41]⟩:=rfl
   have fin:∀{s:aB},s=jU names t k->List.drop 0 (List.take k<|sx names t k)++[[D.sc (.string s)]]=sx names t (k+1):=λh=>by rw[h,zog]
   have cond:∀{p:Prop} [Decidable p],decide p=true->p:=λh=>by simpa using h
   have BN:∀{p:Prop} [Decidable p],decide p=false->¬p:=λh=>by simpa using h
   have eqs:∀b:Bool,rR t.kind k (t.aD k).kind=b->jU names t k=if b then gZ names<|t.aD k else ⟨#[40]⟩++gZ names (t.aD k)++⟨#[41]⟩:=λb h=>by rw[bare,h]
   have hB:rR t.kind k (t.aD k).kind↔¬((t.aD k).kind=5\/(t.aD k).kind=6\/(t.aD k).kind=8\/(t.aD k).kind=9)\/((k=0/\(t.aD k).kind=t.kind/\((t.aD k).kind=5\/(t.aD k).kind=6))\/(k=1/\(t.aD k).kind=t.kind/\((t.aD k).kind=8\/(t.aD k).kind=9))\/(t.kind=6/\(t.aD k).kind=5)):=by
    unfold rR;clear ih bR ihk tsz ksz bad bare fin eqs cond BN;repeat' split
    all_goals
     simp only[sq,gr,ib,true_iff];omega
   have wrapped:∀{s:aB},s=jU names t k->s.size<=722:=λh=>h▸kk;refine sS (λh5=>?_) λh5=>?_
   ·have hs:gZ names (t.aD k)=jU names t k:=(by rw[eqs true<|hB.2 (.inr<|cond h5)];rfl);refine⟨by unfold iF;simp only[dP,vy,s5,dC,fy];omega,?_⟩;refine sW ?_;refine .inl ⟨zW,?_⟩;refine sW ?_
    exact⟨k+1,⟨zo,λj hj=>by by_cases e:j=k;subst e;exact az;exact bR j zo⟩,zd,aL 2 zs rfl ⟨.refl _,bz _<|qL names,.refl _,zu,.refl _,zu,.refl _,zu,trivial⟩
     ⟨⟨rfl,.refl _,bI _<|eU t⟩,⟨rfl,rfl,rfl,aV<|fin hs,bm _<|MG _ _ _⟩,trivial⟩⟩
   refine sS (λh6=>?_) λh6=>?_
   ·have hs:⟨#[40]⟩++gZ names (t.aD k)++⟨#[41]⟩=jU names t k:=by
     rw[eqs false<|by rw[<-uQ,hB];exact λh=>h.elim (λh=>h<|cond h6)<|BN h5];rfl
    refine⟨sM,?_⟩;refine sW ?_;refine⟨sM,?_⟩;refine sW ?_;refine⟨by unfold iF;simp only[dP,vy,s5,dC,fy];omega,?_⟩;refine sW ?_;refine .inl ⟨zW,?_⟩;refine sW ?_
    exact⟨k+1,⟨zo,λj hj=>by by_cases e:j=k;subst e;exact az;exact bR j zo⟩,zd,aL 2 zs rfl ⟨.refl _,bz _<|qL names,.refl _,zu,.refl _,zu,.refl _,zu,trivial⟩
     ⟨⟨rfl,.refl _,bI _<|eU t⟩,⟨rfl,rfl,rfl,aV<|fin hs,bm _<|MG _ _ _⟩,trivial⟩⟩
   have hs:gZ names (t.aD k)=jU names t k:=(by rw[eqs true<|hB.2 (.inl<|BN h6)];rfl);refine⟨by unfold iF;simp only[dP,vy,s5,dC,fy];omega,?_⟩;refine sW ?_;refine .inl ⟨zW,?_⟩;refine sW ?_
   exact⟨k+1,⟨zo,λj hj=>by by_cases e:j=k;subst e;exact az;exact bR j zo⟩,zd,aL 2 zs rfl ⟨.refl _,bz _<|qL names,.refl _,zu,.refl _,zu,.refl _,zu,trivial⟩
    ⟨⟨rfl,.refl _,bI _<|eU t⟩,⟨rfl,rfl,rfl,aV<|fin hs,bm _<|MG _ _ _⟩,trivial⟩⟩
  have BG:k=t.width:=(by have:¬k<t.width:=(by simpa [Tree.width] using h1);omega);clear h1;have fC:t.kind≠3->cJ names t:=λh3=>by
   rw[CH];simp only[gr];refine⟨by simp[qy,h3],kb.2 λu hu=>?_⟩;obtain⟨j,hj,rfl⟩:=iD.1 hu;have:=bR j (by rw[BG];exact hj);rwa [Tree.oJ hj] at this
  have fin:∀{H:aE} {s:aB},t.kind≠3->s=gZ names t->Deep H (.aJ [.sc (.string s),ay true]) (yY names t):=λh3 h=>by
   unfold yY;rw[fC h3,h];exact .refl _
  refine sS (λh1=>?_) λh1=>?_
  ·have fk:t.kind=1:=sO;exact fin zo<|by rw[Jv names zo,fk];rfl
  refine sS (λh2=>?_) λh2=>?_
  ·have fk:t.kind=2:=sO;exact fin zo<|by rw[Jv names zo,fk];rfl
  refine sS (λh3=>?_) λh3=>?_
  ·have fk:t.kind=3:=sO;refine sC (PH names hn t.num uO) ?_;have e1:gZ names t=nm names t.num:=(by rw[Jv names zo,fk];rfl);have e2:cJ names t=!(dZ (nm names t.num) ⟨#[]⟩):=(by rw[IC names zo,fk];rfl);refine cf ?_;unfold yY;rw[e1,e2];show D.aJ [.sc (.string<|nm names t.num),ay<|!(dZ (nm names t.num) ⟨#[]⟩)]=_;cases e:dZ (nm names t.num) ⟨#[]⟩
   ·rfl
   rw[ByteArray.size_eq_zero_iff.1<|(HZ _).1 e];rfl
  refine sS (λh4=>?_) λh4=>?_
  ·have fk:t.kind=4:=sO;have hw:t.width=1:=zo;have:=ksz 0 zo;refine⟨zo,zo,?_⟩;refine sW ?_;refine⟨_,tR (j:=0) zo,?_⟩;refine sW ?_;refine⟨sM,?_⟩;refine sW ?_;exact fin zo<|by rw[EZ names hw,fk];rfl
  refine sS (λh5=>?_) λh5=>?_
  ·have fk:t.kind=7:=sO;have hw:t.width=1:=zo;have:=ksz 0 zo;refine⟨zo,zo,?_⟩;refine sW ?_;refine⟨_,tR (j:=0) zo,?_⟩;refine sW ?_;refine⟨sM,?_⟩;refine sW ?_;exact fin zo<|by rw[EZ names hw,fk];rfl
  refine sS (λh6=>?_) λh6=>?_
  ·have fk:t.kind=10:=sO;have hw:t.width=1:=zo;have:=ksz 0 zo;refine⟨zo,zo,?_⟩;refine sW ?_;refine⟨_,tR (j:=0) zo,?_⟩;refine sW ?_;refine⟨sM,?_⟩;refine sW ?_;exact fin zo<|by rw[EZ names hw,fk];rfl
  refine sS (λh7=>?_) λh7=>?_
  ·have fk:t.kind=11:=sO;have hw:t.width=1:=zo;have:=ksz 0 zo;refine⟨zo,zo,?_⟩;refine sW ?_;refine⟨_,tR (j:=0) zo,?_⟩;refine sW ?_;refine⟨sM,?_⟩;refine sW ?_;exact fin zo<|by rw[EZ names hw,fk];rfl
  refine sS (λh8=>?_) λh8=>?_
  ·have fk:t.kind=5:=sO;have hw:t.width=2:=zo;have:=ksz 0 zo;have:=ksz 1 zo;refine⟨zo,zo,?_⟩;refine sW ?_;refine⟨_,tR (j:=0) zo,?_⟩;refine sW ?_;refine⟨sM,?_⟩;refine sW ?_;refine⟨zo,zo,?_⟩;refine sW ?_;refine⟨_,tR (j:=1) zo,?_⟩;refine sW ?_;refine⟨sM,?_⟩;refine sW ?_;exact fin zo<|by rw[Hw names hw,fk];rfl
  refine sS (λh9=>?_) λh9=>?_
  ·have fk:t.kind=6:=sO;have hw:t.width=2:=zo;have:=ksz 0 zo;have:=ksz 1 zo;refine⟨zo,zo,?_⟩;refine sW ?_;refine⟨_,tR (j:=0) zo,?_⟩;refine sW ?_;refine⟨sM,?_⟩;refine sW ?_;refine⟨zo,zo,?_⟩;refine sW ?_;refine⟨_,tR (j:=1) zo,?_⟩;refine sW ?_;refine⟨sM,?_⟩;refine sW ?_;exact fin zo<|by rw[Hw names hw,fk];rfl
  refine sS (λfh=>?_) λfh=>?_
  ·have fk:t.kind=8:=sO;have hw:t.width=2:=zo;have:=ksz 0 zo;have:=ksz 1 zo;refine⟨zo,zo,?_⟩;refine sW ?_;refine⟨_,tR (j:=0) zo,?_⟩;refine sW ?_;refine⟨sM,?_⟩;refine sW ?_;refine⟨zo,zo,?_⟩;refine sW ?_;refine⟨_,tR (j:=1) zo,?_⟩;refine sW ?_;refine⟨sM,?_⟩;refine sW ?_;exact fin zo<|by rw[Hw names hw,fk];rfl
  skip
  have fk:t.kind=9:=sO;have hw:t.width=2:=zo;have:=ksz 0 zo;have:=ksz 1 zo;refine⟨zo,zo,?_⟩;refine sW ?_;refine⟨_,tR (j:=0) zo,?_⟩;refine sW ?_;refine⟨sM,?_⟩;refine sW ?_;refine⟨zo,zo,?_⟩;refine sW ?_;refine⟨_,tR (j:=1) zo,?_⟩;refine sW ?_;refine⟨sM,?_⟩;refine sW ?_;exact fin zo<|by rw[Hw names hw,fk];rfl
theorem ML(h:¬eY c9 t):(t.kind=1\/t.kind=2\/t.kind=3)/\t.width=0\/(t.kind=4\/t.kind=7\/t.kind=8\/t.kind=9\/t.kind=11\/t.kind=12\/t.kind=13)/\t.width=1\/(t.kind=5\/t.kind=6\/t.kind=10\/t.kind=14)/\t.width=2:=by
 unfold eY c9 at h
 grind
theorem Xm:∀t:Tree,t.wf c9->Small t:=by
 intro t
 induction t using Tree.ind with
 |h t ih =>
  intro hw;refine .mk t ?_ λj hj=>ih j hj<|gB hw hj;have:=ML ((jD _ _).1 hw).1;omega
theorem zxd(k i c:Int):ao aj 334 [aa k,aa i,aa c]<|ay<|Hg k i c:=by
 refine bt ?_
 repeat' (first
  |(first|(refine wJ ‹_› ?_;((conv=>whnf);repeat(refine⟨rfl,?_⟩;conv=>whnf)))|(refine ue ‹_› ?_;((conv=>whnf);repeat(refine⟨rfl,?_⟩;conv=>whnf)))|(refine pW (λh=>?_) (λh=>?_)<;>(rw[h];((conv=>whnf);repeat(refine⟨rfl,?_⟩;conv=>whnf)))))
  |exact cf (bH (λb=>D.sc (.bool b)) (by unfold Hg;simp_all)))
theorem zsS:ao aj 303 [aa 4] (.sc (.string ⟨#[33]⟩)):=by
 refine bt ?_;refine⟨zo,zo,_,rfl,?_⟩;refine sW ?_;exact sP
theorem ztT:ao aj 303 [aa 7] (.sc (.string ⟨#[69,88,32]⟩)):=by
 refine bt ?_;refine⟨zo,zo,_,rfl,?_⟩;refine sW ?_;exact sP
theorem ztB:ao aj 303 [aa 8] (.sc (.string ⟨#[69,70,32]⟩)):=by
 refine bt ?_;refine⟨zo,zo,_,rfl,?_⟩;refine sW ?_;exact sP
theorem ztb:ao aj 303 [aa 9] (.sc (.string ⟨#[69,71,32]⟩)):=by
 refine bt ?_;refine⟨zo,zo,_,rfl,?_⟩;refine sW ?_;exact sP
theorem zqP:ao aj 303 [aa 11] (.sc (.string ⟨#[65,88,32]⟩)):=by
 refine bt ?_;refine⟨zo,zo,_,rfl,?_⟩;refine sW ?_;exact sP
theorem zpr:ao aj 303 [aa 12] (.sc (.string ⟨#[65,70,32]⟩)):=by
 refine bt ?_;refine⟨zo,zo,_,rfl,?_⟩;refine sW ?_;exact sP
theorem ZL:ao aj 303 [aa 13] (.sc (.string ⟨#[65,71,32]⟩)):=by
 refine bt ?_;refine⟨zo,zo,_,rfl,?_⟩;refine sW ?_;exact sP
theorem zxO(hs:pq names)(n:Int)(hn:0<=n)(bad:Bool) :
  bZ aj 301 ([]++.loc 0 0::[aa n]) [.row true<|fi names bad] (.sc (.string<|nm names n)) [.row true<|fi names<|bad||dZ (nm names n) ⟨#[]⟩]:=by
 refine jb fZ zs zs ?_ zu (by simp[al.under,bI _<|fH _ _]);unfold fi dr;refine sR ?_;have fC:∀{s:aB},s=nm names n->dZ s ⟨#[]⟩=false->(D.sc (.string s)=.sc (.string<|nm names n)/\List.take 1 [al.row true [.aM 1<|names.map λs=>[.sc (.string s)],ay bad]]=[al.row true [.aM 1<|names.map λs=>[.sc (.string s)],ay<|bad||dZ (nm names n) ⟨#[]⟩]]/\1<=1):=λh h'=>by
  subst h;rw[h'];simp
 have none_:nm names n=⟨#[]⟩->(D.sc (.string ⟨#[]⟩)=.sc (.string<|nm names n)/\List.take 1 [al.row true [.aM 1<|names.map λs=>[.sc (.string s)],ay true]]=[al.row true [.aM 1<|names.map λs=>[.sc (.string s)],ay<|bad||dZ (nm names n) ⟨#[]⟩]]/\1<=1):=λh=>by
  rw[h];simp
 refine sS (λh1=>?_) λh1=>?_
 ·exact fC (by simp only[ib] at h1;simp[nm,h1,wR])<|by rw[<-uQ,HZ];decide
 have h1:n≠63:=sO;rw[aI];refine sS (λh2=>?_) λh2=>?_
 ·exact none_ (by have:(names.length:Int)≤n:=sO
                  simp[nm,h1,this])
 have h2:¬(names.length:Int)<=n:=sO;have hk:n.toNat<names.length:=zo;refine⟨hn,_,rO hk,?_⟩;refine sW ?_;refine sC (DL _<|hs.at hk) ?_;refine sS (λh3=>?_) λh3=>?_
 ·exact none_ (by have:fF (names.getD n.toNat ⟨#[]⟩)=false:=by simpa using h3
                  unfold nm;rw[ab h1,ab h2,ae this])
 have h3:¬fF (names.getD n.toNat ⟨#[]⟩)=false:=by simpa using h3
 refine⟨hn,_,rO hk,?_⟩;refine sW ?_;refine sC (Oi names _ hs.1) ?_;have hd:=Nz hk;rw[show(n.toNat:Int)=n by omega] at hd;refine sS (λh4=>?_) λh4=>?_
 ·exact none_ (by have:pD names n.toNat<|names.getD n.toNat ⟨#[]⟩:=hd.1 (by simpa using h4)
                  unfold nm;rw[ab h1,ab h2,ab h3,ae this])
 refine⟨hn,_,rO hk,?_⟩;refine sW ?_
 exact fC (by have:¬pD names n.toNat (names.getD n.toNat ⟨#[]⟩):=λh=>hd.2 h (by simpa using h4)
              unfold nm;rw[ab h1,ab h2,ab h3,ab this]) (by
              have:fF<|names.getD n.toNat ⟨#[]⟩:=by simpa using h3
              unfold fF at this;simp only[gr,FX] at this;exact this.1.1.1.1.1)
theorem zzC(t:Tree)(j:Nat)(hj:j<t.width)(eJ:(gq names<|t.aD j).size<=1000000)(bad GI:Bool)
  (hT:bZ aj 245 ([]++.loc 0 0::[ba<|t.aD j]) [.row true<|fi names bad] (.sc (.string<|gq names<|t.aD j)) [.row true<|fi names GI]) :
  bZ aj 302 ([]++.loc 0 0::[ba t,aa j]) [.row true<|fi names bad] (.sc (.string<|pB (Hg t.kind j (t.aD j).kind)<|gq names<|t.aD j)) [.row true<|fi names GI]:=by
 refine jb fZ zs zs ?_ zu (by simp[al.under,bI _<|fH _ _]);refine sR ?_;refine sL (db hj) ?_;refine sA (r7 hT zp zp (fH _ _) (fH _ _) zp (H:=[.row true<|fi names bad,.row true<|aO t]) (id:=0) rfl) ?_;refine sL (db hj) ?_;refine sC (zxd t.kind j (t.aD j).kind) ?_;refine sS (λh=>?_) λh=>?_
 ·first|exact⟨bH (λs=>D.sc (.string s)) (by simp[pB,h]),rfl,zs⟩|simp
 refine⟨sM,?_⟩;refine sW ?_;refine⟨sM,?_⟩;refine sW ?_;first|exact⟨bH (λs=>D.sc (.string s)) (by simp[pB,h]),rfl,zs⟩|simp
theorem zv6(hn:pq names):∀t:Tree,t.wf c9->t.size<=60->∀bad:Bool,
  bZ aj 245 ([]++.loc 0 0::[ba t]) [.row true<|fi names bad] (.sc (.string<|gq names t)) [.row true<|fi names<|bad||!cJ names t]:=by
 intro t
 induction t using Tree.ind with
 |h t ih =>
  intro cy eJ bad;have hs:=Xm t cy;have tX:=ML ((jD _ _).1 cy).1;have uO:0<=t.num:=(by have:=((jD _ _).1 cy).1;unfold eY at this;omega);have tsz:∀j,j<t.width->(gq names<|t.aD j).size<=720/\(t.aD j).size<=60:=λj hj=>by
   have h1:=XN names<|t.aD j;have h2:=IS hj;omega
  have Gf:∀j,j<t.width->∀bad:Bool,bZ aj 245 ([]++.loc 0 0::[ba<|t.aD j]) [.row true<|fi names bad] (.sc (.string<|gq names<|t.aD j)) [.row true<|fi names<|bad||!cJ names (t.aD j)] :=
   λj hj bad=>ih j hj (gB cy hj) (tsz j hj).2 bad
  have tI:∀j,j<t.width->¬(t.kind=10\/t.kind=14)->∀bad:Bool,bZ aj 302 ([]++.loc 0 0::[ba t,aa j]) [.row true<|fi names bad] (.sc (.string<|jJ names t j)) [.row true<|fi names<|bad||!cJ names (t.aD j)] :=
   λj hj cg bad=>by
    have:=zzC names t j hj (by have:=tsz j hj;omega) bad _<|Gf j hj bad;unfold jJ o8;rw[ab cg];exact this
  have ksz:∀j,j<t.width->(jJ names t j).size<=722:=λj hj=>by
   have:=wb (o8 t.kind j (t.aD j).kind)<|gq names<|t.aD j;have:=tsz j hj;unfold jJ;omega
  clear ih;refine jb fZ zs zs ?_ zu (by simp[al.under,bI _<|fH _ _]);refine sR ?_;have fin:∀{s:aB} {b:Bool} {r:bj},s=gq names t->b=(bad||!cJ names t)->(D.sc (.string s)=.sc (.string (gq names t))/\List.take 1 [al.row true [dr names,ay b],.row true r]=[al.row true (fi names (bad||!cJ names t))]/\[al.row true (fi names (bad||!cJ names t))].length<=2):=λh1 h2=>by
   subst h1 h2;exact⟨rfl,rfl,zs⟩
  have zero:t.width=0->gq names t=xJ names t.kind t.num ⟨#[]⟩ ⟨#[]⟩/\cJ names t=qy names t.kind t.num:=λh=>⟨HX names h,IC names h⟩;refine sS (λh1=>?_) λh1=>?_
  ·have hk:t.kind=1:=sO;have:=zero zo;exact fin (by rw[this.1,hk];rfl)<|by rw[this.2,hk];simp[qy]
  refine sS (λh2=>?_) λh2=>?_
  ·have hk:t.kind=2:=sO;have:=zero zo;exact fin (by rw[this.1,hk];rfl)<|by rw[this.2,hk];simp[qy]
  refine sS (λh3=>?_) λh3=>?_
  ·have hk:t.kind=3:=sO;have:=zero zo;refine sA (r7 (zxO names hn t.num uO bad) zp zp (fH _ _) (fH _ _) zp (H:=[.row true<|fi names bad,.row true<|aO t]) (id:=0) rfl) ?_;exact fin (by rw[this.1,hk];rfl)<|by rw[this.2,hk];simp only[qy];cases dZ (nm names t.num) ⟨#[]⟩<;>cases bad<;>rfl
  clear zero;have two:t.width=2->gq names t=xJ names t.kind t.num (jJ names t 0) (jJ names t 1)/\(bad||!cJ names t)=((bad||!cJ names (t.aD 0))||!cJ names (t.aD 1)):=λh=>⟨Fc names h,by
   rw[SL names h<|sO];cases bad<;>cases cJ names (t.aD 0)<;>rfl⟩
  refine sS (λh4=>?_) λh4=>?_
  ·have hk:t.kind=5:=sO;have hw:t.width=2:=zo;have k0:=ksz 0 zo;have k1:=ksz 1 zo;refine sE (uh (tI 0 zo zo bad) zp zp (fH _ _) (fH _ _) zp (H:=[.row true<|fi names bad,.row true<|aO t]) (id:=0) rfl) ?_;refine⟨sM,?_⟩;refine sW ?_;refine sE (uh (tI 1 zo zo<|bad||!cJ names (t.aD 0)) zp zp (fH _ _) (fH _ _) zp (H:=[.row true<|fi names<|bad||!cJ names (t.aD 0),.row true<|aO t]) (id:=0) rfl) ?_;refine⟨sM,?_⟩;refine sW ?_;exact fin (by rw[(two hw).1,hk];rfl) (two hw).2.symm
  refine sS (λh5=>?_) λh5=>?_
  ·have hk:t.kind=6:=sO;have hw:t.width=2:=zo;have k0:=ksz 0 zo;have k1:=ksz 1 zo;refine sE (uh (tI 0 zo zo bad) zp zp (fH _ _) (fH _ _) zp (H:=[.row true<|fi names bad,.row true<|aO t]) (id:=0) rfl) ?_;refine⟨sM,?_⟩;refine sW ?_;refine sE (uh (tI 1 zo zo<|bad||!cJ names (t.aD 0)) zp zp (fH _ _) (fH _ _) zp (H:=[.row true<|fi names<|bad||!cJ names (t.aD 0),.row true<|aO t]) (id:=0) rfl) ?_;refine⟨sM,?_⟩;refine sW ?_;exact fin (by rw[(two hw).1,hk];rfl) (two hw).2.symm
  refine sS (λh6=>?_) λh6=>?_
  ·have hk:t.kind=10:=sO;have hw:t.width=2:=zo;have t0:=tsz 0 zo;have t1:=tsz 1 zo;have e0:jJ names t 0=gq names (t.aD 0):=(by simp[jJ,o8,hk,pB]);have e1:jJ names t 1=gq names (t.aD 1):=(by simp[jJ,o8,hk,pB]);refine sL (db (t:=t) (j:=0) zo) ?_;refine sE (uh (Gf 0 zo bad) zp zp (fH _ _) (fH _ _) zp (H:=[.row true<|fi names bad,.row true<|aO t]) (id:=0) rfl) ?_;refine⟨sM,?_⟩;refine sW ?_;refine⟨sM,?_⟩;refine sW ?_;refine sL (db (t:=t) (j:=1) zo) ?_;refine sE (uh (Gf 1 zo<|bad||!cJ names (t.aD 0)) zp zp (fH _ _) (fH _ _) zp (H:=[.row true<|fi names<|bad||!cJ names (t.aD 0),.row true<|aO t]) (id:=0) rfl) ?_;refine⟨sM,?_⟩;refine sW ?_;refine⟨sM,?_⟩;refine sW ?_;exact fin (by rw[(two hw).1,hk,e0,e1];rfl) (two hw).2.symm
  refine sS (λh7=>?_) λh7=>?_
  ·have hk:t.kind=14:=sO;have hw:t.width=2:=zo;have t0:=tsz 0 zo;have t1:=tsz 1 zo;have e0:jJ names t 0=gq names (t.aD 0):=(by simp[jJ,o8,hk,pB]);have e1:jJ names t 1=gq names (t.aD 1):=(by simp[jJ,o8,hk,pB]);refine sL (db (t:=t) (j:=0) zo) ?_;refine sE (uh (Gf 0 zo bad) zp zp (fH _ _) (fH _ _) zp (H:=[.row true<|fi names bad,.row true<|aO t]) (id:=0) rfl) ?_;refine⟨sM,?_⟩;refine sW ?_;refine⟨sM,?_⟩;refine sW ?_;refine sL (db (t:=t) (j:=1) zo) ?_;refine sE (uh (Gf 1 zo<|bad||!cJ names (t.aD 0)) zp zp (fH _ _) (fH _ _) zp (H:=[.row true<|fi names<|bad||!cJ names (t.aD 0),.row true<|aO t]) (id:=0) rfl) ?_;refine⟨sM,?_⟩;refine sW ?_;refine⟨sM,?_⟩;refine sW ?_;exact fin (by rw[(two hw).1,hk,e0,e1];rfl) (two hw).2.symm
  have hw:t.width=1:=sO;have k0:=ksz 0 zo;have e1:=XZ names hw;have e2:=Xc names hw<|sO;have hk:t.kind=4\/t.kind=7\/t.kind=8\/t.kind=9\/t.kind=11\/t.kind=12\/t.kind=13:=sO;have A0:=uh (tI 0 zo zo bad) zp zp (fH _ _) (fH _ _) zp (H:=[.row true<|fi names bad,.row true<|aO t]) (id:=0) rfl;rcases hk with hk|hk|hk|hk|hk|hk|hk
  ·refine sC (by rw[hk];exact zsS) ?_;refine sE A0 ?_;refine⟨sM,?_⟩;refine sW ?_;exact fin (by rw[e1,hk];rfl)<|by rw[e2]
  ·refine sC (by rw[hk];exact ztT) ?_;refine sE A0 ?_;refine⟨sM,?_⟩;refine sW ?_;exact fin (by rw[e1,hk];rfl)<|by rw[e2]
  ·refine sC (by rw[hk];exact ztB) ?_;refine sE A0 ?_;refine⟨sM,?_⟩;refine sW ?_;exact fin (by rw[e1,hk];rfl)<|by rw[e2]
  ·refine sC (by rw[hk];exact ztb) ?_;refine sE A0 ?_;refine⟨sM,?_⟩;refine sW ?_;exact fin (by rw[e1,hk];rfl)<|by rw[e2]
  ·refine sC (by rw[hk];exact zqP) ?_;refine sE A0 ?_;refine⟨sM,?_⟩;refine sW ?_;exact fin (by rw[e1,hk];rfl)<|by rw[e2]
  ·refine sC (by rw[hk];exact zpr) ?_;refine sE A0 ?_;refine⟨sM,?_⟩;refine sW ?_;exact fin (by rw[e1,hk];rfl)<|by rw[e2]
  refine sC (by rw[hk];exact ZL) ?_;refine sE A0 ?_;refine⟨sM,?_⟩;refine sW ?_;exact fin (by rw[e1,hk];rfl)<|by rw[e2]
noncomputable def De(names:List aB)(t:Tree):D :=
 if aU c9 t=0 then (if cJ names t then .aJ [.sc (.string<|gq names t),aa 0] else .aJ [.sc (.string ⟨#[]⟩),aa 4]) else .aJ [.sc (.string ⟨#[]⟩),aa<|aU c9 t]
theorem zuN(hn:pq names)(t:Tree)(hs:Small t):ao aj 187 [ba t,dr names]<|De names t:=by
 refine dh fZ zs zp ?_ (by unfold De;(repeat' split)<;>simp[Pure,aA]);refine sR ?_;refine sC (Tw t hs) ?_;refine sS (λh1=>?_) λh1=>?_
 ·have h:¬aU c9 t=0:=sO;unfold De;rw[ab h];exact sP
 have h:aU c9 t=0:=sO;have hz:=(rW _ _).1 h;unfold De;rw[ae h];refine sA (r7 (zv6 names hn t hz.2.2 hz.1 false) zp zp (fH _ _) (fH _ _) zp (H:=[.row true<|aO t,.row true<|fi names false]) (id:=1) rfl) ?_;cases hk:cJ names t
 ·refine sW ?_;exact sP
 refine sW ?_;exact sP
def sr(names:List aB)(t:Tree)(k:Nat):fc:=(List.range k).map λj=>[.sc (.string<|jJ names t j)]
theorem xk{names:List aB}(h:j<k):(sr names t k)[j]? = some [.sc (.string<|jJ names t j)]:=by
 simp[sr,fx,xK h]
@[simp] theorem zAO(t:Tree)(k:Nat):(sr names t k).length=k:=by simp[sr]
theorem zlJ(t:Tree)(k:Nat):List.drop 0 (List.take k<|sr names t k)++[[.sc (.string<|jJ names t k)]]=sr names t (k+1):=by
 rw[dP,fG zs];simp[sr,qf]
@[simp] theorem Mm(t:Tree)(k:Nat):dF<|sr names t k:=c6 _ (λj=>by simp[aA,Pure]) _
def yp(names:List aB)(t:Tree):D:=.aJ [.sc (.string<|if cJ names t then gq names t else ⟨#[]⟩),ay<|cJ names t]
theorem zoZ(hn:pq names):∀t:Tree,t.wf c9->t.size<=60->ao aj 93 [ba t,dr names] (yp names t):=by
 intro t
 induction t using Tree.ind with
 |h t ih =>
  intro cy eJ;have hs:=Xm t cy;have OV:=hs.width;have tX:=ML ((jD _ _).1 cy).1;have uO:0<=t.num:=(by have:=((jD _ _).1 cy).1;unfold eY at this;omega);have tsz:∀j,j<t.width->(gq names<|t.aD j).size<=720/\(t.aD j).size<=60:=λj hj=>by
   have h1:=XN names<|t.aD j;have h2:=IS hj;omega
  have ksz:∀j,j<t.width->(jJ names t j).size<=722:=λj hj=>by
   have:=wb (o8 t.kind j (t.aD j).kind)<|gq names<|t.aD j;have:=tsz j hj;unfold jJ;omega
  refine dh (fY [11851,40523]) zs zp ?_ (by simp[yp,Pure,aA]);refine sR ?_;have bad:∀{j:Nat},j<t.width->cJ names (t.aD j)=false->cJ names t=false:=λ{j} hj h=>by
   rw[CH];simp only[Bool.and_eq_false_iff];refine .inr<|Gi.2 ⟨t.aD j,by rw[Tree.oJ hj];exact iZ _,by simp[h]⟩
  refine wc (λk:Nat=>[(1,dr names),(2,.loc 0 0),(6,.own 1 k 0 k),(7,aa k)])
   (λk=>[.row true<|aO t,.vec true k 1<|sr names t k])
   (λk=>k<=t.width/\∀j,j<k->cJ names (t.aD j)=true) (λk=>t.width-k) 0 ⟨zo,λj h=>zo⟩ (kY (eo 6 1 zs rfl)<|pN ⟨rfl,rfl,rfl,rfl,trivial⟩) ?_
  rintro k ⟨hk,bR⟩;refine sRS (λh1=>?_) λh1=>?_
  ·have ai:k<t.width:=(by simpa [Tree.width] using h1);refine sL (db ai) ?_;have ihk:=ih k ai (gB cy ai) (tsz k ai).2;cases az:cJ names (t.aD k)
   ·simp only[yp,az] at ihk;refine sC ihk ?_;have:=bad ai az;exact cf<|by simp only[yp,this];rfl
   simp only[yp,az,if_true] at ihk;refine sC ihk ?_;have tk:=tsz k ai;have kk:=ksz k ai
   refine pj (λ_:Unit=>[(1,dr names),(2,.loc 0 0),(6,.own 1 k 0 k),(7,aa k),(8,.loc 2 0),(9,.sc (.string<|gq names<|t.aD k)),(11,ay<|decide (((t.aD k).kind=5\/(t.aD k).kind=6)/\t.kind≠10/\t.kind≠14))])
    (λ_=>[.row true<|aO t,.vec true k 1<|sr names t k,.row true<|aO<|t.aD k]) (λ_=>True) ?_ ?_
   ·refine sR ?_
    repeat' (first
     |(first|(refine wJ ‹_› ?_;((conv=>whnf);repeat(refine⟨rfl,?_⟩;conv=>whnf)))|(refine ue ‹_› ?_;((conv=>whnf);repeat(refine⟨rfl,?_⟩;conv=>whnf)))|(refine pW (λh=>?_) (λh=>?_)<;>(rw[h];((conv=>whnf);repeat(refine⟨rfl,?_⟩;conv=>whnf)))))
     |exact⟨(),trivial,pN ⟨rfl,rfl,rfl,rfl,rfl,rfl,bH (λb=>D.sc (.bool b)) (by simp_all<;>rfl),trivial⟩⟩)
   rintro _ _;refine sW ?_
   refine pj (λ_:Unit=>[(1,dr names),(2,.loc 0 0),(6,.own 1 k 0 k),(7,aa k),(8,.loc 2 0),(9,.sc (.string<|gq names<|t.aD k)),(11,ay<|decide (((t.aD k).kind=5\/(t.aD k).kind=6)/\t.kind≠10/\t.kind≠14)),
     (69,ay<|decide ((k=0/\(t.aD k).kind=t.kind)\/(t.kind=6/\(t.aD k).kind=5)))])
    (λ_=>[.row true<|aO t,.vec true k 1<|sr names t k,.row true<|aO<|t.aD k]) (λ_=>True) ?_ ?_
   ·refine sR ?_;have e0:((k:Int)==0)=decide (k=0):=(by rw[j9];simp);have e1:((k:Int)==1)=decide (k=1):=by rw[j9];simp;omega
    repeat' (first
     |(first|(refine wJ ‹_› ?_;((conv=>whnf);repeat(refine⟨rfl,?_⟩;conv=>whnf)))|(refine ue ‹_› ?_;((conv=>whnf);repeat(refine⟨rfl,?_⟩;conv=>whnf)))|(refine pW (λh=>?_) (λh=>?_)<;>(rw[h];((conv=>whnf);repeat(refine⟨rfl,?_⟩;conv=>whnf)))))
     |exact⟨(),trivial,pN ⟨rfl,rfl,rfl,rfl,rfl,rfl,rfl,bH (λb=>D.sc (.bool b)) (by
       clear ih bR ihk tsz ksz bad;rw[j9];simp only[ib,beq_eq_false_iff_ne,ne_eq,ja,xt,false_iff,true_iff] at *;omega),trivial⟩⟩)
   rintro _ _;refine sW ?_;have bare:jJ names t k=if o8 t.kind k (t.aD k).kind then gq names<|t.aD k else ⟨#[40]⟩++gq names (t.aD k)++⟨#[41]⟩:=rfl
   have fin:∀{s:aB},s=jJ names t k->List.drop 0 (List.take k<|sr names t k)++[[D.sc (.string s)]]=sr names t (k+1):=λh=>by rw[h,zlJ]
   have cond:∀{p:Prop} [Decidable p],decide p=true->p:=λh=>by simpa using h
   have BN:∀{p:Prop} [Decidable p],decide p=false->¬p:=λh=>by simpa using h
   have eqs:∀b:Bool,o8 t.kind k (t.aD k).kind=b->jJ names t k=if b then gq names<|t.aD k else ⟨#[40]⟩++gq names (t.aD k)++⟨#[41]⟩:=λb h=>by rw[bare,h]
   have hB:o8 t.kind k (t.aD k).kind↔¬(((t.aD k).kind=5\/(t.aD k).kind=6)/\t.kind≠10/\t.kind≠14)\/((k=0/\(t.aD k).kind=t.kind)\/(t.kind=6/\(t.aD k).kind=5)):=by
    unfold o8 Hg;clear ih bR ihk tsz ksz bad bare fin eqs cond BN;repeat' split
    all_goals
     simp only[sq,gr,ib,true_iff];omega
   have wrapped:∀{s:aB},s=jJ names t k->s.size<=722:=λh=>h▸kk;refine sS (λh5=>?_) λh5=>?_
   ·have hs:gq names (t.aD k)=jJ names t k:=(by rw[eqs true<|hB.2 (.inr<|cond h5)];rfl);refine⟨by unfold iF;simp only[dP,vy,s5,dC,fy];omega,?_⟩;refine sW ?_;refine .inl ⟨zW,?_⟩;refine sW ?_
    exact⟨k+1,⟨zo,λj hj=>by by_cases e:j=k;subst e;exact az;exact bR j zo⟩,zd,aL 2 zs rfl ⟨.refl _,bz _<|qL names,.refl _,zu,.refl _,zu,.refl _,zu,trivial⟩
     ⟨⟨rfl,.refl _,bI _<|eU t⟩,⟨rfl,rfl,rfl,aV<|fin hs,bm _<|Mm _ _ _⟩,trivial⟩⟩
   refine sS (λh6=>?_) λh6=>?_
   ·have hs:⟨#[40]⟩++gq names (t.aD k)++⟨#[41]⟩=jJ names t k:=by
     rw[eqs false<|by rw[<-uQ,hB];exact λh=>h.elim (λh=>h<|cond h6)<|BN h5];rfl
    refine⟨sM,?_⟩;refine sW ?_;refine⟨sM,?_⟩;refine sW ?_;refine⟨by unfold iF;simp only[dP,vy,s5,dC,fy];omega,?_⟩;refine sW ?_;refine .inl ⟨zW,?_⟩;refine sW ?_
    exact⟨k+1,⟨zo,λj hj=>by by_cases e:j=k;subst e;exact az;exact bR j zo⟩,zd,aL 2 zs rfl ⟨.refl _,bz _<|qL names,.refl _,zu,.refl _,zu,.refl _,zu,trivial⟩
     ⟨⟨rfl,.refl _,bI _<|eU t⟩,⟨rfl,rfl,rfl,aV<|fin hs,bm _<|Mm _ _ _⟩,trivial⟩⟩
   have hs:gq names (t.aD k)=jJ names t k:=(by rw[eqs true<|hB.2 (.inl<|BN h6)];rfl);refine⟨by unfold iF;simp only[dP,vy,s5,dC,fy];omega,?_⟩;refine sW ?_;refine .inl ⟨zW,?_⟩;refine sW ?_
   exact⟨k+1,⟨zo,λj hj=>by by_cases e:j=k;subst e;exact az;exact bR j zo⟩,zd,aL 2 zs rfl ⟨.refl _,bz _<|qL names,.refl _,zu,.refl _,zu,.refl _,zu,trivial⟩
    ⟨⟨rfl,.refl _,bI _<|eU t⟩,⟨rfl,rfl,rfl,aV<|fin hs,bm _<|Mm _ _ _⟩,trivial⟩⟩
  have BG:k=t.width:=(by have:¬k<t.width:=(by simpa [Tree.width] using h1);omega);clear h1;have fC:t.kind≠3->cJ names t:=λh3=>by
   rw[CH];simp only[gr];refine⟨by simp[qy,h3],kb.2 λu hu=>?_⟩;obtain⟨j,hj,rfl⟩:=iD.1 hu;have:=bR j (by rw[BG];exact hj);rwa [Tree.oJ hj] at this
  have fin:∀{H:aE} {s:aB},t.kind≠3->s=gq names t->Deep H (.aJ [.sc (.string s),ay true]) (yp names t):=λh3 h=>by
   unfold yp;rw[fC h3,h];exact .refl _
  refine sS (λh1=>?_) λh1=>?_
  ·have fk:t.kind=1:=sO;exact fin zo<|by rw[HX names zo,fk];rfl
  refine sS (λh2=>?_) λh2=>?_
  ·have fk:t.kind=2:=sO;exact fin zo<|by rw[HX names zo,fk];rfl
  refine sS (λh3=>?_) λh3=>?_
  ·have fk:t.kind=3:=sO;refine sC (PH names hn t.num uO) ?_;have e1:gq names t=nm names t.num:=(by rw[HX names zo,fk];rfl);have e2:cJ names t=!(dZ (nm names t.num) ⟨#[]⟩):=(by rw[IC names zo,fk];rfl);refine cf ?_;unfold yp;rw[e1,e2];show D.aJ [.sc (.string<|nm names t.num),ay<|!(dZ (nm names t.num) ⟨#[]⟩)]=_;cases e:dZ (nm names t.num) ⟨#[]⟩
   ·rfl
   rw[ByteArray.size_eq_zero_iff.1<|(HZ _).1 e];rfl
  refine sS (λh4=>?_) λh4=>?_
  ·have fk:t.kind=5:=sO;have hw:t.width=2:=zo;have:=ksz 0 zo;have:=ksz 1 zo;refine⟨zo,zo,?_⟩;refine sW ?_;refine⟨_,xk (j:=0) zo,?_⟩;refine sW ?_;refine⟨sM,?_⟩;refine sW ?_;try (refine⟨sM,?_⟩;refine sW ?_)
   refine⟨zo,zo,?_⟩;refine sW ?_;refine⟨_,xk (j:=1) zo,?_⟩;refine sW ?_;refine⟨sM,?_⟩;refine sW ?_;try (refine⟨sM,?_⟩;refine sW ?_)
   exact fin zo<|by rw[Fc names hw,fk];rfl
  refine sS (λh5=>?_) λh5=>?_
  ·have fk:t.kind=6:=sO;have hw:t.width=2:=zo;have:=ksz 0 zo;have:=ksz 1 zo;refine⟨zo,zo,?_⟩;refine sW ?_;refine⟨_,xk (j:=0) zo,?_⟩;refine sW ?_;refine⟨sM,?_⟩;refine sW ?_;try (refine⟨sM,?_⟩;refine sW ?_)
   refine⟨zo,zo,?_⟩;refine sW ?_;refine⟨_,xk (j:=1) zo,?_⟩;refine sW ?_;refine⟨sM,?_⟩;refine sW ?_;try (refine⟨sM,?_⟩;refine sW ?_)
   exact fin zo<|by rw[Fc names hw,fk];rfl
  refine sS (λh6=>?_) λh6=>?_
  ·have fk:t.kind=10:=sO;have hw:t.width=2:=zo;have:=ksz 0 zo;have:=ksz 1 zo;refine⟨zo,zo,?_⟩;refine sW ?_;refine⟨_,xk (j:=0) zo,?_⟩;refine sW ?_;refine⟨sM,?_⟩;refine sW ?_;try (refine⟨sM,?_⟩;refine sW ?_)
   refine⟨zo,zo,?_⟩;refine sW ?_;refine⟨_,xk (j:=1) zo,?_⟩;refine sW ?_;refine⟨sM,?_⟩;refine sW ?_;try (refine⟨sM,?_⟩;refine sW ?_)
   exact fin zo<|by rw[Fc names hw,fk];rfl
  refine sS (λh7=>?_) λh7=>?_
  ·have fk:t.kind=14:=sO;have hw:t.width=2:=zo;have:=ksz 0 zo;have:=ksz 1 zo;refine⟨zo,zo,?_⟩;refine sW ?_;refine⟨_,xk (j:=0) zo,?_⟩;refine sW ?_;refine⟨sM,?_⟩;refine sW ?_;try (refine⟨sM,?_⟩;refine sW ?_)
   refine⟨zo,zo,?_⟩;refine sW ?_;refine⟨_,xk (j:=1) zo,?_⟩;refine sW ?_;refine⟨sM,?_⟩;refine sW ?_;try (refine⟨sM,?_⟩;refine sW ?_)
   exact fin zo<|by rw[Fc names hw,fk];rfl
  have hw:t.width=1:=sO;have:=ksz 0 zo;have e1:=XZ names hw;refine sS (λh8=>?_) λh8=>?_
  ·have fk:t.kind=4:=sO;refine⟨zo,zo,?_⟩;refine sW ?_;refine⟨_,xk (j:=0) zo,?_⟩;refine sW ?_;refine⟨sM,?_⟩;refine sW ?_;exact fin zo<|by rw[e1,fk];rfl
  have hk:t.kind=7\/t.kind=8\/t.kind=9\/t.kind=11\/t.kind=12\/t.kind=13:=sO;rcases hk with fk|fk|fk|fk|fk|fk
  all_goals
   refine⟨zo,zo,_,by rw[fk];rfl,?_⟩;refine sW ?_;refine⟨zo,zo,?_⟩;refine sW ?_;refine⟨_,xk (j:=0) zo,?_⟩;refine sW ?_;refine⟨sM,?_⟩;refine sW ?_;exact fin zo<|by rw[e1,fk];rfl
theorem zts(hs:pq names)(n:Int)(silent:Bool):ao aj 189 [aa n,dr names,ay silent] (.sc (.string<|rnm names silent n)):=by
 refine bS fZ ?_;unfold dr;refine sR ?_;have eq:∀{s:aB},s=rnm names silent n->Deep [] (D.sc (.string s)) (.sc (.string<|rnm names silent n)):=λh=>h▸.refl _;cases e1:(n==63)
 ·have e1:n≠63:=(by simpa using e1);have g1:¬(n=63/\silent):=λh=>e1 h.1;refine sW ?_;cases e2:decide (n<0)
  ·refine sW ?_;rw[aI];cases e3:decide (n>=(names.length:Int))
   ·refine sW ?_;cases e4:decide (n>=63)
    ·have e2:¬n<0:=of_decide_eq_false e2;have e3:¬n>=(names.length:Int):=of_decide_eq_false e3;have e4:¬n>=63:=of_decide_eq_false e4;have hk:n.toNat<names.length:=zo;have g2:¬(n<0\/(names.length:Int)<=n\/63<=n):=zo;refine sW ?_;refine sL (rO hk) ?_;refine sC (DL _<|hs.at hk) ?_;cases e5:fF (names.getD n.toNat ⟨#[]⟩)
     ·refine sW ?_;exact eq<|by unfold rnm;rw[ab g1,ab g2,ae e5]
     refine sW ?_;refine sL (rO hk) ?_;refine sC (Oi names _ hs.1) ?_;have hd:=Nz hk;rw[show(n.toNat:Int)=n by omega] at hd;refine sS (λh4=>?_) λh4=>?_
     ·exact eq (by have:pD names n.toNat<|names.getD n.toNat ⟨#[]⟩:=hd.1 (by simpa using h4)
                   unfold rnm;rw[ab g1,ab g2,ab<|by rw[e5];decide,ae this])
     refine sL (rO hk) ?_
     exact eq (by have:¬pD names n.toNat (names.getD n.toNat ⟨#[]⟩):=λh=>hd.2 h (by simpa using h4)
                  unfold rnm;rw[ab g1,ab g2,ab<|by rw[e5];decide,ab this])
    refine sW ?_;exact eq<|by unfold rnm;rw[ab g1,ae<|by have:=pH e4;omega]
   refine sW ?_;exact eq<|by unfold rnm;rw[ab g1,ae<|by have:=pH e3;omega]
  refine sW ?_;exact eq<|by unfold rnm;rw[ab g1,ae<|by have:=pH e2;omega]
 have e1:n=63:=by simpa using e1
 subst e1;refine sW ?_;cases silent
 ·refine sW ?_;rw[aI];cases e3:decide ((63:Int)>=(names.length:Int))
  ·refine sW ?_;exact eq<|by simp[rnm]
  refine sW ?_;exact eq<|by simp[rnm]
 refine sW ?_;exact eq<|by simp[rnm,wR]
theorem Sv(k:Int):ao aj 185 [aa k]<|ay<|decide (k<=4):=by
 refine bt ?_;exact .refl _
theorem tG(hs:pq names)(silent:Bool)(n:Int):ao aj 188 [aa n,.ax [dr names],.ax [ay silent]]<|ay<|gP names silent n:=by
 refine bt ?_;refine sC (zts names hs n silent) ?_;exact .refl _
theorem zlW(h:x.kind≠5/\x.kind≠6)(k:x.scope≠2/\x.scope≠3/\x.scope≠4/\x.scope≠5):bZ aj 183 [jg x] [] (.aJ [.own 1 0 0 1,au]) [.row true<|cm x,.vec true 0 1<|aw [x.p]]:=by
 refine jb fZ zs zs ?_ zu (by simp[al.under,cm,aG,bB,aK,aw]);refine sR ?_;rw[show(x.kind==5)=false from dp zo];refine sW ?_;rw[show(x.kind==6)=false from dp zo];refine sW ?_;rw[show(x.scope==2)=false from dp zo];refine sW ?_;rw[show(x.scope==3)=false from dp zo];refine sW ?_;rw[show(x.scope==4)=false from dp zo];refine sW ?_;rw[show(x.scope==5)=false from dp zo];refine sW ?_;exact aS _
theorem zms(h:x.kind≠5/\x.kind≠6)(k:x.scope=2):bZ aj 183 [jg x] [] (.aJ [.own 1 0 0 1,.own 2 0 0 1]) [.row true<|cm x,.vec true 0 1<|aw [x.p],.vec true 0 1<|aw [x.r]]:=by
 refine jb fZ zs zs ?_ zu (by simp[al.under,cm,aG,bB,aK,aw]);refine sR ?_;rw[show(x.kind==5)=false from dp zo];refine sW ?_;rw[show(x.kind==6)=false from dp zo];refine sW ?_;rw[show(x.scope==2)=true from gX zo];refine sW ?_;exact aS _
theorem zlC(h:x.kind≠5/\x.kind≠6)(k:x.scope=3):bZ aj 183 [jg x] [] (.aJ [.own 1 0 0 1,.own 2 0 0 1]) [.row true<|cm x,.vec true 0 1<|aw [x.p],.vec true 0 1<|aw [x.q]]:=by
 refine jb fZ zs zs ?_ zu (by simp[al.under,cm,aG,bB,aK,aw]);refine sR ?_;rw[show(x.kind==5)=false from dp zo];refine sW ?_;rw[show(x.kind==6)=false from dp zo];refine sW ?_;rw[show(x.scope==2)=false from dp zo];refine sW ?_;rw[show(x.scope==3)=true from gX zo];refine sW ?_;exact aS _
theorem zlN(h:x.kind≠5/\x.kind≠6)(k:x.scope=4\/x.scope=5):bZ aj 183 [jg x] [] (.aJ [.own 1 0 0 1,.own 2 0 0 2]) [.row true<|cm x,.vec true 0 1<|aw [x.p],.vec true 0 1<|aw [x.q,x.r]]:=by
 refine jb fZ zs zs ?_ zu (by simp[al.under,cm,aG,bB,aK,aw]);refine sR ?_;rw[show(x.kind==5)=false from dp zo];refine sW ?_;rw[show(x.kind==6)=false from dp zo];refine sW ?_;rcases k with k|k
 ·rw[show(x.scope==2)=false from dp zo];refine sW ?_;rw[show(x.scope==3)=false from dp zo];refine sW ?_;rw[show(x.scope==4)=true from gX zo];refine sW ?_;exact aS _
 rw[show(x.scope==2)=false from dp zo];refine sW ?_;rw[show(x.scope==3)=false from dp zo];refine sW ?_;rw[show(x.scope==4)=false from dp zo];refine sW ?_;rw[show(x.scope==5)=true from gX zo];refine sW ?_;exact aS _
theorem zl6(h:x.kind=5\/x.kind=6)(k:x.scope≠2/\x.scope≠3/\x.scope≠4/\x.scope≠5):bZ aj 183 [jg x] [] (.aJ [.own 2 0 0 2,au]) [.row true<|cm x,.vec true 0 1<|aw [x.p],.vec true 0 1<|aw [x.s,x.p]]:=by
 refine jb fZ zs zs ?_ zu (by simp[al.under,cm,aG,bB,aK,aw]);refine sR ?_;rcases h with h|h
 ·rw[show(x.kind==5)=true from gX zo];refine sW ?_;rw[show(x.scope==2)=false from dp zo];refine sW ?_;rw[show(x.scope==3)=false from dp zo];refine sW ?_;rw[show(x.scope==4)=false from dp zo];refine sW ?_;rw[show(x.scope==5)=false from dp zo];refine sW ?_;exact aS _
 rw[show(x.kind==5)=false from dp zo];refine sW ?_;rw[show(x.kind==6)=true from gX zo];refine sW ?_;rw[show(x.scope==2)=false from dp zo];refine sW ?_;rw[show(x.scope==3)=false from dp zo];refine sW ?_;rw[show(x.scope==4)=false from dp zo];refine sW ?_;rw[show(x.scope==5)=false from dp zo];refine sW ?_;exact aS _
theorem zlt(h:x.kind=5\/x.kind=6)(k:x.scope=2):bZ aj 183 [jg x] [] (.aJ [.own 2 0 0 2,.own 3 0 0 1]) [.row true<|cm x,.vec true 0 1<|aw [x.p],.vec true 0 1<|aw [x.s,x.p],.vec true 0 1<|aw [x.r]]:=by
 refine jb fZ zs zs ?_ zu (by simp[al.under,cm,aG,bB,aK,aw]);refine sR ?_;rcases h with h|h
 ·rw[show(x.kind==5)=true from gX zo];refine sW ?_;rw[show(x.scope==2)=true from gX zo];refine sW ?_;exact aS _
 rw[show(x.kind==5)=false from dp zo];refine sW ?_;rw[show(x.kind==6)=true from gX zo];refine sW ?_;rw[show(x.scope==2)=true from gX zo];refine sW ?_;exact aS _
theorem zlq(h:x.kind=5\/x.kind=6)(k:x.scope=3):bZ aj 183 [jg x] [] (.aJ [.own 2 0 0 2,.own 3 0 0 1]) [.row true<|cm x,.vec true 0 1<|aw [x.p],.vec true 0 1<|aw [x.s,x.p],.vec true 0 1<|aw [x.q]]:=by
 refine jb fZ zs zs ?_ zu (by simp[al.under,cm,aG,bB,aK,aw]);refine sR ?_;rcases h with h|h
 ·rw[show(x.kind==5)=true from gX zo];refine sW ?_;rw[show(x.scope==2)=false from dp zo];refine sW ?_;rw[show(x.scope==3)=true from gX zo];refine sW ?_;exact aS _
 rw[show(x.kind==5)=false from dp zo];refine sW ?_;rw[show(x.kind==6)=true from gX zo];refine sW ?_;rw[show(x.scope==2)=false from dp zo];refine sW ?_;rw[show(x.scope==3)=true from gX zo];refine sW ?_;exact aS _
theorem zl0(h:x.kind=5\/x.kind=6)(k:x.scope=4\/x.scope=5):bZ aj 183 [jg x] [] (.aJ [.own 2 0 0 2,.own 3 0 0 2]) [.row true<|cm x,.vec true 0 1<|aw [x.p],.vec true 0 1<|aw [x.s,x.p],.vec true 0 1<|aw [x.q,x.r]]:=by
 refine jb fZ zs zs ?_ zu (by simp[al.under,cm,aG,bB,aK,aw]);refine sR ?_;rcases h with h|h
 ·rw[show(x.kind==5)=true from gX zo];refine sW ?_;rcases k with k|k
  ·rw[show(x.scope==2)=false from dp zo];refine sW ?_;rw[show(x.scope==3)=false from dp zo];refine sW ?_;rw[show(x.scope==4)=true from gX zo];refine sW ?_;exact aS _
  rw[show(x.scope==2)=false from dp zo];refine sW ?_;rw[show(x.scope==3)=false from dp zo];refine sW ?_;rw[show(x.scope==4)=false from dp zo];refine sW ?_;rw[show(x.scope==5)=true from gX zo];refine sW ?_;exact aS _
 rw[show(x.kind==5)=false from dp zo];refine sW ?_;rw[show(x.kind==6)=true from gX zo];refine sW ?_;rcases k with k|k
 ·rw[show(x.scope==2)=false from dp zo];refine sW ?_;rw[show(x.scope==3)=false from dp zo];refine sW ?_;rw[show(x.scope==4)=true from gX zo];refine sW ?_;exact aS _
 rw[show(x.scope==2)=false from dp zo];refine sW ?_;rw[show(x.scope==3)=false from dp zo];refine sW ?_;rw[show(x.scope==4)=false from dp zo];refine sW ?_;rw[show(x.scope==5)=true from gX zo];refine sW ?_;exact aS _
section
variable(names:List aB)(hn:pq names)(name:aB)(sort:Int)(x:cA)(k a b c:Int)(f g:Tree)
include hn
theorem zoa(h1:sort=1)(hk:x.kind≠5/\x.kind≠6)(hs:x.scope≠2/\x.scope≠3/\x.scope≠4/\x.scope≠5):ao aj 145 [cK name sort x k a b c f g,dr names]<|aa<|dU names sort x k a b c f g:=by
 have hE:dU names sort x k a b c f g=if dJ x=0/\(kD x++kG x).any (gP names true)=true then 4 else dJ x:=by unfold dU;rw[ae h1]
 have hO:kD x=[x.p]:=by unfold kD;rw[ab zo]
 have hP:kG x=[]:=by unfold kG;rw[ab zo,ab zo,ab zo]
 rw[hO,hP] at hE;have om:=x3 x;have hA:=zlW x hk hs;have hF:=mh (λn=>aa n) (λ_=>by simp[Pure]) ([x.p]++[]) zs (gP names true) 188 [.ax [dr names],.ax [ay true]] zp λn _=>tG names hn true n;refine bS fZ ?_;rw[hE];unfold cK ji cm jg at *;refine sR ?_;rw[gX h1];refine sW ?_;refine sC om ?_;refine sE (rA hA (by simp[aA,Pure,cm]) [3,4] rfl rfl (by simp[al.aP,bL,D.aP];rfl)) ?_;refine sJ ?_;cases e:(dJ x==0)
 ·refine sW ?_;exact cf<|bH (λz=>aa z) (ab λh=>by have:=h.1;simp[this] at e).symm
 have e:dJ x=0:=by simpa using e
 refine sW ?_;refine sN hF ?_;cases e2:([x.p]++[]).any<|gP names true
 ·refine sW ?_;exact cf<|bH (λz=>aa z) (ab λh=>by cases h.2).symm
 refine sW ?_;exact cf<|bH (λz=>aa z) (ae ⟨e,rfl⟩).symm
theorem zm0(h1:sort=1)(hk:x.kind≠5/\x.kind≠6)(hs:x.scope=2):ao aj 145 [cK name sort x k a b c f g,dr names]<|aa<|dU names sort x k a b c f g:=by
 have hE:dU names sort x k a b c f g=if dJ x=0/\(kD x++kG x).any (gP names true)=true then 4 else dJ x:=by unfold dU;rw[ae h1]
 have hO:kD x=[x.p]:=by unfold kD;rw[ab zo]
 have hP:kG x=[x.r]:=by unfold kG;rw[ae zo]
 rw[hO,hP] at hE;have om:=x3 x;have hA:=zms x hk hs;have hF:=mh (λn=>aa n) (λ_=>by simp[Pure]) ([x.p]++[x.r]) zs (gP names true) 188 [.ax [dr names],.ax [ay true]] zp λn _=>tG names hn true n;refine bS fZ ?_;rw[hE];unfold cK ji cm jg at *;refine sR ?_;rw[gX h1];refine sW ?_;refine sC om ?_;refine sE (rA hA (by simp[aA,Pure,cm]) [3,4,5] rfl rfl (by simp[al.aP,bL,D.aP];rfl)) ?_;refine sJ ?_;cases e:(dJ x==0)
 ·refine sW ?_;exact cf<|bH (λz=>aa z) (ab λh=>by have:=h.1;simp[this] at e).symm
 have e:dJ x=0:=by simpa using e
 refine sW ?_;refine sN hF ?_;cases e2:([x.p]++[x.r]).any<|gP names true
 ·refine sW ?_;exact cf<|bH (λz=>aa z) (ab λh=>by cases h.2).symm
 refine sW ?_;exact cf<|bH (λz=>aa z) (ae ⟨e,rfl⟩).symm
theorem zos(h1:sort=1)(hk:x.kind≠5/\x.kind≠6)(hs:x.scope=3):ao aj 145 [cK name sort x k a b c f g,dr names]<|aa<|dU names sort x k a b c f g:=by
 have hE:dU names sort x k a b c f g=if dJ x=0/\(kD x++kG x).any (gP names true)=true then 4 else dJ x:=by unfold dU;rw[ae h1]
 have hO:kD x=[x.p]:=by unfold kD;rw[ab zo]
 have hP:kG x=[x.q]:=by unfold kG;rw[ab zo,ae zo]
 rw[hO,hP] at hE;have om:=x3 x;have hA:=zlC x hk hs;have hF:=mh (λn=>aa n) (λ_=>by simp[Pure]) ([x.p]++[x.q]) zs (gP names true) 188 [.ax [dr names],.ax [ay true]] zp λn _=>tG names hn true n;refine bS fZ ?_;rw[hE];unfold cK ji cm jg at *;refine sR ?_;rw[gX h1];refine sW ?_;refine sC om ?_;refine sE (rA hA (by simp[aA,Pure,cm]) [3,4,5] rfl rfl (by simp[al.aP,bL,D.aP];rfl)) ?_;refine sJ ?_;cases e:(dJ x==0)
 ·refine sW ?_;exact cf<|bH (λz=>aa z) (ab λh=>by have:=h.1;simp[this] at e).symm
 have e:dJ x=0:=by simpa using e
 refine sW ?_;refine sN hF ?_;cases e2:([x.p]++[x.q]).any<|gP names true
 ·refine sW ?_;exact cf<|bH (λz=>aa z) (ab λh=>by cases h.2).symm
 refine sW ?_;exact cf<|bH (λz=>aa z) (ae ⟨e,rfl⟩).symm
theorem zoI(h1:sort=1)(hk:x.kind≠5/\x.kind≠6)(hs:x.scope=4\/x.scope=5):ao aj 145 [cK name sort x k a b c f g,dr names]<|aa<|dU names sort x k a b c f g:=by
 have hE:dU names sort x k a b c f g=if dJ x=0/\(kD x++kG x).any (gP names true)=true then 4 else dJ x:=by unfold dU;rw[ae h1]
 have hO:kD x=[x.p]:=by unfold kD;rw[ab zo]
 have hP:kG x=[x.q,x.r]:=by unfold kG;rw[ab zo,ab zo,ae zo]
 rw[hO,hP] at hE;have om:=x3 x;have hA:=zlN x hk hs;have hF:=mh (λn=>aa n) (λ_=>by simp[Pure]) ([x.p]++[x.q,x.r]) zs (gP names true) 188 [.ax [dr names],.ax [ay true]] zp λn _=>tG names hn true n;refine bS fZ ?_;rw[hE];unfold cK ji cm jg at *;refine sR ?_;rw[gX h1];refine sW ?_;refine sC om ?_;refine sE (rA hA (by simp[aA,Pure,cm]) [3,4,5] rfl rfl (by simp[al.aP,bL,D.aP];rfl)) ?_;refine sJ ?_;cases e:(dJ x==0)
 ·refine sW ?_;exact cf<|bH (λz=>aa z) (ab λh=>by have:=h.1;simp[this] at e).symm
 have e:dJ x=0:=by simpa using e
 refine sW ?_;refine sN hF ?_;cases e2:([x.p]++[x.q,x.r]).any<|gP names true
 ·refine sW ?_;exact cf<|bH (λz=>aa z) (ab λh=>by cases h.2).symm
 refine sW ?_;exact cf<|bH (λz=>aa z) (ae ⟨e,rfl⟩).symm
theorem znY(h1:sort=1)(hk:x.kind=5\/x.kind=6)(hs:x.scope≠2/\x.scope≠3/\x.scope≠4/\x.scope≠5):ao aj 145 [cK name sort x k a b c f g,dr names]<|aa<|dU names sort x k a b c f g:=by
 have hE:dU names sort x k a b c f g=if dJ x=0/\(kD x++kG x).any (gP names true)=true then 4 else dJ x:=by unfold dU;rw[ae h1]
 have hO:kD x=[x.s,x.p]:=by unfold kD;rw[ae zo]
 have hP:kG x=[]:=by unfold kG;rw[ab zo,ab zo,ab zo]
 rw[hO,hP] at hE;have om:=x3 x;have hA:=zl6 x hk hs;have hF:=mh (λn=>aa n) (λ_=>by simp[Pure]) ([x.s,x.p]++[]) zs (gP names true) 188 [.ax [dr names],.ax [ay true]] zp λn _=>tG names hn true n;refine bS fZ ?_;rw[hE];unfold cK ji cm jg at *;refine sR ?_;rw[gX h1];refine sW ?_;refine sC om ?_;refine sE (rA hA (by simp[aA,Pure,cm]) [3,4,5] rfl rfl (by simp[al.aP,bL,D.aP];rfl)) ?_;refine sJ ?_;cases e:(dJ x==0)
 ·refine sW ?_;exact cf<|bH (λz=>aa z) (ab λh=>by have:=h.1;simp[this] at e).symm
 have e:dJ x=0:=by simpa using e
 refine sW ?_;refine sN hF ?_;cases e2:([x.s,x.p]++[]).any<|gP names true
 ·refine sW ?_;exact cf<|bH (λz=>aa z) (ab λh=>by cases h.2).symm
 refine sW ?_;exact cf<|bH (λz=>aa z) (ae ⟨e,rfl⟩).symm
theorem zor(h1:sort=1)(hk:x.kind=5\/x.kind=6)(hs:x.scope=2):ao aj 145 [cK name sort x k a b c f g,dr names]<|aa<|dU names sort x k a b c f g:=by
 have hE:dU names sort x k a b c f g=if dJ x=0/\(kD x++kG x).any (gP names true)=true then 4 else dJ x:=by unfold dU;rw[ae h1]
 have hO:kD x=[x.s,x.p]:=by unfold kD;rw[ae zo]
 have hP:kG x=[x.r]:=by unfold kG;rw[ae zo]
 rw[hO,hP] at hE;have om:=x3 x;have hA:=zlt x hk hs;have hF:=mh (λn=>aa n) (λ_=>by simp[Pure]) ([x.s,x.p]++[x.r]) zs (gP names true) 188 [.ax [dr names],.ax [ay true]] zp λn _=>tG names hn true n;refine bS fZ ?_;rw[hE];unfold cK ji cm jg at *;refine sR ?_;rw[gX h1];refine sW ?_;refine sC om ?_;refine sE (rA hA (by simp[aA,Pure,cm]) [3,4,5,6] rfl rfl (by simp[al.aP,bL,D.aP];rfl)) ?_;refine sJ ?_;cases e:(dJ x==0)
 ·refine sW ?_;exact cf<|bH (λz=>aa z) (ab λh=>by have:=h.1;simp[this] at e).symm
 have e:dJ x=0:=by simpa using e
 refine sW ?_;refine sN hF ?_;cases e2:([x.s,x.p]++[x.r]).any<|gP names true
 ·refine sW ?_;exact cf<|bH (λz=>aa z) (ab λh=>by cases h.2).symm
 refine sW ?_;exact cf<|bH (λz=>aa z) (ae ⟨e,rfl⟩).symm
theorem znW(h1:sort=1)(hk:x.kind=5\/x.kind=6)(hs:x.scope=3):ao aj 145 [cK name sort x k a b c f g,dr names]<|aa<|dU names sort x k a b c f g:=by
 have hE:dU names sort x k a b c f g=if dJ x=0/\(kD x++kG x).any (gP names true)=true then 4 else dJ x:=by unfold dU;rw[ae h1]
 have hO:kD x=[x.s,x.p]:=by unfold kD;rw[ae zo]
 have hP:kG x=[x.q]:=by unfold kG;rw[ab zo,ae zo]
 rw[hO,hP] at hE;have om:=x3 x;have hA:=zlq x hk hs;have hF:=mh (λn=>aa n) (λ_=>by simp[Pure]) ([x.s,x.p]++[x.q]) zs (gP names true) 188 [.ax [dr names],.ax [ay true]] zp λn _=>tG names hn true n;refine bS fZ ?_;rw[hE];unfold cK ji cm jg at *;refine sR ?_;rw[gX h1];refine sW ?_;refine sC om ?_;refine sE (rA hA (by simp[aA,Pure,cm]) [3,4,5,6] rfl rfl (by simp[al.aP,bL,D.aP];rfl)) ?_;refine sJ ?_;cases e:(dJ x==0)
 ·refine sW ?_;exact cf<|bH (λz=>aa z) (ab λh=>by have:=h.1;simp[this] at e).symm
 have e:dJ x=0:=by simpa using e
 refine sW ?_;refine sN hF ?_;cases e2:([x.s,x.p]++[x.q]).any<|gP names true
 ·refine sW ?_;exact cf<|bH (λz=>aa z) (ab λh=>by cases h.2).symm
 refine sW ?_;exact cf<|bH (λz=>aa z) (ae ⟨e,rfl⟩).symm
theorem znZ(h1:sort=1)(hk:x.kind=5\/x.kind=6)(hs:x.scope=4\/x.scope=5):ao aj 145 [cK name sort x k a b c f g,dr names]<|aa<|dU names sort x k a b c f g:=by
 have hE:dU names sort x k a b c f g=if dJ x=0/\(kD x++kG x).any (gP names true)=true then 4 else dJ x:=by unfold dU;rw[ae h1]
 have hO:kD x=[x.s,x.p]:=by unfold kD;rw[ae zo]
 have hP:kG x=[x.q,x.r]:=by unfold kG;rw[ab zo,ab zo,ae zo]
 rw[hO,hP] at hE;have om:=x3 x;have hA:=zl0 x hk hs;have hF:=mh (λn=>aa n) (λ_=>by simp[Pure]) ([x.s,x.p]++[x.q,x.r]) zs (gP names true) 188 [.ax [dr names],.ax [ay true]] zp λn _=>tG names hn true n;refine bS fZ ?_;rw[hE];unfold cK ji cm jg at *;refine sR ?_;rw[gX h1];refine sW ?_;refine sC om ?_;refine sE (rA hA (by simp[aA,Pure,cm]) [3,4,5,6] rfl rfl (by simp[al.aP,bL,D.aP];rfl)) ?_;refine sJ ?_;cases e:(dJ x==0)
 ·refine sW ?_;exact cf<|bH (λz=>aa z) (ab λh=>by have:=h.1;simp[this] at e).symm
 have e:dJ x=0:=by simpa using e
 refine sW ?_;refine sN hF ?_;cases e2:([x.s,x.p]++[x.q,x.r]).any<|gP names true
 ·refine sW ?_;exact cf<|bH (λz=>aa z) (ab λh=>by cases h.2).symm
 refine sW ?_;exact cf<|bH (λz=>aa z) (ae ⟨e,rfl⟩).symm
theorem zmX(h1:sort=2)(hk:k<=4):ao aj 145 [cK name sort x k a b c f g,dr names]<|aa<|dU names sort x k a b c f g:=by
 have hE:dU names sort x k a b c f g=if jm k a b c=0/\(x5 k a b).any (gP names false)=true then 4 else jm k a b c:=by unfold dU;rw[ab zo,ae h1]
 have hO:x5 k a b=[a]:=by unfold x5;rw[ae hk]
 rw[hO] at hE;have om:=LP k a b c;have hA:=Sv k;rw[show decide (k<=4)=true by simpa using hk] at hA;have hF:=mh (λn=>aa n) (λ_=>by simp[Pure]) [a] zs (gP names false) 188 [.ax [dr names],.ax [ay false]] zp λn _=>tG names hn false n;refine bS fZ ?_;rw[hE];unfold cK ji cm iV vn at *;refine sR ?_;rw[dp<|show sort≠1 by omega];refine sW ?_;rw[gX h1];refine sW ?_;refine sC om ?_;refine sC hA ?_
 skip
 refine sW ?_;cases e:(jm k a b c==0)
 ·refine sW ?_;exact cf<|bH (λz=>aa z) (ab λh=>by have:=h.1;simp[this] at e).symm
 have e:jm k a b c=0:=by simpa using e
 refine sW ?_;refine sN hF ?_;cases e2:[a].any<|gP names false
 ·refine sW ?_;exact cf<|bH (λz=>aa z) (ab λh=>by cases h.2).symm
 refine sW ?_;exact cf<|bH (λz=>aa z) (ae ⟨e,rfl⟩).symm
theorem zoR(h1:sort=2)(hk:¬k<=4):ao aj 145 [cK name sort x k a b c f g,dr names]<|aa<|dU names sort x k a b c f g:=by
 have hE:dU names sort x k a b c f g=if jm k a b c=0/\(x5 k a b).any (gP names false)=true then 4 else jm k a b c:=by unfold dU;rw[ab zo,ae h1]
 have hO:x5 k a b=[a,b]:=by unfold x5;rw[ab hk]
 rw[hO] at hE;have om:=LP k a b c;have hA:=Sv k;rw[show decide (k<=4)=false by simpa using hk] at hA;have hF:=mh (λn=>aa n) (λ_=>by simp[Pure]) [a,b] zs (gP names false) 188 [.ax [dr names],.ax [ay false]] zp λn _=>tG names hn false n;refine bS fZ ?_;rw[hE];unfold cK ji cm iV vn at *;refine sR ?_;rw[dp<|show sort≠1 by omega];refine sW ?_;rw[gX h1];refine sW ?_;refine sC om ?_;refine sC hA ?_;refine sJ ?_;cases e:(jm k a b c==0)
 ·refine sW ?_;exact cf<|bH (λz=>aa z) (ab λh=>by have:=h.1;simp[this] at e).symm
 have e:jm k a b c=0:=by simpa using e
 refine sW ?_;refine sN hF ?_;cases e2:[a,b].any<|gP names false
 ·refine sW ?_;exact cf<|bH (λz=>aa z) (ab λh=>by cases h.2).symm
 refine sW ?_;exact cf<|bH (λz=>aa z) (ae ⟨e,rfl⟩).symm
theorem zqp(h1:sort=3)(hv:Small f):ao aj 145 [cK name sort x k a b c f g,dr names]<|aa<|dU names sort x k a b c f g:=by
 have hE:dU names sort x k a b c f g=if aU bw f=0 then (if cJ names f then 0 else 4) else aU bw f:=by unfold dU;rw[ab zo,ab zo,ae h1]
 have hR:=ztz names hn f hv;have hF:=mh (λn=>aa n) (λ_=>by simp[Pure]) [] zs (gP names false) 188 [.ax [dr names],.ax [ay false]] zp λn _=>tG names hn false n;have hD:∃s,CV names f=.aJ [.sc (.string s),aa<|dU names sort x k a b c f g]:=by
  rw[hE];unfold CV;split
  ·split
   ·exact⟨_,rfl⟩
   exact⟨_,rfl⟩
  exact⟨_,rfl⟩
 obtain⟨s,hD⟩:=hD;rw[hD] at hR;refine bS fZ ?_;generalize dU names sort x k a b c f g=e at *;unfold cK ji cm iV aO at *;refine sR ?_;rw[dp<|show sort≠1 by omega];refine sW ?_;rw[dp<|show sort≠2 by omega];refine sW ?_;rw[gX h1]
 skip
 skip
 refine sW ?_;refine sC hR ?_;cases e2:(e==0)
 ·refine sW ?_;exact .refl _
 refine sW ?_;refine sN hF ?_;exact .refl _
theorem zqX(h1:sort=4)(hv:Small g):ao aj 145 [cK name sort x k a b c f g,dr names]<|aa<|dU names sort x k a b c f g:=by
 have hE:dU names sort x k a b c f g=if aU c9 g=0 then (if cJ names g then 0 else 4) else aU c9 g:=by unfold dU;rw[ab zo,ab zo,ab zo,ae h1]
 have hR:=zuN names hn g hv;have hF:=mh (λn=>aa n) (λ_=>by simp[Pure]) [] zs (gP names false) 188 [.ax [dr names],.ax [ay false]] zp λn _=>tG names hn false n;have hD:∃s,De names g=.aJ [.sc (.string s),aa<|dU names sort x k a b c f g]:=by
  rw[hE];unfold De;split
  ·split
   ·exact⟨_,rfl⟩
   exact⟨_,rfl⟩
  exact⟨_,rfl⟩
 obtain⟨s,hD⟩:=hD;rw[hD] at hR;refine bS fZ ?_;generalize dU names sort x k a b c f g=e at *;unfold cK ji cm iV aO at *;refine sR ?_;rw[dp<|show sort≠1 by omega];refine sW ?_;rw[dp<|show sort≠2 by omega];refine sW ?_;rw[dp<|show sort≠3 by omega];refine sW ?_;rw[gX h1];refine sW ?_;refine sC hR ?_;cases e2:(e==0)
 ·refine sW ?_;exact .refl _
 refine sW ?_;refine sN hF ?_;exact .refl _
theorem zt9(h1:1<=sort/\sort<=4)(hf:Small f)(hg:Small g):ao aj 145 [cK name sort x k a b c f g,dr names]<|aa<|dU names sort x k a b c f g:=by
 by_cases s1:sort=1
 ·by_cases hk:x.kind=5\/x.kind=6
  ·by_cases e2:x.scope=2
   ·exact zor names hn name sort x k a b c f g s1 hk e2
   by_cases e3:x.scope=3
   ·exact znW names hn name sort x k a b c f g s1 hk e3
   by_cases e4:x.scope=4\/x.scope=5
   ·exact znZ names hn name sort x k a b c f g s1 hk e4
   exact znY names hn name sort x k a b c f g s1 hk zo
  by_cases e2:x.scope=2
  ·exact zm0 names hn name sort x k a b c f g s1 zo e2
  by_cases e3:x.scope=3
  ·exact zos names hn name sort x k a b c f g s1 zo e3
  by_cases e4:x.scope=4\/x.scope=5
  ·exact zoI names hn name sort x k a b c f g s1 zo e4
  exact zoa names hn name sort x k a b c f g s1 zo zo
 by_cases s2:sort=2
 ·by_cases hk:k<=4
  ·exact zmX names hn name sort x k a b c f g s2 hk
  exact zoR names hn name sort x k a b c f g s2 hk
 by_cases s3:sort=3
 ·exact zqp names hn name sort x k a b c f g s3 hf
 exact zqX names hn name sort x k a b c f g zo hg
end
def c76:PC:=SO [Bx 2 0,Mv 4 K0] (.seq (SO [Fa 7 0 2,Lo 8 7,Ca 9 34 [8],Nt 10 9,qm 11 10,GF 12 11 (.kM 1 2),GF 13 11 (.nv 12),GF 14 11 (.bin .lss 13 K1),Pk 15 11 cT 14,qm 16 15,GF 17 16 (.kM 1 2),GF 18 16 (.nv 17),GF 19 16 (.bin .gtr 18 K4),Pk 20 16 cT 19]<|If 20<|SO [Mv 4 K1] .ret) (.seq (SO [LA 21 19 2,qm 22 1,Ca 23 145 [21,22],qm 5 23]<|SO [qm 24 5,Bi 25 .neq 24 K0]<|If 25<|SO [qm 26 5,qm 4 26] .ret)<|SO [Fa 27 1 2,Lo 28 27,Bi 29 .neq 28 K1,qm 30 29,GT 31 30 (.kM 2 2),GT 32 30 (.xI 7 31),GT 33 30 (.build [v0,v0,v0,v0,v0,v0,v0] []),GT 34 30 (.eqa true [0,0,0,0,0,0,0] 32 33),Pk 35 30 34 cF,qm 36 35,GF 37 36 (.kM 1 2),GF 38 36 (.nv 37),GF 39 36 (.bin .neq 38 K2),GF 40 36 (.move 39),GT 41 40 (.kM 9 2),GT 42 40 (.xI 4 41),GT 43 40 (.build [v0,v0,v0,v0] []),GT 44 40 (.eqa true [0,0,0,0] 42 43),GF 45 36 (.pick 40 44 cF),Pk 46 36 cT 45,qm 6 46]<|SO [qm 47 6,qm 48 47,GF 49 48 (.kM 1 2),GF 50 48 (.nv 49),GF 51 48 (.bin .neq 50 K3),GF 52 48 (.move 51),GT 53 52 (.kM 13 2),GT 54 52 (.kM 0 53),GT 55 52 (.nv 54),GT 56 52 (.bin .neq 55 K0),GT 57 52 (.move 56),GF 58 57 (.kM 13 2),GF 59 57 (.kM 1 58),GF 60 57 (.nv 59),GF 61 57 (.bin .neq 60 K0),GT 62 52 (.pick 57 cT 61),GT 63 52 (.move 62),GF 64 63 (.kM 13 2),GF 65 63 (.kM 2 64),GF 66 63 (.nv 65),GF 67 63 (.len 66),GF 68 63 (.bin .gtr 67 K0),GT 69 52 (.pick 63 cT 68),GF 70 48 (.pick 52 69 cF),Pk 71 48 cT 70,qm 6 71] (.seq (SO [qm 72 6,qm 73 72,GF 74 73 (.kM 1 2),GF 75 73 (.nv 74),GF 76 73 (.bin .neq 75 K4),GF 77 73 (.move 76),GT 78 77 (.kM 16 2),GT 79 77 (.kM 0 78),GT 80 77 (.nv 79),GT 81 77 (.bin .neq 80 K0),GT 82 77 (.move 81),GF 83 82 (.kM 16 2),GF 84 82 (.kM 1 83),GF 85 82 (.nv 84),GF 86 82 (.bin .neq 85 K0),GT 87 77 (.pick 82 cT 86),GT 88 77 (.move 87),GF 89 88 (.kM 16 2),GF 90 88 (.kM 2 89),GF 91 88 (.nv 90),GF 92 88 (.len 91),GF 93 88 (.bin .gtr 92 K0),GT 94 77 (.pick 88 cT 93),GF 95 73 (.pick 77 94 cF),Pk 96 73 cT 95]<|If 96<|SO [Mv 4 K1] .ret)<|SO [Mv 4 K0] .ret)))
theorem Jm(hn:pq names)(name:aB)(gg:name.size<=9223372036854775807)(sort:Int)(x:cA)(k a b c:Int)(f g:Tree)(hf:Small f)(hg:Small g) :
  ao aj 76 [cK name sort x k a b c f g,dr names] (aa<|ff names name sort x k a b c f g):=by
 have hN:=DL name gg;refine bS (fJ 97 [.tmp 4] c76 Tryz.func76) ?_;have fin:∀{H:aE} {z:Int},z=ff names name sort x k a b c f g->Deep H (aa z) (aa<|ff names name sort x k a b c f g):=λh=>h▸.refl _;by_cases hs:1<=sort/\sort<=4
 ·have hP:=zt9 names hn name sort x k a b c f g hs hf hg;unfold cK ji cm iV aO at *;refine sR ?_;refine sC hN ?_;cases e1:fF name
  ·refine sW ?_;exact fin<|by unfold ff;rw[ae (.inl e1)]
  refine sW ?_;rw[show decide (sort<1)=false from gI zo];refine sW ?_;rw[show decide (sort>4)=false from gI zo];refine sW ?_;refine sC hP ?_;refine sS (λe2=>?_) λe2=>?_
  ·have e2:dU names sort x k a b c f g≠0:=(by simpa using e2);exact fin<|by unfold ff;rw[ab<|by rw[e1];simp;omega,ae e2]
  have e2:dU names sort x k a b c f g=0:=(by simpa using e2);have hE:ff names name sort x k a b c f g=if yc sort x k a b c f g=true then 1 else 0:=by unfold ff;rw[ab<|by rw[e1];simp;omega,ab<|by simp[e2]]
  rw[hE];clear fin hE hP hN e2 e1 hn gg;have h4:sort=1\/sort=2\/sort=3\/sort=4:=zo;clear hs;rcases h4 with rfl|rfl|rfl|rfl
  all_goals
   refine sW ?_
   repeat' (first
    |exact cf (bH (λz=>D.sc (.int .i64 z)) (by simp_all [yc,ub,Tree.width]<;>(intros;omega)))
    |(split<;>(rename_i _ heq;(try rw[heq]);refine sW ?_))
    |(refine pW (λh=>?_) (λh=>?_)<;>((try rw[h]);refine sW ?_)))
 have hE:ff names name sort x k a b c f g=1:=by unfold ff;rw[ae zo]
 unfold cK ji cm iV aO at *;refine sR ?_;refine sC hN ?_;cases e1:fF name
 ·refine sW ?_;exact fin hE.symm
 refine sW ?_;cases e2:decide (sort<1)
 ·refine sW ?_;rw[show decide (sort>4)=true from gQ<|by have:=of_decide_eq_false e2;omega];refine sW ?_;exact fin hE.symm
 refine sW ?_;exact fin hE.symm

def nF(N:List<|List aZ)(m:Nat):List aZ:=if (N.getD m []).length=0 then [(-1,(m:Int))] else (N.getD m []).map λx=>(x.1,(m:Int))
def nu(N:List<|List aZ)(m:Nat):ah:=if (N.getD m []).length=0 then [(m:Int)] else (N.getD m []).map λx=>x.2
def cc(N:List<|List aZ):Nat->List aZ
 |0=>[]
 |m+1=>cc N m++nF N m
def lJ(N:List<|List aZ):Nat->ah
 |0=>[]
 |m+1=>lJ N m++nu N m
def bu(N:List<|List aZ)(m:Nat):Nat:=(cc N m).length
def iA(N:List<|List aZ)(m:Nat):Nat:=(nF N m).length
variable(N:List<|List aZ)
theorem zxA(m:Nat):1<=iA N m:=by
 unfold iA nF;repeat grind
theorem qp(m:Nat):iA N m=if (N.getD m []).length=0 then 1 else (N.getD m []).length:=by
 unfold iA nF
 grind
theorem zBh(m:Nat):(nu N m).length=iA N m:=by
 rw[qp];unfold nu
 grind
theorem o4(m:Nat):bu N (m+1)=bu N m+iA N m:=by simp[bu,iA,cc]
theorem zY(N:List<|List aZ):∀m,(lJ N m).length=bu N m
 |0=>rfl
 |m+1=>by rw[o4];simp only[lJ,cL,zBh,zY N m]
variable{n:Nat}{N:List<|List aZ}
theorem vQ(h:m<=n):bu N m<=bu N n:=by
 induction n with
 |zero=>grind
 |succ n ih =>
  by_cases e:m=n+1
  ·grind
  rw[o4];have:=ih zo;omega
variable{a:Nat}{α:Type}
theorem VJ{l r:List α}{d:α}(h:a<l.length):(l++r).getD a d=l.getD a d:=by
 grind
theorem Y4{l r:List α}{d:α}(h:a=l.length+k):(l++r).getD a d=r.getD k d:=by
 grind
theorem zN{N:List<|List aZ}{m k:Nat}(hk:k<iA N m):∀n,m<n->(cc N n).getD (bu N m+k) (0,0)=(nF N m).getD k (0,0)
 |0,h=>zo
 |n+1,h=>by
  simp only[cc];by_cases e:m=n
  ·subst e;exact Y4 rfl
  have h1:=vQ (N:=N) (show m+1<=n by omega);rw[o4] at h1;rw[VJ (show bu N m+k<(cc N n).length by unfold bu at h1⊢;omega),zN hk n zo]
theorem PG{N:List<|List aZ}{m k:Nat}(hk:k<iA N m):∀n,m<n->(lJ N n).getD (bu N m+k) 0=(nu N m).getD k 0
 |0,h=>zo
 |n+1,h=>by
  simp only[lJ];by_cases e:m=n
  ·subst e;exact Y4<|by rw[zY]
  have h1:=vQ (N:=N) (show m+1<=n by omega);rw[o4] at h1;rw[VJ<|by rw[zY];omega,PG hk n zo]
theorem IL(hk:k<iA N m):((nF N m).getD k (0,0)).2=(m:Int):=by
 rw[qp] at hk;unfold nF;repeat grind
theorem Db{N:List<|List aZ}:∀{n i:Nat},i<bu N n->∃m k,m<n/\k<iA N m/\i=bu N m+k
 |0,i,h=>by simp[bu,cc] at h
 |n+1,i,h=>by
  rw[o4] at h;by_cases q:i<bu N n
  ·obtain⟨m,k,h1,h2,h3⟩:=Db q;exact⟨m,k,zo,h2,h3⟩
  exact⟨n,i-bu N n,zo,zo,zo⟩
def jG(N:List<|List aZ)(t:Nat):ah:=(List.range<|iA N t).map λ(i:Nat)=>((bu N t+i:Nat):Int)
def qz(of:List aZ)(t:Int):Nat->ah
 |0=>[]
 |k+1=>if (of.getD k (0,0)).2=t then qz of t k++[(k:Int)] else qz of t k
theorem X7{N:List<|List aZ}{n t:Nat}(ht:t<n):∀k,k<=bu N n->qz (cc N n) (t:Int) k=(List.range<|min (k-bu N t)<|iA N t).map λ(i:Nat)=>((bu N t+i:Nat):Int)
 |0,_=>by simp[qz]
 |k+1,hk=>by
  obtain⟨m,j,h1,h2,h3⟩:=Db (show k<bu N n by omega);have hm:((cc N n).getD k (0,0)).2=(m:Int):=(by rw[h3,zN h2 n h1,IL h2]);simp only[qz];rw[hm,X7 ht k zo];by_cases e:m=t
  ·subst e;rw[ae rfl,show min (k+1-bu N m) (iA N m)=min (k-bu N m) (iA N m)+1 by omega,qf,oD,show min (k-bu N m) (iA N m)=k-bu N m by omega];simp;omega
  rw[ab zo]
  congr 2
  rcases gK m t with q|q
  ·have:=vQ (N:=N) (show m+1<=t by omega);rw[o4] at this;omega
  have:=vQ (N:=N) (show t+1<=m by omega);rw[o4] at this;omega
theorem Yf{t:Nat}(ht:t<n):qz (cc N n) (t:Int) (bu N n)=jG N t:=by
 rw[X7 ht _<|aS _];unfold jG;have:=vQ (N:=N) (show t+1<=n by omega);rw[o4] at this
 grind
theorem zzk(h:(N.getD m []).length=0):jG N m=[(bu N m:Int)]:=by
 unfold jG;rw[qp,ae h];rfl
theorem Ho(N:List<|List aZ)(t:Nat):(jG N t).length=iA N t:=by simp[jG]
def C3(N:List<|List aZ)(m:Nat)(k:Int):Bool:=(N.getD m []).any λy=>y.1==k
def mZ(N:List<|List aZ)(of:List aZ)(s:Int):Nat->ah
 |0=>[]
 |i+1=>if C3 N (of.getD i (0,0)).2.toNat s=false\/(of.getD i (0,0)).1=s then mZ N of s i++[(i:Int)] else mZ N of s i
theorem Zt(N:List<|List aZ)(of:List aZ)(s:Int):∀i,(mZ N of s i).length<=i
 |0=>by simp[mZ]
 |i+1=>by
  simp only[mZ];have:=Zt N of s i;split<;>simp<;>omega
def kS(N:List<|List aZ)(m:Nat):ah:=gl m λt=>(bu N t:Int)
def nh(N:List<|List aZ)(m:Nat):ah:=gl m λt=>(iA N t:Int)
theorem QS(n:Nat)(g:Nat->Int):gl (n+1) g=gl n g++[g n]:=by simp[gl,qf]
def vE(N:List<|List aZ)(m k:Nat):List aZ:=((N.getD m []).take k).map λx=>(x.1,(m:Int))
theorem TU(N:List<|List aZ)(m:Nat):vE N m 0=[]:=by simp[vE]
theorem WC(h:k<(N.getD m []).length):vE N m (k+1)=vE N m k++[(((N.getD m []).getD k (0,0)).1,(m:Int))]:=by
 unfold vE;rw[jP,aX h,a8 (l:=N.getD m []),aX h,oD];rfl
theorem UQ(h:k<=(N.getD m []).length):(vE N m k).length=k:=by
 simp only[vE,aI,fg];omega
theorem ym(N:List<|List aZ)(m:Nat):(cc N m).length=bu N m:=rfl
theorem Yd(N:List<|List aZ)(m:Nat):cc N (m+1)=if (N.getD m []).length=0 then cc N m++[(-1,(m:Int))] else cc N m++vE N m (N.getD m []).length:=by
 simp only[cc,nF,vE,dM]
 grind
theorem Yo{N:List<|List aZ}{c:Nat}(h:∀i,(N.getD i []).length<=c)(hc:1<=c):∀m,bu N m<=c*m
 |0=>by simp[bu,cc]
 |m+1=>by
  rw[o4,qp,Nat.mul_succ];have:=Yo h hc m;have:=h m;split<;>omega
variable{M:ak}{s:Nat}
theorem D3(h:SpN M N s)(hm:m<=N.length):bu N m<=12000:=by
 have h1:=Yo (N:=N) (c:=60) h.rowAt zo m;have:=h.few;have:=h.len;omega
theorem Sw(h:SpN M N s)(m:Nat):iA N m<=60:=by
 rw[qp];have:=h.rowAt m
 grind
theorem zxF(N:List<|List aZ)(m:Nat):max (1:Int) ((N.getD m []).length:Int)=(iA N m:Int):=by
 rw[qp]
 grind
def w7(L:List bP)(M:ak)(N:List<|List aZ)(o a y:D):bj :=
 [jx L,bN M,.aM 1<|jR N,o,a,y,au,au,au,au]
theorem znF(L:List bP)(M:ak)(N:List<|List aZ)(s:Nat)(hS:SpN M N s) :
  bZ aj 140 [.loc 0 0] [.row true<|w7 L M N au au au] (ay<|decide ((bu N N.length:Int)<=600))
   [.row true<|w7 L M N (.own 1 (bu N N.length) 0<|bu N N.length) (.own 2 N.length 0 N.length) (.own 3 N.length 0 N.length),.vec true (bu N N.length) 2<|iy<|cc N N.length,.vec true N.length 1<|aw<|kS N N.length,.vec true N.length 1<|aw<|nh N N.length]:=by
 have hf:=hS.few;have hl:=hS.len;refine jb fZ zs zs ?_ zu (by simp[al.under,w7,aG,aK]);unfold w7;refine sR ?_;rw[D'];refine bQ (kY (gG 0 3 2 zs rfl rfl)<|kY (gG 0 4 1 zs rfl rfl)<|gG 0 5 1 zs rfl rfl) ?_
 refine cq [0,11,12] (λ((m,a):Nat×Nat)=>[(13,aa m)])
  (λ(m,a)=>[.row true [jx L,bN M,.aM 1<|jR N,.own 1 a 0 a,.own 2 m 0 m,.own 3 m 0 m,au,au,au,au],.vec true a 2<|iy<|cc N m,.vec true m 1<|aw<|kS N m,.vec true m 1<|aw<|nh N m])
  (λ(m,a)=>m<=N.length/\a=bu N m) (λ(m,a)=>N.length-m) (0,0) ?_
 refine sW ?_;refine⟨⟨zo,rfl⟩,by exact sK,rfl,?_⟩;rintro⟨m,a⟩ ⟨hm,ha⟩;have haS:=D3 hS hm;refine bf (λh1=>?_) λh1=>?_
 ·have uT:m<N.length:=sO;have lx:=hS.rowAt m;have la1:kS N (m+1)=kS N m++[(bu N m:Int)]:=QS _ _;have la2:nh N (m+1)=nh N m++[(iA N m:Int)]:=QS _ _;have e1:=Yd N m;have e2:=o4 N m;have e3:=qp N m;have e4:=zxF N m;have aY:=λk (hk:k<(N.getD m []).length)=>WC hk;have N3:=λk (hk:k<=(N.getD m []).length)=>UQ hk;have l1:(kS N m).length=m:=(by simp[kS]);have l2:(nh N m).length=m:=(by simp[nh]);have l3:(cc N m).length=a:=(by rw[ha];rfl);have iM:=TU N m;have hmp:=Sw hS m;refine sL (ru (L:=N) (k:=m) zo uT) ?_;generalize N.getD m []=l at *;refine sJ ?_;rw[oz]
  refine cq [0,3,4,11,12,13,32,33] (λ((k,c):Nat×Nat)=>[(34,aa k)])
   (λ(k,c)=>[.row true [jx L,bN M,.aM 1<|jR N,.own 1 c 0 c,.own 2 (m+1) 0<|m+1,.own 3 m 0 m,au,au,au,au],.vec true c 2<|iy<|cc N m++vE N m k,.vec true (m+1) 1<|aw<|kS N m++[(bu N m:Int)],.vec true m 1<|aw<|nh N m,.vec true 0 1 [[aa a]]])
   (λ(k,c)=>k<=l.length/\c=a+k) (λ(k,c)=>l.length-k) (0,a) ?_
  refine sW ?_;refine⟨⟨zo,rfl⟩,by exact sK,?_,?_⟩
  ·have hx:List.drop 0 (List.take m<|aw<|kS N m)++[[aa ((a-0:Nat):Int)]]=aw (kS N m++[(bu N m:Int)]):=(by rw[kJ l1.symm,ua,ha]);dsimp only;rw[iM,lv,<-hx];rfl
  rintro⟨k,c⟩ ⟨hk,hc⟩;have tH:=N3 k hk;refine bf (λh2=>?_) λh2=>?_
  ·have ai:k<l.length:=sO;have iR:=aY k ai;refine sL (lu (k:=k) zo ai) ?_;generalize l.getD k (0,0)=x at iR;refine ee ?_;refine⟨(k+1,c+1),⟨zo,zo⟩,zd,?_⟩;dsimp only;rw[iR];refine aL 5 zs rfl sQ (sU ?_);rw[<-ig];exact aV<|AH<|by rw[cL,l3,tH,hc]
  have ai:k=l.length:=by have:¬k<l.length:=sO
                         omega
  subst ai;rw[oz];refine sS (λh3=>?_) λh3=>?_
  ·have h3:l.length=0:=sO;rw[ae h3] at e1 e3;refine sJ ?_;rw[oz,e4];refine ee ?_;refine⟨(m+1,c+1),⟨zo,zo⟩,zd,?_⟩;dsimp only;rw[la1,la2,e1];refine aL 4 zs rfl sG (sZ2 ?_ ?_)
   ·refine aV ?_;rw[h3,iM,lv];exact AH zo
   exact aV<|kJ l2.symm
  have h3:¬l.length=0:=sO;rw[ab h3] at e1 e3;rw[oz,e4];refine ee ?_;refine⟨(m+1,c),⟨zo,zo⟩,zd,?_⟩;dsimp only;rw[la1,la2,e1];refine aL 4 zs rfl sQ (sU ?_);exact aV<|kJ l2.symm
 have uT:m=N.length:=by have:¬m<N.length:=sO
                        omega
 subst uT;subst ha;rw[ua];exact⟨rfl,rfl,aS _⟩
def oW(l:ah):fc:=l.map λn=>[.sc (.int .u64 n)]
variable(l:ah)
@[simp] theorem NO:dF<|oW l:=c6 _ (λl=>by simp[aA,Pure]) l
@[simp] theorem zzd:bB m (oW l)↔True:=⟨λ_=>trivial,λ_=>bm _<|NO l⟩
variable{c:Nat}
theorem Fu{l:ah}{x:Int}(h:c=l.length):List.drop 0 (List.take c<|oW l)++[[D.sc (.int .u64 x)]]=oW (l++[x]):=by
 rw[dP,fG<|by simp[h,oW]];simp[oW]
def oF(L:List bP)(M:ak)(N:List<|List aZ)(dS:D)(a x b y c z:Nat):bj :=
 [jx L,bN M,.aM 1<|jR N,mo<|cc N N.length,aF<|kS N N.length,aF<|nh N N.length,dS,.own a x 0 x,.own b y 0 y,.own c z 0 z]
def kA(L:List bP)(M:ak)(N:List<|List aZ)(dS:D)(x y z:Nat)(X:ak)(Y:ah)(Z:ak):aE :=
 [.row true<|oF L M N dS 1 x 2 y 3 z,.vec true x 1<|fj X,.vec true y 1<|oW Y,.vec true z 1<|fj Z]
variable{L:List bP}{x y:Nat}{ρ:Nat->Nat}{dS:D}
theorem zv9(hd:Pure dS){b:Nat}:bL ρ (oF L M N dS a x b y c z)=oF L M N dS (ρ a) x (ρ b) y (ρ c) z:=by
 have h1:=iQ (ρ:=ρ) _<|Dx L;have h2:=iQ (ρ:=ρ) _<|l5 M;have h3:=iQ (ρ:=ρ) (.aM 1<|jR N) (by simp only[Pure];exact ze N);have h4:=iQ (ρ:=ρ) _<|yP<|cc N N.length;have h5:=iQ (ρ:=ρ) _<|cX<|kS N N.length;have h6:=iQ (ρ:=ρ) _<|cX<|nh N N.length;have h7:=iQ (ρ:=ρ) _ hd;unfold oF;simp only[bL,h1,h2,h3,h4,h5,h6,h7];rfl
theorem zqr(hd:Pure dS){b:Nat}(ha:a<k)(hb:b<k)(hc:c<k):aG k<|oF L M N dS a x b y c z:=by
 have h1:=bz (m:=k) _<|Dx L;have h2:=bz (m:=k) _<|l5 M;have h3:=bz (m:=k) (.aM 1<|jR N) (by simp only[Pure];exact ze N);have h4:=bz (m:=k) _<|yP<|cc N N.length;have h5:=bz (m:=k) _<|cX<|kS N N.length;have h6:=bz (m:=k) _<|cX<|nh N N.length;have h7:=bz (m:=k) _ hd;unfold oF;exact⟨h1,h2,h3,h4,h5,h6,h7,ha,hb,hc,trivial⟩
variable{X Z:ak}{Y:ah}
theorem XS(hk:4<=k)(hd:Pure dS):dX k (kA L M N dS x y z X Y Z) :=
 ⟨zqr hd zo zo zo,by simp[al.under],by simp[al.under],by simp[al.under],trivial⟩
theorem Ez(hd:Pure dS){G R:aE}:xv 4 G (kA L M N dS x y z X Y Z++R) (kA L M N dS x y z X Y Z) :=
 lB _ _ λo ho=>CB (XS (aS _) hd) o ho
theorem FC{f:FuncId}{rest:bj}{d:D}{L:List bP}{M:ak}{N:List<|List aZ}(hd:Pure dS){x y z:Nat}{X:ak}{Y:ah}{Z:ak}
  (hA:bZ aj f (.loc 0 0::rest) (kA L M N dS x y z X Y Z) d<|kA L M N dS x y z X Y Z) (hr:aA rest) (hp:Pure d) {H:aE} (m a b c:Nat) (hn:[m,a,b,c].Nodup)
  (h0:H[m]? = some (.row true<|oF L M N dS a x b y c z)) (h1:H[a]? = some (.vec true x 1<|fj X)) (h2:H[b]? = some (.vec true y 1<|oW Y)) (h3:H[c]? = some (.vec true z 1<|fj Z)):B7 aj f (.loc m 0::rest) H d [m,a,b,c]:=by
 refine OU hA [m,a,b,c] rfl hn ⟨by simp[aK,kA],bI _ hr⟩ (XS (aS _) hd) (by simp only[bL,mj _ hr];rfl) (iQ _ hp) (λi o ho=>?_) m zs h0 zs (λid hid=>?_)
 ·have key:∀{i:Nat} {q p:al},(kA L M N dS x y z X Y Z)[i]? = some q->H[[m,a,b,c].getD i 0]? = some p->q.aP (λi=>[m,a,b,c].getD i 0)=p->(kA L M N dS x y z X Y Z)[i]? = some o->H[[m,a,b,c].getD i 0]? = some (o.aP λi=>[m,a,b,c].getD i 0):=λk1 k2 k3 k4=>by
   grind
  match i with
  |0=>exact key rfl h0 (by simp only[al.aP,zv9 hd];rfl) ho
  |1=>exact key rfl h1 (by simp only[al.aP,jW _<|Fb X]) ho
  |2=>exact key rfl h2 (by simp only[al.aP,jW _<|NO Y]) ho
  |3=>exact key rfl h3 (by simp only[al.aP,jW _<|Fb Z]) ho
  |i+4=>simp[kA] at ho
 simp only[eQ,uH,or_false] at hid;rcases hid with rfl|rfl|rfl|rfl
 ·exact .inl rfl
 ·exact .inr ⟨x,0,x,by simp[oF]⟩
 ·exact .inr ⟨y,0,y,by simp[oF]⟩
 exact .inr ⟨z,0,z,by simp[oF]⟩
@[simp] theorem UK(v:aW):Pure (.sc v):=by simp[Pure]
theorem ZU{t:Nat}(h:k<iA N t):(jG N t).take (k+1)=(jG N t).take k++[((bu N t+k:Nat):Int)]:=by
 have hl:=Ho N t;rw[jP,aX zo];simp[jG]
variable(L:List bP)
theorem Yt(M:ak)(N:List<|List aZ)(s:Nat)(hS:SpN M N s)(dS:D)(hd:Pure dS)(x y z:Nat)(X:ak)(Y:ah)(Z:ak)(t:Nat)(ht:t<N.length):bZ aj 143 [.loc 0 0,aa t] (kA L M N dS x y z X Y Z) (aF<|jG N t)<|kA L M N dS x y z X Y Z:=by
 have hf:=hS.few;have hl:=hS.len;have ha:=D3 hS (m:=t) zo;have hm:=Sw hS t;have Tj:=Ho N t;refine oQ fZ zs (by simp[kA]) ?_ zu;unfold kA oF;refine sR ?_;refine sL (bV (l:=nh N N.length) (k:=t) zo<|by simpa [nh] using ht) ?_;rw[show(nh N N.length).getD t 0=(iA N t:Int) from EI ht];refine bQ (eo 5 1 zs rfl) ?_;refine bb [0,1,13] (λk:Nat=>[(5,.own 4 k 0 k),(14,aa k)]) (λk=>[(4,.vec true k 1<|aw<|(jG N t).take k)]) (λk=>k<=iA N t) (λk=>iA N t-k) 0 ?_;refine dd ?_;rintro k hk;refine bf (λh1=>?_) λh1=>?_
 ·have ai:k<iA N t:=sO;refine sL (bV (l:=kS N N.length) (k:=t) zo<|by simpa [kS] using ht) ?_;rw[show(kS N N.length).getD t 0=(bu N t:Int) from EI ht];refine sI ?_;refine ee ?_;refine⟨k+1,zo,zd,?_⟩;dsimp only;rw[ZU ai];have e:(bu N t:Int)+(k:Int)=((bu N t+k:Nat):Int):=zo;rw[e];have cG:((jG N t).take k).length=k:=by rw[fg];omega
  (refine aL 5 zs rfl ?_ ?_<;>(repeat' (first|exact trivial|exact rfl|exact .refl _|refine And.intro ?_ ?_|(simp[aK,aG,bB,-List.map_take,-List.map_drop];done))))
  ·exact bz _ hd
  exact aV<|kJ cG.symm
 have ai:k=iA N t:=by have:¬k<iA N t:=sO
                      omega
 subst ai;rw[fG zo];exact⟨.own _ _ _ _ _ _ _ _ rfl rfl (aV<|cB<|by simp[aw];omega),Ez hd⟩
theorem getE{l:List aZ}(h:k<l.length):l[k]? = some (l.getD k (0,0)):=by
 grind
theorem J7(h0:(N.getD m []).length≠0)(hk:k<iA N m):(nF N m).getD k (0,0)=(((N.getD m []).getD k (0,0)).1,(m:Int))/\(nu N m).getD k 0=((N.getD m []).getD k (0,0)).2:=by
 rw[qp,ab h0] at hk;unfold nF nu;repeat grind
theorem Jb(h0:(N.getD m []).length=0):(nF N m).getD 0 (0,0)=(-1,(m:Int))/\(nu N m).getD 0 0=(m:Int):=by
 unfold nF nu
 grind
theorem ztG(M:ak)(N:List<|List aZ)(s:Nat)(hS:SpN M N s)(dS:D)(hd:Pure dS)(x y z:Nat)(X:ak)(Y:ah)(Z:ak)(m k:Nat)(hm:m<N.length)(hk:k<iA N m):bZ aj 141 [.loc 0 0,aa ((bu N m+k:Nat):Int)] (kA L M N dS x y z X Y Z) (aF<|jG N ((nu N m).getD k 0).toNat)<|kA L M N dS x y z X Y Z:=by
 have hf:=hS.few;have hl:=hS.len;have ha:=D3 hS (m:=m+1) zo;have fq:=vQ (N:=N) (show m+1<=N.length by omega);have hsu:=o4 N m;have oZ:=ym N N.length;have fS:=zN hk N.length hm;have bR:=λt (ht:t<N.length)=>Yt L M N s hS dS hd x y z X Y Z t ht;refine oQ fZ zs (by simp[kA]) ?_ zu;by_cases h0:(N.getD m []).length=0
 ·have nP:k=0:=(by rw[qp,ae h0] at hk;omega);subst nP;obtain⟨e1,e2⟩:=Jb h0;rw[e2,bO,zzk h0];rw[e1] at fS;unfold kA oF;refine sR ?_;refine⟨zo,_,lu (l:=cc N N.length) (k:=bu N m+0) zo zo,?_⟩;rw[fS];refine sW ?_;exact⟨.own _ _ _ _ _ _ _ _ rfl rfl (.refl _),Ez hd⟩
 obtain⟨e1,e2⟩:=J7 h0 hk;rw[e1] at fS;have ai:k<(N.getD m []).length:=by rw[qp,ab h0] at hk;exact hk
 have he:=hS.FY ai;have cD:=ru (L:=N) (z:=(m:Int).toNat) (k:=m) zo hm;have AS:=lu (l:=N.getD m []) (z:=k) (k:=k) rfl ai;rw[e2];generalize (N.getD m []).getD k (0,0)=e at *;have hA:=bR e.2.toNat zo;rw[show((e.2.toNat:Nat):Int)=e.2 by omega] at hA;unfold kA oF;refine sR ?_;refine⟨zo,_,lu (l:=cc N N.length) (k:=bu N m+k) zo zo,?_⟩;rw[fS];refine sWS (λh1=>?_) λh1=>?_
 ·exfalso;exact sO
 refine sL (cD) ?_;refine sL (bV (l:=kS N N.length) (k:=m) zo<|by simpa [kS] using hm) ?_;rw[show(kS N N.length).getD m 0=(bu N m:Int) from EI hm];refine sI ?_;refine sL ((show(iy<|N.getD m [])[(((bu N m+k:Nat):Int)-(bu N m:Int)).toNat]? = _ by rw[show(((bu N m+k:Nat):Int)-(bu N m:Int)).toNat=k by omega];exact AS)) ?_;refine sX (FC hd hA zp (cX _) 0 1 2 3 zc rfl rfl rfl rfl) ?_;exact⟨.refl _,Ez hd⟩
def tm(L:List bP)(z:Int):Int:=if z<0 then 9223372036854775808 else 2^(L.getD z.toNat (0,0,0)).1.toNat
theorem SB{z:Int}(hk:z=k)(h:k<=63):(1:Int)*2^min z.toNat IntKind.u64.bits=2^k:=by
 subst hk;rw[bO,Int.one_mul,v7<|by show k<=64;omega]
theorem Xo(h:k<=63):InR .u64<|(2:Int)^k:=by
 have h1:=JO k;have h2:=Fo (k:=k) (n:=63) h;have h3:(2:Int)^63=9223372036854775808:=zc;unfold InR IntKind.wrap;simp only[IntKind.bits,IntKind.signed]
 grind
theorem zqu(M:ak)(N:List<|List aZ)(s:Nat)(hS:SpN M N s)(dS:D)(hd:Pure dS)(x y z:Nat)(X:ak)(Y:ah)(Z:ak)(hL:∀j,j<L.length->0<=(L.getD j (0,0,0)).1/\(L.getD j (0,0,0)).1<=63)(hs:s=L.length)(m k:Nat)(hm:m<N.length)(hk:k<iA N m):bZ aj 142 [.loc 0 0,aa ((bu N m+k:Nat):Int)] (kA L M N dS x y z X Y Z) (.sc (.int .u64<|tm L ((nF N m).getD k (0,0)).1))<|kA L M N dS x y z X Y Z:=by
 have hf:=hS.few;have hl:=hS.len;have ha:=D3 hS (m:=m+1) zo;have fq:=vQ (N:=N) (show m+1<=N.length by omega);have hsu:=o4 N m;have oZ:=ym N N.length;have fS:=zN hk N.length hm;refine oQ fZ zs (by simp[kA]) ?_ zu;by_cases h0:(N.getD m []).length=0
 ·have nP:k=0:=(by rw[qp,ae h0] at hk;omega);subst nP;obtain⟨e1,e2⟩:=Jb h0;rw[e1];rw[e1] at fS;unfold kA oF;refine sR ?_;refine⟨zo,_,lu (l:=cc N N.length) (k:=bu N m+0) zo zo,?_⟩;rw[fS];refine sW ?_;exact⟨.refl _,Ez (R:=[]) hd⟩
 obtain⟨e1,e2⟩:=J7 h0 hk;rw[e1] at fS⊢;have ai:k<(N.getD m []).length:=by rw[qp,ab h0] at hk;exact hk
 have he:=hS.FY ai;generalize (N.getD m []).getD k (0,0)=e at *;have CF:=hL e.1.toNat zo;have e3:tm L e.1=2^(L.getD e.1.toNat (0,0,0)).1.toNat:=by unfold tm;rw[ab zo]
 unfold kA oF;refine sR ?_;refine⟨zo,_,lu (l:=cc N N.length) (k:=bu N m+k) zo zo,?_⟩;rw[fS];refine sWS (λh1=>?_) λh1=>?_
 ·exfalso;exact sO
 refine⟨zo,_,lu (l:=cc N N.length) (k:=bu N m+k) zo zo,?_⟩;rw[fS];refine sW ?_;refine sL (uZ (k:=e.1.toNat) zo zo) ?_;generalize L.getD e.1.toNat (0,0,0)=st at *;refine⟨zo,?_⟩;rw[SB (k:=st.1.toNat) zo zo,<-e3];refine .inl ⟨by rw[e3];exact Xo zo,?_⟩;refine sW ?_;exact⟨.refl _,Ez (R:=[]) hd⟩
theorem zuL(M:ak)(N:List<|List aZ)(s:Nat)(hS:SpN M N s)(dS:D)(hd:Pure dS)(x y z:Nat)(X:ak)(Y:ah)(Z:ak)(st:Int):bZ aj 144 [.loc 0 0,aa st] (kA L M N dS x y z X Y Z) (aF<|mZ N (cc N N.length) st<|bu N N.length)<|kA L M N dS x y z X Y Z:=by
 have hf:=hS.few;have hl:=hS.len;have ha:=D3 hS (m:=N.length) zo;have oZ:=ym N N.length;refine oQ fZ zs (by simp[kA]) ?_ zu;unfold kA oF;refine sR ?_;rw[oz,oZ];refine bQ (eo 5 1 zs rfl) ?_;refine bb [0,1,14,15] (λ((k,c,l):Nat×Nat×ah)=>[(5,.own 4 c 0 c),(16,aa k)]) (λ(k,c,l)=>[(4,.vec true c 1<|aw l)]) (λ(k,c,l)=>k<=bu N N.length/\c=l.length/\c<=k/\l=mZ N (cc N N.length) st k) (λ(k,c,l)=>bu N N.length-k) (0,0,[]) ?_;refine sW ?_;refine⟨⟨zo,rfl,zo,rfl⟩,by exact sK,rfl,?_⟩;rintro⟨k,c,l⟩ ⟨hk,hc,lH,dO⟩;refine bf (λh1=>?_) λh1=>?_
 ·have ai:k<bu N N.length:=sO;obtain⟨m,j,q1,q2,q3⟩:=Db ai;have fS:=zN q2 N.length q1;rw[<-q3] at fS;have qt:=IL q2;have eT:mZ N (cc N N.length) st (k+1)=if C3 N ((cc N N.length).getD k (0,0)).2.toNat st=false\/((cc N N.length).getD k (0,0)).1=st then mZ N (cc N N.length) st k++[(k:Int)] else mZ N (cc N N.length) st k:=rfl
  refine⟨zo,_,lu (l:=cc N N.length) (k:=k) zo zo,?_⟩;rw[fS] at eT⊢;generalize (nF N m).getD j (0,0)=e at eT qt;rw[qt,bO,<-dO] at eT;obtain⟨e1,e2⟩:=e;dsimp only at qt eT;subst qt;refine sW ?_;have lx:=hS.rowAt m;refine sL (ru (L:=N) (k:=m) zo q1) ?_;rw[oz];refine bb [0,1,5,6,7,14,15,16,29,30] (λ((j,b):Nat×Bool)=>[(8,ay b),(31,aa j)]) (λ_=>[]) (λ(j,b)=>j<=(N.getD m []).length/\b=((N.getD m []).take j).any λy=>y.1==st) (λ(j,b)=>(N.getD m []).length-j) (0,false) ?_;refine sW ?_;refine⟨⟨zo,zs⟩,by exact sK,rfl,?_⟩;rintro⟨j,b⟩ ⟨hj,hb⟩;refine bf (λh2=>?_) λh2=>?_
  ·have de:j<(N.getD m []).length:=sO;refine sL (lu (k:=j) zo de) ?_;have gR:((N.getD m []).take<|j+1).any (λy=>y.1==st)=(b||(((N.getD m []).getD j (0,0)).1==st)):=by
    rw[jP,getE de,tZ,<-hb];simp
   generalize (N.getD m []).getD j (0,0)=e at gR;cases b
   ·refine aQ ?_;refine⟨(j+1,e.1==st),⟨zo,by rw[gR];rfl⟩,zd,?_⟩;refine aL 6 zs rfl sQ (sU ?_);exact bz _ hd
   refine aQ ?_;refine⟨(j+1,true),⟨zo,by rw[gR];rfl⟩,zd,?_⟩;refine aL 6 zs rfl sQ (sU ?_);exact bz _ hd
  have de:j=(N.getD m []).length:=by have:¬j<(N.getD m []).length:=sO
                                     omega
  subst de;rw[dM] at hb;have hb:b=C3 N m st:=hb;rw[<-hb] at eT;cases b
  ·refine sW ?_;rw[ae (.inl rfl)] at eT;refine ee ?_;refine⟨(k+1,c+1,l++[(k:Int)]),⟨zo,by simp[hc],zo,eT.symm⟩,zd,?_⟩
   (refine aL 5 zs rfl ?_ ?_<;>(repeat' (first|exact trivial|exact rfl|exact .refl _|refine And.intro ?_ ?_|(simp[aK,aG,bB,-List.map_take,-List.map_drop];done))))
   ·exact bz _ hd
   exact aV<|kJ hc
  refine sWS (λh3=>?_) λh3=>?_
  ·have h3:e1=st:=sO;rw[ae (.inr h3)] at eT;refine ee ?_;refine⟨(k+1,c+1,l++[(k:Int)]),⟨zo,by simp[hc],zo,eT.symm⟩,zd,?_⟩
   (refine aL 5 zs rfl ?_ ?_<;>(repeat' (first|exact trivial|exact rfl|exact .refl _|refine And.intro ?_ ?_|(simp[aK,aG,bB,-List.map_take,-List.map_drop];done))))
   ·exact bz _ hd
   exact aV<|kJ hc
  have h3:¬e1=st:=sO;rw[ab λq=>q.elim (λq=>by cases q) h3] at eT;refine sI ?_;refine⟨(k+1,c,l),⟨zo,hc,zo,eT.symm⟩,zd,?_⟩;refine aL 5 zs rfl sQ (sU ?_);exact bz _ hd
 have ai:k=bu N N.length:=by have:¬k<bu N N.length:=sO
                             omega
 subst ai;rw[<-dO];exact⟨.own _ _ _ _ _ _ _ _ rfl rfl (aV<|cB<|by simp[aw];omega),Ez hd⟩
def ko(N:List<|List aZ):ak:=(lJ N N.length).map λt=>jG N t.toNat
def oi(L:List bP)(N:List<|List aZ):ah:=(cc N N.length).map λx=>tm L x.1
def o9(L:List bP)(N:List<|List aZ):ak:=(List.range L.length).map λ(k:Nat)=>mZ N (cc N N.length) (k:Int)<|bu N N.length
theorem KU(N:List<|List aZ):(ko N).length=bu N N.length:=by simp[ko,zY]
theorem NV(N:List<|List aZ):(oi L N).length=bu N N.length:=by simp[oi,ym]
theorem LG(N:List<|List aZ):(o9 L N).length=L.length:=by simp[o9]
variable{i:Nat}
theorem MA{β:Type}{f:α->β}{l:List α}{d:α}(h:i<l.length):(l.map f).take (i+1)=(l.map f).take i++[f<|l.getD i d]:=by
 rw[jP,fx,aX h,a8,aX h];rfl
theorem UZ(hm:m<N.length)(hk:k<iA N m):(ko N).take (bu N m+k+1)=(ko N).take (bu N m+k)++[jG N ((nu N m).getD k 0).toNat]:=by
 have h1:=vQ (N:=N) (show m+1<=N.length by omega);rw[o4] at h1;unfold ko;rw[MA (d:=0)<|by rw[zY];omega,PG hk N.length hm]
variable{L:List bP}
theorem X2(hm:m<N.length)(hk:k<iA N m):(oi L N).take (bu N m+k+1)=(oi L N).take (bu N m+k)++[tm L ((nF N m).getD k (0,0)).1]:=by
 have h1:=vQ (N:=N) (show m+1<=N.length by omega);rw[o4] at h1;unfold oi;rw[MA (d:=(0,0))<|by rw[ym];omega,zN hk N.length hm]
theorem RL(h:k<L.length):(o9 L N).take (k+1)=(o9 L N).take k++[mZ N (cc N N.length) (k:Int)<|bu N N.length]:=by
 unfold o9;rw[MA (d:=0)<|by simpa using h]
 grind
def OL(l:ah):D:=.aM 1<|oW l
def vm(start:ah)(next:ak)(label:ah)(fair:ak):D:=.agg [aF start,bN next,OL label,bN fair]
@[simp] theorem zpU:Pure<|OL l:=by simp only[OL,Pure];exact NO l
@[simp] theorem UW(start:ah)(next:ak)(label:ah)(fair:ak):Pure<|vm start next label fair:=by simp[vm,Pure,aA,cX,l5,zpU]
theorem YT{o a y:D}:bL ρ (w7 L M N o a y)=w7 L M N (D.aP ρ o) (D.aP ρ a) (D.aP ρ y):=by
 have h1:=iQ (ρ:=ρ) _<|Dx L;have h2:=iQ (ρ:=ρ) _<|l5 M;have h3:=iQ (ρ:=ρ) (.aM 1<|jR N) (by simp only[Pure];exact ze N);unfold w7;simp only[bL,h1,h2,h3];rfl
theorem ztf(L:List bP)(M:ak)(N:List<|List aZ)(s:Nat)(hS:SpN M N s)(o0 o1 o2:al) :
  ov aj 140 [.loc 3 0] [o0,o1,o2,.row true<|w7 L M N au au au] (ay<|decide ((bu N N.length:Int)<=600))
   [o0,o1,o2,.row true<|w7 L M N (.own 4 (bu N N.length) 0<|bu N N.length) (.own 5 N.length 0 N.length) (.own 6 N.length 0 N.length),.vec true (bu N N.length) 2<|iy<|cc N N.length,.vec true N.length 1<|aw<|kS N N.length,.vec true N.length 1<|aw<|nh N N.length] [3,4,5,6]:=by
 refine PL (znF L M N s hS) [3] rfl zs zu (by simp[dX,al.under,w7,aG,aK]) [3,4,5,6] rfl rfl rfl (λi o ho=>?_) ?_
 ·match i with
  |0 =>
   simp at ho;subst ho;simp only[al.aP,YT];rfl
  |i+1=>simp at ho
 simp only[dC,fy,vy,s5,II,dP,fR,jc,al.aP,YT,jW _<|FD _,znh,mF];rfl
variable(P:af)
theorem zvw(hP:P.Fits)(tok st:Int)(he:P.c7 tok st≠0):ao aj 75 [b7 P,aa tok,aa st] (.aJ [vm [] [] [] [],mo [],aa<|P.c7 tok st]):=by
 have hE:=Ee P hP tok st;refine bS fZ ?_;generalize P.c7 tok st=e at *;refine sR ?_;refine sC hE ?_;refine sS (λh1=>?_) λh1=>?_
 ·exact .aJ _ _ (.cons _ _ _ _ (.agg _ _ (.cons _ _ _ _ (.none _) (.cons _ _ _ _ (.none _) (.cons _ _ _ _ (.none _) (.cons _ _ _ _ (.none _) .nil))))) (.cons _ _ _ _ (.none _) (.cons _ _ _ _ (.refl _) .nil)))
 exfalso;exact sO
theorem FQ(hP:P.Fits)(tok st:Int)(he:P.c7 tok st=0)(hF:B5 P (P.exM tok st)<|P.cu tok st):ao aj 75 [b7 P,aa tok,aa st]
  (if bu (P.cu tok st) (P.cu tok st).length<=600 then .aJ [vm (jG (P.cu tok st) 0) (ko<|P.cu tok st) (oi P.aR<|P.cu tok st)<|o9 P.aR<|P.cu tok st,mo<|cc (P.cu tok st) (P.cu tok st).length,aa 0] else .aJ [vm [] [] [] [],mo [],aa 2]):=by
 have hE:=Ee P hP tok st;rw[he] at hE;generalize P.exM tok st=M at *;generalize P.cu tok st=N at *;have hS:=hF.sp;have hf:=hS.few;have hl:=hS.len;have lO:=hS.pos;obtain⟨h0,_,xo⟩:=af.kB hF.steps;have CF:∀j,j<P.aR.length->0<=(P.aR.getD j (0,0,0)).1/\(P.aR.getD j (0,0,0)).1<=63:=λj hj=>by
  have h1:=(af.yW hF.steps hj).node;have:=(jo h0).1;omega
 refine dh fZ zs zp ?_ (by split<;>simp[Pure,aA,UW,yP]);refine sR ?_;refine sC hE ?_;refine sC (AQ P hP) ?_;refine sE (ztf P.aR M N P.aR.length hS _ _ _) ?_;by_cases hA:bu N N.length<=600
 ·have hb:decide ((bu N N.length:Int)<=600)=true:=gQ zo;rw[hb,ae hA];refine sW ?_;rw[ua];have LF:=KU N;have BS:=NV P.aR N;have sF:=LG P.aR N;have rz:Pure au:=UK _;have D5:Pure<|aF<|jG N 0:=cX _;have jw:=λi X Y m k (hm:m<N.length) (hk:k<iA N m)=>ztG P.aR M N _ hS _ rz i i 0 X Y [] m k hm hk;have F6:=λi j X Y m k (hm:m<N.length) (hk:k<iA N m)=>zqu P.aR M N _ hS _ rz i j 0 X Y [] CF rfl m k hm hk;have bR:=λX Y=>Yt P.aR M N _ hS _ rz (bu N N.length) (bu N N.length) 0 X Y [] 0 zo;have zOe:=λk X Y Z st=>zuL P.aR M N _ hS _ D5 (bu N N.length) (bu N N.length) k X Y Z st;have Gp:List.drop 0 (List.take (bu N N.length)<|iy<|cc N N.length)=iy (cc N N.length):=cB (by simp[ym]);have hfa:List.drop 0 (List.take N.length<|aw<|kS N N.length)=aw (kS N N.length):=cB (by simp[aw,kS]);have hfm:List.drop 0 (List.take N.length<|aw<|nh N N.length)=aw (nh N N.length):=cB (by simp[aw,nh])
  refine bQ (kY (nX (λi=>i==4||i==5||i==6) (env':=[(6,.loc 1 0),(11,.loc 3 0),(44,aa<|bu N N.length),(45,aa 0)])
   (H':=[.row true P.cells,.row true [au,au,au,au],.row true<|lh M N,.row true [jx P.aR,bN M,.aM 1<|jR N,mo<|cc N N.length,aF<|kS N N.length,aF<|nh N N.length,au,au,au,au],
    .vec false (bu N N.length) 2 (iy<|cc N N.length),.vec false N.length 1<|aw<|kS N N.length,.vec false N.length 1<|aw<|nh N N.length])
   ⟨.refl _,.refl _,.refl _,.refl _,trivial⟩ ?_)
   (kY (gG 3 7 1 zs rfl rfl)<|kY (gG 3 8 1 zs rfl rfl)<|gG 3 9 1 zs rfl rfl)) ?_
  ·refine⟨⟨.inl rfl,(λh=>by cases h),.refl _⟩,⟨.inl rfl,(λh=>by cases h),.refl _⟩,⟨.inl rfl,(λh=>by cases h),.refl _⟩,⟨.inl rfl,(λh=>by cases h),?_⟩,⟨.inr ⟨rfl,rfl⟩,λ_=>rfl,rfl,rfl,.refl _⟩,⟨.inr ⟨rfl,rfl⟩,λ_=>rfl,rfl,rfl,.refl _⟩,⟨.inr ⟨rfl,rfl⟩,λ_=>rfl,rfl,rfl,.refl _⟩,trivial⟩;refine .cons _ _ _ _ (.refl _) (.cons _ _ _ _ (.refl _) (.cons _ _ _ _ (.refl _) (.cons _ _ _ _ (.own _ _ _ _ _ _ _ _ rfl rfl (aV Gp)) (.cons _ _ _ _ (.own _ _ _ _ _ _ _ _ rfl rfl (aV hfa)) (.cons _ _ _ _ (.own _ _ _ _ _ _ _ _ rfl rfl (aV hfm)) (.refl _))))))
  refine cq [6,11,44] (λi:Nat=>[(45,aa i)])
   (λi=>[.row true P.cells,.row true [au,au,au,au],.row true<|lh M N,.row true<|oF P.aR M N au 7 i 8 i 9 0,
    .vec false (bu N N.length) 2 (iy<|cc N N.length),.vec false N.length 1<|aw<|kS N N.length,.vec false N.length 1<|aw<|nh N N.length,.vec true i 1<|fj<|(ko N).take i,.vec true i 1<|oW<|(oi P.aR N).take i,.vec true 0 1<|fj []])
   (λi=>i<=bu N N.length) (λi=>bu N N.length-i) 0 ?_
  refine dd ?_;rintro i hi;refine bf (λh1=>?_) λh1=>?_
  ·have aT:i<bu N N.length:=sO;obtain⟨m,k,q1,q2,rfl⟩:=Db aT;have e1:=UZ q1 q2;have e2:=X2 (L:=P.aR) q1 q2;have l1:((ko N).take<|bu N m+k).length=bu N m+k:=(by rw[fg];omega);have l2:((oi P.aR N).take<|bu N m+k).length=bu N m+k:=(by rw[fg];omega);have hn:=λX Y=>jw (bu N m+k) X Y m k q1 q2;have Ir:=λj X Y=>F6 (bu N m+k+1) j X Y m k q1 q2;refine sX (FC rz (hn _ _) zp (cX _) 3 7 8 9 zc rfl rfl rfl rfl) ?_;rw[show List.drop 0 (List.take (bu N m+k)<|fj<|List.take (bu N m+k)<|ko N)++List.drop 0 (List.take 1 [[aF<|jG N ((nu N m).getD k 0).toNat]])=fj ((ko N).take<|bu N m+k+1) from by rw[e1];exact HB l1.symm];refine sJ ?_;refine sX (FC rz (Ir (bu N m+k) _ _) zp (UK _) 3 7 8 9 zc rfl rfl rfl rfl) ?_;rw[show List.drop 0 (List.take (bu N m+k)<|oW<|List.take (bu N m+k)<|oi P.aR N)++List.drop 0 (List.take 1 [[D.sc (.int .u64<|tm P.aR ((nF N m).getD k (0,0)).1)]])=oW ((oi P.aR N).take<|bu N m+k+1) from by rw[e2];exact Fu l2.symm];refine ee ?_;refine⟨bu N m+k+1,zo,zd,?_⟩;exact aL 10 zs rfl sQ sQ
  have aT:i=bu N N.length:=by have:¬i<bu N N.length:=sO
                              omega
  subst aT;rw[fG zo,fG zo];refine sX (FC rz (bR _ _) zp (cX _) 3 7 8 9 zc rfl rfl rfl rfl) ?_;rw[BD]
  refine cq [6,11,87] (λi:Nat=>[(88,aa i)])
   (λi=>[.row true P.cells,.row true [au,au,au,au],.row true<|lh M N,.row true<|oF P.aR M N (aF<|jG N 0) 7 (bu N N.length) 8 (bu N N.length) 9 i,
    .vec false (bu N N.length) 2 (iy<|cc N N.length),.vec false N.length 1<|aw<|kS N N.length,.vec false N.length 1<|aw<|nh N N.length,.vec true (bu N N.length) 1<|fj<|ko N,.vec true (bu N N.length) 1<|oW<|oi P.aR N,.vec true i 1<|fj<|(o9 P.aR N).take i])
   (λi=>i<=P.aR.length) (λi=>P.aR.length-i) 0 ?_
  refine dd ?_;rintro k hk;refine bf (λh2=>?_) λh2=>?_
  ·have ai:k<P.aR.length:=sO;have e1:=RL (N:=N) ai;have l1:((o9 P.aR N).take k).length=k:=(by rw[fg];omega);refine sX (FC D5 (zOe k _ _ _ k) zp (cX _) 3 7 8 9 zc rfl rfl rfl rfl) ?_;refine ee ?_;refine⟨k+1,zo,zd,?_⟩;dsimp only;rw[e1];refine aL 10 zs rfl sQ (sU ?_);exact aV<|HB l1.symm
  have ai:k=P.aR.length:=by have:¬k<P.aR.length:=sO
                            omega
  subst ai;rw[fG zo];refine .aJ _ _ (.cons _ _ _ _ (.agg _ _ (.cons _ _ _ _ (.refl _) (.cons _ _ _ _ (.own _ _ _ _ _ _ _ _ rfl ?_) (.cons _ _ _ _ (.own _ _ _ _ _ _ _ _ rfl ?_) (.cons _ _ _ _ (.own _ _ _ _ _ _ _ _ rfl ?_) .nil))))) (.cons _ _ _ _ (.refl _) (.cons _ _ _ _ (.refl _) .nil)))
  ·rw[cB<|by simp[fj,LF]];exact gw _
  ·rw[cB<|by simp[oW,BS]];exact gw _
  rw[cB<|by simp[fj,sF]];exact gw _
 have hb:decide ((bu N N.length:Int)<=600)=false:=gI zo;rw[hb,ab hA];refine sW ?_;exact .aJ _ _ (.cons _ _ _ _ (.agg _ _ (.cons _ _ _ _ (.none _) (.cons _ _ _ _ (.none _) (.cons _ _ _ _ (.none _) (.cons _ _ _ _ (.none _) .nil))))) (.cons _ _ _ _ (.none _) (.cons _ _ _ _ (.refl _) .nil)))
namespace af
def Ce(s m:Nat)(e:aZ):Prop:=0<=e.1/\e.1<(s:Int)/\0<=e.2/\e.2<(m:Int)
theorem Ce.mono{m':Nat}{e:aZ}(h:Ce s m e)(hm:m<=m'):Ce s m' e:=⟨h.1,h.2.1,h.2.2.1,by have:=h.2.2.2;omega⟩
theorem WZ{P:af}{tok:Int}{st n:Nat}{M:ah}:∀(L:ah) (marks:ak) (aN:List cd) (cur:List aZ) (last:cd),(∀k∈L,k∈P.eZ M)->(∀e∈cur,Ce P.aR.length marks.length e) ->
  marks.length<=(P.ij tok st n M L marks aN cur last).marks.length/\∀e∈(P.ij tok st n M L marks aN cur last).cur,Ce P.aR.length (P.ij tok st n M L marks aN cur last).marks.length e
 |[],marks,aN,cur,last,_,hc=>⟨aS _,hc⟩
 |k::r,marks,aN,cur,last,hL,hc=>by
  rw[EM];split
  ·exact⟨aS _,hc⟩
  split
  ·exact⟨aS _,hc⟩
  rename_i h1 h2;have h2:jM marks (P.gJ M k) tok st=0:=zo;have hl:=OF (marks:=marks) (m:=P.gJ M k) (tok:=tok) (st:=st);obtain⟨_,k1,k2,_⟩:=Jp<|hL k zs
  obtain⟨q1,q2⟩:=WZ (P:=P) (tok:=tok) (st:=st) (n:=n) (M:=M) r (jh marks (P.gJ M k) tok st) (lE marks aN (P.gJ M k) tok st ((n:Int),k)) (cur++[(k,mf marks (P.gJ M k) tok st)]) ((n:Int),k)
   (λx hx=>hL x<|by simp[hx]) (λe he=>by
    rcases dz.1 he with he|he
    ·exact(hc e he).mono hl
    rw[cV] at he;subst he;have hm:=zwc h2;have hi:=List.idxOf_lt_length_of_mem hm;have e:mf marks (P.gJ M k) tok st=(qM (jh marks (P.gJ M k) tok st) (P.gJ M k):Int):=(by unfold mf;rw[ae h2]);refine⟨k1,by show k<_;omega,?_,?_⟩
    ·show 0<=mf marks (P.gJ M k) tok st;rw[e];omega
    show mf marks (P.gJ M k) tok st<_;rw[e];unfold qM;omega)
  exact⟨jI hl q1,q2⟩
theorem RM{P:af}{tok:Int}{st:Nat}(bW:st<=200):∀(f n:Nat) (marks:ak) (aN:List cd) (next:List<|List aZ) (last:cd),Sp P tok st marks aN->(∀l∈next,∀e∈l,Ce P.aR.length marks.length e)->next.length=n->n<=marks.length->n+f=201 ->
  (P.lZ tok st f n marks aN next last).e=0->(P.lZ tok st f n marks aN next last).next.length=(P.lZ tok st f n marks aN next last).marks.length/\marks.length<=(P.lZ tok st f n marks aN next last).marks.length /\
   ∀l∈(P.lZ tok st f n marks aN next last).next,∀e∈l,Ce P.aR.length (P.lZ tok st f n marks aN next last).marks.length e
 |0,n,marks,aN,next,last,hS,_,_,hn,hf,_=>by have:=hS.room;omega
 |f+1,n,marks,aN,next,last,hS,hN,hl,hn,hf,he=>by
  simp only[lZ] at he⊢;split
  ·rename_i cG;rw[ae cG] at he;have hM:=hS.fC _<|rB cG;obtain⟨q1,q2,_⟩:=Hx (tok:=tok) (st:=st) (n:=n) hM (P.eZ<|marks.getD n []) marks aN [] last (λ_ h=>h) hS cG;obtain⟨r1,r2⟩:=WZ (P:=P) (tok:=tok) (st:=st) (n:=n) (M:=marks.getD n []) (P.eZ<|marks.getD n []) marks aN [] last (λ_ h=>h) zs;split
   ·rename_i h0;rw[ae h0] at he;exact absurd he h0
   rename_i h0;rw[ab h0] at he;obtain⟨t1,t2,t3⟩:=RM bW f (n+1) _ _ _ _ q1 (λl dO e KD=>by
    rcases dz.1 dO with dO|dO
    ·exact(hN l dO e KD).mono q2
    rw[cV] at dO;subst dO;exact r2 e KD) (by simp[hl]) zo zo he
   exact⟨t1,jI q2 t2,t3⟩
  rename_i cG;exact⟨by show next.length=marks.length;omega,aS _,hN⟩
end af
theorem mP{P:af}{tok st:Int}(he:P.c7 tok st=0):B5 P (P.exM tok st)<|P.cu tok st:=by
 have eM:P.exM tok st=(P.fp tok st.toNat).marks:=by unfold af.exM;rw[ae he]
 have eN:P.cu tok st=(P.fp tok st.toNat).next:=by unfold af.cu;rw[ae he]
 unfold af.c7 at he;split at he
 ·exfalso;omega
 rename_i h1;have h1:P.ew=0:=zo;split at he
 ·exfalso;omega
 rename_i h2;unfold af.rF at h2;obtain⟨h0,_,xo⟩:=af.kB h1;have pA:=(jo h0).2;obtain⟨hS,_⟩:=af.zCd h1 (tok:=tok) (st:=st.toNat) zo;have hr:=hS.room;obtain⟨g1,g2⟩:=af.Sk (P:=P) (tok:=tok) (st:=st.toNat) 201 0 [P.kr] [(-1,-1)] [] (-1,-1) zs;obtain⟨t1,t2,t3⟩:=af.RM (P:=P) (tok:=tok) (st:=st.toNat) zo 201 0 [P.kr] [(-1,-1)] [] (-1,-1) (af.Sp.start h1 zo) zs rfl zs rfl he;rw[eM,eN];refine⟨⟨t1,t2,zo,λl hl=>jI (g1 l hl) xo,t3,λm hm=>?_⟩,h1⟩;have hk:=af.fo<|hS.fC m hm;refine⟨by have:=hk.len;omega,λx hx=>?_⟩;obtain⟨j,hj,rfl⟩:=pd hx;exact by have:=hk.pos j;unfold val at this;exact this
abbrev Pr:=Int×Int
def jY(L:List Pr)(p:Pr):List Pr:=if p∈L then L else L++[p]
def gD(L:List Pr)(p:Pr):Nat:=L.idxOf p
theorem zwS(L:List Pr)(p:Pr):L.length<=(jY L p).length/\(jY L p).length<=L.length+1:=by unfold jY;split<;>simp
variable{L:List Pr}
theorem Rj(h:L.Nodup)(p:Pr):(jY L p).Nodup:=by
 unfold jY;split
 ·exact h
 rename_i q;rw[List.nodup_append];exact⟨h,by simp,λa ha b hb=>by rw[cV] at hb;subst hb;exact λe=>q<|e▸ha⟩
variable{p:Pr}
theorem Qr{q:Pr}:q∈jY L p↔q∈L\/q=p:=by
 unfold jY;split
 ·rename_i h;exact⟨λk=>.inl k,λk=>k.elim id λe=>e▸h⟩
 simp
theorem zwn(L:List Pr)(p:Pr):gD (jY L p) p=if p∈L then gD L p else L.length:=by
 unfold jY gD;split
 ·rfl
 rename_i h;rw[List.idxOf_append,ab h];simp
theorem Em(h:p∈L):gD L p<L.length:=List.idxOf_lt_length_of_mem h
variable{v:Nat}{g g':ak}{h:Nat->Nat}
theorem I8(he:∀v x,x∈g.getD v []->∃y,y∈g'.getD (h v) []/\y.toNat=h x.toNat){u:Nat}(k:To g u v):To g' (h u)<|h v:=by
 unfold To at k
 induction k with
 |base m=>simp only[cV] at m;subst m;simpa using nw g'<|h u
 |step q m ih =>
  obtain⟨y,y1,y2⟩:=he _ _ m;rw[<-y2];exact .step ih y1
variable{sets:List aq}
theorem zB9(he:∀v x,x∈g.getD v []->∃y,y∈g'.getD (h v) []/\y.toNat=h x.toNat)(k:Fw g (sets.map λS v=>S<|h v) v):Fw g' sets<|h v:=by
 obtain⟨c,h1,⟨x,x1,x2⟩,h3⟩:=k;obtain⟨y,y1,y2⟩:=he _ _ x1;refine⟨h c,I8 he h1,⟨y,y1,by rw[y2];exact I8 he x2⟩,λS hS=>?_⟩;obtain⟨d,d1,d2,d3⟩:=h3 _<|dq.2 ⟨S,hS,rfl⟩;exact⟨h d,d1,I8 he d2,I8 he d3⟩
theorem zu7{z z' S:aq}(hl:∀v,v<g.length->∀y,y∈g'.getD (h v) []->∃x,x∈g.getD v []/\h x.toNat=y.toNat)(aY:∀v x,x∈g.getD v []->x.toNat<g.length)
  (hz:∀v,v<g.length->z' (h v)->z v) {w:Nat} (k:Hit g' z' S w):∀u,u<g.length->h u=w->Hit g z (λv=>S<|h v) u:=by
 induction k with
 |one a k jn hs =>
  intro u hu e;subst e;obtain⟨x,x1,x2⟩:=hl u hu _ k;exact .one (hz u hu a) x1 (hz _ (aY _ _ x1)<|by rw[x2];exact jn)<|by rw[x2];exact hs
 |more a k jn hs ih =>
  intro u hu e;subst e;obtain⟨x,x1,x2⟩:=hl u hu _ k;exact .more (hz u hu a) x1 (hz _ (aY _ _ x1)<|by rw[x2];exact jn)<|ih _ (aY _ _ x1) x2
theorem Si:Fw g [] v↔Fw g [λ_=>true] v:=by
 constructor
 ·rintro⟨c,h1,h2,_⟩;exact⟨c,h1,h2,λS hS=>by rw[cV] at hS;subst hS;exact⟨c,rfl,nw _ _,nw _ _⟩⟩
 rintro⟨c,h1,h2,_⟩;exact⟨c,h1,h2,λS hS=>by cases hS⟩
theorem zzg(hl:∀v,v<g.length->∀y,y∈g'.getD (h v) []->∃x,x∈g.getD v []/\h x.toNat=y.toNat)(aY:∀v x,x∈g.getD v []->x.toNat<g.length)(hv:v<g.length)(k:Fw g' sets<|h v) :
  Fw g (sets.map λS v=>S<|h v) v:=by
 have main:∀sets:List aq,sets≠[]->Fw g' sets (h v)->Fw g (sets.map λS v=>S<|h v) v:=λsets b9 k=>by
  refine Lf (z:=λu=>decide (u<g.length)&&fwB g' sets (h u)) aY (λu hu=>by simp at hu;exact hu.1) (λu hu S hS=>?_) (by simpa using b9) (by simp[hv,zD,k]);simp only[gr,ja] at hu;obtain⟨S',lQ,rfl⟩:=dq.1 hS;have hh:=PI (z:=fwB g' sets) (λv q=>zD.2 q) lQ<|zD.1 hu.2;exact zu7 hl aY (λu hu q=>by simp[hu,q]) hh u hu.1 rfl
 by_cases b9:sets=[]
 ·subst b9;rw[jc,Si];exact main [λ_=>true] zs<|Si.1 k
 grind
structure bT where
 start:ah
 next:ak
 jy:ah
 mO:ah
 fair:ak
def bT.cells(A:bT):bj:=[aF A.start,bN A.next,iw A.jy,iw A.mO,bN A.fair]
def mi(A:bT):D:=.agg A.cells
variable(A:bT)
@[simp] theorem E7:aA A.cells:=by simp[bT.cells,aA,cX,l5,yr]
@[simp] theorem MF:Pure<|mi A:=by simp[mi,Pure,E7]
def Od:bT:=⟨[],[],[],[],[]⟩
structure bT.Fits(A:bT):Prop where
 start:A.start.length<=17592186043904
 next:A.next.length<=17592186043904
 jy:A.jy.length<=17592186043904
 mO:A.mO.length<=17592186043904
 fair:A.fair.length<=17592186043904
 yu:∀l∈A.next,l.length<=17592186043904
 xM:∀l∈A.fair,l.length<=17592186043904
def bT.aU(A:bT):Int :=
 if 2048<A.next.length\/80<A.fair.length then 2
 else if A.jy.length≠A.next.length\/A.mO.length≠A.next.length\/bq A.start A.next.length=false then 1
 else if (A.next.any λl=>!(bq l A.next.length))=true then 1
 else if (A.fair.any λl=>!(bq l A.next.length))=true then 1
 else 0
theorem xE(h:A.aU=0):A.jy.length=A.next.length/\A.mO.length=A.next.length/\A.next.length<=2048/\A.fair.length<=80/\bq A.start A.next.length/\(∀l∈A.next,bq l A.next.length)/\∀l∈A.fair,bq l A.next.length:=by
 unfold bT.aU at h;split at h;repeat grind
def yZ(A:bT)(s:Nat)(x:Int):Bool:=kh .and .u64 x (A.jy.getD s 0)==A.jy.getD s 0&&kh .and .u64 x (A.mO.getD s 0)==0
theorem Lv(a:BitVec 64):IntKind.wrap .u64 (a.toNat:Int)=(a.toNat:Int):=by
 have:=a.isLt;simp only[IntKind.wrap,IntKind.signed,IntKind.bits];simp;omega
theorem zug{x m:Int}(hm:0<=m/\m<18446744073709551616):(kh .and .u64 x m==m)=(kh .andNot .u64 m x==0):=by
 show(IntKind.wrap .u64 (((BitVec.ofInt 64 x) &&& (BitVec.ofInt 64 m)).toNat:Int)==m)=(IntKind.wrap .u64 (((BitVec.ofInt 64 m) &&& ~~~(BitVec.ofInt 64 x)).toNat:Int)==0);rw[Lv,Lv];have e:m=((BitVec.ofInt 64 m).toNat:Int):=by
  rw[BitVec.toNat_ofInt];omega
 generalize BitVec.ofInt 64 x=a;rw[j9,ib,ib];generalize hb:BitVec.ofInt 64 m=b at e;constructor
 ·intro h;rw[e] at h;have h:a &&& b=b:=BitVec.eq_of_toNat_eq zo;have:b &&& ~~~a=0#64:=by
   grind
  grind
 intro h;have h:b &&& ~~~a=0#64:=BitVec.eq_of_toNat_eq (by simpa using h);have:a &&& b=b:=by
  ext i hi
  have:=bH (λz:BitVec 64=>z[i]) h;repeat grind
 grind
variable(x:Int)
theorem zs5(x m:Int):kh .and .u64 m x=kh .and .u64 x m:=by
 show IntKind.wrap .u64 (((BitVec.ofInt 64 m) &&& (BitVec.ofInt 64 x)).toNat:Int)=IntKind.wrap .u64 (((BitVec.ofInt 64 x) &&& (BitVec.ofInt 64 m)).toNat:Int)
 grind
theorem Ao{l:ah}(hz:z=k)(h:k<l.length):(l.map λn=>[D.sc (.int .u64 n)])[z]? = some [.sc (.int .u64<|l.getD k 0)]:=by
 grind
theorem zzX(hm:A.jy.length=A.next.length)(hn:A.mO.length=A.next.length)(s:Nat)(hs:s<A.next.length)(x:Int):ao aj 330 [mi A,aa s,.sc (.int .u64 x)]<|ay<|yZ A s x:=by
 refine bS fZ ?_;have e:yZ A s x=(kh .and .u64 x (A.jy.getD s 0)==A.jy.getD s 0&&kh .and .u64 x (A.mO.getD s 0)==0):=rfl;unfold mi bT.cells iw;refine sR ?_;refine sL (Ao (k:=s) zo zo) ?_;refine sL (Ao (k:=s) zo zo) ?_;cases r:(kh .and .u64 x (A.jy.getD s 0)==A.jy.getD s 0)
 ·rw[r,pT] at e;rw[e];refine sW ?_;exact .refl _
 rw[r,kP] at e;rw[e];refine sW ?_;refine sL (Ao (k:=s) zo zo) ?_;exact .refl _
theorem UO(hm:A.jy.length=A.next.length)(hn:A.mO.length=A.next.length)(hM:tS A.jy)(s:Nat)(hs:s<A.next.length)(x:Int):ao aj 118 [mi A,aa s,.sc (.int .u64 x)]<|ay<|yZ A s x:=by
 refine bS fZ ?_;have e:yZ A s x=(kh .andNot .u64 (A.jy.getD s 0) x==0&&kh .and .u64 (A.mO.getD s 0) x==0):=by
  rw[<-zug (hM _<|df zo),zs5 x<|A.mO.getD s 0];rfl
 unfold mi bT.cells iw;refine sR ?_;refine sL (Ao (k:=s) zo zo) ?_;cases r:(kh .andNot .u64 (A.jy.getD s 0) x==0)
 ·rw[r,pT] at e;rw[e];refine sW ?_;exact .refl _
 rw[r,kP] at e;rw[e];refine sW ?_;refine sL (Ao (k:=s) zo zo) ?_;exact .refl _
theorem zz1(n:Nat):ao aj 329 [aa x,.ax [aa n]]<|ay<|decide (x<0)||decide (x>=(n:Int)):=by
 refine bS fZ ?_;refine sRS (λh=>?_) λh=>?_
 ·exact cf zs
 exact cf zs
theorem QG(hl:l.length<=9223372036854775807)(n:Nat):ao aj 285 [aF l,aa n] (.sc (.bool !(bq l n))):=by
 refine bt ?_;refine sN (mh (λn=>aa n) (λa=>by simp[Pure]) l hl (λx=>decide (x<0)||decide (x>=(n:Int))) 329 [.ax [aa n]] zp λa _=>zz1 a n) ?_;rw[L1];exact .refl _
theorem zsH(hl:l.length<=9223372036854775807)(n:Nat):ao aj 286 [aF l,.ax [aa n]] (.sc (.bool !(bq l n))):=by
 refine bt ?_;refine sC (QG l hl n) ?_;exact .refl _
theorem zuG(hl:l.length<=9223372036854775807)(n:Nat):ao aj 287 [aF l,.ax [aa n]] (.sc (.bool !(bq l n))):=by
 refine bt ?_;refine sC (QG l hl n) ?_;exact .refl _
theorem zw1(hA:A.Fits):ao aj 216 [mi A]<|aa A.aU:=by
 have b1:=hA.start;have b2:=hA.next;have b3:=hA.jy;have b4:=hA.fair;have b5:=hA.mO;refine bt ?_;rw[aI];have fin:∀{H:aE} {z:Int},z=A.aU->Deep H (aa z) (aa A.aU):=λh=>h▸.refl _;refine sS (λh1=>?_) λh1=>?_
 ·exact fin<|by unfold bT.aU;rw[ae<|sO]
 rw[aI];refine sS (λh2=>?_) λh2=>?_
 ·exact fin<|by unfold bT.aU;rw[ae<|sO]
 have c1:¬(2048<A.next.length\/80<A.fair.length):=sO;rw[aI];refine sS (λh3=>?_) λh3=>?_
 ·exact fin<|by unfold bT.aU;rw[ab c1,ae<|sO]
 rw[aI];refine sS (λvD=>?_) λvD=>?_
 ·exact fin<|by unfold bT.aU;rw[ab c1,ae<|sO]
 refine sC (QG A.start zo A.next.length) ?_;refine sS (λh4=>?_) λh4=>?_
 ·exact fin<|by unfold bT.aU;rw[ab c1,ae (.inr (.inr<|by simpa using h4))]
 have c2:¬(A.jy.length≠A.next.length\/A.mO.length≠A.next.length\/bq A.start A.next.length=false):=by
  rintro(q|q|q)
  ·exact sO
  ·exact sO
  rw[q] at h4;cases h4
 refine sN (Lq aF cX A.next zo (λl=>!(bq l A.next.length)) 286 [.ax [aa A.next.length]] zp λa ha=>zsH a (by have:=hA.yu a ha;omega) _) ?_;refine sS (λg2=>?_) λg2=>?_
 ·exact fin<|by unfold bT.aU;rw[ab c1,ab c2,ae g2]
 have c3:¬(A.next.any λl=>!(bq l A.next.length))=true:=by rw[g2];simp
 refine sN (Lq aF cX A.fair zo (λl=>!(bq l A.next.length)) 287 [.ax [aa A.next.length]] zp λa ha=>zuG a (by have:=hA.xM a ha;omega) _) ?_;refine sS (λg3=>?_) λg3=>?_
 ·exact fin<|by unfold bT.aU;rw[ab c1,ab c2,ab c3,ae g3]
 exact fin<|by unfold bT.aU;rw[ab c1,ab c2,ab c3,ab<|by rw[g3];simp]

section
open Go.RowKit Go.ChangeShapes Go.WideShapes Go.ChangeAt
end
section
open Go.RowKit Go.ChangeShapes Go.WideShapes Go.ChangeAt
end
section
noncomputable def qq(g:ak)(S:aq)(k i:Nat):Bool:=(List.range k).any λv=>bJ g v==(i:Int)&&S v
noncomputable def pF(g:ak)(sets:List aq)(i:Nat):Bool:=okT g g.length i&&sets.all λS=>qq g S g.length i
theorem zsz(g:ak)(S:aq)(k i:Nat):qq g S (k+1) i=(qq g S k i||(bJ g k==(i:Int)&&S k)):=by
 unfold qq;rw[qf,tZ];simp
theorem ztv(aY:∀v x,x∈g.getD v []->x.toNat<g.length)(sets:List aq):(∃i,i<g.length/\pF g sets i)↔∃v,v<g.length/\Fw g sets v:=by
 constructor
 ·rintro⟨i,hi,h⟩;unfold pF at h;rw[gr,kb] at h;obtain⟨h1,h2⟩:=h;unfold okT at h1;rw[mJ] at h1;obtain⟨n,hn,q⟩:=h1;have hn:=jz.1 hn;rw[gr,ib] at q;refine⟨n,hn,n,nw g n,(FI aY hn).1 q.2,λS hS=>?_⟩;have:=h2 S hS;unfold qq at this;rw[mJ] at this;obtain⟨d,hd,r⟩:=this;have hd:=jz.1 hd;rw[gr,ib,<-q.1,parts_eq hd hn,ng] at r
  grind
 rintro⟨v,hv,c,h1,h2,h3⟩;have hc:=E' aY hv h1;have hp:=wZ hc;refine⟨(bJ g c).toNat,zo,?_⟩;unfold pF;rw[gr,kb];have e:((bJ g c).toNat:Int)=bJ g c:=zo;refine⟨?_,λS hS=>?_⟩
 ·unfold okT;rw[mJ];exact⟨c,jz.2 hc,by rw[gr,ib,e];exact⟨rfl,(FI aY hc).2 h2⟩⟩
 obtain⟨d,d1,d2,d3⟩:=h3 S hS;have hd:=E' aY hc d2;unfold qq;rw[mJ];exact⟨d,jz.2 hd,by rw[gr,ib,e,parts_eq hd hc,ng];exact⟨⟨d3,d2⟩,d1⟩⟩
end
section
end
section
end
section
end
section
end
section
end
section
theorem Ff:∀(n m:Nat) (h:Nat->Nat),(∀i,i<m->h i<n)->(∀i j,i<m->j<m->h i=h j->i=j)->m<=n
 |0,m,h,h1,_=>by
  rcases B4 m with e|e
  ·omega
  have:=h1 0 e;omega
 |n+1,m,h,h1,h2=>by
  by_cases q:∃i,i<m/\h i=n
  ·obtain⟨i0,q1,q2⟩:=q;have:=Ff n (m-1) (λi=>h<|if i=i0 then m-1 else i) (λi hi=>by
    split
    ·rename_i e;have a1:=h1 (m-1) zo;have a2:h (m-1)≠n:=λe2=>by have:=h2 (m-1) i0 zo q1 (by rw[e2,q2]);omega
     omega
    ·rename_i e;have a1:=h1 i zo;have a2:h i≠n:=λe2=>e<|h2 i i0 zo q1 (by rw[e2,q2]);omega) (λi j hi hj e=>by
    have:=h2 _ _ (by split<;>omega) (by split<;>omega) e;split at this<;>split at this<;>omega)
   omega
  have:=Ff n m h (λi hi=>by have:=h1 i hi;have:h i≠n:=λe=>q ⟨i,hi,e⟩;omega) h2;omega
end
section
end
def pP(a b:Int):bj:=[aa a,aa b]
def td(l:List Pr):fc:=l.map λo=>pP o.1 o.2
def y9(l:List Pr):D:=.aM 2<|td l
variable(l:List Pr)
@[simp] theorem Jy:(td l).length=l.length:=by simp[td]
@[simp] theorem Ol:dF<|td l:=c6 _ (λl=>by simp[pP,aA,Pure]) l
@[simp] theorem Qm:Pure<|y9 l:=by simp only[y9,Pure];exact Ol l
@[simp] theorem zyd:bB m (td l)↔True:=⟨λ_=>trivial,λ_=>bm _<|Ol l⟩
@[simp] theorem zzo:aK m (y9 l)↔True:=⟨λ_=>trivial,λ_=>bz _<|Qm l⟩
variable{l:List Pr}
theorem HP(hz:z=k)(h:k<l.length):(td l)[z]? = some (pP (l.getD k (0,0)).1 (l.getD k (0,0)).2):=by
 subst hz;unfold td
 grind
def gi(L:ak):fc:=L.map λl=>[aF l]
@[simp] theorem zBx(L:ak):(gi L).length=L.length:=by simp[gi]
@[simp] theorem nM(L:ak):dF<|gi L:=c6 _ (λl=>by simp[aA,cX]) L
@[simp] theorem zwX(l:ak):bB m (gi l)↔True:=⟨λ_=>trivial,λ_=>bm _<|nM l⟩
theorem zoy{L:ak}{l:ah}(h:c=L.length):List.drop 0 (List.take c<|gi L)++[[aF l]]=gi (L++[l]):=by
 subst h;rw[cB zs];simp[gi]
theorem kC(l:ah)(x:Int):List.drop 0 (List.take l.length<|aw l)++List.drop 0 (List.take 1 [[aa x]])=aw (l++[x]):=by
 rw[cB<|by simp[aw]];simp[aw]
theorem znE(L:List Pr)(p:Pr):List.drop 0 (List.take L.length<|td L)++List.drop 0 (List.take 1 [[aa p.1,aa p.2]])=td (L++[p]):=by
 rw[cB zs];simp[td,pP]
theorem zsV {P : Program} {k e : TypeId} {f0 f1 : Field} (eJ : 0 < P.types.size) (hk : P.keyType k = true) (hu : P.underlying k = some (.struct #[f0, f1])) (h0 : f0.type = e) (h1 : f1.type = e) (o0 : f0.offset = 0) (o1 : f1.offset = 1) (n0 : (f0.name != "_") = true) (n1 : (f1.name != "_") = true) (he : P.underlying e = some (.int .i64)) (CI : P.cellsOf e = 1) (lH : P.cellsOf k = 2) (a b : Int) (ha : (Lit.int .i64 a).wf = true) (hb : (Lit.int .i64 b).wf = true) :
  ∃l,keyOf P k (.agg #[.int .i64 a,.int .i64 b])=some l:=by
 obtain⟨d,hd⟩:∃d,P.types.size=d+1:=⟨P.types.size-1,zo⟩;unfold keyOf;rw[hu];simp only[hk,Value.formed,hu,lH,kP];rw[ae zs,hd];show ∃l,(P.keyLits (d+1+1) k [.int .i64 a,.int .i64 b]).map _=some l;rw[Program.keyLits.eq_def];simp only[hu];rw[ae ⟨by simp[lH],by simp[n0,n1]⟩];simp[List.mapM_cons,h0,h1,o0,o1,CI,Program.keyLits,he,ha,hb]
def wx(p:Pr):aW:=.agg #[.int .i64 p.1,.int .i64 p.2]
theorem Xz{q:Pr}(h:wx p=wx q):p=q:=by
 unfold wx at h
 grind
noncomputable def xG(L:List Pr):Nat->aW->Option aW
 |0=>λ_=>none
 |k+1=>qS (xG L k) (wx<|L.getD k (0,0)) (.int .i64 k)
noncomputable def fP(L:List Pr):aW->Option aW:=xG L L.length
theorem Sx{L:List Pr}{m:Pr}:∀k,k<=L.length->xG (L++[m]) k=xG L k
 |0,_=>rfl
 |k+1,h=>by
  simp only[xG];rw[Sx k zo,a8,iz zo,<-a8]
theorem zBK(L:List Pr)(m:Pr):fP (L++[m])=qS (fP L) (wx m) (.int .i64 L.length):=by
 unfold fP;rw[cL,lb];simp only[xG];rw[Sx _<|aS _,a8,jF<|aS _,xb];rfl
theorem KW(h:k<l.length):l.getD k (0,0)∈l:=by
 grind
theorem TT{L:List Pr}{m:Pr}(hm:¬m∈L):∀k,k<=L.length->xG L k (wx m)=none
 |0,_=>rfl
 |k+1,h=>by
  simp only[xG,qS];rw[ab ?_,TT hm k zo];intro e;exact hm<|Xz e▸KW zo
theorem TX{L:List Pr}{m:Pr}(hn:L.Nodup){i:Nat}(hi:i<L.length)(hm:L.getD i (0,0)=m):∀k,i<k->k<=L.length->xG L k (wx m)=some (.int .i64 i)
 |0,h,_=>zo
 |k+1,h,hk=>by
  simp only[xG,qS];by_cases e:i=k
  ·subst e;rw[hm,ae rfl]
  rw[ab ?_,TX hn hi hm k zo zo];intro q;have:=Xz q;rw[<-hm,a8,a8,aX hi,aX zo] at this;exact uB.1 hn i k hi zo zo this
variable{m:Pr}
theorem ztC(h:m∈L):gD L m<L.length/\L.getD (gD L m) (0,0)=m:=by
 have h1:=Em h;refine⟨h1,?_⟩;unfold gD at h1⊢
 grind
theorem XL(hn:L.Nodup)(h:m∈L):fP L (wx m)=some (.int .i64<|gD L m):=by
 obtain⟨h1,h2⟩:=ztC h;exact TX hn h1 h2 _ h1<|aS _
theorem ZQ(h:¬m∈L):fP L (wx m)=none:=TT h _<|aS _
def WfP(p:Pr):Prop:=(Lit.int .i64 p.1).wf=true/\(Lit.int .i64 p.2).wf=true
theorem ZV(h:0<=p.1/\p.1<=1000000000/\0<=p.2/\p.2<=1000000000):WfP p:=by
 have h1:IntKind.min .i64=-9223372036854775808:=zc;have h2:IntKind.max .i64=9223372036854775807:=zc;constructor
 ·simp only[Lit.wf,gr,ja];omega
 simp only[Lit.wf,gr,ja];omega
def vA:D:=au
@[simp] theorem zBQ{m:Nat}:aK m vA↔True:=⟨λ_=>trivial,λ_=>trivial⟩
def iK:Nat->Bool:=λ_=>true
def noT:Nat->Bool:=λ_=>false
def rV(n:Nat)(F:List aq):D:=.aM 1<|F.map λS=>[bx n S]
@[simp] theorem Hs(n:Nat)(F:List aq):Pure<|rV n F:=by simp only[rV,Pure];exact c6 _ (λS=>by simp[aA,lg]) F
variable{F:List aq}
theorem Ie(hz:z=k)(h:k<F.length):(F.map λS=>[bx n S])[z]? = some [bx n<|F.getD k noT]:=by
 grind
theorem zB3(g:ak)(v:Nat):fwB g [] v=fwB g [iK] v:=by
 rw[j9,zD,zD];constructor
 ·rintro⟨c,h1,h2,h3⟩;exact⟨c,h1,h2,λS hS=>by rw[cV] at hS;subst hS;exact⟨c,rfl,nw g c,nw g c⟩⟩
 rintro⟨c,h1,h2,h3⟩;exact⟨c,h1,h2,λS hS=>by cases hS⟩
theorem Wd(h:Fw g F v):v<g.length:=by
 obtain⟨c,h1,⟨x,hx,_⟩,_⟩:=h;have lt:∀{a:Nat} {y:Int},y∈g.getD a []->a<g.length:=λ{a y} hy=>by
  grind
 have key:∀{a b:Nat},To g a b->a=b\/a<g.length:=by
  intro a b q;unfold To at q
  induction q with
  |base m=>grind
  |step q m ih =>
   grind
 repeat grind
def cz(z:aq)(n:Nat):Nat:=cQ (λi=>!z i) n
variable{z z':aq}
theorem JU(h:∀v,z' v->z v):cz z' n<=cz z n:=zS λj _ q=>by
 cases e:z' j with
 |false=>rfl
 |true=>rw[h j e] at q;cases q
theorem Sy(hi:i<n)(h:∀v,z' v->z v)(h1:z i)(h2:z' i=false):cz z' n<cz z n:=by
 refine nK hi (λj _ q=>?_) (by simp[h1])<|by simp[h2]
 grind
structure vg(g:ak)(z S bD:aq):Prop where
 sound:∀v,bD v->Hit g z S v
def qE(g:ak)(z S bD:aq)(i k:Nat):Prop:=z i=true->∀j,j<k->j<(g.getD i []).length->z ((g.getD i []).getD j 0).toNat->(S ((g.getD i []).getD j 0).toNat=true\/bD ((g.getD i []).getD j 0).toNat)->bD i=true
theorem TA{S bD:aq}(h:vg g z S bD)(hz:∀v,z v->v<g.length)(hc:∀i,i<g.length->qE g z S bD i (g.getD i []).length)(v:Nat):bD v↔Hit g z S v:=by
 refine⟨h.sound v,λq=>?_⟩
 induction q with
 |one h k jn hs =>
  obtain⟨j,hj,rfl⟩:=pd k;exact hc _ (hz _ h) h j hj hj jn (.inl hs)
 |more h k jn _ ih =>
  obtain⟨j,hj,rfl⟩:=pd k;exact hc _ (hz _ h) h j hj hj jn (.inr ih)
variable(g:ak)
theorem zxb(hn:g.length<=1000000)(iM:∀l∈g,bq l g.length)(hF:iu g)(F:List aq)(sF:F.length<=1000000)(b9:F≠[]):ao aj 123 [bN g,rV g.length F]<|bx g.length<|fwB g F:=by
 have cR:=λk=>ft iM k;have aY:∀v x,x∈g.getD v []->x.toNat<g.length:=λv x hx=>by have:=cZ (cR v) hx;omega
 refine bS fZ ?_;unfold bN rV;refine sR ?_;rw[aI];refine⟨zo,zo,zo,?_⟩;rw[bO,show List.map D.sc [Value.bool false]=[ay false] from rfl,jS];refine sW ?_;refine bb [0,1,5] (λk:Nat=>[(6,aa k)]) (λk=>[(0,.vec true 0 1<|bF g.length λi=>decide (i<k))]) (λk=>k<=g.length) (λk=>g.length-k) 0 ?_;refine sW ?_;refine⟨zo,by exact sK,by simp;rfl,?_⟩;rintro k hk;refine bf (λq0=>?_) λq0=>?_
 ·have q0:k<g.length:=sO;refine sB ?_;refine⟨_,bc k zo q0,?_⟩;refine aQ ?_;refine⟨k+1,zo,zd,aC (by exact sK) ?_⟩;rw[show 0+((k:Nat):Int).toNat=k by omega,oI,iI (g':=λi=>decide (i<k+1)) λi _=>by
   show(if i=k then true else decide (i<k))=_;by_cases e:i=k
   ·rw[ae e];simp;omega
   rw[ab e,j9];simp;omega]
  rfl
 have q0:k=g.length:=sO;subst q0;rw[aI];refine sS (λq1=>?_) λq1=>?_
 ·exact absurd (List.eq_nil_of_length_eq_zero<|sO) b9
 refine bb [0,1,5] (λ((m,z):Bool×aq)=>[(7,ay m)]) (λ(m,z)=>[(0,.vec true 0 1<|bF g.length z)])
  (λ(m,z)=>(∀v,Fw g F v->z v)/\(∀v,z v->v<g.length)/\(m=false->∀v,z v->∀S,S∈F->Hit g z S v)) (λ(m,z)=>if m=true then 1+cz z g.length else 0) (true,λi=>decide (i<g.length)) ?_
 refine sW ?_;refine⟨⟨λv hv=>by simpa using Wd hv,λv hv=>by simpa using hv,λq=>by cases q⟩,by exact sK,rfl,?_⟩;rintro⟨m,z0⟩ ⟨AW,GG,pC⟩;refine ck ?_;cases m
 ·refine sW ?_;rw[iI (g':=fwB g F) λi hi=>Pw ⟨λq=>Lf aY GG (pC rfl) b9 q,AW i⟩];exact qi rfl
 refine sW ?_
 refine bb [0,1,5] (λ((m,k,z):Bool×Nat×aq)=>[(7,ay m),(8,aa k)]) (λ(m,k,z)=>[(0,.vec true 0 1<|bF g.length z)])
  (λ(m,k,z)=>k<=F.length/\(∀v,Fw g F v->z v)/\(∀v,z v->z0 v)/\(m=true->cz z g.length<cz z0 g.length)/\(m=false->(∀v,z v=z0 v)/\∀j,j<k->∀v,z v->Hit g z (F.getD j noT) v)) (λ(m,k,z)=>F.length-k) (false,0,z0) ?_
 refine sW ?_;refine⟨⟨zo,AW,λv h=>h,λq=>(by cases q),λ_=>⟨λv=>rfl,λj hj=>zo⟩⟩,by exact sK,rfl,?_⟩;clear pC;rintro⟨m,k,z⟩ ⟨hk,yk,BO,lK,j7⟩;have yQ:∀v,z v=true->v<g.length:=λv hv=>GG v<|BO v hv;refine ck ?_;rw[aI];refine sS (λq0=>?_) λq0=>?_
 ·have q0:k<F.length:=sO;have hS:F.getD k noT∈F:=(by rw[a8,aX q0];exact iZ q0);have OT:=λz (hz:z=k)=>Ie (n:=g.length) (F:=F) hz q0;generalize yh:F.getD k noT=S at *;rw[aI];refine⟨zo,zo,zo,?_⟩;rw[bO,show List.map D.sc [Value.bool false]=[ay false] from rfl,jS];refine sW ?_
  refine bb [0,1,5,7,8,9] (λ((r,bD):Bool×aq)=>[(10,ay r)]) (λ(r,bD)=>[(1,.vec true 0 1<|bF g.length bD)])
   (λ(r,bD)=>vg g z S bD/\(r=false->∀i,i<g.length->qE g z S bD i (g.getD i []).length)) (λ(r,bD)=>if r=true then 1+cQ bD g.length else 0) (true,noT) ?_
  refine sW ?_;refine⟨⟨⟨λv hv=>by cases hv⟩,λq=>by cases q⟩,by exact sK,rfl,?_⟩;rintro⟨r,eC⟩ ⟨BH,AJ⟩;refine ck ?_;cases r
  ·have E3:=TA BH yQ<|AJ rfl;refine sW ?_
   refine bb [0,1,5,8,9] (λ((m,i):Bool×Nat)=>[(7,ay m),(14,aa i)]) (λ(m,i)=>[(0,.vec true 0 1<|bF g.length λv=>if v<i then z v&&eC v else z v)])
    (λ(m',i)=>i<=g.length/\(m'=true->m\/∃v,v<i/\z v/\eC v=false)/\(m'=false->m=false/\∀v,v<i->z v->eC v)) (λ(m,i)=>g.length-i) (m,0) ?_
   refine sW ?_;refine⟨⟨zo,λq=>.inl q,λq=>⟨q,λv hv=>zo⟩⟩,by exact sK,by simp;rfl,?_⟩;rintro⟨m',i⟩ ⟨hi,h1,h2⟩;refine sW ?_
   ((apply ry;focus (repeat' constructor));((conv=>whnf);repeat(refine⟨rfl,?_⟩;conv=>whnf)))
   rw[aI];refine sS (λq1=>?_) λq1=>?_
   ·have q1:i<g.length:=sO;have eat:(if i<i then z i&&eC i else z i)=z i:=ab zo;have eset:bF g.length (λv=>if v=i then (z i&&eC i) else (if v<i then z v&&eC v else z v))=bF g.length (λv=>if v<i+1 then z v&&eC v else z v):=iI λv _=>by
     by_cases e:v=i
     ·subst e;rw[ae rfl,ae zo]
     rw[ab e];by_cases e2:v<i
     ·rw[ae e2,ae zo]
     rw[ab e2,ab zo]
    cases zi:z i
    ·rw[zi,pT] at eset;have g1:m'=true->m=true\/∃v,v<i+1/\z v=true/\eC v=false:=λq=>by
      rcases h1 q with h|⟨v,v1,v2,v3⟩
      ·exact .inl h
      exact .inr ⟨v,zo,v2,v3⟩
     have g2:m'=false->m=false/\∀v,v<i+1->z v->eC v:=λq=>by
      refine⟨(h2 q).1,λv hv vc=>?_⟩;by_cases e:v=i
      ·subst e;rw[zi] at vc;cases vc
      exact(h2 q).2 v zo vc
     cases m'
     ·refine sW ?_
      (refine⟨zo,(by first|omega|(simp;done)|(simp;omega)|(simp only[ll];omega)),?_⟩;((conv=>whnf);repeat(refine⟨rfl,?_⟩;conv=>whnf)))
      refine⟨_,bc i zo q1,?_⟩;rw[eat,zi];refine sW ?_;refine bC ?_;refine⟨_,bc i zo q1,?_⟩;rw[eat,zi];refine sW ?_;refine bC ?_;refine⟨_,bc i zo q1,?_⟩;rw[eat,zi];refine bC ?_;refine⟨_,bc i zo q1,?_⟩;refine aQ ?_;refine⟨(false,i+1),⟨zo,g1,g2⟩,zd,aC (by exact sK) ?_⟩;rw[show 0+((i:Nat):Int).toNat=i by omega,oI,eset];rfl
     refine sW ?_;refine bC ?_;refine⟨_,bc i zo q1,?_⟩;rw[eat,zi];refine bC ?_;refine⟨_,bc i zo q1,?_⟩;refine aQ ?_;refine⟨(true,i+1),⟨zo,g1,g2⟩,zd,aC (by exact sK) ?_⟩;rw[show 0+((i:Nat):Int).toNat=i by omega,oI,eset];rfl
    cases aT:eC i
    ·rw[zi,aT,kP] at eset;have g1:true=true->m=true\/∃v,v<i+1/\z v=true/\eC v=false:=λ_=>.inr ⟨i,zo,zi,aT⟩;cases m'
     ·refine bC ?_;refine⟨_,bc i zo q1,?_⟩;rw[eat,zi];refine sW ?_;refine bC ?_;refine⟨_,bc i zo q1,?_⟩;rw[eat,zi];refine bC ?_;refine⟨_,bc i zo q1,?_⟩;rw[aT];refine sW ?_;refine bC ?_;refine⟨_,bc i zo q1,?_⟩;rw[eat,zi];refine bC ?_;refine⟨_,bc i zo q1,?_⟩;rw[aT];refine bC ?_;refine⟨_,bc i zo q1,?_⟩;refine aQ ?_;refine⟨(true,i+1),⟨zo,g1,λq=>by cases q⟩,zd,aC (by exact sK) ?_⟩;rw[show 0+((i:Nat):Int).toNat=i by omega,oI,eset];rfl
     refine sW ?_;refine bC ?_;refine⟨_,bc i zo q1,?_⟩;rw[eat,zi];refine bC ?_;refine⟨_,bc i zo q1,?_⟩;rw[aT];refine bC ?_;refine⟨_,bc i zo q1,?_⟩;refine aQ ?_;refine⟨(true,i+1),⟨zo,g1,λq=>by cases q⟩,zd,aC (by exact sK) ?_⟩;rw[show 0+((i:Nat):Int).toNat=i by omega,oI,eset];rfl
    rw[zi,aT,kP] at eset;have g1:m'=true->m=true\/∃v,v<i+1/\z v=true/\eC v=false:=λq=>by
     rcases h1 q with h|⟨v,v1,v2,v3⟩
     ·exact .inl h
     exact .inr ⟨v,zo,v2,v3⟩
    have g2:m'=false->m=false/\∀v,v<i+1->z v->eC v:=λq=>by
     refine⟨(h2 q).1,λv hv vc=>?_⟩;by_cases e:v=i
     ·subst e;exact aT
     exact(h2 q).2 v zo vc
    cases m'
    ·refine bC ?_;refine⟨_,bc i zo q1,?_⟩;rw[eat,zi];refine sW ?_;refine bC ?_;refine⟨_,bc i zo q1,?_⟩;rw[eat,zi];refine bC ?_;refine⟨_,bc i zo q1,?_⟩;rw[aT];refine sW ?_;refine bC ?_;refine⟨_,bc i zo q1,?_⟩;rw[eat,zi];refine bC ?_;refine⟨_,bc i zo q1,?_⟩;rw[aT];refine bC ?_;refine⟨_,bc i zo q1,?_⟩;refine aQ ?_;refine⟨(false,i+1),⟨zo,g1,g2⟩,zd,aC (by exact sK) ?_⟩;rw[show 0+((i:Nat):Int).toNat=i by omega,oI,eset];rfl
    refine sW ?_;refine bC ?_;refine⟨_,bc i zo q1,?_⟩;rw[eat,zi];refine bC ?_;refine⟨_,bc i zo q1,?_⟩;rw[aT];refine bC ?_;refine⟨_,bc i zo q1,?_⟩;refine aQ ?_;refine⟨(true,i+1),⟨zo,g1,g2⟩,zd,aC (by exact sK) ?_⟩;rw[show 0+((i:Nat):Int).toNat=i by omega,oI,eset];rfl
   have q1:i=g.length:=sO;subst q1;have qP:∀v,(z v&&eC v)->z v:=λv hv=>by rw[gr] at hv;exact hv.1
   rw[iI (g':=λv=>z v&&eC v) λv hv=>ae hv];refine sI ?_;refine⟨(m',k+1,λv=>z v&&eC v),⟨zo,λv hv=>?_,λv hv=>BO v<|qP v hv,λq=>?_,λq=>?_⟩,zd,?_⟩
   ·show(z v&&eC v)=true;rw[yk v hv,(E3 v).2<|PI yk hS hv];rfl
   ·rcases h1 q with h|⟨v,v1,v2,v3⟩
    ·exact Nat.lt_of_le_of_lt (JU qP)<|lK h
    exact yV (Sy v1 qP v2<|by show(z v&&eC v)=false;rw[v3,Bool.and_false])<|JU BO
   ·obtain⟨a1,a2⟩:=h2 q;obtain⟨b1,b2⟩:=j7 a1;have ez:(λv=>z v&&eC v)=z:=by
     funext v
     cases hv:z v with
     |false=>rfl
     |true=>show eC v=true;exact a2 v (yQ v hv) hv
    rw[ez];refine⟨b1,λj hj v hv=>?_⟩;by_cases e:j=k
    ·subst e;rw[yh];exact(E3 v).1 (a2 v (yQ v hv) hv)
    exact b2 j zo v hv
   exact aL 1 zs rfl sQ sQ
  refine sW ?_
  refine bb [0,1,5,7,8,9] (λ((r,i,bD):Bool×Nat×aq)=>[(10,ay r),(11,aa i)]) (λ(r,i,bD)=>[(1,.vec true 0 1<|bF g.length bD)])
   (λ(r,i,bD)=>i<=g.length/\vg g z S bD/\(∀v,eC v->bD v)/\(r=true->cQ bD g.length<cQ eC g.length)/\(r=false->∀b,b<i->qE g z S bD b (g.getD b []).length)) (λ(r,i,bD)=>g.length-i) (false,0,eC) ?_
  refine sW ?_;refine⟨⟨zo,BH,λv h=>h,λq=>(by cases q),λ_ b hb=>zo⟩,by exact sK,rfl,?_⟩;rintro⟨r,i,bD⟩ ⟨hi,hH,gd,mv,s7⟩;refine ck ?_;rw[aI];refine sS (λq1=>?_) λq1=>?_
  ·have q1:i<g.length:=sO;have Cj:=hF.at i
   refine bb [0,1,5,7,8,9,11] (λ((r,j,bD):Bool×Nat×aq)=>[(10,ay r),(12,aa j)]) (λ(r,j,bD)=>[(1,.vec true 0 1<|bF g.length bD)])
    (λ(r,j,bD)=>j<=(g.getD i []).length/\vg g z S bD/\(∀v,eC v->bD v)/\(r=true->cQ bD g.length<cQ eC g.length)/\(r=false->(∀b,b<i->qE g z S bD b (g.getD b []).length)/\qE g z S bD i j)) (λ(r,j,bD)=>(g.getD i []).length-j) (r,0,bD) ?_
   refine sW ?_;refine⟨⟨zo,hH,gd,mv,λq=>⟨s7 q,λ_ j hj=>zo⟩⟩,by exact sK,rfl,?_⟩;clear hH gd mv s7 BH AJ lK j7 yk AW;rintro⟨r,j,bD⟩ ⟨hj,hH,gd,mv,s7⟩;have out:(j=(g.getD i []).length\/z i=false\/bD i)->r=false->∀b,b<i+1->qE g z S bD b (g.getD b []).length:=λh q b hb=>by
    obtain⟨c1,c2⟩:=s7 q;by_cases e:b=i
    ·subst e;rcases h with h|h|h
     ·rw[<-h];exact c2
     ·intro jn;rw[h] at jn;cases jn
     exact λ_ _ _ _ _ _=>h
    exact c1 b zo
   refine ck ?_;refine sL (eV (k:=i) zo q1) ?_;rw[aI];refine sS (λq2=>?_) λq2=>?_
   ·have q2:j<(g.getD i []).length:=sO;refine sB ?_;refine⟨_,bc i zo q1,?_⟩;cases zi:z i
    ·refine sW ?_;have w6h:j=(g.getD i []).length\/z i=false\/bD i=true:=.inr (.inl zi);refine sI ?_;exact⟨(r,i+1,bD),⟨zo,hH,gd,mv,out w6h⟩,zd,aC (by exact sK) rfl⟩
    refine bC ?_;refine⟨_,bc i zo q1,?_⟩;cases aT:bD i
    ·refine sW ?_;have hx:=cZ (cR i)<|df q2;have mb:=df q2;refine sL (eV (k:=i) zo q1) ?_;refine sL (bV (l:=g.getD i []) (k:=j) zo q2) ?_;have skip:(z ((g.getD i []).getD j 0).toNat=true->S ((g.getD i []).getD j 0).toNat=false/\bD ((g.getD i []).getD j 0).toNat=false)->r=false->(∀b,b<i->qE g z S bD b (g.getD b []).length)/\qE g z S bD i (j+1):=λh q=>by
      obtain⟨c1,c2⟩:=s7 q;refine⟨c1,λjn j' de vt EV By=>?_⟩;by_cases e:j'=j
      ·subst e;obtain⟨d1,d2⟩:=h EV;rw[d1,d2] at By;simp at By
      exact c2 jn j' zo vt EV By
     have vK:=λ(h:z ((g.getD i []).getD j 0).toNat) (hs:S ((g.getD i []).getD j 0).toNat)=>Hit.one (g:=g) (S:=S) zi mb h hs;have Gb:=λ(h:z ((g.getD i []).getD j 0).toNat) (hs:bD ((g.getD i []).getD j 0).toNat)=>Hit.more (g:=g) (S:=S) zi mb h<|hH.sound _ hs;generalize (g.getD i []).getD j 0=x at *;obtain⟨to,rfl⟩:∃to:Nat,x=to:=⟨x.toNat,zo⟩;rw[bO] at skip vK Gb;have gp:to<g.length:=zo;have cG:=nK (s:=bD) (s':=mark bD i) q1 (λv _ hv=>fo hv) aT<|km _ _;have hle:=zS (n:=g.length) λv _ hv=>gd v hv;refine sB ?_;refine⟨_,bc to zo gp,?_⟩;cases zt:z to
     ·refine aQ ?_;exact⟨(r,j+1,bD),⟨zo,hH,gd,mv,skip λq=>by rw[zt] at q;cases q⟩,zd,aC (by exact sK) rfl⟩
     refine sW ?_;refine sL (OT _ zo) ?_;refine⟨zo,_,bc to zo gp,?_⟩;cases st:S to
     ·refine bC ?_;refine⟨_,bc to zo gp,?_⟩;cases ht:bD to
      ·refine aQ ?_;exact⟨(r,j+1,bD),⟨zo,hH,gd,mv,skip λ_=>⟨st,ht⟩⟩,zd,aC (by exact sK) rfl⟩
      have Cp:vg g z S<|mark bD i:=⟨λv hv=>by
       rcases nE.1 hv with rfl|hv
       ·exact Gb zt ht
       exact hH.sound v hv⟩
      refine bC ?_;refine⟨_,bc i zo q1,?_⟩;refine aQ ?_;refine⟨(true,j+1,mark bD i),⟨zo,Cp,λv hv=>fo<|gd v hv,λ_=>zo,λq=>by cases q⟩,zd,aC (by exact sK) ?_⟩;rw[nV (v:=i) zo];rfl
     have Cp:vg g z S<|mark bD i:=⟨λv hv=>by
      rcases nE.1 hv with rfl|hv
      ·exact vK zt st
      exact hH.sound v hv⟩
     refine bC ?_;refine⟨_,bc i zo q1,?_⟩;refine aQ ?_;refine⟨(true,j+1,mark bD i),⟨zo,Cp,λv hv=>fo<|gd v hv,λ_=>zo,λq=>by cases q⟩,zd,aC (by exact sK) ?_⟩;rw[nV (v:=i) zo];rfl
    refine sW ?_;have w6h:j=(g.getD i []).length\/z i=false\/bD i=true:=.inr (.inr aT);refine sI ?_;exact⟨(r,i+1,bD),⟨zo,hH,gd,mv,out w6h⟩,zd,aC (by exact sK) rfl⟩
   have q2:j=(g.getD i []).length:=sO;have w6h:j=(g.getD i []).length\/z i=false\/bD i:=.inl q2;refine aQ ?_;exact⟨(r,i+1,bD),⟨zo,hH,gd,mv,out w6h⟩,zd,aC (by exact sK) rfl⟩
  have q1:i=g.length:=sO;subst q1;refine⟨(r,bD),⟨hH,s7⟩,?_,aC (by exact sK) rfl⟩;dsimp only;cases r
  ·simp;omega
  have:=mv rfl;simp;omega
 have q0:k=F.length:=sO;subst q0;refine⟨(m,z),⟨yk,yQ,λq v hv S hS=>?_⟩,?_,aC (by exact sK) rfl⟩
 ·obtain⟨j,hj,rfl⟩:=iD.1 hS;have:=(j7 q).2 j hj v hv;rw[a8,aX hj] at this;exact this
 dsimp only;cases m
 ·simp;omega
 have:=lK rfl;simp;omega
theorem ztJ(hn:g.length<=1000000)(iM:∀l∈g,bq l g.length)(hF:iu g) :ao aj 123 [bN g,rV g.length []]<|bx g.length<|fwB g []:=by
 have cR:=λk=>ft iM k;have aY:∀v x,x∈g.getD v []->x.toNat<g.length:=λv x hx=>by have:=cZ (cR v) hx;omega
 refine bS (fY [87]) ?_;unfold bN rV;refine sR ?_;rw[aI];refine⟨zo,zo,zo,?_⟩;rw[bO,show List.map D.sc [Value.bool false]=[ay false] from rfl,jS];refine sW ?_;refine bb [0,1,5] (λk:Nat=>[(6,aa k)]) (λk=>[(0,.vec true 0 1<|bF g.length λi=>decide (i<k))]) (λk=>k<=g.length) (λk=>g.length-k) 0 ?_;refine sW ?_;refine⟨zo,by exact sK,by simp;rfl,?_⟩;rintro k hk;refine bf (λq0=>?_) λq0=>?_
 ·have q0:k<g.length:=sO;refine sB ?_;refine⟨_,bc k zo q0,?_⟩;refine aQ ?_;refine⟨k+1,zo,zd,aC (by exact sK) ?_⟩;rw[show 0+((k:Nat):Int).toNat=k by omega,oI,iI (g':=λi=>decide (i<k+1)) λi _=>by
   show(if i=k then true else decide (i<k))=_;by_cases e:i=k
   ·rw[ae e];simp;omega
   rw[ab e,j9];simp;omega]
  rfl
 have q0:k=g.length:=sO;subst q0;obtain⟨F,FB⟩:∃F:List aq,F=[iK]:=⟨_,rfl⟩;have b9:F≠[]:=by rw[FB];simp
 have sF:F.length<=1000000:=by rw[FB];simp
 rw[show bx g.length (fwB g [])=bx g.length (fwB g F) from V2 λi _=>by rw[FB];exact zB3 g i];refine sW ?_;refine pj (λ_:Unit=>[(0,.aM 1<|g.map λl=>[aF l]),(1,.aM 1<|F.map λS=>[bx g.length S]),(5,.own 0 0 0 g.length)]) (λ_=>[.vec true 0 1<|bF g.length λi=>decide (i<g.length)]) (λ_=>True) ?_ ?_
 ·refine sR ?_;refine⟨by unfold iF;simp;omega,?_⟩;refine sW ?_;refine⟨(),trivial,?_⟩;refine aL 1 zs rfl ?_ ?_
  ·refine⟨.refl _,bz _<|l5 g,?_,bz _<|Hs _ _,.refl _,Nat.zero_lt_one,trivial⟩;rw[FB];refine .own _ _ _ _ _ _ _ _ rfl rfl (.cons _ _ _ _ (.cons _ _ _ _ (.own _ _ _ _ _ _ _ _ rfl rfl (aV ?_)) (.refl _)) (.refl _));rw[Cv,dP,fG<|aS _];exact iI λi hi=>by simp[hi,iK]
  refine sW ?_;exact sQ
 intro _ _;refine sR ?_;clear FB
 refine bb [0,1,5] (λ((m,z):Bool×aq)=>[(7,ay m)]) (λ(m,z)=>[(0,.vec true 0 1<|bF g.length z)])
  (λ(m,z)=>(∀v,Fw g F v->z v)/\(∀v,z v->v<g.length)/\(m=false->∀v,z v->∀S,S∈F->Hit g z S v)) (λ(m,z)=>if m=true then 1+cz z g.length else 0) (true,λi=>decide (i<g.length)) ?_
 refine sW ?_;refine⟨⟨λv hv=>by simpa using Wd hv,λv hv=>by simpa using hv,λq=>by cases q⟩,by exact sK,rfl,?_⟩;rintro⟨m,z0⟩ ⟨AW,GG,pC⟩;refine ck ?_;cases m
 ·refine sW ?_;rw[iI (g':=fwB g F) λi hi=>Pw ⟨λq=>Lf aY GG (pC rfl) b9 q,AW i⟩];exact qi rfl
 refine sW ?_
 refine bb [0,1,5] (λ((m,k,z):Bool×Nat×aq)=>[(7,ay m),(8,aa k)]) (λ(m,k,z)=>[(0,.vec true 0 1<|bF g.length z)])
  (λ(m,k,z)=>k<=F.length/\(∀v,Fw g F v->z v)/\(∀v,z v->z0 v)/\(m=true->cz z g.length<cz z0 g.length)/\(m=false->(∀v,z v=z0 v)/\∀j,j<k->∀v,z v->Hit g z (F.getD j noT) v)) (λ(m,k,z)=>F.length-k) (false,0,z0) ?_
 refine sW ?_;refine⟨⟨zo,AW,λv h=>h,λq=>(by cases q),λ_=>⟨λv=>rfl,λj hj=>zo⟩⟩,by exact sK,rfl,?_⟩;clear pC;rintro⟨m,k,z⟩ ⟨hk,yk,BO,lK,j7⟩;have yQ:∀v,z v=true->v<g.length:=λv hv=>GG v<|BO v hv;refine ck ?_;rw[aI];refine sS (λq0=>?_) λq0=>?_
 ·have q0:k<F.length:=sO;have hS:F.getD k noT∈F:=(by rw[a8,aX q0];exact iZ q0);have OT:=λz (hz:z=k)=>Ie (n:=g.length) (F:=F) hz q0;generalize yh:F.getD k noT=S at *;rw[aI];refine⟨zo,zo,zo,?_⟩;rw[bO,show List.map D.sc [Value.bool false]=[ay false] from rfl,jS];refine sW ?_
  refine bb [0,1,5,7,8,9] (λ((r,bD):Bool×aq)=>[(10,ay r)]) (λ(r,bD)=>[(1,.vec true 0 1<|bF g.length bD)])
   (λ(r,bD)=>vg g z S bD/\(r=false->∀i,i<g.length->qE g z S bD i (g.getD i []).length)) (λ(r,bD)=>if r=true then 1+cQ bD g.length else 0) (true,noT) ?_
  refine sW ?_;refine⟨⟨⟨λv hv=>by cases hv⟩,λq=>by cases q⟩,by exact sK,rfl,?_⟩;rintro⟨r,eC⟩ ⟨BH,AJ⟩;refine ck ?_;cases r
  ·have E3:=TA BH yQ<|AJ rfl;refine sW ?_
   refine bb [0,1,5,8,9] (λ((m,i):Bool×Nat)=>[(7,ay m),(14,aa i)]) (λ(m,i)=>[(0,.vec true 0 1<|bF g.length λv=>if v<i then z v&&eC v else z v)])
    (λ(m',i)=>i<=g.length/\(m'=true->m\/∃v,v<i/\z v/\eC v=false)/\(m'=false->m=false/\∀v,v<i->z v->eC v)) (λ(m,i)=>g.length-i) (m,0) ?_
   refine sW ?_;refine⟨⟨zo,λq=>.inl q,λq=>⟨q,λv hv=>zo⟩⟩,by exact sK,by simp;rfl,?_⟩;rintro⟨m',i⟩ ⟨hi,h1,h2⟩;refine sW ?_
   ((apply ry;focus (repeat' constructor));((conv=>whnf);repeat(refine⟨rfl,?_⟩;conv=>whnf)))
   rw[aI];refine sS (λq1=>?_) λq1=>?_
   ·have q1:i<g.length:=sO;have eat:(if i<i then z i&&eC i else z i)=z i:=ab zo;have eset:bF g.length (λv=>if v=i then (z i&&eC i) else (if v<i then z v&&eC v else z v))=bF g.length (λv=>if v<i+1 then z v&&eC v else z v):=iI λv _=>by
     by_cases e:v=i
     ·subst e;rw[ae rfl,ae zo]
     rw[ab e];by_cases e2:v<i
     ·rw[ae e2,ae zo]
     rw[ab e2,ab zo]
    cases zi:z i
    ·rw[zi,pT] at eset;have g1:m'=true->m=true\/∃v,v<i+1/\z v=true/\eC v=false:=λq=>by
      rcases h1 q with h|⟨v,v1,v2,v3⟩
      ·exact .inl h
      exact .inr ⟨v,zo,v2,v3⟩
     have g2:m'=false->m=false/\∀v,v<i+1->z v->eC v:=λq=>by
      refine⟨(h2 q).1,λv hv vc=>?_⟩;by_cases e:v=i
      ·subst e;rw[zi] at vc;cases vc
      exact(h2 q).2 v zo vc
     cases m'
     ·refine sW ?_
      (refine⟨zo,(by first|omega|(simp;done)|(simp;omega)|(simp only[ll];omega)),?_⟩;((conv=>whnf);repeat(refine⟨rfl,?_⟩;conv=>whnf)))
      refine⟨_,bc i zo q1,?_⟩;rw[eat,zi];refine sW ?_;refine bC ?_;refine⟨_,bc i zo q1,?_⟩;rw[eat,zi];refine sW ?_;refine bC ?_;refine⟨_,bc i zo q1,?_⟩;rw[eat,zi];refine bC ?_;refine⟨_,bc i zo q1,?_⟩;refine aQ ?_;refine⟨(false,i+1),⟨zo,g1,g2⟩,zd,aC (by exact sK) ?_⟩;rw[show 0+((i:Nat):Int).toNat=i by omega,oI,eset];rfl
     refine sW ?_;refine bC ?_;refine⟨_,bc i zo q1,?_⟩;rw[eat,zi];refine bC ?_;refine⟨_,bc i zo q1,?_⟩;refine aQ ?_;refine⟨(true,i+1),⟨zo,g1,g2⟩,zd,aC (by exact sK) ?_⟩;rw[show 0+((i:Nat):Int).toNat=i by omega,oI,eset];rfl
    cases aT:eC i
    ·rw[zi,aT,kP] at eset;have g1:true=true->m=true\/∃v,v<i+1/\z v=true/\eC v=false:=λ_=>.inr ⟨i,zo,zi,aT⟩;cases m'
     ·refine bC ?_;refine⟨_,bc i zo q1,?_⟩;rw[eat,zi];refine sW ?_;refine bC ?_;refine⟨_,bc i zo q1,?_⟩;rw[eat,zi];refine bC ?_;refine⟨_,bc i zo q1,?_⟩;rw[aT];refine sW ?_;refine bC ?_;refine⟨_,bc i zo q1,?_⟩;rw[eat,zi];refine bC ?_;refine⟨_,bc i zo q1,?_⟩;rw[aT];refine bC ?_;refine⟨_,bc i zo q1,?_⟩;refine aQ ?_;refine⟨(true,i+1),⟨zo,g1,λq=>by cases q⟩,zd,aC (by exact sK) ?_⟩;rw[show 0+((i:Nat):Int).toNat=i by omega,oI,eset];rfl
     refine sW ?_;refine bC ?_;refine⟨_,bc i zo q1,?_⟩;rw[eat,zi];refine bC ?_;refine⟨_,bc i zo q1,?_⟩;rw[aT];refine bC ?_;refine⟨_,bc i zo q1,?_⟩;refine aQ ?_;refine⟨(true,i+1),⟨zo,g1,λq=>by cases q⟩,zd,aC (by exact sK) ?_⟩;rw[show 0+((i:Nat):Int).toNat=i by omega,oI,eset];rfl
    rw[zi,aT,kP] at eset;have g1:m'=true->m=true\/∃v,v<i+1/\z v=true/\eC v=false:=λq=>by
     rcases h1 q with h|⟨v,v1,v2,v3⟩
     ·exact .inl h
     exact .inr ⟨v,zo,v2,v3⟩
    have g2:m'=false->m=false/\∀v,v<i+1->z v->eC v:=λq=>by
     refine⟨(h2 q).1,λv hv vc=>?_⟩;by_cases e:v=i
     ·subst e;exact aT
     exact(h2 q).2 v zo vc
    cases m'
    ·refine bC ?_;refine⟨_,bc i zo q1,?_⟩;rw[eat,zi];refine sW ?_;refine bC ?_;refine⟨_,bc i zo q1,?_⟩;rw[eat,zi];refine bC ?_;refine⟨_,bc i zo q1,?_⟩;rw[aT];refine sW ?_;refine bC ?_;refine⟨_,bc i zo q1,?_⟩;rw[eat,zi];refine bC ?_;refine⟨_,bc i zo q1,?_⟩;rw[aT];refine bC ?_;refine⟨_,bc i zo q1,?_⟩;refine aQ ?_;refine⟨(false,i+1),⟨zo,g1,g2⟩,zd,aC (by exact sK) ?_⟩;rw[show 0+((i:Nat):Int).toNat=i by omega,oI,eset];rfl
    refine sW ?_;refine bC ?_;refine⟨_,bc i zo q1,?_⟩;rw[eat,zi];refine bC ?_;refine⟨_,bc i zo q1,?_⟩;rw[aT];refine bC ?_;refine⟨_,bc i zo q1,?_⟩;refine aQ ?_;refine⟨(true,i+1),⟨zo,g1,g2⟩,zd,aC (by exact sK) ?_⟩;rw[show 0+((i:Nat):Int).toNat=i by omega,oI,eset];rfl
   have q1:i=g.length:=sO;subst q1;have qP:∀v,(z v&&eC v)->z v:=λv hv=>by rw[gr] at hv;exact hv.1
   rw[iI (g':=λv=>z v&&eC v) λv hv=>ae hv];refine sI ?_;refine⟨(m',k+1,λv=>z v&&eC v),⟨zo,λv hv=>?_,λv hv=>BO v<|qP v hv,λq=>?_,λq=>?_⟩,zd,?_⟩
   ·show(z v&&eC v)=true;rw[yk v hv,(E3 v).2<|PI yk hS hv];rfl
   ·rcases h1 q with h|⟨v,v1,v2,v3⟩
    ·exact Nat.lt_of_le_of_lt (JU qP)<|lK h
    exact yV (Sy v1 qP v2<|by show(z v&&eC v)=false;rw[v3,Bool.and_false])<|JU BO
   ·obtain⟨a1,a2⟩:=h2 q;obtain⟨b1,b2⟩:=j7 a1;have ez:(λv=>z v&&eC v)=z:=by
     funext v
     cases hv:z v with
     |false=>rfl
     |true=>show eC v=true;exact a2 v (yQ v hv) hv
    rw[ez];refine⟨b1,λj hj v hv=>?_⟩;by_cases e:j=k
    ·subst e;rw[yh];exact(E3 v).1 (a2 v (yQ v hv) hv)
    exact b2 j zo v hv
   exact aL 1 zs rfl sQ sQ
  refine sW ?_
  refine bb [0,1,5,7,8,9] (λ((r,i,bD):Bool×Nat×aq)=>[(10,ay r),(11,aa i)]) (λ(r,i,bD)=>[(1,.vec true 0 1<|bF g.length bD)])
   (λ(r,i,bD)=>i<=g.length/\vg g z S bD/\(∀v,eC v->bD v)/\(r=true->cQ bD g.length<cQ eC g.length)/\(r=false->∀b,b<i->qE g z S bD b (g.getD b []).length)) (λ(r,i,bD)=>g.length-i) (false,0,eC) ?_
  refine sW ?_;refine⟨⟨zo,BH,λv h=>h,λq=>(by cases q),λ_ b hb=>zo⟩,by exact sK,rfl,?_⟩;rintro⟨r,i,bD⟩ ⟨hi,hH,gd,mv,s7⟩;refine ck ?_;rw[aI];refine sS (λq1=>?_) λq1=>?_
  ·have q1:i<g.length:=sO;have Cj:=hF.at i
   refine bb [0,1,5,7,8,9,11] (λ((r,j,bD):Bool×Nat×aq)=>[(10,ay r),(12,aa j)]) (λ(r,j,bD)=>[(1,.vec true 0 1<|bF g.length bD)])
    (λ(r,j,bD)=>j<=(g.getD i []).length/\vg g z S bD/\(∀v,eC v->bD v)/\(r=true->cQ bD g.length<cQ eC g.length)/\(r=false->(∀b,b<i->qE g z S bD b (g.getD b []).length)/\qE g z S bD i j)) (λ(r,j,bD)=>(g.getD i []).length-j) (r,0,bD) ?_
   refine sW ?_;refine⟨⟨zo,hH,gd,mv,λq=>⟨s7 q,λ_ j hj=>zo⟩⟩,by exact sK,rfl,?_⟩;clear hH gd mv s7 BH AJ lK j7 yk AW;rintro⟨r,j,bD⟩ ⟨hj,hH,gd,mv,s7⟩;have out:(j=(g.getD i []).length\/z i=false\/bD i)->r=false->∀b,b<i+1->qE g z S bD b (g.getD b []).length:=λh q b hb=>by
    obtain⟨c1,c2⟩:=s7 q;by_cases e:b=i
    ·subst e;rcases h with h|h|h
     ·rw[<-h];exact c2
     ·intro jn;rw[h] at jn;cases jn
     exact λ_ _ _ _ _ _=>h
    exact c1 b zo
   refine ck ?_;refine sL (eV (k:=i) zo q1) ?_;rw[aI];refine sS (λq2=>?_) λq2=>?_
   ·have q2:j<(g.getD i []).length:=sO;refine sB ?_;refine⟨_,bc i zo q1,?_⟩;cases zi:z i
    ·refine sW ?_;have w6h:j=(g.getD i []).length\/z i=false\/bD i=true:=.inr (.inl zi);refine sI ?_;exact⟨(r,i+1,bD),⟨zo,hH,gd,mv,out w6h⟩,zd,aC (by exact sK) rfl⟩
    refine bC ?_;refine⟨_,bc i zo q1,?_⟩;cases aT:bD i
    ·refine sW ?_;have hx:=cZ (cR i)<|df q2;have mb:=df q2;refine sL (eV (k:=i) zo q1) ?_;refine sL (bV (l:=g.getD i []) (k:=j) zo q2) ?_;have skip:(z ((g.getD i []).getD j 0).toNat=true->S ((g.getD i []).getD j 0).toNat=false/\bD ((g.getD i []).getD j 0).toNat=false)->r=false->(∀b,b<i->qE g z S bD b (g.getD b []).length)/\qE g z S bD i (j+1):=λh q=>by
      obtain⟨c1,c2⟩:=s7 q;refine⟨c1,λjn j' de vt EV By=>?_⟩;by_cases e:j'=j
      ·subst e;obtain⟨d1,d2⟩:=h EV;rw[d1,d2] at By;simp at By
      exact c2 jn j' zo vt EV By
     have vK:=λ(h:z ((g.getD i []).getD j 0).toNat) (hs:S ((g.getD i []).getD j 0).toNat)=>Hit.one (g:=g) (S:=S) zi mb h hs;have Gb:=λ(h:z ((g.getD i []).getD j 0).toNat) (hs:bD ((g.getD i []).getD j 0).toNat)=>Hit.more (g:=g) (S:=S) zi mb h<|hH.sound _ hs;generalize (g.getD i []).getD j 0=x at *;obtain⟨to,rfl⟩:∃to:Nat,x=to:=⟨x.toNat,zo⟩;rw[bO] at skip vK Gb;have gp:to<g.length:=zo;have cG:=nK (s:=bD) (s':=mark bD i) q1 (λv _ hv=>fo hv) aT<|km _ _;have hle:=zS (n:=g.length) λv _ hv=>gd v hv;refine sB ?_;refine⟨_,bc to zo gp,?_⟩;cases zt:z to
     ·refine aQ ?_;exact⟨(r,j+1,bD),⟨zo,hH,gd,mv,skip λq=>by rw[zt] at q;cases q⟩,zd,aC (by exact sK) rfl⟩
     refine sW ?_;refine sL (OT _ zo) ?_;refine⟨zo,_,bc to zo gp,?_⟩;cases st:S to
     ·refine bC ?_;refine⟨_,bc to zo gp,?_⟩;cases ht:bD to
      ·refine aQ ?_;exact⟨(r,j+1,bD),⟨zo,hH,gd,mv,skip λ_=>⟨st,ht⟩⟩,zd,aC (by exact sK) rfl⟩
      have Cp:vg g z S<|mark bD i:=⟨λv hv=>by
       rcases nE.1 hv with rfl|hv
       ·exact Gb zt ht
       exact hH.sound v hv⟩
      refine bC ?_;refine⟨_,bc i zo q1,?_⟩;refine aQ ?_;refine⟨(true,j+1,mark bD i),⟨zo,Cp,λv hv=>fo<|gd v hv,λ_=>zo,λq=>by cases q⟩,zd,aC (by exact sK) ?_⟩;rw[nV (v:=i) zo];rfl
     have Cp:vg g z S<|mark bD i:=⟨λv hv=>by
      rcases nE.1 hv with rfl|hv
      ·exact vK zt st
      exact hH.sound v hv⟩
     refine bC ?_;refine⟨_,bc i zo q1,?_⟩;refine aQ ?_;refine⟨(true,j+1,mark bD i),⟨zo,Cp,λv hv=>fo<|gd v hv,λ_=>zo,λq=>by cases q⟩,zd,aC (by exact sK) ?_⟩;rw[nV (v:=i) zo];rfl
    refine sW ?_;have w6h:j=(g.getD i []).length\/z i=false\/bD i=true:=.inr (.inr aT);refine sI ?_;exact⟨(r,i+1,bD),⟨zo,hH,gd,mv,out w6h⟩,zd,aC (by exact sK) rfl⟩
   have q2:j=(g.getD i []).length:=sO;have w6h:j=(g.getD i []).length\/z i=false\/bD i:=.inl q2;refine aQ ?_;exact⟨(r,i+1,bD),⟨zo,hH,gd,mv,out w6h⟩,zd,aC (by exact sK) rfl⟩
  have q1:i=g.length:=sO;subst q1;refine⟨(r,bD),⟨hH,s7⟩,?_,aC (by exact sK) rfl⟩;dsimp only;cases r
  ·simp;omega
  have:=mv rfl;simp;omega
 have q0:k=F.length:=sO;subst q0;refine⟨(m,z),⟨yk,yQ,λq v hv S hS=>?_⟩,?_,aC (by exact sK) rfl⟩
 ·obtain⟨j,hj,rfl⟩:=iD.1 hS;have:=(j7 q).2 j hj v hv;rw[a8,aX hj] at this;exact this
 dsimp only;cases m
 ·simp;omega
 have:=lK rfl;simp;omega
section
def iU:List Pr->List Pr->ah->List Pr×ah
 |[],L,o=>(L,o)
 |p::r,L,o=>iU r (jY L p)<|o++[(gD (jY L p) p:Int)]
theorem zxu(L:List Pr)(p:Pr):∃X,jY L p=L++X:=by
 unfold jY;split
 ·exact⟨[],zs⟩
 grind
theorem MI{X:List Pr}(h:p∈L):gD (L++X) p=gD L p:=by
 unfold gD;rw[List.idxOf_append,ae h]
theorem C1:∀(ps L:List Pr) (o:ah),∃X,(iU ps L o).1=L++X
 |[],L,o=>⟨[],by simp[iU]⟩
 |p::r,L,o=>by
  obtain⟨X,hX⟩:=zxu L p;obtain⟨Y,hY⟩:=C1 r (jY L p)<|o++[(gD (jY L p) p:Int)];exact⟨X++Y,by rw[iU,hY,hX,ig]⟩
theorem EL:∀(ps L:List Pr) (o:ah) (q:Pr),q∈(iU ps L o).1↔q∈L\/q∈ps
 |[],L,o,q=>by simp[iU]
 |p::r,L,o,q=>by
  rw[iU,EL r,Qr,eQ];constructor
  ·rintro((h|h)|h)
   ·exact .inl h
   ·exact .inr (.inl h)
   exact .inr (.inr h)
  rintro(h|h|h)
  ·exact .inl (.inl h)
  ·exact .inl (.inr h)
  exact .inr h
theorem KR:∀(ps:List Pr) {L:List Pr} (o:ah),L.Nodup->(iU ps L o).1.Nodup
 |[],_,_,h=>h
 |p::r,_,_,h=>KR r _<|Rj h p
theorem PV:∀(ps L:List Pr) (o:ah),(iU ps L o).2=o++ps.map λp=>(gD (iU ps L o).1 p:Int)
 |[],L,o=>by simp[iU]
 |p::r,L,o=>by
  rw[iU,PV r];obtain⟨X,hX⟩:=C1 r (jY L p)<|o++[(gD (jY L p) p:Int)];have:gD (iU r (jY L p)<|o++[(gD (jY L p) p:Int)]).1 p=gD (jY L p) p:=by
   rw[hX];exact MI<|Qr.2 (.inr rfl)
  rw[fR,this,ig];rfl
theorem zve{ps:List Pr}{o:ah}(h:i<L.length):(iU ps L o).1.getD i (0,0)=L.getD i (0,0):=by
 obtain⟨X,hX⟩:=C1 ps L o
 grind
theorem zsX(ps L:List Pr)(o:ah):L.length<=(iU ps L o).1.length:=by
 obtain⟨X,hX⟩:=C1 ps L o
 grind
def ui(nx:Pr->List Pr):Nat->Nat->List Pr->ak->List Pr×ak
 |0,_,L,T=>(L,T)
 |k+1,n,L,T=>if n<L.length then ui nx k (n+1) (iU (nx<|L.getD n (0,0)) L []).1<|T++[(iU (nx<|L.getD n (0,0)) L []).2] else (L,T)
structure uN(start:List Pr)(nx:Pr->List Pr)(n:Nat)(L:List Pr)(T:ak):Prop where
 nd:L.Nodup
 st:∀p∈start,p∈L
 len:T.length=n
 le:n<=L.length
 row:∀i,i<n->T.getD i []=(nx<|L.getD i (0,0)).map λq=>(gD L q:Int)
 cl:∀i,i<n->∀q∈nx (L.getD i (0,0)),q∈L
 fr:∀j,j<L.length->L.getD j (0,0)∈start\/∃i,i<n/\i<j/\L.getD j (0,0)∈nx (L.getD i (0,0))
theorem pL(h:j<L.length):L.getD j (0,0)∈L:=by
 grind
theorem uN.begin(start:List Pr)(nx:Pr->List Pr):uN start nx 0 (iU start [] []).1 [] where
 nd:=KR start [] .nil
 st p hp:=(EL start [] [] p).2 (.inr hp)
 len:=rfl
 le:=kZ _
 row i hi:=zo
 cl i hi:=zo
 fr j hj:=.inl<|((EL start [] [] _).1<|pL hj).resolve_left zs
variable{nx:Pr->List Pr}{T:ak}
theorem uN.next{start:List Pr}(h:uN start nx n L T)(hn:n<L.length) :
  uN start nx (n+1) (iU (nx<|L.getD n (0,0)) L []).1 (T++[(iU (nx<|L.getD n (0,0)) L []).2]):=by
 generalize hp:L.getD n (0,0)=p;have hm:=EL (nx p) L [];have ho:=PV (nx p) L [];have hold:=λi (hi:i<L.length)=>zve (ps:=nx p) (o:=[]) hi;have zQR:=zsX (nx p) L [];obtain⟨X,hX⟩:=C1 (nx p) L [];refine⟨KR _ _ h.nd,λq hq=>(hm q).2 (.inl<|h.st q hq),by simp[h.len],zo,λi hi=>?_,λi hi q hq=>?_,λj hj=>?_⟩
 ·by_cases e:i=n
  ·subst e;rw[hold _ hn,hp,a8,jF<|by rw[h.len];exact aS _,h.len,xb]
   grind
  have hi:i<n:=zo;rw[hold i zo,a8,iz<|by rw[h.len];exact hi,<-a8,h.row i hi,hX];refine vj λq hq=>?_;rw[MI<|h.cl i hi q hq]
 ·by_cases e:i=n
  ·subst e;rw[hold _ hn,hp] at hq;exact(hm q).2 (.inr hq)
  rw[hold i zo] at hq;exact(hm q).2 (.inl<|h.cl i zo q hq)
 by_cases hl:j<L.length
 ·rw[hold j hl];rcases h.fr j hl with k|⟨i,k1,k2,k3⟩
  ·exact .inl k
  exact .inr ⟨i,zo,k2,by rw[hold i zo];exact k3⟩
 refine .inr ⟨n,zo,zo,?_⟩;rw[hold n hn,hp];have hq:(iU (nx p) L []).1.getD j (0,0)∈X:=by
  grind
 have fE:=KR (nx p) [] h.nd
 grind
structure qD(start:List Pr)(nx:Pr->List Pr)(L:List Pr)(G:ak):Prop where
 nd:L.Nodup
 st:∀p∈start,p∈L
 len:G.length=L.length
 row:∀i,i<L.length->G.getD i []=(nx<|L.getD i (0,0)).map λq=>(gD L q:Int)
 cl:∀i,i<L.length->∀q∈nx (L.getD i (0,0)),q∈L
 fr:∀j,j<L.length->L.getD j (0,0)∈start\/∃i,i<j/\L.getD j (0,0)∈nx (L.getD i (0,0))
theorem uN.fin{start:List Pr}(h:uN start nx n L T)(hn:¬n<L.length):qD start nx L T:=by
 have e:n=L.length:=by have:=h.le;omega
 subst e;exact⟨h.nd,h.st,h.len,h.row,h.cl,λj hj=>(h.fr j hj).imp_right λ⟨i,_,k2,k3⟩=>⟨i,k2,k3⟩⟩
theorem zu0(fE:L.Nodup){m:Nat}(h:∀p∈L,(0<=p.1/\p.1<(n:Int))/\0<=p.2/\p.2<(m:Int)):L.length<=n*m:=by
 refine Ff (n*m) L.length (λi=>(L.getD i (0,0)).1.toNat * m+(L.getD i (0,0)).2.toNat) (λi hi=>?_) λi j hi hj he=>?_
 ·obtain⟨⟨a,b⟩,c,d⟩:=h _<|pL hi;generalize L.getD i (0,0)=p at *;have:(p.1.toNat+1)*m<=n*m:=yH _ zo
  grind
 obtain⟨⟨a,b⟩,c,d⟩:=h _<|pL hi;obtain⟨⟨a',b'⟩,c',d'⟩:=h _<|pL hj;have Ed:L.getD i (0,0)=L.getD j (0,0):=by
  generalize L.getD i (0,0)=p at *;generalize L.getD j (0,0)=q at *;have e1:p.2.toNat=q.2.toNat:=by
   have:=bH (·%m) he;simp only[Nat.mul_add_mod_self_right] at this;rwa [Nat.mod_eq_of_lt zo,Nat.mod_eq_of_lt zo] at this
  have e2:p.1.toNat=q.1.toNat:=by
   rw[e1] at he;exact Nat.eq_of_mul_eq_mul_right zo<|Nat.add_right_cancel he
  grind
 rw[a8,a8,aX hi,aX hj] at Ed;simp only[sj] at Ed;rcases xS i j with q|q|q
 ·exact absurd Ed<|uB.1 fE i j hi hj q
 ·exact q
 exact absurd Ed.symm<|uB.1 fE j i hj hi q
theorem Gn{q:Pr}(h:q∈L):L.getD (gD L q) (0,0)=q:=by
 have h1:=Em h;unfold gD at h1⊢
 grind
section
variable{start:List Pr}{nx:Pr->List Pr}{L:List Pr}{G:ak}
theorem qD.NN(h:qD start nx L G){x:Int}(hx:x∈G.getD v []):v<L.length/\∃q,q∈nx (L.getD v (0,0))/\q∈L/\x=(gD L q:Int)/\gD L q<L.length:=by
 have hv:v<L.length:=by
  rcases gK v L.length with q|q
  ·exact q
  rw[a8,dG<|by have:=h.len;omega] at hx;cases hx
 rw[h.row v hv] at hx;obtain⟨q,hq,rfl⟩:=dq.1 hx;have:=h.cl v hv q hq;exact⟨hv,q,hq,this,rfl,Em this⟩
theorem qD.inG(h:qD start nx L G):∀l∈G,bq l G.length:=λl hl=>by
 obtain⟨v,hv,rfl⟩:=iD.1 hl;refine iS λx hx=>?_;obtain⟨_,q,_,_,rfl,k⟩:=h.NN (v:=v) (x:=x) (by rw[a8,aX hv];exact hx);have:=h.len;omega
theorem qD.come(h:qD start nx L G):∀j,j<L.length->∃p∈start,To G (gD L p) j:=by
 intro j
 induction j using Nat.strongRecOn with
 |ind j ih =>
  intro hj;have hid:gD L (L.getD j (0,0))=j:=by
   have h1:=Em<|pL hj;have h2:=Gn<|pL hj;have hx:L[gD L<|L.getD j (0,0)]'h1=L[j]:=by
    grind
   rcases xS (gD L<|L.getD j (0,0)) j with q|q|q
   ·exact absurd hx<|uB.1 h.nd _ _ h1 hj q
   ·exact q
   exact absurd hx.symm<|uB.1 h.nd _ _ hj h1 q
  rcases h.fr j hj with k|⟨i,k2,k3⟩
  ·exact⟨_,k,by rw[hid];exact nw G j⟩
  obtain⟨p,hp,hT⟩:=ih i k2 zo;refine⟨p,hp,n9 hT ?_⟩;have:((j:Nat):Int)∈G.getD i []:=by
   rw[h.row i zo]
   grind
  have:=rZ this
  grind
theorem qD.fair(h:qD start nx L G){code:Pr->Nat}(hg:∀p∈L,g'.getD (code p) []=(nx p).map λq=>(code q:Int))(sets:List aq) :
  (∃v,v<G.length/\Fw G (sets.map λS v=>S<|code<|L.getD v (0,0)) v)↔∃p∈start,Fw g' sets<|code p:=by
 have he:∀v x,x∈G.getD v []->∃y,y∈g'.getD (code<|L.getD v (0,0)) []/\y.toNat=code (L.getD x.toNat (0,0)):=λv x hx=>by
  obtain⟨hv,q,q1,q2,rfl,q4⟩:=h.NN hx;refine⟨(code q:Int),?_,?_⟩
  ·rw[hg _<|pL hv];exact dq.2 ⟨q,q1,rfl⟩
  rw[bO,bO,Gn q2]
 have aY:∀v x,x∈G.getD v []->x.toNat<G.length:=λv x hx=>by
  obtain⟨_,q,_,_,rfl,k⟩:=h.NN hx;have:=h.len;omega
 constructor
 ·rintro⟨v,hv,k⟩;have lW:v<L.length:=(by have:=h.len;omega);obtain⟨p,hp,hT⟩:=h.come v lW;refine⟨p,hp,?_⟩;have:=zB9 (h:=λv=>code<|L.getD v (0,0)) he<|Fw.back k hT;rwa [Gn<|h.st p hp] at this
 rintro⟨p,hp,k⟩;have jC:=h.st p hp;have hi:gD L p<G.length:=by have:=h.len;have:=Em jC;omega
 refine⟨gD L p,hi,zzg (h:=λv=>code<|L.getD v (0,0)) (λv hv y hy=>?_) aY hi<|by rw[Gn jC];exact k⟩;have lW:v<L.length:=by have:=h.len;omega
 rw[hg _<|pL lW] at hy;obtain⟨q,q1,rfl⟩:=dq.1 hy;have hq:=h.cl v lW q q1;refine⟨(gD L q:Int),by rw[h.row v lW];exact dq.2 ⟨q,q1,rfl⟩,?_⟩;rw[bO,bO,Gn hq]
end
end
section
def ku(W:bg)(A:bT)(p:Pr):Bool:=yZ A p.2.toNat<|W.label.getD p.1.toNat 0
def yy(W:bg)(A:bT)(n t:Nat)(S:D):bj:=[aF W.start,bN W.next,iw W.label,bN W.fair,aF A.start,bN A.next,iw A.jy,iw A.mO,bN A.fair,.mp 0,.own 2 n 0 n,.own 3 t 0 t,S]
noncomputable def kg(W:bg)(A:bT)(L:List Pr)(S:D)(T:ak):aE :=
 [.dV true<|ma aj 280<|fP L,.row true<|yy W A L.length T.length S,.vec true L.length 2<|td L,.vec true T.length 1<|gi T]
variable{W:bg}{A:bT}{S:D}{T:ak}{m:Nat}
theorem QJ(hS:Pure S)(hm:4<=m):∀o∈kg W A L S T,o.under m:=by
 have:=bz (m:=m) S hS;have h1:=λl=>bz (m:=m) _<|cX l;have h2:=λl=>bz (m:=m) _<|l5 l;have h3:=λl=>bz (m:=m) _<|yr l;intro o ho;simp only[kg,eQ,uH,or_false] at ho;rcases ho with rfl|rfl|rfl|rfl<;>simp[al.under,yy,aG,aK,this,h1,h2,h3]<;>omega
theorem NZ(hS:Pure S)(hm:4<=m):dX m<|kg W A L S T:=by
 have:=QJ (W:=W) (A:=A) (L:=L) hS (T:=T) hm;unfold kg at *;exact⟨this _ zs,this _ zs,this _ zs,this _ zs,trivial⟩
theorem zvv:laidOutB aj:=by kernel_rfl
theorem Un:Maps.Keyed aj 280:=Maps.Keyed.of_law<|deep_law_laid zvv (m:=2) zo (pH zk) zk<|by rw[Tryz.underlying280]
theorem zoq(hp:WfP p):∃l,keyOf aj 280 (wx p)=some l :=
 zsV (pH zk) zk Tryz.underlying280 rfl rfl rfl rfl zc zc Tryz.underlying3 zk zk _ _ hp.1 hp.2
structure xY(W:bg)(A:bT):Prop where
 fw:W.Fits
 fa:A.Fits
 cw:W.aU=0
 ca:A.aU=0
def iC(W:bg)(A:bT)(p:Pr):Prop:=(0<=p.1/\p.1<(W.next.length:Int))/\0<=p.2/\p.2<(A.next.length:Int)
theorem uw(W:bg)(h:W.aU=0):W.label.length=W.next.length/\W.next.length<=600/\W.fair.length<=80/\bq W.start W.next.length/\(∀l∈W.next,bq l W.next.length)/\∀l∈W.fair,bq l W.next.length:=by
 unfold bg.aU at h;repeat grind
theorem iC.wf(h:xY W A)(hp:iC W A p):WfP p:=by
 obtain⟨⟨a,b⟩,c,d⟩:=hp;have:=(uw W h.cw).2.1;have:=(xE A h.ca).2.2.1;exact ZV ⟨a,zo,c,zo⟩
theorem zA1(ka:xY W A)(L:List Pr)(fE:L.Nodup)(hL:L.length<=2000000)(S:D)(hS:Pure S)(T:ak)(p:Pr)(hg:iC W A p) :
  bZ aj 288 [.loc 1 0,.agg<|pP p.1 p.2] (kg W A L S T) (aa<|if ku W A p=true then (gD (jY L p) p:Int) else -1) (kg W A (if ku W A p=true then jY L p else L) S T):=by
 have hp:=iC.wf ka hg;have lr:=zoq hp;obtain⟨⟨g1,g2⟩,g3,g4⟩:=hg;obtain⟨F6,_⟩:=uw W ka.cw;obtain⟨hm,hn,_⟩:=xE A ka.ca;have hF:=zzX A hm hn p.2.toNat zo<|W.label.getD p.1.toNat 0;rw[show((p.2.toNat:Nat):Int)=p.2 by omega] at hF;refine jb fZ zs (by simp[kg]) ?_ zu (by
  intro x hx;exact QJ hS (by simp[kg]) x hx)
 have ef:ku W A p=yZ A p.2.toNat (W.label.getD p.1.toNat 0):=rfl;rw[<-ef] at hF;generalize ku W A p=fit at *;unfold kg yy pP;unfold mi bT.cells at hF;refine sR ?_;refine sL (Ao (l:=W.label) (k:=p.1.toNat) zo zo) ?_;refine sC hF ?_;cases fit
 ·refine sW ?_;simp
 refine sW ?_;refine⟨fP L,rfl,Un,lr,λv hv=>?_,λhv=>?_⟩
 ·by_cases h2:p∈L
  ·have hs:=XL fE h2;have lW:some v=some (Value.int .i64<|gD L p):=hv.symm.trans hs;cases lW;have eA:jY L p=L:=ae h2;have eI:gD (jY L p) p=gD L p:=(by rw[eA]);rw[eI,eA];refine sW ?_;simp
  exfalso;have lW:some v=none:=hv.symm.trans<|ZQ h2;cases lW
 have h2:¬p∈L:=λh2=>by
  have lW:(none:Option aW)=some (Value.int .i64<|gD L p):=hv.symm.trans<|XL fE h2;cases lW
 have eA:jY L p=L++[p]:=ab h2;have eI:gD (jY L p) p=L.length:=by rw[zwn,ab h2]
 rw[eI,eA];refine sW ?_;refine⟨fP L,rfl,Un,lr,hv,?_⟩;refine sWJ ?_;refine⟨?_,zs⟩;rw[ae rfl,zBK,show(L++[p]).length=L.length+1 by simp,<-znE];rfl
def rS(W:bg)(A:bT)(x:Int)(k:ah):List Pr:=(k.filter λy=>ku W A (x,y)).map λy=>(x,y)
def gv(W:bg)(A:bT)(l k:ah):List Pr:=l.flatMap λx=>rS W A x k
variable(W:bg)
theorem Tg(A:bT)(x y:Int)(k:ah):rS W A x (y::k)=if ku W A (x,y)=true then (x,y)::rS W A x k else rS W A x k:=by
 unfold rS
 grind
theorem zx2(A:bT)(x:Int)(k:ah):(rS W A x k).length<=k.length:=by unfold rS;rw[aI];exact List.length_filter_le _ _
theorem TK(A:bT)(l k:ah):(gv W A l k).length<=l.length*k.length:=by
 induction l with
 |nil=>simp[gv]
 |cons x r ih =>
  have:=zx2 W A x k;simp only[gv,List.flatMap_cons,cL,dC] at ih⊢
  grind
variable{W:bg}{l:ah}
theorem UP{k:ah}(hl:bq l W.next.length)(hk:bq k A.next.length):∀p∈gv W A l k,iC W A p:=by
 intro p hp;obtain⟨x,hx,hp⟩:=List.mem_flatMap.1 hp;obtain⟨y,hy,rfl⟩:=dq.1 hp;exact⟨cZ hl hx,cZ hk (zg.1 hy).1⟩
theorem Aa(h:k<l.length):l.drop k=l.getD k 0::l.drop (k+1):=by
 rw[Ct h,a8,aX h];rfl
theorem iC.le(ka:xY W A)(fE:L.Nodup)(hg:∀p∈L,iC W A p):L.length<=W.next.length*A.next.length:=zu0 fE hg
theorem KZ(ka:xY W A):W.next.length*A.next.length<=1228800 :=
 jI (Bk (uw W ka.cw).2.1 (xE A ka.ca).2.2.1) zc
theorem W7(ka:xY W A)(l k:ah)(hl:l.length<=1048576)(hk:k.length<=1048576)(il:bq l W.next.length)(ik:bq k A.next.length)(L:List Pr)(fE:L.Nodup)(u5:∀p∈L,iC W A p)(S:D)(hS:Pure S)(T:ak) :
  bZ aj 217 [.loc 1 0,aF l,aF k] (kg W A L S T) (aF (iU (gv W A l k) L []).2) (kg W A (iU (gv W A l k) L []).1 S T):=by
 refine oQ fZ zs (by simp[kg]) ?_<|bz _<|cX _;have ZE:=λm=>bz (m:=m) S hS;have hu1:=λm l=>bz (m:=m) _<|cX l;have hu2:=λm l=>bz (m:=m) _<|l5 l;have hu3:=λm l=>bz (m:=m) _<|yr l;have h2:=KZ ka;generalize hR:iU (gv W A l k) L []=R;have hlk:l.length*k.length<=1048576*1048576:=Bk hl hk;unfold kg yy;refine sR ?_;rw[aI];refine bQ (eo 7 1 zs rfl) ?_
 refine cq [0,2,13,14] (λ((i,M,o):Nat×List Pr×ah)=>[(7,.own 4 o.length 0 o.length),(15,aa i)]) (λ(i,M,o)=>kg W A M S T++[.vec true o.length 1<|aw o])
  (λ(i,M,o)=>i<=l.length/\M.Nodup/\(∀p∈M,iC W A p)/\o.length<=i*k.length/\iU (gv W A (l.drop i) k) M o=R) (λ(i,M,o)=>l.length-i) (0,L,[]) ?_
 refine sW ?_;refine⟨⟨zo,fE,u5,zs,hR⟩,by exact sK,rfl,?_⟩;rintro⟨i,M,o⟩ ⟨hi,Bh,mD,oZ,hF⟩;unfold kg yy;refine bf (λq0=>?_) λq0=>?_
 ·have q0:i<l.length:=sO;have hx:=cZ il<|df q0;refine⟨zo,_,bV (l:=l) (k:=i) zo q0,?_⟩;rw[Aa q0,gv,List.flatMap_cons] at hF;rw[show(l.drop<|i+1).flatMap (λx=>rS W A x k)=gv W A (l.drop<|i+1) k from rfl] at hF;have hik:(i+1)*k.length<=1048576*1048576:=jI (yH _ zo) hlk;have zQl:(i+1)*k.length=i*k.length+k.length:=(by rw[oa,Nat.one_mul]);refine sW ?_;rw[aI];generalize l.getD i 0=x at *
  refine cq [0,2,9,13,14,15,19,20] (λ((j,M,o):Nat×List Pr×ah)=>[(7,.own 4 o.length 0 o.length),(21,aa j)]) (λ(j,M,o)=>kg W A M S T++[.vec true o.length 1<|aw o])
   (λ(j,M,o)=>j<=k.length/\M.Nodup/\(∀p∈M,iC W A p)/\o.length<=i*k.length+j/\iU (rS W A x (k.drop j)++gv W A (l.drop<|i+1) k) M o=R) (λ(j,M,o)=>k.length-j) (0,M,o) ?_
  refine sW ?_;refine⟨⟨zo,Bh,mD,zo,hF⟩,by exact sK,rfl,?_⟩;rintro⟨j,M,o⟩ ⟨hj,Bh,mD,oZ,hF⟩;unfold kg yy;refine bf (λq1=>?_) λq1=>?_
  ·have q1:j<k.length:=sO;have hy:=cZ ik<|df q1;refine sL (bV (l:=k) (k:=j) zo q1) ?_;rw[Aa q1,Tg] at hF;generalize k.getD j 0=y at *;have tO:iC W A (x,y):=⟨hx,hy⟩;have Hi:=iC.le ka Bh mD;have hA:=nk (zA1 ka M Bh zo S hS T (x,y) tO) [.vec true o.length 1<|aw o] (by simp[kg]) (by simp[kg,aG,aK,pP])<|NZ hS (by simp[kg]);have uo:=zwS M (x,y);cases r:ku W A (x,y)
   ·rw[r,ab zc,ab zc] at hA;rw[r,ab zc] at hF;unfold kg yy pP at hA;refine sA hA ?_;refine sI ?_;refine⟨(j+1,M,o),⟨zo,Bh,mD,zo,hF⟩,zd,?_⟩;dsimp only;exact aL 5 zs rfl sG sG
   rw[r,ae rfl,ae rfl] at hA;rw[r,ae rfl,pQ,iU] at hF;unfold kg yy pP at hA;refine sA hA ?_;refine ee ?_;refine⟨(j+1,jY M (x,y),o++[(gD (jY M (x,y)) (x,y):Int)]),⟨zo,Rj Bh _,λq hq=>(Qr.1 hq).elim (mD q) λe=>e▸tO,zq,hF⟩,zd,?_⟩;dsimp only;rw[show(o++[(gD (jY M (x,y)) (x,y):Int)]).length=o.length+1 by simp]
   (refine aL 5 zs rfl ?_ ?_<;>(repeat' (first|exact trivial|exact rfl|exact .refl _|refine And.intro ?_ ?_|(simp[aK,aG,bB,-List.map_take,-List.map_drop];done))))
   all_goals first|exact ZE _|exact hu1 _ _|exact hu2 _ _|exact hu3 _ _|exact aV (kC o _)|skip
  have q1:j=k.length:=sO;subst q1;rw[um] at hF;refine sI ?_;refine⟨(i+1,M,o),⟨zo,Bh,mD,zo,hF⟩,zd,?_⟩;dsimp only;exact aL 5 zs rfl sG sG
 have q0:i=l.length:=sO;subst q0;rw[um] at hF;have hF:(M,o)=R:=hF;subst hF;exact⟨.own _ _ _ _ _ _ _ _ rfl rfl (aV<|cB<|by simp[aw]),lB _ [_]<|QJ hS<|aS _⟩
end
section
def jL(W:bg)(A:bT)(L:List Pr)(G:ak)(fr:ah):bj:=[aF W.start,bN W.next,iw W.label,bN W.fair,aF A.start,bN A.next,iw A.jy,iw A.mO,bN A.fair,.dL,y9 L,bN G,aF fr]
variable(W:bg)
@[simp] theorem zG(A:bT)(L:List Pr)(G:ak)(fr:ah):aA<|jL W A L G fr:=by simp[jL,aA,Pure,cX,l5,yr,Qm]
@[simp] theorem Af{cs:bj}(h:aA cs):Pure (.ax cs):=by simpa only[Pure] using h
theorem xA{g:ak}{L:Nat}(h:∀l∈g,l.length<=L)(k:Nat):(g.getD k []).length<=L:=by
 grind
def mK(n:Nat)(F:List aq):fc:=F.map λS=>[bx n S]
@[simp] theorem zCj(n:Nat)(F:List aq):(mK n F).length=F.length:=by simp[mK]
@[simp] theorem Eg(n:Nat)(F:List aq):dF<|mK n F:=c6 _ (λS=>by simp[aA,lg]) F
@[simp] theorem zx7{m:Nat}(F:List aq):bB m (mK n F)↔True:=⟨λ_=>trivial,λ_=>bm _<|Eg n F⟩
def xp(L:List Pr)(sel:Pr->Int)(l:ah):Nat->Bool:=λi=>gy l (sel<|L.getD i (0,0)).toNat
theorem Z3{l:ah}(aY:bq l n)(hk:k<l.length)(v:Nat):gy (l.take<|k+1) v=if v=(l.getD k 0).toNat then true else gy (l.take k) v:=by
 have hx:=cZ aY (df hk);unfold gy;rw[a8,aX hk] at hx⊢;simp only[sj] at hx⊢;rw[j9,u7,jP,aX hk];repeat grind
theorem VY(A:bT)(L:List Pr)(G:ak)(fr l:ah)(hl:l.length<=1000000000000)(aY:bq l L.length):ao aj 224 [.ax<|jL W A L G fr,aF l]<|aF<|l.map λn=>(L.getD n.toNat (0,0)).1:=by
 have hp:=zG W A L G fr;refine dh fZ zs (by simp[aA,Pure,cX,hp]) ?_<|cX _;unfold jL y9;refine sR ?_;rw[aI];refine bQ (eo 5 1 zs rfl) ?_;refine bb [0,8,9] (λk:Nat=>[(5,.own 0 k 0 k),(10,aa k)]) (λk=>[(0,.vec true k 1<|aw<|(l.take k).map λn=>(L.getD n.toNat (0,0)).1)]) (λk=>k<=l.length) (λk=>l.length-k) 0 ?_;refine dd ?_;rintro k hk;refine bf (λq0=>?_) λq0=>?_
 ·have q0:k<l.length:=sO;have hx:=cZ aY<|df q0;have eS:(l.take<|k+1).map (λn=>(L.getD n.toNat (0,0)).1)=(l.take k).map (λn=>(L.getD n.toNat (0,0)).1)++[(L.getD (l.getD k 0).toNat (0,0)).1]:=by
   rw[jP,aX q0,a8 (l:=l),aX q0,oD];rfl
  refine sL (bV (l:=l) (k:=k) zo q0) ?_;generalize l.getD k 0=x at *;refine sL (HP (l:=L) (k:=x.toNat) zo zo) ?_;refine ee ?_;refine⟨k+1,zo,zd,?_⟩;dsimp only;rw[eS];refine aL 1 zs rfl sQ (sU ?_);exact aV (by
   have:=kC ((l.take k).map λn=>(L.getD n.toNat (0,0)).1) (L.getD x.toNat (0,0)).1;rw[aI,fg,v7 hk] at this;exact this)
 have q0:k=l.length:=sO;subst q0;rw[dM];exact .own _ _ _ _ _ _ _ _ rfl (by rw[cB<|by simp[aw]];exact gw _)
theorem U9(W:bg)(A:bT)(L:List Pr)(hL:L.length<=2000000)(G:ak)(fr:ah)(g:FuncId)(sel:Pr->Int)(n:Nat)(hn:n<=2048)(E2:∀p∈L,ao aj g [.agg<|pP p.1 p.2]<|aa<|sel p)(aY:∀p∈L,0<=sel p/\sel p<(n:Int))
  (l:ah) (hl:l.length<=17592186043904) (EK:bq l n) (F:List aq) (hF:F.length<=1000) :
  bZ aj 290 [aF l,.fn (.func g) [] [],aa n,.loc 0 0,.loc 1 0] [.row true [.ax<|jL W A L G fr],.row true [.own 2 F.length 0 F.length],.vec true F.length 1<|mK L.length F]
   (.aJ []) [.row true [.ax<|jL W A L G fr],.row true [.own 2 (F.length+1) 0<|F.length+1],.vec true (F.length+1) 1<|mK L.length<|F++[xp L sel l]]:=by
 have hp:=zG W A L G fr;have HJ:=λm=>bz (m:=m) _<|Af hp;refine oQ fZ zs zs ?_ zu;obtain⟨sd,oc⟩:∃sd:D,sd=.ax (jL W A L G fr):=⟨_,rfl⟩;have qh:aA [sd]:=by subst oc;exact⟨Af hp,trivial⟩
 rw[<-oc] at HJ⊢;refine sR ?_;refine⟨zo,zo,zo,?_⟩;rw[bO,show List.map D.sc [Value.bool false]=[ay false] from rfl,jS];refine sW ?_;rw[aI];refine bb [1,3,4,8,16,17] (λk:Nat=>[(18,aa k)]) (λk=>[(3,.vec true 0 1 (bF n (gy (l.take k))))]) (λk=>k<=l.length) (λk=>l.length-k) 0 ?_;refine dd ?_;rintro k hk;refine bf (λq0=>?_) λq0=>?_
 ·have q0:k<l.length:=sO;have hx:=cZ EK<|df q0;have e:=Z3 EK q0;refine sL (bV (l:=l) (k:=k) zo q0) ?_;generalize l.getD k 0=x at *;refine sB ?_;refine⟨_,bc x.toNat zo zo,?_⟩;refine aQ ?_;refine⟨k+1,zo,zd,aC (by exact sK) ?_⟩;rw[n8 (i:=x.toNat) (f':=gy<|l.take<|k+1) zo λv _=>e v];rfl
 have q0:k=l.length:=sO;subst q0;rw[dM];subst oc;unfold jL y9;refine sW ?_;rw[Jy];refine⟨zo,zo,zo,?_⟩;rw[bO,show List.map D.sc [Value.bool false]=[ay false] from rfl,jS];refine sW ?_;rw[Jy];refine bb [1,4,8,11,35,36] (λk:Nat=>[(37,aa k)]) (λk=>[(4,.vec true 0 1<|bF L.length λv=>decide (v<k)&&xp L sel l v)]) (λk=>k<=L.length) (λk=>L.length-k) 0 ?_;refine sW ?_;refine⟨zo,by exact sK,by rw[show(λv=>decide (v<0)&&xp L sel l v)=λ_=>false from funext λv=>zs];rfl,?_⟩;rintro k hk;refine bf (λq0=>?_) λq0=>?_
 ·have q0:k<L.length:=sO;have Ms:=E2 _<|KW q0;have hii:=aY _<|KW q0;have eS:xp L sel l k=gy l (sel<|L.getD k (0,0)).toNat:=rfl;refine sL (HP (k:=k) zo q0) ?_;generalize L.getD k (0,0)=p at *;refine sC Ms ?_;generalize sel p=x at *;refine sB ?_;refine⟨_,bc x.toNat zo zo,?_⟩;refine bC ?_;refine⟨_,bc k zo q0,?_⟩;refine aQ ?_;refine⟨k+1,zo,zd,?_⟩;rw[n8 (i:=k) (f':=λv=>decide (v<k+1)&&xp L sel l v) zo λv _=>by
   by_cases e:v=k
   ·subst e;rw[ae rfl,<-eS];simp
   rw[ab e];by_cases e2:v<k
   ·rw[gQ e2,gQ<|show v<k+1 by omega]
   rw[gI e2,gI<|show ¬v<k+1 by omega]]
  exact aL 5 zs rfl sG sG
 have q0:k=L.length:=sO;subst q0;refine sJ ?_;refine⟨.refl _,⟨rfl,.refl _,HJ _,trivial⟩,⟨rfl,.refl _,zu⟩,⟨rfl,rfl,rfl,?_,bm _<|Eg _ _⟩,trivial⟩;rw[show mK L.length (F++[xp L sel l])=mK L.length F++[[bx L.length<|xp L sel l]] by simp[mK]];exact .append _ _ _ _ (aV<|cB zs) (.cons _ _ _ _ (.cons _ _ _ _ (.own _ _ _ _ _ _ _ _ rfl rfl (aV<|by rw[cB zs];exact iI λv hv=>by rw[gQ hv];simp)) (.refl _)) (.refl _))
variable(p:Pr)
theorem zwH:ao aj 291 [.agg<|pP p.1 p.2]<|aa p.1:=by
 refine dh fZ zs (by simp[aA,Pure,pP]) ?_ zp;unfold pP;refine sR ?_;exact .refl _
theorem zuK:ao aj 292 [.agg<|pP p.1 p.2]<|aa p.2:=by
 refine dh fZ zs (by simp[aA,Pure,pP]) ?_ zp;unfold pP;refine sR ?_;exact .refl _
def my(L:List Pr)(sel:Pr->Int)(G:ak)(k:Nat):List aq:=(G.take k).map<|xp L sel
variable{sel:Pr->Int}{G:ak}
theorem Y0(h:k<G.length):my L sel G (k+1)=my L sel G k++[xp L sel<|G.getD k []]:=by
 unfold my;rw[jP,aX h,oD,a8,aX h];rfl
theorem As(h:k<=G.length):(my L sel G k).length=k:=by simp[my];omega
def jZ(W:bg)(A:bT)(L:List Pr):List aq:=my L (·.1) W.fair W.fair.length++my L (·.2) A.fair A.fair.length
theorem zy3{W:bg}{A:bT}(ka:xY W A)(L:List Pr)(hL:L.length<=2000000)(hg:∀p∈L,iC W A p)(G:ak)(fr:ah):ao aj 219 [.ax<|jL W A L G fr]<|rV L.length<|jZ W A L:=by
 have hp:=zG W A L G fr;obtain⟨w1,w2,w3,w4,w5,w6⟩:=uw W ka.cw;obtain⟨a1,a2,a3,a4,a5,a6,a7⟩:=xE A ka.ca;have iL:=λk (hk:k<W.fair.length) F (hF:F.length<=1000)=>U9 W A L hL G fr 291 (·.1) W.next.length zo (λp _=>zwH p) (λp hp=>(hg p hp).1) (W.fair.getD k []) (xA ka.fw.xM k) (ft w6 k) F hF;have Xi:=λk (hk:k<A.fair.length) F (hF:F.length<=1000)=>U9 W A L hL G fr 292 (·.2) A.next.length zo (λp _=>zuK p) (λp hp=>(hg p hp).2) (A.fair.getD k []) (xA ka.fa.xM k) (ft a7 k) F hF;refine dh fZ zs (by simp[aA,Af hp]) ?_ (Hs _ _);have HJ:=λm=>bz (m:=m) _ (Af hp);obtain⟨sd,oc⟩:∃sd:bj,sd=jL W A L G fr:=⟨_,rfl⟩;rw[<-oc] at hp HJ iL Xi⊢;refine sR ?_;subst oc;unfold jL;refine sW ?_;rw[aI];refine bQ (gG 1 0 1 zs rfl rfl) ?_;refine cq [1,3,4,14,15] (λk:Nat=>[(16,aa k)]) (λk=>[.row true [.ax (jL W A L G fr)],.row true [.own 2 (my L (·.1) W.fair k).length 0 (my L (·.1) W.fair k).length],.vec true (my L (·.1) W.fair k).length 1 (mK L.length (my L (·.1) W.fair k))]) (λk=>k<=W.fair.length) (λk=>W.fair.length-k) 0 ?_;refine dd ?_;rintro k hk;have eL:=As (L:=L) (sel:=(·.1)) hk;refine bf (λq0=>?_) λq0=>?_
 ·have q0:k<W.fair.length:=sO;have hP:=iL k q0 (my L (·.1) W.fair k) zo;have eS:=Y0 (L:=L) (sel:=(·.1)) q0;refine⟨zo,_,eV (g:=W.fair) (k:=k) zo q0,?_⟩;rw[<-eS] at hP;refine sW ?_;rw[aI];unfold jL at hP;refine sA hP ?_;refine sI ?_;refine⟨k+1,zo,zd,?_⟩;have eL2:=As (L:=L) (sel:=(·.1)) (k:=k+1) (show k+1<=W.fair.length by omega);dsimp only;rw[eL2,eL];exact aL 3 zs rfl sG sG
 have q0:k=W.fair.length:=sO;subst q0;generalize IZ:my L (·.1) W.fair W.fair.length=F0 at *;refine sW ?_;rw[aI];refine cq [1,3,4,34,35] (λk:Nat=>[(36,aa k)]) (λk=>[.row true [.ax<|jL W A L G fr],.row true [.own 2 (F0++my L (·.2) A.fair k).length 0 (F0++my L (·.2) A.fair k).length],.vec true (F0++my L (·.2) A.fair k).length 1 (mK L.length (F0++my L (·.2) A.fair k))]) (λk=>k<=A.fair.length) (λk=>A.fair.length-k) 0 ?_;refine sW ?_;refine⟨zo,by exact sK,by simp[my],?_⟩;rintro k hk;have Px:=As (L:=L) (sel:=(·.2)) hk;refine bf (λq0=>?_) λq0=>?_
 ·have q0:k<A.fair.length:=sO;have hP:=Xi k q0 (F0++my L (·.2) A.fair k) (by rw[cL];omega);have eS:=Y0 (L:=L) (sel:=(·.2)) q0;refine⟨zo,_,eV (g:=A.fair) (k:=k) zo q0,?_⟩;rw[ig,<-eS] at hP;refine sW ?_;rw[aI];unfold jL at hP;refine sA hP ?_;refine sI ?_;refine⟨k+1,zo,zd,?_⟩;have eL2:(F0++my L (·.2) A.fair (k+1)).length=(F0++my L (·.2) A.fair k).length+1:=(by rw[cL,cL,As zo,Px];rfl);dsimp only;rw[eL2];exact aL 3 zs rfl sG sG
 have q0:k=A.fair.length:=sO;subst q0;unfold jZ;rw[IZ];exact .own _ _ _ _ _ _ _ _ rfl (by rw[cB zs];exact gw _)
end
section
noncomputable def ox(g:ak)(F:List aq)(k:Nat):Nat->Bool:=λi=>okT g g.length i&&(F.take k).all λS=>qq g S g.length i
theorem zpW{g:ak}(h:k<F.length)(i:Nat):ox g F (k+1) i=(ox g F k i&&qq g (F.getD k noT) g.length i):=by
 unfold ox;rw[Ze h noT,Bool.and_assoc]
theorem zuQ{g:ak}:ox g F F.length=pF g F:=by
 funext i;unfold ox pF;rw[dM]
theorem zyW(x:Int)(hx:0<=x/\x<(g.length:Int))(n:Nat)(hn:n<g.length):ao aj 293 [aa x,.ax [aF<|nT g],.ax [aa n]]<|ay<|bJ g x.toNat==bJ g n:=by
 refine bS fZ ?_;unfold nT aF;refine sR ?_;refine sL (bX x.toNat zo zo) ?_;refine sL (bX n zo hn) ?_;exact .refl _
theorem zzn(W:bg)(A:bT)(L:List Pr)(g:ak)(u5:g.length=L.length)(fr:ah)(hn:g.length<=2000000)(iM:∀l∈g,bq l g.length)(hF:iu g)(F:List aq)(sF:F.length<=1000) :
  ao aj 220 [.ax<|jL W A L g fr,aF<|nT g,rV g.length F] (aa<|dN (λb=>true==b)<|(List.range g.length).map<|pF g F):=by
 have cR:=λk=>ft iM k;have hp:=zG W A L g fr;have hc:=λk (hk:k<g.length)=>mh (λn=>aa n) (λa=>by simp[Pure]) (g.getD k []) (by have:=hF.at k;omega) (λx=>bJ g x.toNat==bJ g k) 293 [.ax [aF<|nT g],.ax [aa k]] zp λa ha=>zyW g a (cZ (cR k) ha) k hk;have hI:=N8 ((List.range g.length).map<|pF g F) zq true;refine dh fZ zs (by simp[aA,Pure,cX,hp,Hs]) ?_ zp;unfold jL y9 rV bN;refine sR ?_;rw[Jy,<-u5];refine⟨zo,zo,zo,?_⟩;rw[bO,show List.map D.sc [Value.bool false]=[ay false] from rfl,jS];refine sW ?_;rw[aI];refine bb [0,2,4,7,25,26] (λk:Nat=>[(27,aa k)]) (λk=>[(1,.vec true 0 1<|bF g.length<|okT g k)]) (λk=>k<=g.length) (λk=>g.length-k) 0 ?_;refine dd ?_;rintro k hk;refine bf (λq0=>?_) λq0=>?_
 ·have q0:k<g.length:=sO;have jC:=wZ q0;have e1:=Y6 g k;refine sL (eV (k:=k) zo q0) ?_;refine sN (hc k q0) ?_;rw[show((g.getD k []).any λx=>bJ g x.toNat==bJ g k)=Ag g k from rfl];cases r:Ag g k
  ·refine aQ ?_;refine⟨k+1,zo,zd,?_⟩;refine aL 2 zs rfl sG (sZ ?_);exact aV<|iI λi _=>by rw[e1,r,Bool.and_false,wM]
  refine sW ?_;refine sL (bX k zo q0) ?_;refine sB ?_;refine⟨_,bc (bJ g k).toNat zo zo,?_⟩;refine aQ ?_;refine⟨k+1,zo,zd,?_⟩;rw[n8 (i:=(bJ g k).toNat) (f':=okT g<|k+1) zo λv _=>by
   rw[e1,r,Bool.and_true];by_cases e:v=(bJ g k).toNat
   ·rw[ae e,show(bJ g k==(v:Int))=true by rw[ib];omega,Bool.or_true]
   rw[ab e,show(bJ g k==(v:Int))=false by rw[beq_eq_false_iff_ne];omega,wM]]
  exact aL 2 zs rfl sG sG
 have q0:k=g.length:=sO;subst q0;clear hc;rw[aI];refine bb [0,4,7,42,43] (λk:Nat=>[(44,aa k)]) (λk=>[(1,.vec true 0 1<|bF g.length<|ox g F k)]) (λk=>k<=F.length) (λk=>F.length-k) 0 ?_;refine sW ?_;refine⟨zo,by exact sK,by rw[show ox g F 0=okT g g.length from funext λi=>by simp[ox]];rfl,?_⟩;rintro k hk;refine bf (λq0=>?_) λq0=>?_
 ·have q0:k<F.length:=sO;have eG:=λi=>zpW (g:=g) q0 i;refine sL (Ie (n:=g.length) (F:=F) (k:=k) zo q0) ?_;generalize F.getD k noT=S at *;rw[Jy,<-u5];refine⟨zo,zo,zo,?_⟩;rw[bO,show List.map D.sc [Value.bool false]=[ay false] from rfl,jS];refine sW ?_;rw[Ep];refine bb [0,4,7,12,42,43,44,54,55] (λj:Nat=>[(56,aa j)]) (λj=>[(2,.vec true 0 1<|bF g.length<|qq g S j)]) (λj=>j<=g.length) (λj=>g.length-j) 0 ?_;refine sW ?_;refine⟨zo,by exact sK,by rw[show qq g S 0=λ_=>false from funext λi=>rfl];rfl,?_⟩;rintro j hj;refine bf (λq2=>?_) λq2=>?_
  ·have q2:j<g.length:=sO;have eH:=λi=>zsz g S j i;have hpj:=wZ (g:=g) q2;refine sL (bc j zo q2) ?_;refine sL (bX j zo q2) ?_;refine sL (bX j zo q2) ?_;refine sB ?_;refine⟨_,bc (bJ g j).toNat zo zo,?_⟩;refine sW ?_
   have fin:∀v,(v=true↔qq g S j (bJ g j).toNat\/S j)->(bF g.length<|qq g S j).set (bJ g j).toNat [ay v]=bF g.length (qq g S<|j+1):=λv hv =>
    n8 rfl λq _=>by
     rw[eH];by_cases e:q=(bJ g j).toNat
     ·subst e;rw[ae rfl,show(bJ g j==(((bJ g j).toNat:Nat):Int))=true by rw[ib];omega,kP,j9,sq,hv]
     rw[ab e,show(bJ g j==(q:Int))=false by rw[beq_eq_false_iff_ne];omega,pT,wM]
   cases r:qq g S j (bJ g j).toNat
   ·refine bC ?_;refine⟨_,bc (bJ g j).toNat zo zo,?_⟩;refine aQ ?_;refine⟨j+1,zo,zd,aC (by exact sK) ?_⟩;have:=fin (S j) (by rw[r];simp);rw[lp,this];rfl
   refine bC ?_;refine⟨_,bc (bJ g j).toNat zo zo,?_⟩;refine aQ ?_;refine⟨j+1,zo,zd,aC (by exact sK) ?_⟩;have:=fin true (by rw[r];simp);rw[lp,this];rfl
  have q2:j=g.length:=sO;rw[q2];clear q2;refine bb [0,4,7,12,42,43,44,79] (λi:Nat=>[(80,aa i)]) (λi=>[(1,.vec true 0 1<|bF g.length λx=>if x<i then ox g F (k+1) x else ox g F k x)]) (λi=>i<=g.length) (λi=>g.length-i) 0 ?_;refine sW ?_;refine⟨zo,by exact sK,by simp;rfl,?_⟩;rintro i hi;refine bf (λq3=>?_) λq3=>?_
  ·have q3:i<g.length:=sO
   have fin:(bF g.length λx=>if x<i then ox g F (k+1) x else ox g F k x).set i [ay<|ox g F (k+1) i]=bF g.length λx=>if x<i+1 then ox g F (k+1) x else ox g F k x :=
    n8 rfl λq _=>by
     by_cases e:q=i
     ·subst e;rw[ae zo,ae rfl]
     rw[ab e];by_cases e2:q<i
     ·rw[ae e2,ae zo]
     rw[ab e2,ab zo]
   have eGi:=eG i;have fS:(bF g.length λx=>if x<i then ox g F (k+1) x else ox g F k x)[i]? = some [ay<|ox g F k i]:=by
    rw[bc i rfl q3,ab zo]
   refine sB ?_;refine⟨_,by rw[lp];exact fS,?_⟩;refine sW ?_;cases r:ox g F k i
   ·rw[r,pT] at eGi;rw[eGi] at fin;refine bC ?_;refine⟨_,by rw[lp];exact fS,?_⟩;refine aQ ?_;refine⟨i+1,zo,zd,aC (by exact sK) ?_⟩;rw[lp,show(i:Int).toNat=i from bO i,fin];rfl
   rw[r,kP] at eGi;rw[eGi] at fin;refine bC ?_;refine⟨_,bc i zo q3,?_⟩;refine bC ?_;refine⟨_,by rw[lp];exact fS,?_⟩;refine aQ ?_;refine⟨i+1,zo,zd,aC (by exact sK) ?_⟩;rw[lp,show(i:Int).toNat=i from bO i,fin];rfl
  have q3:i=g.length:=sO;subst q3;refine sI ?_;refine⟨k+1,zo,zd,?_⟩;dsimp only;refine aL 2 zs rfl sG (sZ ?_);exact aV<|iI λv hv=>by rw[ae hv]
 have q0:k=F.length:=sO;subst q0;rw[zuQ];rw[show((List.range g.length).map<|pF g F).map (λa=>[ay a])=List.drop 0 (List.take g.length<|bF g.length<|pF g F) by rw[Cv,NR]] at hI;refine sN hI ?_;exact .refl _
end
end Go.Proofs.YtmajadpcpohneaaGreatDoor
