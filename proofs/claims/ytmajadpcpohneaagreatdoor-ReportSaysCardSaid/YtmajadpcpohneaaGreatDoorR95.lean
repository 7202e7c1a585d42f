import Derived.Test.YtmajadpcpohneaaGreatDoorR94
namespace Go.Proofs.YtmajadpcpohneaaGreatDoor
set_option linter.unusedSimpArgs false
set_option linter.unusedVariables false
set_option maxRecDepth 100000
set_option maxHeartbeats 8000000
set_option linter.unusedSectionVars false
open Go.RowKit
def mr(n:Int):Tree:=cx 3 n
def dD(A:ah):List Tree:=A.map mr
variable(A:ah)
@[simp] theorem SN:(dD A).length=A.length:=aI ..
noncomputable def elE(f:Tree):List Tree:=dD (nQ<|dB f)++b6 [] (partsOf f)
theorem Wl{t:Tree}(hw:t.wf bw)(h3:t.kind=3):t=mr t.num:=by
 have tX:=tT ((jD _ _).1 hw).1;have h0:t.width=0:=zo
 cases t with
 |node k n ks =>
  have:ks=[]:=pM.1 h0;subst this;have h3:k=3:=h3;subst h3;rfl
def c8(Q:List Tree)(P:List Tree):aE:=[.row true [.own 3 Q.length 0 Q.length],.row true [.own 4 P.length 0 P.length],.row true [.fn (.func 233) [] [.loc 0 0,.loc 1 0,.loc 2 0]],.vec true Q.length 3<|b8 Q,.vec true P.length 3<|b8 P]
variable{Q P:List Tree}{m:Nat}
theorem yS(hm:5<=m):∀o∈c8 Q P,o.under m:=by
 intro o ho;simp only[c8,eQ,uH,or_false] at ho;rcases ho with rfl|rfl|rfl|rfl|rfl<;>simp[al.under,aG,aK]<;>omega
theorem yB(hm:5<=m):dX m<|c8 Q P:=by
 have:=yS (Q:=Q) (P:=P) hm;unfold c8 at *;exact⟨this _ zs,this _ zs,this _ zs,this _ zs,this _ zs,trivial⟩
variable{H:aE}
theorem Rl{S:aq}(l:List Tree)(n:Int):kc S H (List.drop 0 (List.take l.length<|b8 l)++List.drop 0 (List.take 1 [[aa 3,aa n,au]]))<|b8<|l++[mr n]:=by
 rw[cB zs,show b8 (l++[mr n])=b8 l++[[aa 3,aa n,D.aM 3 []]] by simp[b8,mr,cx,aO];exact⟨rfl,rfl,rfl⟩];exact Ow (.cons _ _ _ _ (.refl _) (.cons _ _ _ _ (.refl _) (.cons _ _ _ _ (.none _) (.refl _)))) _
variable(f:Tree)
theorem QK(hf:Small f)(g:Tree):ao aj 235 [ba g,.ax<|aO f]<|ay<|dI f g:=by
 refine bt ?_;refine sC (QC f g hf) ?_;exact .refl _
theorem ZW(g:Tree)(n:Int):ao aj 236 [ba g,.ax [aa n]]<|ay<|g.num==n:=by
 refine bt ?_;exact .refl _
def zCG(t:Tree):Prop:=∀(Q P:List Tree),Q.length+(dB t).length<=1000->P.length+(partsOf t).length<=1000 ->
  bZ aj 233 [ba t,.loc 0 0,.loc 1 0,.loc 2 0] (c8 Q P) (.aJ []) (c8 (Q++dD (dB t))<|b6 P<|partsOf t)
theorem yn(A B:ah):dD A++dD B=dD (A++B):=by simp[dD]
theorem zyF:∀t:Tree,t.wf bw->zCG t:=by
 intro t
 induction t using Tree.ind with
 |h t ih =>
  intro cy Q P hA hP;have hs:=vl t cy;have eJ:=hs.width;have tX:=tT ((jD _ _).1 cy).1;refine oQ fZ zs (by simp[c8]) ?_ trivial;have eA:=Ic t;have eP:=I0 t;unfold c8;refine sRS (λk3=>?_) λk3=>?_
  ·have k3:t.kind=3:=(by simpa using k3);rw[ae k3] at eA;rw[ab zo] at eP;rw[eA,cL,lb] at hA;refine sJ ?_;refine sB ?_;refine⟨_,Bo Q _,?_⟩;refine sW ?_;refine bQ (aL 7 (env':=[(3,.loc 2 0),(4,.loc 5 0),(5,aa 0)]) (H':=[.row true [.own 3 (Q.length+1) 0<|Q.length+1],.row true [.own 4 P.length 0 P.length],.row true [.fn (.func 233) [] [.loc 0 0,.loc 1 0,.loc 2 0]],.vec true (Q.length+1) 3<|b8<|Q++[t],.vec true P.length 3<|b8 P,.row true<|aO t,.vec true 0 3 [[aa 0,aa 0,au]]]) zs rfl ?_ ?_) ?_
   ·exact sQ
   ·(repeat' (first|exact trivial|exact rfl|exact .refl _|refine And.intro ?_ ?_|(simp[aK,aG,bB,-List.map_take,-List.map_drop];done)))
    all_goals first|exact bI _ (eU _)|exact aV (BI Q t _)|skip
   rw[show Q.length+1=(Q++[t]).length by simp,show Q++[t]=Q++dD [t.num] by rw[show dD [t.num]=[mr t.num] from rfl,<-Wl cy k3]];have lA:Q.length+1+(cp t.kids).length<=1000:=zo;have lP:P.length+(bU t.kids).length<=1000:=(by rw[eP,nG] at hP;exact hP);rw[eA,eP,<-yn,nG,<-ig];have lQ1:(Q++dD [t.num]).length<=Q.length+1:=zs;generalize Q++dD [t.num]=Q1 at *;refine cq [3,4] (λk:Nat=>[(5,aa k)]) (λk=>c8 (Q1++dD (cp<|t.kids.take k)) (b6 P<|bU<|t.kids.take k)++[.row true<|aO t,.vec true 0 3 [[aa 0,aa 0,au]]]) (λk=>k<=t.width) (λk=>t.width-k) 0 ?_;refine sW ?_;refine⟨zo,by exact sK,by simp[c8,dD,cp,bU,b6],?_⟩;rintro k hk;have lpk:=nL (bU<|t.kids.take k) P;unfold c8;refine bf (λq0=>?_) λq0=>?_
   ·have q0:k<t.width:=(by simpa [Tree.width] using q0);refine sL (db q0) ?_;obtain⟨eA2,eP2,tA,tP⟩:=pt q0;have hG:=nk (ih k q0 (gB cy q0) (Q1++dD (cp<|t.kids.take k)) (b6 P<|bU<|t.kids.take k) zq zo) [.row true<|aO t,.vec true 0 3 [[aa 0,aa 0,au]]] (by simp[c8]) (by simp[c8,aG,aK,bz _<|im _])<|yB (by simp[c8]);rw[ig,yn,<-jN,<-eA2,<-eP2] at hG;unfold c8 at hG
    (refine .inr (.inr (.inr (.inl ⟨_,_,by simp[aG,bB,dX,al.under,aK],by simp[aG,bB,dX,al.under,aK],hG,?_⟩)));((conv=>whnf);repeat(refine⟨rfl,?_⟩;conv=>whnf)))
    refine sI ?_;refine⟨k+1,zo,zd,?_⟩;dsimp only;exact aL 7 zs rfl sG sG
   have q0:k=t.width:=(by have:¬k<t.width:=(by simpa [Tree.width] using q0);omega);subst q0;rw[show t.kids.take t.width=t.kids from dM];exact⟨.refl _,lB _ _<|yS<|aS _⟩
  have k3:¬t.kind=3:=(by simpa using k3);rw[ab k3,nG] at eA;rw[eA] at hA;have lA:Q.length+(cp t.kids).length<=1000:=hA;have lQ1:Q.length<=Q.length:=aS _;refine sS (λk7=>?_) λk7=>?_
  ·have k7:t.kind=7\/t.kind=8\/t.kind=9:=.inl (by simpa using k7);rw[ae k7] at eP;rw[eP,cL,lb] at hP;refine sN (Kq P zo (dI t) 235 [.ax<|aO t] zp λa _=>QK t hs a) ?_;cases r:P.any (dI t)
   ·have iL:b6 P [t]=P++[t]:=(by rw[rG,ab<|by rw[r];decide]);refine sWJ ?_;refine sB ?_;refine⟨_,Bo P _,?_⟩;refine sW ?_;refine bQ (aL 7 (env':=[(3,.loc 2 0),(4,.loc 5 0),(5,aa 0)]) (H':=[.row true [.own 3 Q.length 0 Q.length],.row true [.own 4 (P.length+1) 0<|P.length+1],.row true [.fn (.func 233) [] [.loc 0 0,.loc 1 0,.loc 2 0]],.vec true Q.length 3<|b8 Q,.vec true (P.length+1) 3<|b8<|P++[t],.row true<|aO t,.vec true 0 3 [[aa 0,aa 0,au]]]) zs rfl ?_ ?_) ?_
    ·exact sQ
    ·(repeat' (first|exact trivial|exact rfl|exact .refl _|refine And.intro ?_ ?_|(simp[aK,aG,bB,-List.map_take,-List.map_drop];done)))
     all_goals first|exact bI _ (eU _)|exact aV (BI P t _)|skip
    rw[show P.length+1=(P++[t]).length by simp,<-iL];have lP:P.length+1+(bU t.kids).length<=1000:=zo;have lP1:(b6 P [t]).length<=P.length+1:=(by rw[iL];simp);rw[eA,eP,jN];generalize b6 P [t]=P1 at *;refine cq [3,4] (λk:Nat=>[(5,aa k)]) (λk=>c8 (Q++dD (cp<|t.kids.take k)) (b6 P1<|bU<|t.kids.take k)++[.row true<|aO t,.vec true 0 3 [[aa 0,aa 0,au]]]) (λk=>k<=t.width) (λk=>t.width-k) 0 ?_;refine sW ?_;refine⟨zo,by exact sK,by simp[c8,dD,cp,bU,b6],?_⟩;rintro k hk;have lpk:=nL (bU<|t.kids.take k) P1;unfold c8;refine bf (λq0=>?_) λq0=>?_
    ·have q0:k<t.width:=(by simpa [Tree.width] using q0);refine sL (db q0) ?_;obtain⟨eA2,eP2,tA,tP⟩:=pt q0;have hG:=nk (ih k q0 (gB cy q0) (Q++dD (cp<|t.kids.take k)) (b6 P1<|bU<|t.kids.take k) zq zo) [.row true<|aO t,.vec true 0 3 [[aa 0,aa 0,au]]] (by simp[c8]) (by simp[c8,aG,aK,bz _<|im _])<|yB (by simp[c8]);rw[ig,yn,<-jN,<-eA2,<-eP2] at hG;unfold c8 at hG
     (refine .inr (.inr (.inr (.inl ⟨_,_,by simp[aG,bB,dX,al.under,aK],by simp[aG,bB,dX,al.under,aK],hG,?_⟩)));((conv=>whnf);repeat(refine⟨rfl,?_⟩;conv=>whnf)))
     refine sI ?_;refine⟨k+1,zo,zd,?_⟩;dsimp only;exact aL 7 zs rfl sG sG
    have q0:k=t.width:=(by have:¬k<t.width:=(by simpa [Tree.width] using q0);omega);subst q0;rw[show t.kids.take t.width=t.kids from dM];exact⟨.refl _,lB _ _<|yS<|aS _⟩
   have iL:b6 P [t]=P:=(by rw[rG,ae r]);refine sW ?_;have lP:P.length+(bU t.kids).length<=1000:=zo;rw[eA,eP,jN,iL];refine cq [3,4] (λk:Nat=>[(5,aa k)]) (λk=>c8 (Q++dD (cp<|t.kids.take k)) (b6 P<|bU<|t.kids.take k)++[.row true<|aO t]) (λk=>k<=t.width) (λk=>t.width-k) 0 ?_;refine sW ?_;refine⟨zo,by exact sK,by simp[c8,dD,cp,bU,b6],?_⟩;rintro k hk;have lpk:=nL (bU<|t.kids.take k) P;unfold c8;refine bf (λq0=>?_) λq0=>?_
   ·have q0:k<t.width:=(by simpa [Tree.width] using q0);refine sL (db q0) ?_;obtain⟨eA2,eP2,tA,tP⟩:=pt q0;have hG:=nk (ih k q0 (gB cy q0) (Q++dD (cp<|t.kids.take k)) (b6 P<|bU<|t.kids.take k) zq zo) [.row true<|aO t] (by simp[c8]) (by simp[c8,aG,aK,bz _<|im _])<|yB (by simp[c8]);rw[ig,yn,<-jN,<-eA2,<-eP2] at hG;unfold c8 at hG
    (refine .inr (.inr (.inr (.inl ⟨_,_,by simp[aG,bB,dX,al.under,aK],by simp[aG,bB,dX,al.under,aK],hG,?_⟩)));((conv=>whnf);repeat(refine⟨rfl,?_⟩;conv=>whnf)))
    refine sI ?_;refine⟨k+1,zo,zd,?_⟩;dsimp only;exact aL 6 zs rfl sG sG
   have q0:k=t.width:=(by have:¬k<t.width:=(by simpa [Tree.width] using q0);omega);subst q0;rw[show t.kids.take t.width=t.kids from dM];exact⟨.refl _,lB _ _<|yS<|aS _⟩
  refine sS (λk8=>?_) λk8=>?_
  ·have k7:t.kind=7\/t.kind=8\/t.kind=9:=.inr (.inl<|by simpa using k8);rw[ae k7] at eP;rw[eP,cL,lb] at hP;refine sN (Kq P zo (dI t) 235 [.ax<|aO t] zp λa _=>QK t hs a) ?_;cases r:P.any (dI t)
   ·have iL:b6 P [t]=P++[t]:=(by rw[rG,ab<|by rw[r];decide]);refine sWJ ?_;refine sB ?_;refine⟨_,Bo P _,?_⟩;refine sW ?_;refine bQ (aL 7 (env':=[(3,.loc 2 0),(4,.loc 5 0),(5,aa 0)]) (H':=[.row true [.own 3 Q.length 0 Q.length],.row true [.own 4 (P.length+1) 0<|P.length+1],.row true [.fn (.func 233) [] [.loc 0 0,.loc 1 0,.loc 2 0]],.vec true Q.length 3<|b8 Q,.vec true (P.length+1) 3<|b8<|P++[t],.row true<|aO t,.vec true 0 3 [[aa 0,aa 0,au]]]) zs rfl ?_ ?_) ?_
    ·exact sQ
    ·(repeat' (first|exact trivial|exact rfl|exact .refl _|refine And.intro ?_ ?_|(simp[aK,aG,bB,-List.map_take,-List.map_drop];done)))
     all_goals first|exact bI _ (eU _)|exact aV (BI P t _)|skip
    rw[show P.length+1=(P++[t]).length by simp,<-iL];have lP:P.length+1+(bU t.kids).length<=1000:=zo;have lP1:(b6 P [t]).length<=P.length+1:=(by rw[iL];simp);rw[eA,eP,jN];generalize b6 P [t]=P1 at *;refine cq [3,4] (λk:Nat=>[(5,aa k)]) (λk=>c8 (Q++dD (cp<|t.kids.take k)) (b6 P1<|bU<|t.kids.take k)++[.row true<|aO t,.vec true 0 3 [[aa 0,aa 0,au]]]) (λk=>k<=t.width) (λk=>t.width-k) 0 ?_;refine sW ?_;refine⟨zo,by exact sK,by simp[c8,dD,cp,bU,b6],?_⟩;rintro k hk;have lpk:=nL (bU<|t.kids.take k) P1;unfold c8;refine bf (λq0=>?_) λq0=>?_
    ·have q0:k<t.width:=(by simpa [Tree.width] using q0);refine sL (db q0) ?_;obtain⟨eA2,eP2,tA,tP⟩:=pt q0;have hG:=nk (ih k q0 (gB cy q0) (Q++dD (cp<|t.kids.take k)) (b6 P1<|bU<|t.kids.take k) zq zo) [.row true<|aO t,.vec true 0 3 [[aa 0,aa 0,au]]] (by simp[c8]) (by simp[c8,aG,aK,bz _<|im _])<|yB (by simp[c8]);rw[ig,yn,<-jN,<-eA2,<-eP2] at hG;unfold c8 at hG
     (refine .inr (.inr (.inr (.inl ⟨_,_,by simp[aG,bB,dX,al.under,aK],by simp[aG,bB,dX,al.under,aK],hG,?_⟩)));((conv=>whnf);repeat(refine⟨rfl,?_⟩;conv=>whnf)))
     refine sI ?_;refine⟨k+1,zo,zd,?_⟩;dsimp only;exact aL 7 zs rfl sG sG
    have q0:k=t.width:=(by have:¬k<t.width:=(by simpa [Tree.width] using q0);omega);subst q0;rw[show t.kids.take t.width=t.kids from dM];exact⟨.refl _,lB _ _<|yS<|aS _⟩
   have iL:b6 P [t]=P:=(by rw[rG,ae r]);refine sW ?_;have lP:P.length+(bU t.kids).length<=1000:=zo;rw[eA,eP,jN,iL];refine cq [3,4] (λk:Nat=>[(5,aa k)]) (λk=>c8 (Q++dD (cp<|t.kids.take k)) (b6 P<|bU<|t.kids.take k)++[.row true<|aO t]) (λk=>k<=t.width) (λk=>t.width-k) 0 ?_;refine sW ?_;refine⟨zo,by exact sK,by simp[c8,dD,cp,bU,b6],?_⟩;rintro k hk;have lpk:=nL (bU<|t.kids.take k) P;unfold c8;refine bf (λq0=>?_) λq0=>?_
   ·have q0:k<t.width:=(by simpa [Tree.width] using q0);refine sL (db q0) ?_;obtain⟨eA2,eP2,tA,tP⟩:=pt q0;have hG:=nk (ih k q0 (gB cy q0) (Q++dD (cp<|t.kids.take k)) (b6 P<|bU<|t.kids.take k) zq zo) [.row true<|aO t] (by simp[c8]) (by simp[c8,aG,aK,bz _<|im _])<|yB (by simp[c8]);rw[ig,yn,<-jN,<-eA2,<-eP2] at hG;unfold c8 at hG
    (refine .inr (.inr (.inr (.inl ⟨_,_,by simp[aG,bB,dX,al.under,aK],by simp[aG,bB,dX,al.under,aK],hG,?_⟩)));((conv=>whnf);repeat(refine⟨rfl,?_⟩;conv=>whnf)))
    refine sI ?_;refine⟨k+1,zo,zd,?_⟩;dsimp only;exact aL 6 zs rfl sG sG
   have q0:k=t.width:=(by have:¬k<t.width:=(by simpa [Tree.width] using q0);omega);subst q0;rw[show t.kids.take t.width=t.kids from dM];exact⟨.refl _,lB _ _<|yS<|aS _⟩
  refine sS (λk9=>?_) λk9=>?_
  ·have k7:t.kind=7\/t.kind=8\/t.kind=9:=.inr (.inr<|by simpa using k9);rw[ae k7] at eP;rw[eP,cL,lb] at hP;refine sN (Kq P zo (dI t) 235 [.ax<|aO t] zp λa _=>QK t hs a) ?_;cases r:P.any (dI t)
   ·have iL:b6 P [t]=P++[t]:=(by rw[rG,ab<|by rw[r];decide]);refine sWJ ?_;refine sB ?_;refine⟨_,Bo P _,?_⟩;refine sW ?_;refine bQ (aL 7 (env':=[(3,.loc 2 0),(4,.loc 5 0),(5,aa 0)]) (H':=[.row true [.own 3 Q.length 0 Q.length],.row true [.own 4 (P.length+1) 0<|P.length+1],.row true [.fn (.func 233) [] [.loc 0 0,.loc 1 0,.loc 2 0]],.vec true Q.length 3<|b8 Q,.vec true (P.length+1) 3<|b8<|P++[t],.row true<|aO t,.vec true 0 3 [[aa 0,aa 0,au]]]) zs rfl ?_ ?_) ?_
    ·exact sQ
    ·(repeat' (first|exact trivial|exact rfl|exact .refl _|refine And.intro ?_ ?_|(simp[aK,aG,bB,-List.map_take,-List.map_drop];done)))
     all_goals first|exact bI _ (eU _)|exact aV (BI P t _)|skip
    rw[show P.length+1=(P++[t]).length by simp,<-iL];have lP:P.length+1+(bU t.kids).length<=1000:=zo;have lP1:(b6 P [t]).length<=P.length+1:=(by rw[iL];simp);rw[eA,eP,jN];generalize b6 P [t]=P1 at *;refine cq [3,4] (λk:Nat=>[(5,aa k)]) (λk=>c8 (Q++dD (cp<|t.kids.take k)) (b6 P1<|bU<|t.kids.take k)++[.row true<|aO t,.vec true 0 3 [[aa 0,aa 0,au]]]) (λk=>k<=t.width) (λk=>t.width-k) 0 ?_;refine sW ?_;refine⟨zo,by exact sK,by simp[c8,dD,cp,bU,b6],?_⟩;rintro k hk;have lpk:=nL (bU<|t.kids.take k) P1;unfold c8;refine bf (λq0=>?_) λq0=>?_
    ·have q0:k<t.width:=(by simpa [Tree.width] using q0);refine sL (db q0) ?_;obtain⟨eA2,eP2,tA,tP⟩:=pt q0;have hG:=nk (ih k q0 (gB cy q0) (Q++dD (cp<|t.kids.take k)) (b6 P1<|bU<|t.kids.take k) zq zo) [.row true<|aO t,.vec true 0 3 [[aa 0,aa 0,au]]] (by simp[c8]) (by simp[c8,aG,aK,bz _<|im _])<|yB (by simp[c8]);rw[ig,yn,<-jN,<-eA2,<-eP2] at hG;unfold c8 at hG
     (refine .inr (.inr (.inr (.inl ⟨_,_,by simp[aG,bB,dX,al.under,aK],by simp[aG,bB,dX,al.under,aK],hG,?_⟩)));((conv=>whnf);repeat(refine⟨rfl,?_⟩;conv=>whnf)))
     refine sI ?_;refine⟨k+1,zo,zd,?_⟩;dsimp only;exact aL 7 zs rfl sG sG
    have q0:k=t.width:=(by have:¬k<t.width:=(by simpa [Tree.width] using q0);omega);subst q0;rw[show t.kids.take t.width=t.kids from dM];exact⟨.refl _,lB _ _<|yS<|aS _⟩
   have iL:b6 P [t]=P:=(by rw[rG,ae r]);refine sW ?_;have lP:P.length+(bU t.kids).length<=1000:=zo;rw[eA,eP,jN,iL];refine cq [3,4] (λk:Nat=>[(5,aa k)]) (λk=>c8 (Q++dD (cp<|t.kids.take k)) (b6 P<|bU<|t.kids.take k)++[.row true<|aO t]) (λk=>k<=t.width) (λk=>t.width-k) 0 ?_;refine sW ?_;refine⟨zo,by exact sK,by simp[c8,dD,cp,bU,b6],?_⟩;rintro k hk;have lpk:=nL (bU<|t.kids.take k) P;unfold c8;refine bf (λq0=>?_) λq0=>?_
   ·have q0:k<t.width:=(by simpa [Tree.width] using q0);refine sL (db q0) ?_;obtain⟨eA2,eP2,tA,tP⟩:=pt q0;have hG:=nk (ih k q0 (gB cy q0) (Q++dD (cp<|t.kids.take k)) (b6 P<|bU<|t.kids.take k) zq zo) [.row true<|aO t] (by simp[c8]) (by simp[c8,aG,aK,bz _<|im _])<|yB (by simp[c8]);rw[ig,yn,<-jN,<-eA2,<-eP2] at hG;unfold c8 at hG
    (refine .inr (.inr (.inr (.inl ⟨_,_,by simp[aG,bB,dX,al.under,aK],by simp[aG,bB,dX,al.under,aK],hG,?_⟩)));((conv=>whnf);repeat(refine⟨rfl,?_⟩;conv=>whnf)))
    refine sI ?_;refine⟨k+1,zo,zd,?_⟩;dsimp only;exact aL 6 zs rfl sG sG
   have q0:k=t.width:=(by have:¬k<t.width:=(by simpa [Tree.width] using q0);omega);subst q0;rw[show t.kids.take t.width=t.kids from dM];exact⟨.refl _,lB _ _<|yS<|aS _⟩
  have k7:¬(t.kind=7\/t.kind=8\/t.kind=9):=by
   simp only[beq_eq_false_iff_ne] at k7 k8 k9;omega
  rw[ab k7,nG] at eP;rw[eP] at hP;rw[eA,eP];have lP:P.length+(bU t.kids).length<=1000:=hP;refine cq [3,4] (λk:Nat=>[(5,aa k)]) (λk=>c8 (Q++dD (cp<|t.kids.take k)) (b6 P<|bU<|t.kids.take k)++[.row true<|aO t]) (λk=>k<=t.width) (λk=>t.width-k) 0 ?_;refine sW ?_;refine⟨zo,by exact sK,by simp[c8,dD,cp,bU,b6],?_⟩;rintro k hk;have lpk:=nL (bU<|t.kids.take k) P;unfold c8;refine bf (λq0=>?_) λq0=>?_
  ·have q0:k<t.width:=(by simpa [Tree.width] using q0);refine sL (db q0) ?_;obtain⟨eA2,eP2,tA,tP⟩:=pt q0;have hG:=nk (ih k q0 (gB cy q0) (Q++dD (cp<|t.kids.take k)) (b6 P<|bU<|t.kids.take k) zq zo) [.row true<|aO t] (by simp[c8]) (by simp[c8,aG,aK,bz _<|im _])<|yB (by simp[c8]);rw[ig,yn,<-jN,<-eA2,<-eP2] at hG;unfold c8 at hG
   (refine .inr (.inr (.inr (.inl ⟨_,_,by simp[aG,bB,dX,al.under,aK],by simp[aG,bB,dX,al.under,aK],hG,?_⟩)));((conv=>whnf);repeat(refine⟨rfl,?_⟩;conv=>whnf)))
   refine sI ?_;refine⟨k+1,zo,zd,?_⟩;dsimp only;exact aL 6 zs rfl sG sG
  have q0:k=t.width:=(by have:¬k<t.width:=(by simpa [Tree.width] using q0);omega);subst q0;rw[show t.kids.take t.width=t.kids from dM];exact⟨.refl _,lB _ _<|yS<|aS _⟩
def elK(f:Tree)(k:Nat):List Tree:=dD<|fb (λn=>(dB f).contains (n:Int)) k
theorem zwg(k:Nat):elK f (k+1)=if (dB f).contains (k:Int)=true then elK f k++[mr k] else elK f k:=by
 unfold elK;rw[AG];split<;>simp[dD]
theorem zy5(k:Nat):(elK f k).length<=k:=by rw[elK,SN];exact sb _ _
theorem Z1(n:Int):(dD A).any (λg=>g.num==n)=A.contains n:=by
 induction A with
 |nil=>rfl
 |cons a r ih =>
  rw[show dD (a::r)=mr a::dD r from rfl,List.any_cons,ih,List.contains_cons]
  congr 1
  rw[show(mr a).num=a from rfl,j9,ib,ib]
  grind
theorem zlV(hw:f.wf bw)(eJ:f.size<=60):ao aj 168 [ba f] (.aM 3<|b8<|elE f):=by
 have hla:=Qp f;have ug:=HI f;have DG:=nL (partsOf f) [];have hL:=zyF f hw [] [] zq zq;rw[nG] at hL;refine dh (fY [47,447]) zs zp ?_ (by simp only[Pure];exact fO _);refine sR ?_;refine bQ (kY (gG 1 0 3 zs rfl rfl)<|gG 2 0 3 zs rfl rfl) ?_;refine sR ?_;have hE:elE f=elK f 64++b6 [] (partsOf f):=rfl;have hK:=zwg f;have Fp:=zy5 f;have we:=Z1<|dB f;have hlT:(dD<|dB f).length<=60:=by simp;omega
 have hCo:=λn:Nat=>Kq (dD<|dB f) zo (λg=>g.num==(n:Int)) 236 [.ax [aa n]] zp λa _=>ZW a n;rw[hE];generalize dD (dB f)=Q at *;generalize b6 [] (partsOf f)=P at *
 have MW:bZ aj 233 [ba f,.loc 1 0,.loc 2 0,.loc 3 0] [.row true<|aO f,.row true [.own 4 0 0 0],.row true [.own 5 0 0 0],.row true [.fn (.func 233) [] [.loc 1 0,.loc 2 0,.loc 3 0]],.vec true 0 3 [],.vec true 0 3 []] (.aJ [])
   [.row true<|aO f,.row true [.own 4 Q.length 0 Q.length],.row true [.own 5 P.length 0 P.length],.row true [.fn (.func 233) [] [.loc 1 0,.loc 2 0,.loc 3 0]],.vec true Q.length 3<|b8 Q,.vec true P.length 3<|b8 P]:=by
  refine rX hL [.row true<|aO f] [] rfl (by simp[c8,aG,aK,bz _<|im _]) (yB<|by simp[c8]) (by simp[bL,D.aP]) (by simp[D.aP,bL]) ?_ ?_
  ·simp[c8,al.aP,bL,D.aP,kl,b8]
  simp only[c8,fR,jc,al.aP,bL,D.aP,dC,fy,Vt];rfl
 refine sA MW ?_;refine bQ (nX (λi=>i==1||i==2||i==4||i==5||i==6) (env':=[(3,.ax [.aM 3<|b8 Q]),(4,.ax [.aM 3<|b8 P]),(6,au),(7,.ax [aa 0])]) (H':=[.row true<|aO f,.row false [.aM 3<|b8 Q],.row false [.aM 3<|b8 P],.row true [.fn (.func 233) [] [.loc 1 0,.loc 2 0,.loc 3 0]],.vec false Q.length 3<|b8 Q,.vec false P.length 3<|b8 P,.row false [aa 0]]) ?_ ?_) ?_
 ·refine⟨iP.loc _ _ _ _ _ rfl rfl (.cons _ _ _ _ (.own _ _ _ _ _ _ _ _ rfl rfl ?_) (.refl _)),iP.loc _ _ _ _ _ rfl rfl (.cons _ _ _ _ (.own _ _ _ _ _ _ _ _ rfl rfl ?_) (.refl _)),.refl _,iP.loc _ _ _ _ _ rfl rfl (.refl _),trivial⟩
  ·exact aV<|cB zs
  exact aV<|cB zs
 ·refine⟨⟨.inl rfl,(λh=>by cases h),.refl _⟩,⟨.inr ⟨rfl,rfl⟩,λ_=>rfl,.cons _ _ _ _ (.own _ _ _ _ _ _ _ _ rfl rfl ?_) (.refl _)⟩,⟨.inr ⟨rfl,rfl⟩,λ_=>rfl,.cons _ _ _ _ (.own _ _ _ _ _ _ _ _ rfl rfl ?_) (.refl _)⟩,⟨.inl rfl,(λh=>by cases h),.refl _⟩,⟨.inr ⟨rfl,rfl⟩,λ_=>rfl,rfl,rfl,.refl _⟩,⟨.inr ⟨rfl,rfl⟩,λ_=>rfl,rfl,rfl,.refl _⟩,⟨.inr ⟨rfl,rfl⟩,λ_=>rfl,.refl _⟩,trivial⟩
  ·exact aV<|cB zs
  exact aV<|cB zs
 refine sR ?_;refine bQ (eo 6 3 zs rfl) ?_;refine cq [3,4] (λk:Nat=>[(6,.own 7 (elK f k).length 0 (elK f k).length),(7,.ax [aa k])]) (λk=>[.row true<|aO f,.row false [.aM 3<|b8 Q],.row false [.aM 3<|b8 P],.row true [.fn (.func 233) [] [.loc 1 0,.loc 2 0,.loc 3 0]],.vec false Q.length 3<|b8 Q,.vec false P.length 3<|b8 P,.row false [aa 0],.vec true (elK f k).length 3<|b8<|elK f k]) (λk=>k<=64) (λk=>64-k) 0 ?_;refine dd ?_;rintro k hk;have Hn:=Fp k;have V9:=hCo k;have hka:=we k;have vO:=hK k;refine bf (λq0=>?_) λq0=>?_
 ·have q0:k<64:=sO;rw[hka] at V9;refine sC V9 ?_;cases r:(dB f).contains (k:Int)
  ·rw[r,ab zc] at vO;refine aQ ?_;refine⟨k+1,zo,zd,?_⟩;dsimp only;rw[vO];refine aL 8 zs rfl ⟨.refl _,zu,iP.loc _ _ _ _ _ rfl rfl (.refl _),zu,.refl _,by simp[aK,aG,bm _<|fO _],.refl _,by simp[aK,aG,bm _<|fO _],trivial⟩ ?_
   (repeat' (first|exact trivial|exact rfl|exact .refl _|refine And.intro ?_ ?_|(simp[aK,aG,bB,-List.map_take,-List.map_drop];done)))
   all_goals first|exact bI _ (eU _)|exact bm _ (fO _)|exact Rl _ _|skip
  rw[r,ae rfl] at vO;refine sW ?_;refine sC (zsB 3 k) ?_;refine ee ?_;refine⟨k+1,zo,zd,?_⟩;dsimp only;rw[vO];rw[show(elK f k++[mr k]).length=(elK f k).length+1 by simp];refine aL 8 zs rfl ⟨.refl _,zu,iP.loc _ _ _ _ _ rfl rfl (.refl _),zu,.refl _,by simp[aK,aG,bm _<|fO _],.refl _,by simp[aK,aG,bm _<|fO _],trivial⟩ ?_
  (repeat' (first|exact trivial|exact rfl|exact .refl _|refine And.intro ?_ ?_|(simp[aK,aG,bB,-List.map_take,-List.map_drop];done)))
  all_goals first|exact bI _ (eU _)|exact bm _ (fO _)|exact Rl _ _|skip
 have q0:k=64:=by have:¬k<64:=sO;omega
 subst q0;simp only[fy] at DG;refine⟨by unfold iF;rw[qZ];omega,?_⟩;refine sW ?_;refine .own _ _ _ _ _ _ _ _ rfl ?_;rw[show b8 (elK f 64++P)=b8 (elK f 64)++b8 P by simp[b8],cB (l:=b8<|elK f 64) zs];exact vd zs
variable{α:Type}{k:Nat}
theorem zjq{p:α->Bool}{a b:List α}(h:dN p a=(k:Int)):dN p (a++b)=(k:Int):=by
 obtain⟨j,e,hj,h1,h2⟩:=Gs (p:=p) (l:=a) zo;have:j=k:=zo;subst this;refine xd (k:=j) zq (by rw[List.getElem_append_left hj];exact h1) λi hi=>?_
 grind
theorem zhq{p:α->Bool}{a b:List α}(ha:∀x∈a,p x=false)(h:dN p b=(k:Int)):dN p (a++b)=((a.length+k:Nat):Int):=by
 obtain⟨j,e,hj,h1,h2⟩:=Gs (p:=p) (l:=b) zo;have:j=k:=zo;subst this;refine xd (k:=a.length+j) zq (by rw[List.getElem_append_right zo];simpa using h1) λi hi=>?_;repeat grind
theorem zu1(a b:Int):dI (mr a) (mr b)=(a==b):=by
 rw[j9,Cs,ib];constructor
 ·intro h;have:(mr a).num=(mr b).num:=by rw[h]
  exact this
 grind
theorem zuB(n:Int)(A:ah):dN (dI<|mr n) (dD A)=dN (λa=>n==a) A:=by
 unfold dN dD;rw[List.findIdx?_map,show dI (mr n)∘mr=λa=>n==a from funext λa=>zu1 n a]
theorem zBe{A:ah}{g:Tree}(hT:Told A P g)(hw:g.wf bw)(hk:g.kind=3\/g.kind=7\/g.kind=8\/g.kind=9):dN (dI g) (dD A++P)=(uL A P g:Int)/\uL A P g<A.length+P.length:=by
 by_cases k3:g.kind=3
 ·obtain⟨k,h1,h2⟩:=Sn<|hT.atom k3;have e:uL A P g=k:=(by unfold uL;rw[ae k3,h2];rfl);rw[e];refine⟨zjq ?_,zo⟩;rw[Wl hw k3,zuB];exact h2
 obtain⟨k,h1,h2⟩:=S6<|hT.part zo;have e:uL A P g=A.length+k:=by unfold uL;rw[ab k3,h2];rfl
 rw[e];refine⟨?_,zo⟩;rw[<-SN A];refine zhq (λx hx=>?_) h2;obtain⟨a,_,rfl⟩:=dq.1 hx;rw[FG];intro h;rw[Cs] at h;exact k3<|h▸rfl
def er(E:List Tree):D:=.ax [.aM 3<|b8 E]
def chD(E:List Tree):D:=.ax [.fn (.func 169) [] [er E]]
@[simp] theorem mH(E:List Tree):Pure<|chD E:=by simp[chD,er,Pure,aA,fO]
theorem zwf(hf:Small f)(g:Tree):ao aj 171 [ba g,.ax<|aO f]<|ay<|dI f g:=by
 refine bt ?_;refine sC (QC f g hf) ?_;exact .refl _
theorem zpJ(P:List Tree)(hf:A.length+P.length<=10)(g:Tree)(hs:Small g)(hT:Told A P g)(hw:g.wf bw)(hk:g.kind=3\/g.kind=7\/g.kind=8\/g.kind=9)(s:Nat) :
  ao aj 169 [ba g,aa s,er<|dD A++P] (ay<|dE A P s g):=by
 obtain⟨h1,h2⟩:=zBe hT hw hk;refine dh fZ zs (by simp[aA,Pure,er,im,fO]) ?_ zp;have hi:=MN (dD A++P) zq (dI g) 171 [.ax<|aO g] zp λa _=>zwf g hs a;rw[h1] at hi;have e:dE A P s g=s.testBit (uL A P g):=rfl;rw[e,<-G4 s (uL A P g) zo];unfold er;refine sR ?_;refine sN hi ?_;refine⟨zo,?_⟩;refine sW ?_;refine⟨zo,?_⟩;refine sW ?_;exact .refl _
def isF(E:List Tree)(m:Nat):D:=.fn (.func 172) [] [.loc m 0,chD E]
theorem zAX(P:List Tree)(hI:yR A P)(s:Nat):∀g:Tree,g.wf mc->Told A P g ->
  bZ aj 172 [ba g,aa s,.loc 0 0,chD<|dD A++P] [.row true [isF (dD A++P) 0]] (ay<|dQ (dE A P s) g) [.row true [isF (dD A++P) 0]]:=by
 intro f
 induction f using Tree.ind with
 |h f ih =>
  intro cy hT;have hs:=vl f<|wk cy;have eJ:=hs.width;have hK:=F5 cy;have hE:=WB (dE A P s) f;have Bw:=λhk=>zpJ A P hI.few f hs hT (wk cy) hk s;have lz:=mH<|dD A++P;refine oQ fZ zs zs ?_ trivial;have ha:∀j,j<f.width->(f.kids.map<|dQ<|dE A P s).getD j false=dQ (dE A P s) (f.aD j):=λj hj=>Vv _ hj
  have hR:∀j,(hj:j<f.width)->B7 aj 172 [ba<|f.aD j,aa s,.loc 0 0,chD<|dD A++P] [.row true [isF (dD A++P) 0],.row true<|aO f] (ay<|dQ (dE A P s)<|f.aD j) [0]:=λj hj =>
   OU (ih j hj (gB cy hj)<|hT.aD hj) [0] rfl zs (by simp[aG,aK,bz _<|im _,bz _ lz]) (by simp[dX,al.under,isF,aG,aK,bz _ lz]) (by simp[bL,D.aP,iQ _ lz]) (by simp[D.aP]) (λi o ho=>by
    match i,ho with
    |0,ho=>cases ho;simp[al.aP,isF,bL,D.aP,iQ _ lz]
    |i+1,ho=>simp at ho) 0 zs rfl zs zs
  have hbu:∀o∈[al.row true [isF (dD A++P) 0]],o.under 1:=λo ho=>by rw[cV] at ho;subst ho;simp[al.under,isF,aG,aK,bz _ lz]
  have fin:∀{b:Bool},b=uc f.kind (dE A P s f) (f.kids.map<|dQ<|dE A P s)->endD (ay<|dQ (dE A P s) f) [.row true [isF (dD A++P) 0]] (ay b) [.row true [isF (dD A++P) 0],.row true<|aO f]:=λh=>by
   rw[hE,h];exact⟨.refl _,lB [_] [_] hbu⟩
  unfold isF at *;refine sRS (λh1=>?_) λh1=>?_
  ·have h1:f.kind=1:=(by simpa using h1);refine fin ?_;rw[h1];rfl
  refine sS (λh2=>?_) λh2=>?_
  ·have h2:f.kind=2:=(by simpa using h2);rw[h2];refine fin ?_;rw[h2];rfl
  refine sS (λh4=>?_) λh4=>?_
  ·have h4:f.kind=4:=(by simpa using h4);have w0:0<f.width:=zo;have e0:=ha 0 w0;refine⟨zo,_,db w0,?_⟩;refine sW ?_;refine sX (hR 0 w0) ?_;refine fin ?_;rw[h4,<-e0];rfl
  refine sS (λh5=>?_) λh5=>?_
  ·have h5:f.kind=5:=(by simpa using h5);have w0:0<f.width:=zo;have w1:1<f.width:=zo;have e0:=ha 0 w0;have e1:=ha 1 w1;have r0:=hR 0 w0;have r1:=hR 1 w1;rw[h5] at fin;unfold uc at fin;rw[<-e0] at r0;rw[<-e1] at r1;generalize (f.kids.map<|dQ<|dE A P s).getD 0 false=b0 at *;generalize (f.kids.map<|dQ<|dE A P s).getD 1 false=b1 at *;refine⟨zo,_,db w0,?_⟩;refine sW ?_;refine sX r0 ?_;cases b0
   ·refine sW ?_;refine fin ?_;simp
   refine sW ?_;refine⟨zo,_,db w1,?_⟩;refine sW ?_;refine sX r1 ?_;refine fin ?_;simp
  refine sS (λh6=>?_) λh6=>?_
  ·have h6:f.kind=6:=(by simpa using h6);have w0:0<f.width:=zo;have w1:1<f.width:=zo;have e0:=ha 0 w0;have e1:=ha 1 w1;have r0:=hR 0 w0;have r1:=hR 1 w1;rw[h6] at fin;unfold uc at fin;rw[<-e0] at r0;rw[<-e1] at r1;generalize (f.kids.map<|dQ<|dE A P s).getD 0 false=b0 at *;generalize (f.kids.map<|dQ<|dE A P s).getD 1 false=b1 at *;refine⟨zo,_,db w0,?_⟩;refine sW ?_;refine sX r0 ?_;cases b0
   ·refine sW ?_;refine⟨zo,_,db w1,?_⟩;refine sW ?_;refine sX r1 ?_;refine fin ?_;simp
   refine sW ?_;refine fin ?_;simp
  refine sS (λh8=>?_) λh8=>?_
  ·have h8:f.kind=8:=(by simpa using h8);have w0:0<f.width:=zo;have w1:1<f.width:=zo;have e0:=ha 0 w0;have e1:=ha 1 w1;have r0:=hR 0 w0;have r1:=hR 1 w1;rw[h8] at fin;unfold uc at fin;rw[<-e0] at r0;rw[<-e1] at r1;generalize (f.kids.map<|dQ<|dE A P s).getD 0 false=b0 at *;generalize (f.kids.map<|dQ<|dE A P s).getD 1 false=b1 at *;refine⟨zo,_,db w1,?_⟩;refine sW ?_;refine sX r1 ?_;cases b1
   ·refine sW ?_;refine⟨zo,_,db w0,?_⟩;refine sW ?_;refine sX r0 ?_;cases b0
    ·refine sW ?_;refine fin ?_;simp
    refine sW ?_;refine sC (Bw zo) ?_;refine fin ?_;simp
   refine sW ?_;refine fin ?_;simp
  refine sS (λh9=>?_) λh9=>?_
  ·have h9:f.kind=9:=(by simpa using h9);have w0:0<f.width:=zo;have w1:1<f.width:=zo;have e0:=ha 0 w0;have e1:=ha 1 w1;have r0:=hR 0 w0;have r1:=hR 1 w1;rw[h9] at fin;unfold uc at fin;rw[<-e0] at r0;rw[<-e1] at r1;generalize (f.kids.map<|dQ<|dE A P s).getD 0 false=b0 at *;generalize (f.kids.map<|dQ<|dE A P s).getD 1 false=b1 at *;refine⟨zo,_,db w1,?_⟩;refine sW ?_;refine sX r1 ?_;cases b1
   ·refine sW ?_;refine fin ?_;simp
   refine sW ?_;refine⟨zo,_,db w0,?_⟩;refine sW ?_;refine sX r0 ?_;cases b0
   ·refine sW ?_;refine sC (Bw zo) ?_;refine fin ?_;simp
   refine sW ?_;refine fin ?_;simp
  have h3:f.kind=3\/f.kind=7:=by
   simp only[beq_eq_false_iff_ne] at h1 h2 h4 h5 h6 h8 h9;omega
  refine sC (Bw zo) ?_;refine fin ?_;rcases h3 with h3|h3<;>rw[h3]<;>rfl
def nH{α:Type}(N:Nat)(T:Nat->List α)(k:Nat)(c:List α):List<|List α:=(List.range N).map λi=>if i<k then T i else if i=k then c else []
@[simp] theorem ZJ(N:Nat)(T:Nat->List α)(k:Nat)(c:List α):(nH N T k c).length=N:=by simp[nH]
variable{N:Nat}
theorem zzP{T:Nat->List α}{c:List α}(h:k<N):(nH N T k c).getD k []=c:=by
 rw[a8,aX<|by simpa using h];simp[nH]
theorem zxc{T:Nat->List α}{c c':List α}(h:k<N):(nH N T k c).set k c'=nH N T k c':=by
 refine pS λi=>?_;rw[Hm];by_cases e:k=i
 ·subst e;rw[ae rfl,ae<|by simpa using h,aX<|by simpa using h];simp[nH]
 rw[ab e];by_cases hi:i<N
 ·rw[aX<|by simpa using hi,aX<|by simpa using hi];simp only[nH,Gr,List.getElem_range];repeat grind
 rw[dG zq,dG zq]
theorem zti{T:Nat->List α}{c:List α}(hc:c=T k):nH N T k c=nH N T (k+1) []:=by
 subst hc;unfold nH;repeat grind
variable(N:Nat)
theorem zux(T:Nat->List α):nH N T 0 []=List.replicate N []:=by
 refine pS λi=>?_;by_cases h:i<N
 ·rw[aX<|by simpa using h,aX<|by simpa using h];simp[nH]
 rw[dG zq,dG zq]
theorem zuw(T:Nat->List α)(c:List α):nH N T N c=(List.range N).map T:=by
 unfold nH;exact vj λi hi=>ae<|jz.1 hi
def bM(A:ah)(P:List Tree):List Tree:=dD A++P
@[simp] theorem rC(P:List Tree):(bM A P).length=A.length+P.length:=by simp[bM]
variable{A:ah}{i:Nat}
theorem QM(h:i<A.length):(bM A P).getD i default=mr (A.getD i 0):=by
 unfold bM dD
 grind
theorem N7(h:A.length<=i):(bM A P).getD i default=P.getD (i-A.length) default:=by
 unfold bM;rw[a8,jF<|by simpa using h,a8];simp
theorem yR.el(hI:yR A P)(h:i<A.length+P.length):((bM A P).getD i default).wf mc/\Told A P ((bM A P).getD i default)/\(((bM A P).getD i default).kind=3↔i<A.length)/\(((bM A P).getD i default).kind=3\/((bM A P).getD i default).kind=7\/((bM A P).getD i default).kind=8\/((bM A P).getD i default).kind=9):=by
 by_cases q:i<A.length
 ·rw[QM q];have hr:=hI.atoms _<|df q;have gE:=df q;generalize A.getD i 0=n at *;refine⟨Im ?_ zs,⟨?_,?_⟩,⟨λ_=>q,λ_=>rfl⟩,.inl rfl⟩
  ·unfold eY;have e1:(Tree.node 3 n []).kind=3:=rfl;have e2:(Tree.node 3 n []).num=n:=rfl;have e3:(Tree.node 3 n []).width=0:=rfl;rw[e1,e2,e3];simp[mc,bw];omega
  ·intro x hx;rw[show dB (mr n)=[n] from by simp[mr,cx,dB,cp]] at hx
   grind
  intro x hx;rw[show partsOf (mr n)=[] from by simp[mr,cx,partsOf,bU]] at hx;cases hx
 rw[N7 zo];have hg:=LK (P:=P) (k:=i-A.length) zo;obtain⟨h1,h2⟩:=hI.wf _ hg;exact⟨h1,hI.told _ hg,⟨λh3=>zo,λh3=>absurd h3 q⟩,.inr h2⟩
noncomputable def rk(A:ah)(P:List Tree)(s i:Nat):Bool:=dQ (dE A P s)<|uA<|(bM A P).getD i default
noncomputable def gY(A:ah)(P:List Tree)(s k:Nat):List Bool:=(List.range k).map<|rk A P s
variable(A:ah)
theorem zpF(P:List Tree)(s k:Nat):gY A P s (k+1)=gY A P s k++[rk A P s k]:=by simp[gY,qf]
@[simp] theorem ztV(P:List Tree)(s k:Nat):(gY A P s k).length=k:=by simp[gY]
noncomputable def rOk(A:ah)(P:List Tree)(s t k:Nat):Bool:=(List.range k).all λi=>decide (i<A.length)||(rk A P t i==s.testBit i)
theorem Qa(P:List Tree)(s t k:Nat):rOk A P s t (k+1)=(rOk A P s t k&&(decide (k<A.length)||(rk A P t k==s.testBit k))):=by
 unfold rOk
 grind
variable{t s:Nat}
theorem zyB(P:List Tree)(hs:s<2^(A.length+P.length)):rOk A P s t (A.length+P.length)=(rJ A P t==s/2^A.length):=by
 rw[zwA A P s t hs];unfold rOk;rw[j9,kb,kb];have hk:∀i,rk A P t (A.length+i)=hK A P t i:=λi=>by unfold rk hK;rw[N7 zo,GQ]
 constructor
 ·intro h i hi;have hi:=jz.1 hi;have:=h (A.length+i)<|jz.2 zo;rw[hk,gI<|show ¬A.length+i<A.length by omega,vW] at this;exact this
 intro h i hi;have hi:=jz.1 hi;by_cases q:i<A.length
 ·simp[q]
 have:=h (i-A.length)<|jz.2 zo;rw[<-hk,show A.length+(i-A.length)=i by omega] at this;rw[this];simp
variable{A:ah}
theorem YS(h:rOk A P s t k=false)(hm:k<=m):rOk A P s t m=false:=by
 induction m with
 |zero=>rw[show k=0 by omega] at h;exact h
 |succ m ih =>
  by_cases e:k=m+1
  ·subst e;exact h
  rw[Qa,ih zo,pT]
def py(A:ah)(s:Nat)(is:Bool)(k:Nat):Int:=kQ A s is<|min k A.length
variable{is:Bool}
theorem Io(h:k<A.length):py A s is (k+1)=if (s.testBit k==is)=true then kh .or .u64 (py A s is k)<|2^(A.getD k 0).toNat else py A s is k:=by
 unfold py;rw[v7 zo,v7 zo];rfl
theorem IJ(h:A.length<=k):py A s is (k+1)=py A s is k:=by
 unfold py
 grind
theorem Km:py A s is (A.length+P.length)=kQ A s is A.length:=by
 unfold py
 grind
noncomputable def iJ(A:ah)(P:List Tree)(k:Nat):ak:=nU A P (A.length+P.length)<|k-A.length
theorem zpX(h:k<A.length):iJ A P (k+1)=iJ A P k:=by
 unfold iJ
 grind
theorem zq6(h:A.length<=k)(hk:k<A.length+P.length):iJ A P (k+1)=if ((bM A P).getD k default).kind=7 then iJ A P k else iJ A P k++[Ac A P (A.length+P.length)<|(bM A P).getD k default]:=by
 unfold iJ;rw[show k+1-A.length=k-A.length+1 by omega,Wu A P _<|show k-A.length<P.length by omega,N7 h]
variable(A:ah)
theorem Zx(P:List Tree)(k:Nat):(iJ A P k).length<=k:=jI (Jl ..)<|Nat.sub_le ..
def lj(b:Bool):bj:=[ay b]
@[simp] theorem Vq(b:Bool):aG m<|lj b:=by simp[lj,aG,aK]
@[simp] theorem rm(L:List<|List Bool):dF<|L.map λl=>[D.aM 1<|l.map lj]:=c6 _ (λl=>by simp only[aA,Pure,and_true];exact c6 _ (λb=>by simp[lj,aA,Pure]) l) L
noncomputable def nxR(A:ah)(P:List Tree)(s k:Nat):ah:=fb (λt=>rOk A P s t<|A.length+P.length) k
theorem YL(P:List Tree)(s k:Nat):nxR A P s (k+1)=if rOk A P s k (A.length+P.length)=true then nxR A P s k++[(k:Int)] else nxR A P s k:=AG _ _
theorem WA(P:List Tree)(s k:Nat):(nxR A P s k).length<=k:=sb _ _
variable{A:ah}
theorem zz9(hs:s<2^(A.length+P.length)):nxR A P s (2^(A.length+P.length))=wC A P (A.length+P.length) s:=by
 unfold nxR wC
 congr 1
 funext t;exact zyB A P hs
variable{n:Nat}
theorem XC{N z:Nat}(hz:z=t)(ht:t<N):(((List.range N).map λs=>gY A P s n).map λl=>[D.aM 1<|l.map lj])[z]? = some [D.aM 1<|(gY A P t n).map lj]:=by
 grind
theorem SH{z:Nat}(hz:z=i)(hi:i<n):((gY A P t n).map lj)[z]? = some [ay<|rk A P t i]:=by
 subst hz;unfold gY;rw[fx,fx,xK hi];rfl
variable(t:Tree)
theorem zzLz{A:Prop}(h:A:=by(repeat' (first|exact trivial|exact rfl|exact .refl _|refine And.intro ?_ ?_|(simp[aK,aG,bB,-List.map_take,-List.map_drop];done)|exact bI _ (eU _)|exact bz _ (cX _)|exact bI _ (by simp[aA,Pure,er,fO];done)|exact bm _ (rm _)|exact bm _ (oE _)|exact bm _ (nM _)|exact bm _ (fO _)|exact bm _ (c6 _ (λl=>by simp[aA,Pure]) _)|exact bz _ (mH _)|exact aV (pe zs)|exact o5 zs rfl rfl rfl|exact aV (kC _ _)))):A:=h
theorem zpp(Tx:t.wf bw)(xZ:aU bw (cY t)=0):ao aj 116 [ba t]<|zZ<|cY t:=by
 have ED:=Qb t Tx;have FA:Pure<|zZ<|cY t:=by
  unfold zZ;dsimp only;split<;>simp[Pure,aA,MF]
 have GY:=Zm t Tx;refine dh (fY [3583,14335,28671,57343]) zs zp ?_ FA;refine sR ?_;refine sC ED ?_;have xX:=((rW _ _).1 xZ).2.2;have eJ:=((rW _ _).1 xZ).1;clear FA ED xZ;generalize cY t=f at *;have XT:=zlV f xX eJ;have hT:=Yi GY;have O3:=O0 xX;have hla:=HI f;have GR:=sb (λn=>(dB f).contains (n:Int)) 64;have DG:=nL (partsOf f) [];change (nQ<|dB f).length<=64 at GR;unfold zZ;dsimp only;have GS:elE f=bM (nQ<|dB f) (b6 []<|partsOf f):=rfl;rw[GS] at XT;generalize sh:nQ (dB f)=A at *;generalize iL:b6 [] (partsOf f)=P at *;simp only[fy] at DG;refine sC XT ?_;rw[qZ,rC];refine sS (λfh=>?_) λfh=>?_
 ·have fh:10<A.length+P.length:=sO;rw[ae fh];exact sP
 have fh:¬10<A.length+P.length:=sO;rw[ab fh];have hI:=hT zo;have ss:=Cl (n:=A.length+P.length) zo;refine bQ (nX (λi=>i==2||i==3) (env':=[(1,.loc 0 0),(2,.loc 1 0),(4,er<|bM A P),(6,.loc 4 0),(7,.loc 5 0),(8,aa 1),(9,aa 0)]) (H':=[.row true<|aO f,.row true [au,au,au,au,au],.row false [.aM 3<|b8<|bM A P],.row false [.fn (.func 169) [] [er<|bM A P]],.row true [isF (bM A P) 4],.row true [au,au,au,au,au]]) ?_ ?_) ?_
 ·exact⟨.refl _,.refl _,iP.loc _ _ _ _ _ rfl rfl (.refl _),.refl _,.refl _,.refl _,.refl _,trivial⟩
 ·exact⟨⟨.inl rfl,(λh=>by cases h),.refl _⟩,⟨.inl rfl,(λh=>by cases h),.refl _⟩,⟨.inr ⟨rfl,rfl⟩,λ_=>rfl,.refl _⟩,⟨.inr ⟨rfl,rfl⟩,λ_=>rfl,.cons _ _ _ _ (.fn _ _ _ _ _ (.refl _) (.cons _ _ _ _ (iP.loc _ _ _ _ _ rfl rfl (.refl _)) (.refl _))) (.refl _)⟩,
   ⟨.inl rfl,(λh=>by cases h),.cons _ _ _ _ (.fn _ _ _ _ _ (.refl _) (.cons _ _ _ _ (.refl _) (.cons _ _ _ _ (iP.loc _ _ _ _ _ rfl rfl (.cons _ _ _ _ (.fn _ _ _ _ _ (.refl _) (.cons _ _ _ _ (iP.loc _ _ _ _ _ rfl rfl (.refl _)) (.refl _))) (.refl _))) (.refl _)))) (.refl _)⟩,⟨.inl rfl,(λh=>by cases h),.refl _⟩,trivial⟩
 have lz:=mH<|bM A P;have vB:(A.length+P.length:Nat)<=10:=zo;have me:=zAX A P hI;generalize l8:A.length+P.length=n at *;refine pj (λ_:Unit=>[(1,.loc 0 0),(2,.loc 1 0),(4,er<|bM A P),(6,.loc 4 0),(7,.loc 5 0),(8,aa ((2^n:Nat):Int))]) (λ_=>[.row true<|aO f,.row true [au,au,au,au,au],.row false [.aM 3<|b8<|bM A P],.row false [.fn (.func 169) [] [er<|bM A P]],.row true [isF (bM A P) 4],.row true [au,au,au,au,au]]) (λ_=>True) ?_ ?_
 ·refine sR ?_;refine cq [1,2,4,6,7] (λk:Nat=>[(8,aa ((2^k:Nat):Int)),(9,aa k)]) (λk=>[.row true<|aO f,.row true [au,au,au,au,au],.row false [.aM 3<|b8<|bM A P],.row false [.fn (.func 169) [] [er<|bM A P]],.row true [isF (bM A P) 4],.row true [au,au,au,au,au]]) (λk=>k<=n) (λk=>n-k) 0 ?_;refine dd ?_;rintro k hk;refine ck ?_;unfold er;refine sW ?_;rw[qZ,rC,l8];refine sS (λq0=>?_) λq0=>?_
  ·have q0:k<n:=sO;have e:((2^k:Nat):Int)*2=((2^(k+1):Nat):Int):=(by rw[Nat.pow_succ,E8];rfl);have hb:=Cl (n:=k+1) zo;rw[e];generalize hz:2^(k+1)=z at *;refine sI ?_;refine sI ?_;refine⟨k+1,zo,zd,aC ?_ rfl⟩;dsimp only;rw[hz];exact sK
  have q0:k=n:=sO;subst q0;exact⟨(),trivial,aC (by exact sK) rfl⟩
 intro _ _;refine sW ?_;generalize vI:2^n=N at *;refine⟨zo,zo,zo,?_⟩;rw[bO];refine sW ?_
 have AX:∀(g:Tree) (hw:g.wf mc) (hT:Told A P g) (s:Nat) (H:aE),H[4]? = some (.row true [isF (bM A P) 4])->B7 aj 172 [ba g,aa s,.loc 4 0,chD<|bM A P] H (ay<|dQ (dE A P s) g) [4]:=λg hw hT s H hH =>
  OU (me s g hw hT) [4] rfl zs (by simp[aG,aK,bz _<|im _,bz _<|mH _]) (by simp[dX,al.under,isF,aG,aK,bz _<|mH _]) (by simp[bL,D.aP,iQ _<|mH _];rfl) (by simp[D.aP]) (λi o ho=>by
   match i,ho with
   |0,ho=>cases ho;rw[show([4]:List Nat).getD 0 0=4 from rfl,hH];simp[al.aP,isF,bL,D.aP,iQ _<|mH _];rfl
   |i+1,ho=>simp at ho) 4 zs hH zs zs
 have D8:=λi (hi:i<A.length+P.length)=>hI.el hi;refine pj (λ_:Unit=>[(1,.loc 0 0),(2,.loc 1 0),(4,er<|bM A P),(6,.loc 4 0),(7,.loc 5 0),(8,aa N),(10,.own 6 0 0 N)]) (λ_=>[.row true<|aO f,.row true [au,au,au,au,au],.row false [.aM 3<|b8<|bM A P],.row false [.fn (.func 169) [] [er<|bM A P]],.row true [isF (bM A P) 4],.row true [au,au,au,au,au],.vec true 0 1<|((List.range N).map λs=>gY A P s n).map λl=>[.aM 1<|l.map lj]]) (λ_=>True) ?_ ?_
 ·refine sR ?_;refine bQ (yX 6 1 N 0 zs rfl) ?_;refine cq [1,2,4,6,7,8,10] (λs:Nat=>[(11,aa s)]) (λs=>.row true (aO f)::.row true [au,au,au,au,au]::.row false [.aM 3<|b8<|bM A P]::.row false [.fn (.func 169) [] [er<|bM A P]]::.row true [isF (bM A P) 4]::.row true [au,au,au,au,au]::.vec true 0 1 (iT 7<|nH N (λs=>gY A P s n) s [])::eu 1 lj (nH N (λs=>gY A P s n) s [])) (λs=>s<=N) (λs=>N-s) 0 ?_;refine sW ?_;refine⟨zo,by exact sK,?_,?_⟩
  ·rw[zux];show _::_::_::_::_::_::_::_=_::_::_::_::_::_::_::_;rw[xL 1 _ lj];exact bH (λx=>_::_::_::_::_::_::al.vec true 0 1 x::_)<|x' (α:=Bool) 7 _
  rintro s hs;refine bf (λq0=>?_) λq0=>?_
  ·have q0:s<N:=sO;refine cq [1,2,4,6,7,8,10,11] (λi:Nat=>[(12,aa i)]) (λi=>.row true (aO f)::.row true [au,au,au,au,au]::.row false [.aM 3<|b8<|bM A P]::.row false [.fn (.func 169) [] [er<|bM A P]]::.row true [isF (bM A P) 4]::.row true [au,au,au,au,au]::.vec true 0 1 (iT 7<|nH N (λs=>gY A P s n) s<|gY A P s i)::eu 1 lj (nH N (λs=>gY A P s n) s<|gY A P s i)) (λi=>i<=n) (λi=>n-i) 0 ?_;refine dd ?_;rintro i hi;unfold er;refine ck ?_;rw[qZ,rC,l8];refine sS (λq1=>?_) λq1=>?_
   ·have q1:i<n:=sO;refine sL (zR (k:=i) zo<|by rw[rC];omega) ?_;refine wo ?_;refine sW ?_;refine sY ?_;obtain⟨wI,BW,-,hkE⟩:=D8 i zo;have JQ:rk A P s i=dQ (dE A P s) (uA<|(bM A P).getD i default):=rfl;have js:=zxc (N:=N) (T:=λs=>gY A P s n) (c:=gY A P s i) (c':=gY A P s<|i+1) q0;have fS:=zzP (N:=N) (T:=λs=>gY A P s n) (c:=gY A P s i) q0;have hlen:=ZJ N (λs=>gY A P s n) s<|gY A P s i;have GN:=zpF A P s i;have qY:=ztV A P s i;rw[GN] at js;generalize rk A P s i=b at *;generalize gY A P s i=C at *;generalize (bM A P).getD i default=g at *;generalize nH N (λs=>gY A P s n) s C=R at *;refine sS (λg7=>?_) λg7=>?_
    ·have g7:g.kind=7:=(by simpa using g7);have w0:0<g.width:=qO (wk wI) zo;have Py:=gB wI w0;have OO:=BW.aD w0;rw[show uA g=g.aD 0 from ae g7] at JQ;refine sY ?_;refine sL (db w0) ?_;refine sY ?_;refine sB ?_;refine⟨_,kW (i:=s) zo<|by rw[hlen];omega,?_⟩;refine sW ?_;refine sY ?_;refine sX (AX _ Py OO s _ rfl) ?_;rw[<-JQ];refine JK ?_;refine sW ?_;refine sY ?_;refine u4 zo ?_;refine sW ?_;rw[fS];refine⟨by unfold iF;simp only[lD,fg,dC,fy];omega,?_⟩;refine sW ?_;refine xg (C++[b]) zo ?_ ?_
     ·exact uK
     refine bC ?_;refine⟨_,kW (i:=s) zo zo,?_⟩;refine aQ ?_;refine⟨i+1,zo,zd,?_⟩;dsimp only;rw[GN,<-js];have An:(R.set s<|C++[b]).length=N:=(by rw[tU,hlen]);refine aL (N+7) zs (by simp[An]) (by exact sQ) ⟨⟨rfl,.refl _,bI _<|eU _⟩,⟨rfl,.refl _,zu⟩,⟨rfl,.refl _,zu⟩,⟨rfl,.refl _,by simp[aG,aK,er]⟩,⟨rfl,.refl _,by simp[aG,aK,isF,bz _<|mH _]⟩,⟨rfl,.refl _,zu⟩,⟨rfl,rfl,rfl,aV ?_,vf<|by rw[tU];omega⟩,vG Vq⟩;exact(vT zo zo (C++[b]) zs)
    have g7:¬g.kind=7:=(by simpa using g7);have Py:=wI;have OO:=BW;rw[show uA g=g from ab g7] at JQ;refine sB ?_;refine⟨_,kW (i:=s) zo<|by rw[hlen];omega,?_⟩;refine sW ?_;refine sY ?_;refine sX (AX _ Py OO s _ rfl) ?_;rw[<-JQ];refine JK ?_;refine sW ?_;refine sY ?_;refine u4 zo ?_;refine sW ?_;rw[fS];refine⟨by unfold iF;simp only[lD,fg,dC,fy];omega,?_⟩;refine sW ?_;refine xg (C++[b]) zo ?_ ?_
    ·exact uK
    refine bC ?_;refine⟨_,kW (i:=s) zo zo,?_⟩;refine aQ ?_;refine⟨i+1,zo,zd,?_⟩;dsimp only;rw[GN,<-js];have An:(R.set s<|C++[b]).length=N:=(by rw[tU,hlen]);refine aL (N+7) zs (by simp[An]) (by exact sQ) ⟨⟨rfl,.refl _,bI _<|eU _⟩,⟨rfl,.refl _,zu⟩,⟨rfl,.refl _,zu⟩,⟨rfl,.refl _,by simp[aG,aK,er]⟩,⟨rfl,.refl _,by simp[aG,aK,isF,bz _<|mH _]⟩,⟨rfl,.refl _,zu⟩,⟨rfl,rfl,rfl,aV ?_,vf<|by rw[tU];omega⟩,vG Vq⟩;exact(vT zo zo (C++[b]) zs)
   have q1:i=n:=sO;subst q1;rw[zti rfl];refine sI ?_;exact⟨s+1,zo,zd,aC (by exact sK) rfl⟩
  have q0:s=N:=sO;subst q0;rw[zuw];refine⟨(),trivial,aL 7 zs rfl (by exact sQ) ⟨⟨rfl,.refl _,bI _<|eU _⟩,⟨rfl,.refl _,zu⟩,⟨rfl,.refl _,zu⟩,⟨rfl,.refl _,by simp[aG,aK,er]⟩,⟨rfl,.refl _,by simp[aG,aK,isF,bz _<|mH _]⟩,⟨rfl,.refl _,zu⟩,⟨rfl,rfl,rfl,CA (c:=lj) (λi hi=>by simp[mq]) λi hi=>?_,bm _<|rm _⟩,A9 _⟩⟩;exact vP hi
 intro _ _;refine sW ?_;have Zz:∀s,s<N->s<2^(A.length+P.length):=λs hs=>by rw[l8,vI];exact hs
 refine pj (λ_:Unit=>[(1,.loc 0 0),(2,.loc 1 0),(4,er<|bM A P),(6,.loc 4 0),(7,.loc 5 0),(8,aa N)])
  (λ_=>[.row true<|aO f,.row true [au,au,au,au,au],.row false [.aM 3<|b8<|bM A P],.row false [.fn (.func 169) [] [er<|bM A P]],.row true [isF (bM A P) 4],.row true [.own 7 (cH A P f N).length 0 (cH A P f N).length,.own 8 N 0 N,.own 9 N 0 N,.own 10 N 0 N,au],.vec true 0 1<|((List.range N).map λs=>gY A P s n).map λl=>[.aM 1<|l.map lj],.vec true (cH A P f N).length 1<|aw<|cH A P f N,.vec true N 1<|gi<|mB A P N,.vec true N 1<|gT<|gM A true N,.vec true N 1<|gT<|gM A false N]) (λ_=>True) ?_ ?_
 ·refine sR ?_;refine bQ (kY (gG 5 0 1 zs rfl rfl)<|kY (gG 5 1 1 zs rfl rfl)<|kY (gG 5 2 1 zs rfl rfl)<|gG 5 3 1 zs rfl rfl) ?_;refine cq [1,2,4,6,7,8,10] (λs:Nat=>[(14,aa s)]) (λs=>[.row true<|aO f,.row true [au,au,au,au,au],.row false [.aM 3<|b8<|bM A P],.row false [.fn (.func 169) [] [er<|bM A P]],.row true [isF (bM A P) 4],.row true [.own 7 (cH A P f s).length 0 (cH A P f s).length,.own 8 s 0 s,.own 9 s 0 s,.own 10 s 0 s,au],.vec true 0 1<|((List.range N).map λs=>gY A P s n).map λl=>[.aM 1<|l.map lj],.vec true (cH A P f s).length 1<|aw<|cH A P f s,.vec true s 1<|gi<|mB A P s,.vec true s 1<|gT<|gM A true s,.vec true s 1<|gT<|gM A false s]) (λs=>s<=N) (λs=>N-s) 0 ?_;refine dd ?_;rintro s hs;have qh:=Vj A P f s;refine bf (λq0=>?_) λq0=>?_
  ·have q0:s<N:=sO;have eS:=RK A P f s;have eN:=U6 A P s;have eT:=KE A true s;have eF:=KE A false s;have gR:=zz9<|Zz s q0;rw[l8,vI] at gR;rw[l8,<-gR] at eN;refine sX (AX f GY O3 s _ rfl) ?_;cases r:dQ (dE A P s) f
   ·rw[r,ab zc] at eS;refine sW ?_;refine bQ (eo 15 1 zs rfl) ?_;refine cq [1,2,4,6,7,8,10,14] (λt:Nat=>[(15,.own 11 (nxR A P s t).length 0 (nxR A P s t).length),(16,aa t)]) (λt=>[.row true<|aO f,.row true [au,au,au,au,au],.row false [.aM 3<|b8<|bM A P],.row false [.fn (.func 169) [] [er<|bM A P]],.row true [isF (bM A P) 4],.row true [.own 7 (cH A P f s).length 0 (cH A P f s).length,.own 8 s 0 s,.own 9 s 0 s,.own 10 s 0 s,au],.vec true 0 1<|((List.range N).map λs=>gY A P s n).map λl=>[.aM 1<|l.map lj],.vec true (cH A P f s).length 1<|aw<|cH A P f s,.vec true s 1<|gi<|mB A P s,.vec true s 1<|gT<|gM A true s,.vec true s 1<|gT<|gM A false s,.vec true (nxR A P s t).length 1<|aw<|nxR A P s t]) (λt=>t<=N) (λt=>N-t) 0 ?_;refine dd ?_;rintro t ht;have D0:=WA A P s t;refine bf (λq1=>?_) λq1=>?_
    ·have q1:t<N:=sO;have eX:=YL A P s t;rw[l8] at eX;refine cq [1,2,4,6,7,8,10,14,15,16] (λi:Nat=>[(17,ay<|rOk A P s t i),(18,aa i)]) (λi=>[.row true<|aO f,.row true [au,au,au,au,au],.row false [.aM 3<|b8<|bM A P],.row false [.fn (.func 169) [] [er<|bM A P]],.row true [isF (bM A P) 4],.row true [.own 7 (cH A P f s).length 0 (cH A P f s).length,.own 8 s 0 s,.own 9 s 0 s,.own 10 s 0 s,au],.vec true 0 1<|((List.range N).map λs=>gY A P s n).map λl=>[.aM 1<|l.map lj],.vec true (cH A P f s).length 1<|aw<|cH A P f s,.vec true s 1<|gi<|mB A P s,.vec true s 1<|gT<|gM A true s,.vec true s 1<|gT<|gM A false s,.vec true (nxR A P s t).length 1<|aw<|nxR A P s t]) (λi=>i<=n) (λi=>n-i) 0 ?_;refine dd ?_;rintro i hi;have eO:=Qa A P s t i;unfold er;refine ck ?_;rw[qZ,rC,l8];refine sS (λq2=>?_) λq2=>?_
     ·have q2:i<n:=sO;cases ro:rOk A P s t i
      ·have ro2:=YS ro<|Nat.le_of_lt q2;rw[ro2,ab zc] at eX;refine aQ ?_;refine⟨t+1,zo,zd,?_⟩;dsimp only;rw[eX];exact aC (by exact sK) rfl
      rw[ro,kP] at eO;refine sW ?_;obtain⟨-,-,rQ,-⟩:=D8 i zo;refine sL (zR (k:=i) zo<|by rw[rC];omega) ?_;by_cases q3:i<A.length
      ·have e3:(((bM A P).getD i default).kind==3):=(by simpa using rQ.2 q3);rw[gQ q3,y8] at eO;rw[e3];refine aQ ?_;refine⟨i+1,zo,zd,?_⟩;dsimp only;rw[eO];exact aC (by exact sK) rfl
      have e3:(((bM A P).getD i default).kind==3)=false:=by
       rw[beq_eq_false_iff_ne];exact λh=>q3<|rQ.1 h
      rw[gI q3,vW] at eO;have eb:(((s:Int).fdiv<|2^min ((i:Int)).toNat IntKind.i64.bits).tmod 2==1)=s.testBit i:=G4 s i zo;rw[e3];refine bC ?_;refine⟨_,XC (t:=t) zo q1,?_⟩;refine sW ?_;refine sL (SH (i:=i) zo q2) ?_;refine⟨zo,?_⟩;refine sW ?_;refine⟨zo,?_⟩;refine aQ ?_;refine⟨i+1,zo,zd,?_⟩;dsimp only;rw[eO,<-eb];exact aC (by exact sK) rfl
     have q2:i=n:=sO;subst q2;cases ro:rOk A P s t i
     ·rw[ro,ab zc] at eX;refine aQ ?_;refine⟨t+1,zo,zd,?_⟩;dsimp only;rw[eX];exact aC (by exact sK) rfl
     rw[ro,ae rfl] at eX;refine ke ?_;refine⟨t+1,zo,zd,?_⟩;dsimp only;rw[eX];rw[show(nxR A P s t++[(t:Int)]).length=(nxR A P s t).length+1 by simp]
     exact aL (11+1) zs rfl zzLz zzLz
    have q1:t=N:=sO;obtain rfl:N=t:=q1.symm;refine sJ ?_;refine cq [1,2,4,6,7,8,10,14] (λi:Nat=>[(19,.sc (.int .u64<|py A s true i)),(20,.sc (.int .u64<|py A s false i)),(21,aa i)]) (λi=>[.row true<|aO f,.row true [au,au,au,au,au],.row false [.aM 3<|b8<|bM A P],.row false [.fn (.func 169) [] [er<|bM A P]],.row true [isF (bM A P) 4],.row true [.own 7 (cH A P f s).length 0 (cH A P f s).length,.own 8 (s+1) 0<|s+1,.own 9 s 0 s,.own 10 s 0 s,au],.vec true 0 1<|((List.range N).map λs=>gY A P s n).map λl=>[.aM 1<|l.map lj],.vec true (cH A P f s).length 1<|aw<|cH A P f s,.vec true (s+1) 1<|List.drop 0 (List.take s<|gi<|mB A P s)++List.drop 0 (List.take 1 [[D.own 11 (nxR A P s N).length 0 (nxR A P s N).length]]),.vec true s 1<|gT<|gM A true s,.vec true s 1<|gT<|gM A false s,.vec true (nxR A P s N).length 1<|aw<|nxR A P s N,.vec true 0 1 [[.own 11 (nxR A P s N).length 0 (nxR A P s N).length]]]) (λi=>i<=n) (λi=>n-i) 0 ?_;refine dd ?_;rintro i hi;unfold er;refine ck ?_;rw[qZ,rC,l8];refine sS (λq2=>?_) λq2=>?_
    ·have q2:i<n:=sO;obtain⟨-,-,rQ,-⟩:=D8 i zo;have kE:=λ(z:Nat) (hz:z=i)=>zR (P:=bM A P) hz (by rw[rC];omega);refine sL (kE _ zo) ?_;by_cases q3:i<A.length
     ·have e3:(((bM A P).getD i default).kind==3):=(by simpa using rQ.2 q3);have e4:((bM A P).getD i default).num=A.getD i 0:=(by rw[QM q3];rfl);have hx:=hI.atoms _<|df q3;have lT:=Io (s:=s) (is:=true) q3;have lF:=Io (s:=s) (is:=false) q3;rw[e3];generalize (bM A P).getD i default=g at *;generalize A.getD i 0=x at *;have eb:(((s:Int).fdiv<|2^min ((i:Int)).toNat IntKind.i64.bits).tmod 2==1)=s.testBit i:=G4 s i zo;have e1:(1:Int)*2^min x.toNat IntKind.u64.bits=2^x.toNat:=by
       rw[show IntKind.u64.bits=64 from rfl,v7 zo,Int.one_mul]
      have GZ:(0:Int)<=2^x.toNat/\(2:Int)^x.toNat<18446744073709551616:=by
       have h1:2^x.toNat<=2^63:=Bq zo zo;have h2:(2:Nat)^63=9223372036854775808:=zc;rw[Fq];generalize 2^x.toNat=z at *;omega
      refine sW ?_;refine⟨zo,?_⟩;refine sW ?_;refine⟨zo,?_⟩;refine sW ?_;rw[eb];cases rb:s.testBit i
      ·rw[rb,ab zc] at lT;rw[rb,ae zc] at lF;refine sW ?_;refine sL (kE _ zo) ?_;rw[e3];refine sW ?_;refine sL (kE _ zo) ?_;rw[e4];refine⟨zo,?_⟩;rw[e1];refine .inl ⟨by unfold InR;rw[IntKind.wrap_u64];omega,?_⟩;refine aQ ?_;refine⟨i+1,zo,zd,?_⟩;dsimp only;rw[lT,lF];exact aC (by exact sK) rfl
      rw[rb,ae zc] at lT;rw[rb,ab zc] at lF;refine sW ?_;refine sL (kE _ zo) ?_;rw[e4];refine⟨zo,?_⟩;rw[e1];refine .inl ⟨by unfold InR;rw[IntKind.wrap_u64];omega,?_⟩;refine aQ ?_;refine⟨i+1,zo,zd,?_⟩;dsimp only;rw[lT,lF];exact aC (by exact sK) rfl
     have e3:(((bM A P).getD i default).kind==3)=false:=by
      rw[beq_eq_false_iff_ne];exact λh=>q3<|rQ.1 h
     have lT:=IJ (s:=s) (is:=true)<|Nat.le_of_not_lt q3;have lF:=IJ (s:=s) (is:=false)<|Nat.le_of_not_lt q3;rw[e3];refine sW ?_;refine sL (kE _ zo) ?_;rw[e3];refine aQ ?_;refine⟨i+1,zo,zd,?_⟩;dsimp only;rw[lT,lF];exact aC (by exact sK) rfl
    have q2:i=n:=sO;obtain rfl:n=i:=q2.symm;have lT:py A s true n=kQ A s true A.length:=(by rw[<-l8];exact Km);have lF:py A s false n=kQ A s false A.length:=(by rw[<-l8];exact Km);rw[<-lT] at eT;rw[<-lF] at eF;refine sJ ?_;refine ee ?_;refine⟨s+1,zo,zd,?_⟩;dsimp only;rw[eS,eN,eT,eF]
    exact aL 11 zs rfl zzLz zzLz
   rw[r,ae rfl] at eS;refine sWJ ?_
   refine bQ (aL 12 (env':=[(1,.loc 0 0),(2,.loc 1 0),(4,er<|bM A P),(6,.loc 4 0),(7,.loc 5 0),(8,aa N),(10,.own 6 0 0 N),(14,aa s),(15,au),(16,aa 0)])
    (H':=[.row true<|aO f,.row true [au,au,au,au,au],.row false [.aM 3<|b8<|bM A P],.row false [.fn (.func 169) [] [er<|bM A P]],.row true [isF (bM A P) 4],.row true [.own 7 ((cH A P f s).length+1) 0<|(cH A P f s).length+1,.own 8 s 0 s,.own 9 s 0 s,.own 10 s 0 s,au],.vec true 0 1<|((List.range N).map λs=>gY A P s n).map λl=>[.aM 1<|l.map lj],.vec true ((cH A P f s).length+1) 1<|aw<|(cH A P f s)++[(s:Int)],.vec true s 1<|gi<|mB A P s,.vec true s 1<|gT<|gM A true s,.vec true s 1<|gT<|gM A false s,.vec true 0 1 [[aa s]]]) zs rfl ?_ ?_) ?_
   ·(repeat' (first|exact trivial|exact rfl|exact .refl _|refine And.intro ?_ ?_|(simp[aK,aG,bB,-List.map_take,-List.map_drop];done)))
    all_goals
     first|exact bI _ (eU _)|exact bz _ (cX _)|exact bI _ (by simp[aA,Pure,er,fO];done)|exact bm _ (rm _)|exact bm _ (oE _)|exact bm _ (nM _)|exact bm _ (fO _)|exact bm _ (c6 _ (λl=>by simp[aA,Pure]) _)|exact bz _ (mH _)|exact aV (pe zs)|exact o5 zs rfl rfl rfl|exact aV (kC _ _)|skip
   ·(repeat' (first|exact trivial|exact rfl|exact .refl _|refine And.intro ?_ ?_|(simp[aK,aG,bB,-List.map_take,-List.map_drop];done)))
    all_goals
     first|exact bI _ (eU _)|exact bz _ (cX _)|exact bI _ (by simp[aA,Pure,er,fO];done)|exact bm _ (rm _)|exact bm _ (oE _)|exact bm _ (nM _)|exact bm _ (fO _)|exact bm _ (c6 _ (λl=>by simp[aA,Pure]) _)|exact bz _ (mH _)|exact aV (pe zs)|exact o5 zs rfl rfl rfl|exact aV (kC _ _)|skip
   rw[show(cH A P f s).length+1=(cH A P f s++[(s:Int)]).length by simp];have zMw:(cH A P f s++[(s:Int)]).length<=s+1:=(by simp;omega);refine bQ (eo 15 1 zs rfl) ?_;refine cq [1,2,4,6,7,8,10,14] (λt:Nat=>[(15,.own 12 (nxR A P s t).length 0 (nxR A P s t).length),(16,aa t)]) (λt=>[.row true<|aO f,.row true [au,au,au,au,au],.row false [.aM 3<|b8<|bM A P],.row false [.fn (.func 169) [] [er<|bM A P]],.row true [isF (bM A P) 4],.row true [.own 7 (cH A P f s++[(s:Int)]).length 0 (cH A P f s++[(s:Int)]).length,.own 8 s 0 s,.own 9 s 0 s,.own 10 s 0 s,au],.vec true 0 1<|((List.range N).map λs=>gY A P s n).map λl=>[.aM 1<|l.map lj],.vec true (cH A P f s++[(s:Int)]).length 1<|aw<|cH A P f s++[(s:Int)],.vec true s 1<|gi<|mB A P s,.vec true s 1<|gT<|gM A true s,.vec true s 1<|gT<|gM A false s,.vec true 0 1 [[aa s]],.vec true (nxR A P s t).length 1<|aw<|nxR A P s t]) (λt=>t<=N) (λt=>N-t) 0 ?_;refine dd ?_;rintro t ht;have D0:=WA A P s t;refine bf (λq1=>?_) λq1=>?_
   ·have q1:t<N:=sO;have eX:=YL A P s t;rw[l8] at eX;refine cq [1,2,4,6,7,8,10,14,15,16] (λi:Nat=>[(17,ay<|rOk A P s t i),(18,aa i)]) (λi=>[.row true<|aO f,.row true [au,au,au,au,au],.row false [.aM 3<|b8<|bM A P],.row false [.fn (.func 169) [] [er<|bM A P]],.row true [isF (bM A P) 4],.row true [.own 7 (cH A P f s++[(s:Int)]).length 0 (cH A P f s++[(s:Int)]).length,.own 8 s 0 s,.own 9 s 0 s,.own 10 s 0 s,au],.vec true 0 1<|((List.range N).map λs=>gY A P s n).map λl=>[.aM 1<|l.map lj],.vec true (cH A P f s++[(s:Int)]).length 1<|aw<|cH A P f s++[(s:Int)],.vec true s 1<|gi<|mB A P s,.vec true s 1<|gT<|gM A true s,.vec true s 1<|gT<|gM A false s,.vec true 0 1 [[aa s]],.vec true (nxR A P s t).length 1<|aw<|nxR A P s t]) (λi=>i<=n) (λi=>n-i) 0 ?_;refine dd ?_;rintro i hi;have eO:=Qa A P s t i;unfold er;refine ck ?_;rw[qZ,rC,l8];refine sS (λq2=>?_) λq2=>?_
    ·have q2:i<n:=sO;cases ro:rOk A P s t i
     ·have ro2:=YS ro<|Nat.le_of_lt q2;rw[ro2,ab zc] at eX;refine aQ ?_;refine⟨t+1,zo,zd,?_⟩;dsimp only;rw[eX];exact aC (by exact sK) rfl
     rw[ro,kP] at eO;refine sW ?_;obtain⟨-,-,rQ,-⟩:=D8 i zo;refine sL (zR (k:=i) zo<|by rw[rC];omega) ?_;by_cases q3:i<A.length
     ·have e3:(((bM A P).getD i default).kind==3):=(by simpa using rQ.2 q3);rw[gQ q3,y8] at eO;rw[e3];refine aQ ?_;refine⟨i+1,zo,zd,?_⟩;dsimp only;rw[eO];exact aC (by exact sK) rfl
     have e3:(((bM A P).getD i default).kind==3)=false:=by
      rw[beq_eq_false_iff_ne];exact λh=>q3<|rQ.1 h
     rw[gI q3,vW] at eO;have eb:(((s:Int).fdiv<|2^min ((i:Int)).toNat IntKind.i64.bits).tmod 2==1)=s.testBit i:=G4 s i zo;rw[e3];refine bC ?_;refine⟨_,XC (t:=t) zo q1,?_⟩;refine sW ?_;refine sL (SH (i:=i) zo q2) ?_;refine⟨zo,?_⟩;refine sW ?_;refine⟨zo,?_⟩;refine aQ ?_;refine⟨i+1,zo,zd,?_⟩;dsimp only;rw[eO,<-eb];exact aC (by exact sK) rfl
    have q2:i=n:=sO;subst q2;cases ro:rOk A P s t i
    ·rw[ro,ab zc] at eX;refine aQ ?_;refine⟨t+1,zo,zd,?_⟩;dsimp only;rw[eX];exact aC (by exact sK) rfl
    rw[ro,ae rfl] at eX;refine ke ?_;refine⟨t+1,zo,zd,?_⟩;dsimp only;rw[eX];rw[show(nxR A P s t++[(t:Int)]).length=(nxR A P s t).length+1 by simp]
    exact aL (12+1) zs rfl zzLz zzLz
   have q1:t=N:=sO;obtain rfl:N=t:=q1.symm;refine sJ ?_;refine cq [1,2,4,6,7,8,10,14] (λi:Nat=>[(19,.sc (.int .u64<|py A s true i)),(20,.sc (.int .u64<|py A s false i)),(21,aa i)]) (λi=>[.row true<|aO f,.row true [au,au,au,au,au],.row false [.aM 3<|b8<|bM A P],.row false [.fn (.func 169) [] [er<|bM A P]],.row true [isF (bM A P) 4],.row true [.own 7 (cH A P f s++[(s:Int)]).length 0 (cH A P f s++[(s:Int)]).length,.own 8 (s+1) 0<|s+1,.own 9 s 0 s,.own 10 s 0 s,au],.vec true 0 1<|((List.range N).map λs=>gY A P s n).map λl=>[.aM 1<|l.map lj],.vec true (cH A P f s++[(s:Int)]).length 1<|aw<|cH A P f s++[(s:Int)],.vec true (s+1) 1<|List.drop 0 (List.take s<|gi<|mB A P s)++List.drop 0 (List.take 1 [[D.own 12 (nxR A P s N).length 0 (nxR A P s N).length]]),.vec true s 1<|gT<|gM A true s,.vec true s 1<|gT<|gM A false s,.vec true 0 1 [[aa s]],.vec true (nxR A P s N).length 1<|aw<|nxR A P s N,.vec true 0 1 [[.own 12 (nxR A P s N).length 0 (nxR A P s N).length]]]) (λi=>i<=n) (λi=>n-i) 0 ?_;refine dd ?_;rintro i hi;unfold er;refine ck ?_;rw[qZ,rC,l8];refine sS (λq2=>?_) λq2=>?_
   ·have q2:i<n:=sO;obtain⟨-,-,rQ,-⟩:=D8 i zo;have kE:=λ(z:Nat) (hz:z=i)=>zR (P:=bM A P) hz (by rw[rC];omega);refine sL (kE _ zo) ?_;by_cases q3:i<A.length
    ·have e3:(((bM A P).getD i default).kind==3):=(by simpa using rQ.2 q3);have e4:((bM A P).getD i default).num=A.getD i 0:=(by rw[QM q3];rfl);have hx:=hI.atoms _<|df q3;have lT:=Io (s:=s) (is:=true) q3;have lF:=Io (s:=s) (is:=false) q3;rw[e3];generalize (bM A P).getD i default=g at *;generalize A.getD i 0=x at *;have eb:(((s:Int).fdiv<|2^min ((i:Int)).toNat IntKind.i64.bits).tmod 2==1)=s.testBit i:=G4 s i zo;have e1:(1:Int)*2^min x.toNat IntKind.u64.bits=2^x.toNat:=by
      rw[show IntKind.u64.bits=64 from rfl,v7 zo,Int.one_mul]
     have GZ:(0:Int)<=2^x.toNat/\(2:Int)^x.toNat<18446744073709551616:=by
      have h1:2^x.toNat<=2^63:=Bq zo zo;have h2:(2:Nat)^63=9223372036854775808:=zc;rw[Fq];generalize 2^x.toNat=z at *;omega
     refine sW ?_;refine⟨zo,?_⟩;refine sW ?_;refine⟨zo,?_⟩;refine sW ?_;rw[eb];cases rb:s.testBit i
     ·rw[rb,ab zc] at lT;rw[rb,ae zc] at lF;refine sW ?_;refine sL (kE _ zo) ?_;rw[e3];refine sW ?_;refine sL (kE _ zo) ?_;rw[e4];refine⟨zo,?_⟩;rw[e1];refine .inl ⟨by unfold InR;rw[IntKind.wrap_u64];omega,?_⟩;refine aQ ?_;refine⟨i+1,zo,zd,?_⟩;dsimp only;rw[lT,lF];exact aC (by exact sK) rfl
     rw[rb,ae zc] at lT;rw[rb,ab zc] at lF;refine sW ?_;refine sL (kE _ zo) ?_;rw[e4];refine⟨zo,?_⟩;rw[e1];refine .inl ⟨by unfold InR;rw[IntKind.wrap_u64];omega,?_⟩;refine aQ ?_;refine⟨i+1,zo,zd,?_⟩;dsimp only;rw[lT,lF];exact aC (by exact sK) rfl
    have e3:(((bM A P).getD i default).kind==3)=false:=by
     rw[beq_eq_false_iff_ne];exact λh=>q3<|rQ.1 h
    have lT:=IJ (s:=s) (is:=true)<|Nat.le_of_not_lt q3;have lF:=IJ (s:=s) (is:=false)<|Nat.le_of_not_lt q3;rw[e3];refine sW ?_;refine sL (kE _ zo) ?_;rw[e3];refine aQ ?_;refine⟨i+1,zo,zd,?_⟩;dsimp only;rw[lT,lF];exact aC (by exact sK) rfl
   have q2:i=n:=sO;obtain rfl:n=i:=q2.symm;have lT:py A s true n=kQ A s true A.length:=(by rw[<-l8];exact Km);have lF:py A s false n=kQ A s false A.length:=(by rw[<-l8];exact Km);rw[<-lT] at eT;rw[<-lF] at eF;refine sJ ?_;refine ee ?_;refine⟨s+1,zo,zd,?_⟩;dsimp only;rw[eS,eN,eT,eF]
   exact aL 11 zs rfl zzLz zzLz
  have q0:s=N:=sO;obtain rfl:N=s:=q0.symm;exact⟨(),trivial,aC (by exact sK) rfl⟩
 intro _ _;refine ck ?_;refine bQ (gG 5 4 1 zs rfl rfl) ?_;refine cq [2,4,6,7,8] (λk:Nat=>[(22,aa k)]) (λk=>[.row true<|aO f,.row true [au,au,au,au,au],.row false [.aM 3<|b8<|bM A P],.row false [.fn (.func 169) [] [er<|bM A P]],.row true [isF (bM A P) 4],.row true [.own 7 (cH A P f N).length 0 (cH A P f N).length,.own 8 N 0 N,.own 9 N 0 N,.own 10 N 0 N,.own 11 (iJ A P k).length 0 (iJ A P k).length],.vec true 0 1<|((List.range N).map λs=>gY A P s n).map λl=>[.aM 1<|l.map lj],.vec true (cH A P f N).length 1<|aw<|cH A P f N,.vec true N 1<|gi<|mB A P N,.vec true N 1<|gT<|gM A true N,.vec true N 1<|gT<|gM A false N,.vec true (iJ A P k).length 1<|gi<|iJ A P k]) (λk=>k<=n) (λk=>n-k) 0 ?_;refine sW ?_;refine⟨zo,by exact sK,by rw[show iJ A P 0=[] by unfold iJ;rw[Nat.zero_sub];rfl];rfl,?_⟩;rintro k hk;have s9:=Zx A P k;unfold er;refine ck ?_;rw[qZ,rC,l8];refine sS (λq0=>?_) λq0=>?_
 ·have q0:k<n:=sO;obtain⟨wI,BW,rQ,hkE⟩:=D8 k zo;have kE:=λ(z:Nat) (hz:z=k)=>zR (P:=bM A P) hz (by rw[rC];omega);have DR:iJ A P (k+1)=if ((bM A P).getD k default).kind=3\/((bM A P).getD k default).kind=7 then iJ A P k else iJ A P k++[fb (gO A P<|(bM A P).getD k default) N]:=by
   by_cases qa:k<A.length
   ·rw[zpX qa,ae (.inl<|rQ.2 qa)]
   have n3:¬((bM A P).getD k default).kind=3:=λh=>qa<|rQ.1 h;rw[zq6 (Nat.le_of_not_lt qa) zo];have eset:Ac A P (A.length+P.length) ((bM A P).getD k default)=fb (gO A P<|(bM A P).getD k default) N:=(by unfold Ac;rw[l8,vI]);rw[eset];by_cases q7:((bM A P).getD k default).kind=7
   ·rw[ae q7,ae (.inr q7)]
   rw[ab q7,ab zo]
  have Ys:∀s,gO A P ((bM A P).getD k default) s=if ((bM A P).getD k default).kind=8 then !(dQ (dE A P s)<|(bM A P).getD k default)||dQ (dE A P s) (((bM A P).getD k default).aD 1) else dQ (dE A P s) ((bM A P).getD k default)||!(dQ (dE A P s) (((bM A P).getD k default).aD 1)):=λs=>rfl
  generalize (bM A P).getD k default=g at *;by_cases k8:g.kind=8
  ·rw[ab zo] at DR;have e8:(g.kind==8)=true:=(by simpa using k8);have w1:1<g.width:=(by have:=F5 wI;omega);refine bQ (eo 23 1 zs rfl) ?_;refine cq [2,4,6,7,8,22] (λs:Nat=>[(23,.own 12 (fb (gO A P g) s).length 0 (fb (gO A P g) s).length),(24,aa s)]) (λs=>[.row true<|aO f,.row true [au,au,au,au,au],.row false [.aM 3<|b8<|bM A P],.row false [.fn (.func 169) [] [er<|bM A P]],.row true [isF (bM A P) 4],.row true [.own 7 (cH A P f N).length 0 (cH A P f N).length,.own 8 N 0 N,.own 9 N 0 N,.own 10 N 0 N,.own 11 (iJ A P k).length 0 (iJ A P k).length],.vec true 0 1<|((List.range N).map λs=>gY A P s n).map λl=>[.aM 1<|l.map lj],.vec true (cH A P f N).length 1<|aw<|cH A P f N,.vec true N 1<|gi<|mB A P N,.vec true N 1<|gT<|gM A true N,.vec true N 1<|gT<|gM A false N,.vec true (iJ A P k).length 1<|gi<|iJ A P k,.vec true (fb (gO A P g) s).length 1<|aw<|fb (gO A P g) s]) (λs=>s<=N) (λs=>N-s) 0 ?_;refine dd ?_;rintro s hs;have D0:=sb (gO A P g) s;refine bf (λq1=>?_) λq1=>?_
   ·have q1:s<N:=sO;have eX:=AG (gO A P g) s;refine sL (kE _ zo) ?_;have e9:(g.kind==9)=false:=(by rw[beq_eq_false_iff_ne];omega);have r0:=λH hH=>AX g wI BW s H hH;have r1:=λH hH=>AX (g.aD 1) (gB wI w1) (BW.aD w1) s H hH;have hf:=Ys s;rw[ae k8] at hf;rw[hf] at eX;generalize dQ (dE A P s) g=b0 at *;generalize dQ (dE A P s) (g.aD 1)=b1 at *;rw[e8];refine sW ?_;refine sL (kE _ zo) ?_;refine sX (r0 _ rfl) ?_;cases b0
    ·rw[ae zs] at eX;refine ke ?_;refine⟨s+1,zo,zd,?_⟩;dsimp only;rw[eX];rw[show(fb (gO A P g) s++[(s:Int)]).length=(fb (gO A P g) s).length+1 by simp]
     exact aL 13 zs rfl zzLz zzLz
    refine sW ?_;refine sL (kE _ zo) ?_;refine sL (db w1) ?_;refine sX (r1 _ rfl) ?_;cases b1
    ·rw[ab zs] at eX;refine sW ?_;refine sL (kE _ zo) ?_;rw[e9];refine aQ ?_;refine⟨s+1,zo,zd,?_⟩;dsimp only;rw[eX];exact aC (by exact sK) rfl
    rw[ae zs] at eX;refine ke ?_;refine⟨s+1,zo,zd,?_⟩;dsimp only;rw[eX];rw[show(fb (gO A P g) s++[(s:Int)]).length=(fb (gO A P g) s).length+1 by simp]
    exact aL 13 zs rfl zzLz zzLz
   have q1:s=N:=sO;obtain rfl:N=s:=q1.symm;refine sL (kE _ zo) ?_;rw[e8];refine ke ?_;refine⟨k+1,zo,zd,?_⟩;dsimp only;rw[DR];rw[show(iJ A P k++[fb (gO A P g) N]).length=(iJ A P k).length+1 by simp]
   exact aL 12 zs rfl zzLz zzLz
  by_cases k9:g.kind=9
  ·rw[ab zo] at DR;have e8:(g.kind==8)=false:=(by simpa using k8);have e9:(g.kind==9)=true:=(by simpa using k9);have w1:1<g.width:=(by have:=F5 wI;omega);refine bQ (eo 23 1 zs rfl) ?_;refine cq [2,4,6,7,8,22] (λs:Nat=>[(23,.own 12 (fb (gO A P g) s).length 0 (fb (gO A P g) s).length),(24,aa s)]) (λs=>[.row true<|aO f,.row true [au,au,au,au,au],.row false [.aM 3<|b8<|bM A P],.row false [.fn (.func 169) [] [er<|bM A P]],.row true [isF (bM A P) 4],.row true [.own 7 (cH A P f N).length 0 (cH A P f N).length,.own 8 N 0 N,.own 9 N 0 N,.own 10 N 0 N,.own 11 (iJ A P k).length 0 (iJ A P k).length],.vec true 0 1<|((List.range N).map λs=>gY A P s n).map λl=>[.aM 1<|l.map lj],.vec true (cH A P f N).length 1<|aw<|cH A P f N,.vec true N 1<|gi<|mB A P N,.vec true N 1<|gT<|gM A true N,.vec true N 1<|gT<|gM A false N,.vec true (iJ A P k).length 1<|gi<|iJ A P k,.vec true (fb (gO A P g) s).length 1<|aw<|fb (gO A P g) s]) (λs=>s<=N) (λs=>N-s) 0 ?_;refine dd ?_;rintro s hs;have D0:=sb (gO A P g) s;refine bf (λq1=>?_) λq1=>?_
   ·have q1:s<N:=sO;have eX:=AG (gO A P g) s;refine sL (kE _ zo) ?_;have r0:=λH hH=>AX g wI BW s H hH;have r1:=λH hH=>AX (g.aD 1) (gB wI w1) (BW.aD w1) s H hH;have hf:=Ys s;rw[ab k8] at hf;rw[hf] at eX;generalize dQ (dE A P s) g=b0 at *;generalize dQ (dE A P s) (g.aD 1)=b1 at *;rw[e8];refine sW ?_;refine sL (kE _ zo) ?_;rw[e9];refine sW ?_;refine sL (kE _ zo) ?_;refine sX (r0 _ rfl) ?_;cases b0
    ·refine sW ?_;refine sL (kE _ zo) ?_;refine sL (db w1) ?_;refine sX (r1 _ rfl) ?_;cases b1
     ·rw[ae zs] at eX;refine ke ?_;refine⟨s+1,zo,zd,?_⟩;dsimp only;rw[eX];rw[show(fb (gO A P g) s++[(s:Int)]).length=(fb (gO A P g) s).length+1 by simp]
      exact aL 13 zs rfl zzLz zzLz
     rw[ab zs] at eX;refine aQ ?_;refine⟨s+1,zo,zd,?_⟩;dsimp only;rw[eX];exact aC (by exact sK) rfl
    rw[ae zs] at eX;refine ke ?_;refine⟨s+1,zo,zd,?_⟩;dsimp only;rw[eX];rw[show(fb (gO A P g) s++[(s:Int)]).length=(fb (gO A P g) s).length+1 by simp]
    exact aL 13 zs rfl zzLz zzLz
   have q1:s=N:=sO;obtain rfl:N=s:=q1.symm;refine sL (kE _ zo) ?_;rw[e8];refine sW ?_;refine sL (kE _ zo) ?_;rw[e9];refine ke ?_;refine⟨k+1,zo,zd,?_⟩;dsimp only;rw[DR];rw[show(iJ A P k++[fb (gO A P g) N]).length=(iJ A P k).length+1 by simp]
   exact aL 12 zs rfl zzLz zzLz
  rw[ae zo] at DR;have e8:(g.kind==8)=false:=(by simpa using k8);have e9:(g.kind==9)=false:=(by simpa using k9);refine bQ (eo 23 1 zs rfl) ?_;refine cq [2,4,6,7,8,22] (λs:Nat=>[(23,.own 12 (fb (λ_=>false) s).length 0 (fb (λ_=>false) s).length),(24,aa s)]) (λs=>[.row true<|aO f,.row true [au,au,au,au,au],.row false [.aM 3<|b8<|bM A P],.row false [.fn (.func 169) [] [er<|bM A P]],.row true [isF (bM A P) 4],.row true [.own 7 (cH A P f N).length 0 (cH A P f N).length,.own 8 N 0 N,.own 9 N 0 N,.own 10 N 0 N,.own 11 (iJ A P k).length 0 (iJ A P k).length],.vec true 0 1<|((List.range N).map λs=>gY A P s n).map λl=>[.aM 1<|l.map lj],.vec true (cH A P f N).length 1<|aw<|cH A P f N,.vec true N 1<|gi<|mB A P N,.vec true N 1<|gT<|gM A true N,.vec true N 1<|gT<|gM A false N,.vec true (iJ A P k).length 1<|gi<|iJ A P k,.vec true (fb (λ_=>false) s).length 1<|aw<|fb (λ_=>false) s]) (λs=>s<=N) (λs=>N-s) 0 ?_;refine dd ?_;rintro s hs;have D0:=sb (λ_=>false) s;refine bf (λq1=>?_) λq1=>?_
  ·have q1:s<N:=sO;have eX:=AG (λ_=>false) s;refine sL (kE _ zo) ?_;rw[ab zs] at eX;rw[e8];refine sW ?_;refine sL (kE _ zo) ?_;rw[e9];refine aQ ?_;refine⟨s+1,zo,zd,?_⟩;dsimp only;rw[eX];exact aC (by exact sK) rfl
  have q1:s=N:=sO;obtain rfl:N=s:=q1.symm;refine sL (kE _ zo) ?_;rw[e8];refine sW ?_;refine sL (kE _ zo) ?_;rw[e9];refine aQ ?_;refine⟨k+1,zo,zd,?_⟩;dsimp only;rw[DR]
  exact aL 12 zs rfl zzLz zzLz
 have q0:k=n:=sO;obtain rfl:n=k:=q0.symm;have hE:=Vr A P f;rw[l8,vI] at hE;have iW:iJ A P n=nU A P n P.length:=by unfold iJ;rw[l8,show n-A.length=P.length by omega]
 rw[hE,<-iW];refine .aJ _ _ (.cons _ _ _ _ (.agg _ _ (.cons _ _ _ _ (.own _ _ _ _ _ _ _ _ rfl ?_) (.cons _ _ _ _ (.own _ _ _ _ _ _ _ _ rfl ?_) (.cons _ _ _ _ (.own _ _ _ _ _ _ _ _ rfl ?_) (.cons _ _ _ _ (.own _ _ _ _ _ _ _ _ rfl ?_) (.cons _ _ _ _ (.own _ _ _ _ _ _ _ _ rfl ?_) .nil)))))) (.cons _ _ _ _ (.refl _) .nil))
 ·exact vd<|by simp[aw]
 ·exact vd zs
 ·exact vd zs
 ·exact vd zs
 exact vd zs
section
def gj(m:Nat)(p:Pr):Nat:=p.1.toNat * m+p.2.toNat
def prE(m c:Nat):Pr:=(((c/m:Nat):Int),((c%m:Nat):Int))
def qb(W:bg)(A:bT)(c:Nat):ah:=(nxE W A<|prE A.next.length c).map λq=>(gj A.next.length q:Int)
section
variable{W:bg}{A:bT}
theorem zE{p:Pr}(h:iC W A p):gj A.next.length p<W.next.length*A.next.length:=by
 obtain⟨⟨a,b⟩,c,d⟩:=h;have:(p.1.toNat+1)*A.next.length<=W.next.length*A.next.length:=yH _ zo;rw[oa,Nat.one_mul] at this;unfold gj;omega
theorem TB{p:Pr}(h:iC W A p):gj A.next.length p/A.next.length=p.1.toNat/\gj A.next.length p%A.next.length=p.2.toNat:=by
 obtain⟨⟨a,b⟩,c,d⟩:=h;unfold gj;constructor
 ·rw[Cf,Nat.mul_add_div zo,Nat.div_eq_of_lt zo];rfl
 rw[Cf,Nat.mul_add_mod,Nat.mod_eq_of_lt zo]
theorem Lp{p:Pr}(h:iC W A p):prE A.next.length (gj A.next.length p)=p:=by
 obtain⟨h1,h2⟩:=TB h;obtain⟨⟨a,b⟩,c,d⟩:=h;unfold prE
 grind
variable{c:Nat}
theorem zzz(h:c<W.next.length*A.next.length):iC W A (prE A.next.length c)/\gj A.next.length (prE A.next.length c)=c:=by
 have hm:0<A.next.length:=by
  grind
 have h1:c/A.next.length<W.next.length:=Nat.div_lt_of_lt_mul (by rw[Cf];exact h);have h2:=Nat.mod_lt c hm;unfold prE gj iC;dsimp only;refine⟨⟨⟨Int.natCast_nonneg _,Int.ofNat_lt.2 h1⟩,Int.natCast_nonneg _,Int.ofNat_lt.2 h2⟩,?_⟩;rw[bO,bO,Cf];exact Nat.div_add_mod c A.next.length
structure ThI(W:bg)(A:bT)(S:aq)(R:ak)(Tq:ah)(p:Nat)(o:ah):Prop where
 len:R.length=W.next.length*A.next.length
 gf:∀c,S c->c<W.next.length*A.next.length
 tq:∀x∈Tq,0<=x/\S x.toNat=true
 nd:Tq.Nodup
 cur:p<W.next.length*A.next.length->R.getD p []=o/\S p/\¬(p:Int)∈Tq
 dn:∀c,S c->¬(c:Int)∈Tq->c≠p->R.getD c []=qb W A c/\∀y∈qb W A c,S y.toNat=true
 un:∀c,c≠p->(S c=false\/(c:Int)∈Tq)->R.getD c []=[]
variable{S:aq}{R:ak}{Tq:ah}{p:Nat}{o:ah}
theorem ThI.begin:ThI W A (λ_=>false) (List.replicate (W.next.length*A.next.length) []) [] (W.next.length*A.next.length) [] where
 len:=zs
 gf c h:=by cases h
 tq x h:=by cases h
 nd:=.nil
 cur h:=zo
 dn c h:=by cases h
 un c _ _:=by
  rw[a8,vi];split<;>rfl
theorem tM{s:aq}{v:Nat}:mark s c v↔s v\/v=c:=by
 unfold mark;repeat grind
theorem ThI.add(h:ThI W A S R Tq p o)(hc:S c=false)(hl:c<W.next.length*A.next.length):ThI W A (mark S c) R (Tq++[(c:Int)]) p o where
 len:=h.len
 gf v hv:=(tM.1 hv).elim (h.gf v) λe=>e▸hl
 tq x hx:=by
  rcases dz.1 hx with q|q
  ·exact⟨(h.tq x q).1,tM.2 (.inl (h.tq x q).2)⟩
  rw[cV] at q;subst q;exact⟨zo,tM.2 (.inr zo)⟩
 nd:=by
  rw[List.nodup_append];refine⟨h.nd,zs,λa ha b hb=>?_⟩;rw[cV] at hb;subst hb;intro e;subst e;have:=(h.tq _ ha).2;rw[bO,hc] at this;cases this
 cur hp:=by
  obtain⟨a,b,d⟩:=h.cur hp;refine⟨a,tM.2 (.inl b),λq=>?_⟩;rcases dz.1 q with q|q
  ·exact d q
  rw[cV] at q;have:p=c:=zo;subst this;rw[hc] at b;cases b
 dn v hv hn hp:=by
  rcases tM.1 hv with q|q
  ·obtain⟨a,b⟩:=h.dn v q (λz=>hn<|dz.2 (.inl z)) hp;exact⟨a,λy hy=>tM.2 (.inl<|b y hy)⟩
  subst q;exact absurd (dz.2 (.inr zs)) hn
 un v hp hv:=by
  by_cases e:v=c
  ·subst e;exact h.un v hp (.inl hc)
  refine h.un v hp ?_;rcases hv with q|q
  ·left;cases z:S v
   ·rfl
   rw[tM.2 (.inl z)] at q;cases q
  rcases dz.1 q with q|q
  ·exact .inr q
  rw[cV] at q;omega
theorem ThI.pop{x:Int}(h:ThI W A S R (x::Tq) (W.next.length*A.next.length) []):ThI W A S R Tq x.toNat []/\0<=x/\x.toNat<W.next.length*A.next.length:=by
 have hx:=h.tq x zs;have hl:=h.gf _ hx.2;have fE:=List.nodup_cons.1 h.nd;refine⟨⟨h.len,h.gf,λy hy=>h.tq y<|by simp[hy],fE.2,λ_=>⟨h.un _ zo (.inr<|by rw[show((x.toNat:Nat):Int)=x by omega];simp),hx.2,by rw[show((x.toNat:Nat):Int)=x by omega];exact fE.1⟩,λc hc hn hp=>?_,λc hp hc=>?_⟩,hx.1,hl⟩
 ·refine h.dn c hc (λq=>?_) (by have:=h.gf c hc;omega);repeat grind
 by_cases e:c=W.next.length*A.next.length
 ·rw[a8,dG<|by rw[h.len];omega];rfl
 exact h.un c e<|hc.imp_right λq=>by simp[q]
theorem ThI.put(h:ThI W A S R Tq p o)(hp:p<W.next.length*A.next.length)(o':ah):ThI W A S (R.set p o') Tq p o':=by
 have hg:∀c,c≠p->(R.set p o').getD c []=R.getD c []:=λc e=>by rw[Qi<|by rw[h.len];exact hp,ab e]
 refine⟨by rw[tU];exact h.len,h.gf,h.tq,h.nd,λ_=>⟨by rw[Qi<|by rw[h.len];exact hp,ae rfl],(h.cur hp).2⟩,λc hc hn e=>?_,λc e hc=>?_⟩
 ·rw[hg c e];exact h.dn c hc hn e
 rw[hg c e];exact h.un c e hc
theorem ThI.fin(h:ThI W A S R Tq p<|qb W A p)(hp:p<W.next.length*A.next.length)(hs:∀y∈qb W A p,S y.toNat):ThI W A S R Tq (W.next.length*A.next.length) [] where
 len:=h.len
 gf:=h.gf
 tq:=h.tq
 nd:=h.nd
 cur q:=zo
 dn c hc hn _:=by
  by_cases e:c=p
  ·subst e;exact⟨(h.cur hp).1,hs⟩
  exact h.dn c hc hn e
 un c e hc:=by
  by_cases e2:c=p
  ·subst e2;obtain⟨_,a,b⟩:=h.cur hp;rcases hc with q|q
   ·rw[a] at q;cases q
   exact absurd q b
  exact h.un c e2 hc
theorem ThI.rows{start:List Pr}{L:List Pr}{G:ak}(hN:qD start (nxE W A) L G)(hg:∀q∈L,iC W A q)(bW:∀q∈start,S<|gj A.next.length q)(h:ThI W A S R [] (W.next.length*A.next.length) []) :
  ∀q∈L,R.getD (gj A.next.length q) []=(nxE W A q).map λz=>(gj A.next.length z:Int):=by
 have key:∀j,j<L.length->S (gj A.next.length<|L.getD j (0,0)):=by
  intro j
  induction j using Nat.strongRecOn with
  |ind j ih =>
   intro hj;rcases hN.fr j hj with k|⟨i,k1,k2⟩
   ·exact bW _ k
   have h1:=ih i k1 zo;have G6:=hg _<|pL (show i<L.length by omega);have h2:=(h.dn _ h1 zs<|by have:=zE G6;omega).2 (gj A.next.length (L.getD j (0,0)):Int) (by
    unfold qb;rw[Lp G6];exact dq.2 ⟨_,k2,rfl⟩)
   simpa using h2
 intro q hq;obtain⟨i,hi,rfl⟩:=iD.1 hq;have:=key i hi;rw[a8,aX hi] at this;have G6:=hg _ hq;have h2:=(h.dn _ this zs<|by have:=zE G6;simp only[sj];omega).1;simp only[sj] at h2;rw[h2];unfold qb;rw[Lp G6]
theorem VU(hb:n6 W A)(c:Nat):∀y∈qb W A c,0<=y/\y<((W.next.length*A.next.length:Nat):Int):=λy hy=>by
 obtain⟨q,hq,rfl⟩:=dq.1 hy;have:=zE<|(hb.next _).1 q hq;omega
theorem ThI.inR(hb:n6 W A)(h:ThI W A S R [] (W.next.length*A.next.length) []):(∀l∈R,bq l R.length)/\iu R\/17592186043904<R.length:=by
 rcases gK 17592186043904 R.length with q|q
 ·exact .inr q
 left;have cR:∀c,R.getD c []=qb W A c\/R.getD c []=[]:=λc=>by
  by_cases e:c=W.next.length*A.next.length
  ·right;rw[a8,dG<|by rw[h.len];omega];rfl
  cases z:S c
  ·exact .inr<|h.un c e (.inl z)
  exact .inl (h.dn c z zs e).1
 have gE:∀l∈R,∃c,R.getD c []=l:=λl hl=>by
  obtain⟨i,hi,rfl⟩:=iD.1 hl;exact⟨i,by rw[a8,aX hi];rfl⟩
 refine⟨λl hl=>?_,q,λl hl=>?_⟩
 ·obtain⟨c,rfl⟩:=gE l hl;rcases cR c with e|e
  ·rw[e];exact iS λy hy=>by rw[h.len];exact VU hb c y hy
  rw[e];rfl
 obtain⟨c,rfl⟩:=gE l hl;rcases cR c with e|e
 ·rw[e];unfold qb;rw[aI];have:=(hb.next<|prE A.next.length c).2;omega
 rw[e];simp
end
end
section
abbrev TQ:=aq×ah×Nat×Nat×Nat
def uv(fit:Bool)(c:Nat)(q:TQ):TQ:=if (fit&&!(q.1 c))=true then (mark q.1 c,(q.2.1.take q.2.2.2.1).drop q.2.2.1++[(c:Int)],0,q.2.2.2.1-q.2.2.1+1,q.2.2.2.2+1) else q
def vU(W:bg)(A:bT)(q:TQ):aE :=
 [.row true A.cells,.row true W.cells,.row true [.own 4 0 0<|W.next.length*A.next.length],.row true [aa A.next.length],.vec true 0 1<|bF (W.next.length*A.next.length) q.1,.row true [.own 6 q.2.2.2.2 q.2.2.1 q.2.2.2.1],.vec true q.2.2.2.2 1<|aw q.2.1]
theorem SI{W:bg}{A:bT}{q:TQ}:∀o∈vU W A q,o.under 7:=by
 intro o ho;simp only[vU,eQ,uH,or_false] at ho;rcases ho with rfl|rfl|rfl|rfl|rfl|rfl|rfl
 ·exact bI _<|E7 A
 ·exact bI _<|wE W
 ·simp[al.under,aG,aK]
 ·simp[al.under,aG,aK]
 ·exact bm _<|uj _ _
 ·simp[al.under,aG,aK]
 exact bm _<|c6 _ (λ_=>by simp[aA,Pure]) _
theorem zy6{W:bg}{A:bT}(ka:xY W A)(xr:W.next.length*A.next.length<=4000)(hM:tS A.jy)(x y:Int)(hg:iC W A (x,y))(q:TQ)(h1:q.2.2.1<=q.2.2.2.1)(h2:q.2.2.2.1<=q.2.1.length)(h3:q.2.1.length<=1000000000) :
  bZ aj 117 [aa x,aa y,.loc 0 0,.loc 1 0,.loc 2 0,.loc 3 0,.loc 5 0] (vU W A q) (.aJ []) (vU W A<|uv (ku W A (x,y)) (gj A.next.length (x,y)) q):=by
 generalize hQ:uv (ku W A (x,y)) (gj A.next.length (x,y)) q=Q;obtain⟨S,Z,lo,hi,ar⟩:=q;dsimp only at h1 h2 h3;have fN:=zE hg;obtain⟨⟨g1,g2⟩,g3,g4⟩:=hg;dsimp only at g1 g2 g3 g4;obtain⟨F6,_⟩:=uw W ka.cw;obtain⟨hm,hn,_⟩:=xE A ka.ca;have hL:=UO A hm hn hM y.toNat zo<|W.label.getD x.toNat 0;rw[show((y.toNat:Nat):Int)=y by omega] at hL;refine jb fZ zs (by simp[vU]) ?_ zu SI;have ef:ku W A (x,y)=yZ A y.toNat (W.label.getD x.toNat 0):=rfl;rw[<-ef] at hL;have ec:gj A.next.length (x,y)=x.toNat * A.next.length+y.toNat:=rfl;have emul:x*(A.next.length:Int)=((x.toNat * A.next.length:Nat):Int):=by rw[E8,uY g1]
 generalize gj A.next.length (x,y)=c at *;generalize ku W A (x,y)=fit at *;generalize hk:x.toNat * A.next.length=k at *;unfold vU bg.cells bT.cells;unfold mi bT.cells at hL;generalize W.next.length*A.next.length=NM at *;unfold uv at hQ;dsimp only at hQ⊢;refine sR ?_;refine sL (Ao (l:=W.label) (k:=x.toNat) zo zo) ?_;refine sC hL ?_;cases fit
 ·rw[ab zs] at hQ;subst hQ;refine sW ?_;simp
 refine sW ?_;rw[emul];refine sI ?_;refine sIB ?_;refine⟨_,bc c zo zo,?_⟩;refine sW ?_;cases r:S c
 ·rw[ae<|by rw[r];rfl] at hQ;subst hQ;refine sW ?_;rw[emul];refine sI ?_;refine sIB ?_;refine⟨_,bc c zo zo,?_⟩;refine aQ ?_;refine sI ?_;refine sJ ?_;refine⟨?_,zs⟩;rw[show x*(A.next.length:Int)+y=(c:Int) by rw[emul];omega,show 0+((k:Int)+y).toNat=c by omega,nV (v:=c) rfl,<-zz (Z:=Z) (lo:=lo) (hi:=hi) (k:=(c:Int))];rfl
 rw[ab<|by rw[r];decide] at hQ;subst hQ;refine sW ?_;simp
variable(m:Nat)
theorem zBB(hm:0<m)(c:Nat)(hc:c<=1000000):ao aj 121 [aa c,.ax [aa m]]<|aa ((c/m:Nat):Int):=by
 refine bt ?_;refine⟨zo,?_⟩;rw[<-Int.ofNat_tdiv];have:=Nat.div_le_self c m;generalize c/m=k at *;refine sI ?_;exact .refl _
theorem zBg(hm:0<m)(c:Nat)(hc:c<=1000000):ao aj 122 [aa c,.ax [aa m]]<|aa ((c%m:Nat):Int):=by
 refine bt ?_;refine⟨zo,?_⟩;rw[<-Int.ofNat_tmod];refine sW ?_;exact .refl _
theorem zzh(NM n m:Nat)(xr:NM<=4000)(gg:n*m=NM)(g:FuncId)(sel:Nat->Nat)(size:Nat)(eJ:size<=2048)(E2:∀c,c<NM->ao aj g [aa c,.ax [aa m]] (aa<|sel c))(aY:∀c,c<NM->sel c<size)
  (l:ah) (hl:l.length<=17592186043904) (EK:bq l size) (F:List aq) (hF:F.length<=1000) :
  bZ aj 119 [aF l,aa size,.fn (.func g) [] [.loc 1 0],.loc 0 0,.loc 1 0,.loc 2 0] [.row true [aa n],.row true [aa m],.row true [.own 3 F.length 0 F.length],.vec true F.length 1<|mK NM F]
   (.aJ []) [.row true [aa n],.row true [aa m],.row true [.own 3 (F.length+1) 0<|F.length+1],.vec true (F.length+1) 1<|mK NM<|F++[λc=>gy l<|sel c]]:=by
 have Mq:=W3 l size zo hl EK;have emul:(n:Int)*(m:Int)=(NM:Int):=by rw[<-gg];rfl
 refine oQ fZ zs zs ?_ zu;refine sR ?_;refine sC Mq ?_;rw[emul];refine sI ?_;refine⟨zo,zo,zo,?_⟩;rw[bO,show List.map D.sc [Value.bool false]=[ay false] from rfl,jS];refine sW ?_;refine bb [2,3,4,5,9,10] (λk:Nat=>[(11,aa k)]) (λk=>[(4,.vec true 0 1<|bF NM λv=>decide (v<k)&&gy l (sel v))]) (λk=>k<=NM) (λk=>NM-k) 0 ?_;refine sW ?_;refine⟨zo,by exact sK,by rw[show(λv=>decide (v<0)&&gy l (sel v))=λ_=>false from funext λv=>zs];rfl,?_⟩;rintro k hk;refine ck ?_;rw[emul];refine sI ?_;refine sS (λq0=>?_) λq0=>?_
 ·have q0:k<NM:=sO;have Ms:=E2 k q0;have hii:=aY k q0;refine sN Ms ?_;generalize hx:sel k=x at *;refine sL (bc x zo zo) ?_;refine sB ?_;refine⟨_,bc k zo q0,?_⟩;refine aQ ?_;refine⟨k+1,zo,zd,?_⟩;rw[n8 (i:=k) (f':=λv=>decide (v<k+1)&&gy l (sel v)) zo λv _=>by
   by_cases e:v=k
   ·subst e;rw[ae rfl,hx];simp
   rw[ab e];by_cases e2:v<k
   ·rw[gQ e2,gQ<|show v<k+1 by omega]
   rw[gI e2,gI<|show ¬v<k+1 by omega]]
  exact aL 5 zs rfl sQ sQ
 have q0:k=NM:=sO;subst q0;refine sJ ?_;refine⟨.refl _,⟨rfl,.refl _,zu⟩,⟨rfl,.refl _,zu⟩,⟨rfl,.refl _,zu⟩,⟨rfl,rfl,rfl,?_,bm _<|Eg _ _⟩,trivial⟩;rw[show mK k (F++[λc=>gy l<|sel c])=mK k F++[[bx k λc=>gy l<|sel c]] by simp[mK]];exact .append _ _ _ _ (aV<|cB zs) (.cons _ _ _ _ (.cons _ _ _ _ (.own _ _ _ _ _ _ _ _ rfl rfl (aV<|by rw[cB zs];exact iI λv hv=>by rw[gQ hv];simp)) (.refl _)) (.refl _))
end
section
section
variable{W:bg}{A:bT}
def TQ.aM(q:TQ):ah:=(q.2.1.take q.2.2.2.1).drop q.2.2.1
structure QI(W:bg)(A:bT)(q:TQ)(R:ak)(p:Nat)(o:ah):Prop where
 th:ThI W A q.1 R q.aM p o
 lo:q.2.2.1<=q.2.2.2.1
 hi:q.2.2.2.1<=q.2.1.length
 len:q.2.1.length<=W.next.length*A.next.length
 fit:∀v,q.1 v->ku W A (prE A.next.length v)=true
def TQ.mu(W:bg)(A:bT)(q:TQ):Nat:=cQ q.1 (W.next.length*A.next.length)+(q.2.2.2.1-q.2.2.1)
theorem zui{l:ah}(hn:l.Nodup)(h:∀x∈l,0<=x/\x.toNat<n):l.length<=n:=by
 refine Ff n l.length (λi=>(l.getD i 0).toNat) (λi hi=>?_) λi j hi hj he=>?_
 ·exact(h _<|by rw[a8,aX hi];simp).2
 have aT:=h (l.getD i 0) (by rw[a8,aX hi];simp);have de:=h (l.getD j 0) (by rw[a8,aX hj];simp);have hx:l.getD i 0=l.getD j 0:=zo;rw[a8,a8,aX hi,aX hj] at hx;simp only[sj] at hx;rcases xS i j with q|q|q
 ·exact absurd hx<|uB.1 hn i j hi hj q
 ·exact q
 exact absurd hx.symm<|uB.1 hn j i hj hi q
variable{R:ak}
theorem Ta{q:TQ}{p:Nat}{o:ah}(h:QI W A q R p o){x y:Int}(hg:iC W A (x,y)) :
  QI W A (uv (ku W A (x,y)) (gj A.next.length (x,y)) q) R p o/\(∀v,q.1 v->(uv (ku W A (x,y)) (gj A.next.length (x,y)) q).1 v) /\
   (uv (ku W A (x,y)) (gj A.next.length (x,y)) q).1 (gj A.next.length (x,y))=ku W A (x,y)/\(uv (ku W A (x,y)) (gj A.next.length (x,y)) q).mu W A<=q.mu W A:=by
 have fN:=zE hg;have AS:=Lp hg;generalize gj A.next.length (x,y)=c at *;unfold uv;by_cases hc:(ku W A (x,y)&&!(q.1 c))=true
 ·rw[ae hc];rw[gr,FX] at hc;have hT:=h.th.add hc.2 fN;have hL:(q.aM++[(c:Int)]).length<=W.next.length*A.next.length:=zui hT.nd λz hz=>⟨(hT.tq z hz).1,hT.gf _ (hT.tq z hz).2⟩;have hl:q.aM.length=q.2.2.2.1-q.2.2.1:=by
   unfold TQ.aM;rw[lD,fg];have:=h.hi;omega
  have h1:=h.lo;have h2:=h.hi;have e:TQ.aM (mark q.1 c,q.aM++[(c:Int)],0,q.2.2.2.1-q.2.2.1+1,q.2.2.2.2+1)=q.aM++[(c:Int)]:=by
   show List.drop 0 (List.take _ _)=_
   grind
  refine⟨⟨by rw[show((mark q.1 c,List.drop q.2.2.1 (List.take q.2.2.2.1 q.2.1)++[(c:Int)],0,q.2.2.2.1-q.2.2.1+1,q.2.2.2.2+1):TQ)=(mark q.1 c,q.aM++[(c:Int)],0,q.2.2.2.1-q.2.2.1+1,q.2.2.2.2+1) from rfl,e];exact hT,kZ _,by show _<=(q.aM++[(c:Int)]).length;rw[cL,hl];exact aS _,hL,λv hv=>?_⟩,λv hv=>tM.2 (.inl hv),(tM.2 (.inr rfl)).trans hc.1.symm,?_⟩
  ·rcases tM.1 hv with k|k
   ·exact h.fit v k
   subst k;rw[AS];exact hc.1
  have:=nK (s:=q.1) (s':=mark q.1 c) fN (λj _ hj=>tM.2 (.inl hj)) hc.2<|tM.2 (.inr rfl);unfold TQ.mu
  grind
 rw[ab hc];refine⟨h,λv hv=>hv,?_,aS _⟩;cases hf:ku W A (x,y)
 ·cases hs:q.1 c
  ·rfl
  have:=h.fit c hs;rw[AS,hf] at this;cases this
 rw[hf,kP] at hc;simpa using hc
theorem QI.begin:QI W A ((λ_=>false),[],0,0,0) (List.replicate (W.next.length*A.next.length) []) (W.next.length*A.next.length) [] :=
 ⟨ThI.begin,aS _,aS _,kZ _,λv hv=>by cases hv⟩
theorem QI.pop{S:aq}{Z:ah}{lo hi ar:Nat}{R:ak}(h:QI W A (S,Z,lo,hi,ar) R (W.next.length*A.next.length) [])(hl:lo<hi) :
  QI W A (S,Z,lo+1,hi,ar) R (Z.getD lo 0).toNat []/\0<=Z.getD lo 0/\(Z.getD lo 0).toNat<W.next.length*A.next.length/\TQ.mu W A (S,Z,lo+1,hi,ar)<TQ.mu W A (S,Z,lo,hi,ar):=by
 have hT:=h.th;have hh:hi<=Z.length:=h.hi;have e:TQ.aM (S,Z,lo,hi,ar)=Z.getD lo 0::TQ.aM (S,Z,lo+1,hi,ar):=DF hl hh;rw[e] at hT;obtain⟨h1,h2,h3⟩:=hT.pop;refine⟨⟨h1,hl,hh,h.len,h.fit⟩,h2,h3,?_⟩;unfold TQ.mu
 grind
def uC(W:bg)(A:bT):List aq:=(W.fair.map λl c=>gy l<|c/A.next.length)++A.fair.map λl c=>gy l<|c%A.next.length
theorem zym(hb:n6 W A)(hm:0<A.next.length){q:TQ}(h:QI W A q R (W.next.length*A.next.length) [])(hq:q.aM=[])(bW:∀p∈gv W A W.start A.start,q.1<|gj A.next.length p) :
  iO W A=true↔∃x∈(gv W A W.start A.start).map (λp=>(gj A.next.length p:Int)),Fw R (uC W A) x.toNat:=by
 obtain⟨hN,hg⟩:=zA hb;have hT:=h.th;rw[hq] at hT;have hR:=hT.rows hN hg bW;have hF:=hN.fair (code:=gj A.next.length) hR<|uC W A;have zDy:(uC W A).map (λS v=>S<|gj A.next.length<|(cU W A).1.getD v (0,0))=jZ W A (cU W A).1:=by
  have Iz:∀v,gj A.next.length ((cU W A).1.getD v (0,0))/A.next.length=((cU W A).1.getD v (0,0)).1.toNat/\gj A.next.length ((cU W A).1.getD v (0,0))%A.next.length=((cU W A).1.getD v (0,0)).2.toNat:=λv=>by
   rcases gK v (cU W A).1.length with k|k
   ·exact TB<|hg _<|pL k
   rw[a8,dG k];simp[gj]
  unfold uC jZ my xp;rw[oD,yD,yD,dM,dM]
  congr 1
  ·refine vj λl _=>funext λv=>?_
   grind
  refine vj λl _=>funext λv=>?_
  grind
 rw[zDy] at hF;have hA:iO W A=true↔∃v,v<(cU W A).2.length/\Fw (cU W A).2 (jZ W A (cU W A).1) v:=by unfold iO;simp only[ja]
 rw[hA,hF];constructor
 ·rintro⟨p,hp,k⟩;exact⟨_,dq.2 ⟨p,hp,rfl⟩,by rw[bO];exact k⟩
 repeat grind
end
end
section
def mw(m:Nat)(l:List Pr):ah:=l.map λp=>(gj m p:Int)
theorem H9(m:Nat)(a b:List Pr):mw m (a++b)=mw m a++mw m b:=by simp[mw]
def oV(W:bg)(A:bT)(q:TQ)(g:fc)(f:ah):aE :=
 [.row true W.cells,.row true A.cells,.row true [aa W.next.length],.row true [aa A.next.length],.vec true 0 1 g,.vec true 0 1<|bF (W.next.length*A.next.length) q.1,.row true [.own 5 0 0<|W.next.length*A.next.length],.row true [.own 8 q.2.2.2.2 q.2.2.1 q.2.2.2.1],.vec true q.2.2.2.2 1<|aw q.2.1,.vec true f.length 1<|aw f]
def hdX(W:bg)(A:bT)(S:aq)(Z:ah)(lo hi ar:Nat)(g:fc)(f:ah):aE :=
 [.row true W.cells,.row true A.cells,.row true [aa W.next.length],.row true [aa A.next.length],.vec true 0 1 g,.vec true 0 1<|bF (W.next.length*A.next.length) S,.row true [.own 5 0 0<|W.next.length*A.next.length],.row true [.own 8 ar lo hi],.vec true ar 1<|aw Z,.vec true f.length 1<|aw f]
variable{W:bg}{A:bT}
theorem Ul(ka:xY W A)(xr:W.next.length*A.next.length<=4000)(hM:tS A.jy)(x y:Int)(hg:iC W A (x,y))(q:TQ)(h1:q.2.2.1<=q.2.2.2.1)(h2:q.2.2.2.1<=q.2.1.length)(h3:q.2.1.length<=1000000000)(g:fc)(f:ah)(T:aE) :
  ov aj 117 [aa x,aa y,.loc 1 0,.loc 0 0,.loc 6 0,.loc 3 0,.loc 7 0] (oV W A q g f++T) (.aJ []) (oV W A (uv (ku W A (x,y)) (gj A.next.length (x,y)) q) g f++T) [1,0,6,3,5,7,8]:=by
 have hA:=zy6 ka xr hM x y hg q h1 h2 h3;generalize uv (ku W A (x,y)) (gj A.next.length (x,y)) q=Q at *;have I1:∀q:TQ,(vU W A q).map (al.aP λi=>[1,0,6,3,5,7,8].getD i 0)=[.row true A.cells,.row true W.cells,.row true [.own 5 0 0<|W.next.length*A.next.length],.row true [aa A.next.length],.vec true 0 1<|bF (W.next.length*A.next.length) q.1,.row true [.own 8 q.2.2.2.2 q.2.2.1 q.2.2.2.1],.vec true q.2.2.2.2 1<|aw q.2.1]:=λq=>by
  simp only[vU,fR,jc,al.aP,mj _<|wE W,mj _<|E7 A,jW _<|uj _ _,za,bL,D.aP];rfl
 have wQ:=FL (H:=oV W A q g f++T) hA rfl [1,0,6,3,5,7,8] rfl zc (by simp[aG,aK,vU]) (by
  have:=@SI W A q;unfold vU at *;exact⟨this _ zs,this _ zs,this _ zs,this _ zs,this _ zs,this _ zs,this _ zs,trivial⟩) (args:=[aa x,aa y,.loc 1 0,.loc 0 0,.loc 6 0,.loc 3 0,.loc 7 0]) (d:=.aJ []) rfl (by simp only[D.aP,bL]) (λi o ho=>by
   have h:=bH (λz=>z[i]?)<|I1 q;simp only[fx,ho,C4] at h;rcases i with _|_|_|_|_|_|_|i
   ·exact h.symm
   ·exact h.symm
   ·exact h.symm
   ·exact h.symm
   ·exact h.symm
   ·exact h.symm
   ·exact h.symm
   simp[vU] at ho)
 rw[I1 Q] at wQ;exact wQ
theorem SM(xr:W.next.length*A.next.length<=4000)(g:FuncId)(sel:Nat->Nat)(size:Nat)(eJ:size<=2048)(E2:∀c,c<W.next.length*A.next.length->ao aj g [aa c,.ax [aa A.next.length]] (aa<|sel c))(aY:∀c,c<W.next.length*A.next.length->sel c<size)
  (l:ah) (hl:l.length<=17592186043904) (EK:bq l size) (F:List aq) (hF:F.length<=1000) (q:TQ) (G:fc) (f:ah) :
  ov aj 119 [aF l,aa size,.fn (.func g) [] [.loc 3 0],.loc 2 0,.loc 3 0,.loc 10 0] (oV W A q G f++[.row true [.own 11 F.length 0 F.length],.vec true F.length 1<|mK (W.next.length*A.next.length) F])
   (.aJ []) (oV W A q G f++[.row true [.own 11 (F.length+1) 0<|F.length+1],.vec true (F.length+1) 1<|mK (W.next.length*A.next.length)<|F++[λc=>gy l<|sel c]]) [2,3,10,11]:=by
 have hA:=zzh (W.next.length*A.next.length) W.next.length A.next.length xr rfl g sel size eJ E2 aY l hl EK F hF
 have wQ:=FL (H:=oV W A q G f++[.row true [.own 11 F.length 0 F.length],.vec true F.length 1<|mK (W.next.length*A.next.length) F]) hA rfl [2,3,10,11] rfl zc zu ⟨by simp[al.under,aG,aK],by simp[al.under,aG,aK],by simp[al.under,aG,aK],bm _<|Eg _ _,trivial⟩
  (args:=[aF l,aa size,.fn (.func g) [] [.loc 3 0],.loc 2 0,.loc 3 0,.loc 10 0]) (d:=.aJ []) (by simp only[bL,D.aP,tJ];rfl) (by simp only[D.aP,bL]) (λi o ho=>by
   rcases i with _|_|_|_|i
   ·simp at ho;subst ho;rfl
   ·simp at ho;subst ho;rfl
   ·simp at ho;subst ho;rfl
   ·simp at ho;subst ho;simp only[al.aP,jW _<|Eg _ _];rfl
   simp at ho)
 simp only[fR,jc,al.aP,jW _<|Eg _ _,bL,D.aP] at wQ;exact wQ
def ye(h:ah->Nat->Bool)(G:ak)(k:Nat):List aq:=(G.take k).map h
variable{h:ah->Nat->Bool}{G:ak}
theorem Up(hk:k<G.length):ye h G (k+1)=ye h G k++[h<|G.getD k []]:=by
 unfold ye;rw[jP,aX hk,oD,a8,aX hk];rfl
theorem T3(hk:k<=G.length):(ye h G k).length=k:=by simp[ye];omega
theorem S5:∀k,dF (List.replicate k<|List.map D.sc [Value.slice none 0 0])
 |0=>trivial
 |k+1=>⟨⟨trivial,trivial⟩,S5 k⟩
variable{k:ah}
theorem R7{x:Int}{j:Nat}(h:j<k.length):rS W A x (k.drop j)=(if ku W A (x,k.getD j 0)=true then [(x,k.getD j 0)] else [])++rS W A x (k.drop<|j+1):=by
 rw[Aa h,Tg]
 grind
theorem U2{l:ah}(h:i<l.length):gv W A (l.drop i) k=rS W A (l.getD i 0) k++gv W A (l.drop<|i+1) k:=by
 rw[Aa h,gv,List.flatMap_cons];rfl
theorem zxL(hb:n6 W A)(xr:W.next.length*A.next.length<=4000)(hM:tS A.jy)(hm:0<A.next.length):ao aj 53 [gh W,mi A]<|ay<|iO W A:=by
 have ka:=hb.two;obtain⟨w1,w2,w3,w4,w5,w6⟩:=uw W ka.cw;obtain⟨a1,a2,a3,a4,a5,a6,a7⟩:=xE A ka.ca;have JY:=λs hs x=>UO A a1 a2 hM s hs x;have FR:=wE W;have Gg:=E7 A;have emul:(W.next.length:Int)*(A.next.length:Int)=((W.next.length*A.next.length:Nat):Int):=by rw[E8]
 have M7:=hb.begin.2;have Om:=hb.sa;have hsw:=hb.sw;have hAdd:=λx y hg q h1 h2 h3 g f T=>Ul ka xr hM x y hg q h1 h2 h3 g f T;have Kk:=λq R (h:QI W A q R (W.next.length*A.next.length) []) hq bW=>zym hb hm h hq bW;have zF9:(mw A.next.length<|gv W A W.start A.start).length<=1099511627776:=by unfold mw;rw[aI];exact M7
 have X6:∀y∈mw A.next.length (gv W A W.start A.start),0<=y/\y.toNat<W.next.length*A.next.length:=λy hy=>by
  obtain⟨p,hp,rfl⟩:=dq.1 hy;have:=zE<|hb.begin.1 p hp;omega
 rw[show(gv W A W.start A.start).map (λp=>(gj A.next.length p:Int))=mw A.next.length (gv W A W.start A.start) from rfl] at Kk;have pC:∀q:TQ,(∀y∈mw A.next.length (gv W A W.start A.start),q.1 y.toNat)->∀p∈gv W A W.start A.start,q.1 (gj A.next.length p)=true:=λq h p hp=>by
  have:=h _<|dq.2 ⟨p,hp,rfl⟩;simpa using this
 refine bS (fY [1535]) ?_;generalize zOZ:iO W A=ans at *;obtain⟨F0,IZ⟩:∃F0,F0=mw A.next.length (gv W A W.start A.start):=⟨_,rfl⟩;rw[<-IZ] at zF9 X6 Kk pC;unfold gh mi at *;unfold oV at hAdd;unfold bg.cells bT.cells at *;refine sR ?_;rw[aI,aI];refine sS (λq0=>?_) λq0=>?_
 ·rw[ib] at q0;omega
 rw[emul];refine sI ?_;refine⟨zo,zo,zo,?_⟩;rw[bO];refine sW ?_;rw[emul];refine sI ?_;refine⟨zo,zo,zo,?_⟩;rw[bO,show List.map D.sc [Value.bool false]=[ay false] from rfl,jS];refine sW ?_;have hb0:=QI.begin (W:=W) (A:=A);generalize Jw:List.replicate (W.next.length*A.next.length) ([]:ah)=R0 at *;refine bQ (kY (gG 7 0 1 zs rfl rfl)<|eo 11 1 zs rfl) ?_
 refine cq [2,3,5,6,7,8,9,10] (λ((i,q,f):Nat×TQ×ah)=>[(11,.own 9 f.length 0 f.length),(12,aa i)]) (λ(i,q,f)=>oV W A q (List.replicate (W.next.length*A.next.length)<|List.map D.sc [Value.slice none 0 0]) f)
  (λ(i,q,f)=>i<=W.start.length/\QI W A q R0 (W.next.length*A.next.length) []/\(∀y∈f,q.1 y.toNat)/\f++mw A.next.length (gv W A (W.start.drop i) A.start)=F0) (λ(i,q,f)=>W.start.length-i) (0,((λ_=>false),[],0,0,0),[]) ?_
 refine sW ?_;refine⟨⟨zo,hb0,zs,by rw[dP,nG];exact IZ.symm⟩,by exact sK,rfl,?_⟩;rintro⟨i,q,f⟩ ⟨hi,hQ,lU,hF⟩;unfold oV;refine ck ?_;rw[aI];refine sS (λq0=>?_) λq0=>?_
 ·have q0:i<W.start.length:=sO;have hx:=cZ w4<|df q0;rw[U2 q0,H9] at hF;generalize mI:W.start.getD i 0=x at *
  refine cq [2,3,5,6,7,8,9,10,12] (λ((k,q,f):Nat×TQ×ah)=>[(11,.own 9 f.length 0 f.length),(13,aa k)]) (λ(k,q,f)=>oV W A q (List.replicate (W.next.length*A.next.length)<|List.map D.sc [Value.slice none 0 0]) f)
   (λ(k,q,f)=>k<=A.start.length/\QI W A q R0 (W.next.length*A.next.length) []/\(∀y∈f,q.1 y.toNat)/\f++(mw A.next.length (rS W A x<|A.start.drop k)++mw A.next.length (gv W A (W.start.drop<|i+1) A.start))=F0) (λ(k,q,f)=>A.start.length-k) (0,q,f) ?_
  refine sW ?_;refine⟨⟨zo,hQ,lU,by rw[dP];exact hF⟩,by exact sK,rfl,?_⟩;rintro⟨k,q,f⟩ ⟨hk,hQ,lU,hF⟩;unfold oV;refine ck ?_;rw[aI];refine sS (λq1=>?_) λq1=>?_
  ·have q1:k<A.start.length:=sO;have hy:=cZ a5<|df q1;have s9:f.length<=F0.length:=(by rw[<-hF,cL];omega);rw[R7 q1,H9] at hF;generalize GA:A.start.getD k 0=y at *;have tO:iC W A (x,y):=⟨hx,hy⟩;obtain⟨t1,t2,t3,t4⟩:=Ta hQ tO;have hA:=hAdd x y tO q hQ.lo hQ.hi (by have:=hQ.len;omega) (List.replicate (W.next.length*A.next.length)<|List.map D.sc [Value.slice none 0 0]) f [];refine sL (by rw[bV (l:=W.start) (k:=i) zo q0,mI]) ?_;refine sL (by rw[bV (l:=A.start) (k:=k) zo q1,GA]) ?_;refine sE hA ?_;have ec:gj A.next.length (x,y)=x.toNat * A.next.length+y.toNat:=rfl;have emx:x*(A.next.length:Int)=((x.toNat * A.next.length:Nat):Int):=(by rw[E8,uY hx.1]);have fN:=zE tO;generalize hq2:uv (ku W A (x,y)) (gj A.next.length (x,y)) q=q2 at *;generalize Iu:x.toNat * A.next.length=xm at *;generalize CI:gj A.next.length (x,y)=c at *;refine sL (by rw[bV (l:=A.start) (k:=k) zo q1,GA]) ?_;refine sL (by rw[bV (l:=W.start) (k:=i) zo q0,mI]) ?_;refine sL (Ao (l:=W.label) (k:=x.toNat) zo zo) ?_;have QO:=JY y.toNat zo<|W.label.getD x.toNat 0;rw[show((y.toNat:Nat):Int)=y by omega,show yZ A y.toNat (W.label.getD x.toNat 0)=ku W A (x,y) from rfl] at QO;refine sC QO ?_;cases r:ku W A (x,y)
   ·rw[r,ab zc] at hF;refine aQ ?_;refine⟨(k+1,q2,f),⟨zo,t1,λz hz=>t2 _<|lU z hz,hF⟩,zd,?_⟩;exact aC (by exact sK) rfl
   rw[r,ae rfl] at hF;rw[r] at t3;refine sW ?_;refine sL (by rw[bV (l:=W.start) (k:=i) zo q0,mI]) ?_;rw[emx];refine sI ?_;refine sL (by rw[bV (l:=A.start) (k:=k) zo q1,GA]) ?_;refine sI ?_;refine ee ?_;refine⟨(k+1,q2,f++[(c:Int)]),⟨zo,t1,λz hz=>?_,?_⟩,zd,?_⟩
   ·rcases dz.1 hz with q|q
    ·exact t2 _<|lU z q
    rw[cV] at q;subst q;rw[bO];exact t3
   ·rw[show(c:Int)=(gj A.next.length (x,y):Int) by rw[CI]];rw[ig];exact hF
   dsimp only;rw[show(f++[(c:Int)]).length=f.length+1 by simp,show((xm:Nat):Int)+y=(c:Int) by omega]
   (refine aL 10 zs rfl ?_ ?_<;>(repeat' (first|exact trivial|exact rfl|exact .refl _|refine And.intro ?_ ?_|(simp[aK,aG,bB,-List.map_take,-List.map_drop];done))))
   all_goals first|exact bI _ FR|exact bI _ Gg|exact aV (kC f _)|exact bm _ (S5 _)|skip
  have q1:k=A.start.length:=sO;subst q1;rw[um] at hF;refine sI ?_;refine⟨(i+1,q,f),⟨zo,hQ,lU,hF⟩,zd,?_⟩;exact aC (by exact sK) rfl
 have q0:i=W.start.length:=sO;subst q0;rw[um,show mw A.next.length (gv W A [] A.start)=[] from rfl,lv] at hF;subst hF;refine pj (λ((q,R):TQ×ak)=>[(2,.loc 0 0),(3,.loc 1 0),(5,.loc 2 0),(6,.loc 3 0),(7,.own 4 0 0<|W.next.length*A.next.length),(11,.own 9 f.length 0 f.length)]) (λ(q,R)=>oV W A q (gi R) f) (λ(q,R)=>QI W A q R (W.next.length*A.next.length) []/\q.aM=[]/\∀y∈f,q.1 y.toNat=true) ?_ ?_
 ·refine sR ?_;refine bQ (yX 4 1 (W.next.length*A.next.length) 0 zs rfl) ?_;refine cq [2,3,5,6,7,8,9,10,11] (λ(((S,Z,lo,hi,ar),R):TQ×ak)=>[]) (λ((S,Z,lo,hi,ar),R)=>hdX W A S Z lo hi ar (iT 10 R) f++eu 1 l6 R) (λ(q,R)=>QI W A q R (W.next.length*A.next.length) []/\∀y∈f,q.1 y.toNat=true) (λ(q,R)=>TQ.mu W A q) (q,R0) ?_;refine sW ?_;refine⟨⟨hQ,lU⟩,by exact sK,?_,?_⟩
  ·rw[xL 1 _ l6];dsimp only;rw[<-Jw,<-x' (α:=Int) 10 (W.next.length*A.next.length)];rfl
  clear hQ lU;rintro⟨⟨S,Z,lo,hi,ar⟩,R⟩ ⟨hQ,lU⟩;unfold hdX;refine ck ?_;have h1:lo<=hi:=hQ.lo;have h2:hi<=Z.length:=hQ.hi;have h3:=hQ.len;have M3:=hQ.th.len;dsimp only at h3 lU;refine sS (λq0=>?_) λq0=>?_
  ·have q0:lo<hi:=sO;obtain⟨p1,p2,p3,p4⟩:=hQ.pop q0;refine sB ?_;refine⟨_,bV (l:=Z) (k:=lo) zo zo,?_⟩;refine sW ?_;generalize Z.getD lo 0=p at *;refine⟨zo,zo,zo,?_⟩;refine sW ?_;rw[show lo+(hi-lo)=hi by omega];obtain⟨g1,g2⟩:=zzz p3;obtain⟨⟨g3,g4⟩,g5,g6⟩:=g1;have hrC:qb W A p.toNat=mw A.next.length (gv W A (W.next.getD (p.toNat/A.next.length) [])<|A.next.getD (p.toNat%A.next.length) []):=by
    unfold qb nxE prE mw;dsimp only;rw[bO,bO]
   have zP4:=VU hb p.toNat;have zO5:(qb W A p.toNat).length<=1099511627776:=(by unfold qb;rw[aI];exact(hb.next _).2);have HD:p.tdiv (A.next.length:Int)=((p.toNat/A.next.length:Nat):Int):=(by rw[Int.ofNat_tdiv,uY p2]);have qY:p.tmod (A.next.length:Int)=((p.toNat%A.next.length:Nat):Int):=(by rw[Int.ofNat_tmod,uY p2]);unfold prE at g3 g4 g5 g6;dsimp only at g3 g4 g5 g6;have hu:p.toNat/A.next.length<W.next.length:=Int.ofNat_lt.1 g4;have hv:p.toNat%A.next.length<A.next.length:=Int.ofNat_lt.1 g6;clear g2 g3 g4 g5 g6;generalize p.toNat/A.next.length=u at *;generalize p.toNat%A.next.length=v at *;have xX:=xA hb.rw_ u;have Tj:=xA hb.ra v;have hwi:=ft w5 u;have hai:=ft a6 v;have hpc:((p.toNat:Nat):Int)=p:=uY p2;generalize Mr:TQ.mu W A (S,Z,lo+1,hi,ar)=M1 at *
   refine cq [2,3,5,6,7,8,9,10,11,14] (λ((i,(S,Z,lo,hi,ar),R,o):Nat×TQ×ak×ah)=>[(15,aa i)]) (λ(i,(S,Z,lo,hi,ar),R,o)=>hdX W A S Z lo hi ar (iT 10 R) f++eu 1 l6 R)
    (λ(i,q,R,o)=>i<=(W.next.getD u []).length/\QI W A q R p.toNat o/\(∀y∈f,q.1 y.toNat)/\(∀y∈o,q.1 y.toNat)/\o++mw A.next.length (gv W A ((W.next.getD u []).drop i)<|A.next.getD v [])=qb W A p.toNat/\TQ.mu W A q<=M1) (λ(i,q,R,o)=>(W.next.getD u []).length-i) (0,(S,Z,lo+1,hi,ar),R,[]) ?_
   refine sW ?_;refine⟨⟨zo,p1,lU,zs,by rw[hrC];rfl,by rw[Mr];exact aS _⟩,by exact sK,rfl,?_⟩;rintro⟨i,⟨S,Z,lo,hi,ar⟩,R,o⟩ ⟨hi4,hQ,lU,vk,Fl,Ej⟩;unfold hdX;refine ck ?_;refine⟨zo,?_⟩;rw[HD];refine sI ?_;refine sL (eV (g:=W.next) (k:=u) zo hu) ?_;rw[aI];refine sS (λq4=>?_) λq4=>?_
   ·have q4:i<(W.next.getD u []).length:=sO;have hx:=cZ hwi<|df q4;rw[U2 q4,H9] at Fl;generalize mI:(W.next.getD u []).getD i 0=x at *
    refine cq [2,3,5,6,7,8,9,10,11,14,15] (λ((k,(S,Z,lo,hi,ar),R,o):Nat×TQ×ak×ah)=>[(16,aa k)]) (λ(k,(S,Z,lo,hi,ar),R,o)=>hdX W A S Z lo hi ar (iT 10 R) f++eu 1 l6 R)
     (λ(k,q,R,o)=>k<=(A.next.getD v []).length/\QI W A q R p.toNat o/\(∀y∈f,q.1 y.toNat)/\(∀y∈o,q.1 y.toNat)/\o++(mw A.next.length (rS W A x<|(A.next.getD v []).drop k)++mw A.next.length (gv W A ((W.next.getD u []).drop<|i+1)<|A.next.getD v []))=qb W A p.toNat/\TQ.mu W A q<=M1) (λ(k,q,R,o)=>(A.next.getD v []).length-k) (0,(S,Z,lo,hi,ar),R,o) ?_
    refine sW ?_;refine⟨⟨zo,hQ,lU,vk,by rw[dP];exact Fl,Ej⟩,by exact sK,rfl,?_⟩;have zQV:=hQ.th.len;clear hQ lU vk Fl Ej;rintro⟨k,⟨S,Z,lo,hi,ar⟩,R,o⟩ ⟨hk,hQ,lU,vk,AP,Ej⟩;have h1:lo<=hi:=hQ.lo;have h2:hi<=Z.length:=hQ.hi;have h3:Z.length<=W.next.length*A.next.length:=hQ.len;have M3:=hQ.th.len;unfold hdX;refine ck ?_;refine⟨zo,?_⟩;rw[qY];refine sW ?_;refine sL (eV (g:=A.next) (k:=v) zo hv) ?_;rw[aI];refine sS (λq5=>?_) λq5=>?_
    ·have q5:k<(A.next.getD v []).length:=sO;have hy:=cZ hai<|df q5;rw[R7 q5,H9] at AP;generalize GA:(A.next.getD v []).getD k 0=y at *;have tO:iC W A (x,y):=⟨hx,hy⟩;obtain⟨t1,t2,t3,t4⟩:=Ta hQ tO;have hA:=Ul ka xr hM x y tO (S,Z,lo,hi,ar) h1 h2 zd (iT 10 R) f<|eu 1 l6 R;have ec:gj A.next.length (x,y)=x.toNat * A.next.length+y.toNat:=rfl;have emx:x*(A.next.length:Int)=((x.toNat * A.next.length:Nat):Int):=(by rw[E8,uY hx.1]);have fN:=zE tO;refine⟨zo,?_⟩;rw[HD];refine sI ?_;refine sL (eV (g:=W.next) (k:=u) zo hu) ?_;refine sL (by rw[bV (l:=W.next.getD u []) (k:=i) zo q4,mI]) ?_;refine⟨zo,?_⟩;rw[qY];refine sW ?_;refine sL (eV (g:=A.next) (k:=v) zo hv) ?_;refine sL (by rw[bV (l:=A.next.getD v []) (k:=k) zo q5,GA]) ?_;generalize hq2:uv (ku W A (x,y)) (gj A.next.length (x,y)) (S,Z,lo,hi,ar)=q2 at *;obtain⟨S2,Z2,lo2,jK,ver2⟩:=q2;dsimp only at t2 t3;unfold oV at hA;dsimp only at hA;generalize x.toNat * A.next.length=xm at *;generalize CI:gj A.next.length (x,y)=c2 at *;refine sE hA ?_;rw[emx];refine sI ?_;refine sIB ?_;refine⟨_,bc c2 zo zo,?_⟩;refine sW ?_;rw[t3];have oZ:o.length<=(qb W A p.toNat).length:=(by rw[<-AP,cL];omega);cases r:ku W A (x,y)
     ·rw[r,ab zc] at AP;refine aQ ?_;refine⟨(k+1,(S2,Z2,lo2,jK,ver2),R,o),⟨zo,t1,λz hz=>t2 _<|lU z hz,λz hz=>t2 _<|vk z hz,AP,jI t4 Ej⟩,zd,?_⟩;exact aC (by exact sK) rfl
     rw[r,ae rfl,show mw A.next.length [(x,y)]=[(c2:Int)] by unfold mw;rw[List.map_singleton,CI]] at AP;rw[r] at t3;have wH:=(t1.th.cur p3).1;have TV:=t1.th.len;have b9:p.toNat≠R.length:=zo;refine bC ?_;refine⟨_,kW (i:=p.toNat) zo zo,?_⟩;refine sW ?_;rw[emx];refine sI ?_;refine sI ?_;rw[wH];refine wo ?_;refine sW ?_;refine sY ?_;refine u4 zo ?_;refine sW ?_;rw[wH];refine sW ?_;refine⟨by unfold iF;simp only[lD,fg,dC,fy];omega,?_⟩;refine sW ?_;refine xg (o++[((xm:Nat):Int)+y]) zo ?_ ?_
     ·exact uK
     refine bC ?_;refine⟨_,kW (i:=p.toNat) zo zo,?_⟩;refine aQ ?_;have hQ2:QI W A (S2,Z2,lo2,jK,ver2) (R.set p.toNat<|o++[(c2:Int)]) p.toNat<|o++[(c2:Int)]:=⟨t1.th.put p3 _,t1.lo,t1.hi,t1.len,t1.fit⟩;refine⟨(k+1,(S2,Z2,lo2,jK,ver2),R.set p.toNat<|o++[(c2:Int)],o++[(c2:Int)]),⟨zo,hQ2,λz hz=>t2 _<|lU z hz,λz hz=>?_,by rw[ig];exact AP,jI t4 Ej⟩,zd,?_⟩
     ·rcases dz.1 hz with q|q
      ·exact t2 _<|vk z q
      rw[cV] at q;subst q;rw[bO];exact t3
     dsimp only;rw[show((xm:Nat):Int)+y=(c2:Int) by omega];refine aL (R.length+10) zq zs (by exact sQ) ⟨⟨rfl,.refl _,bI _ FR⟩,⟨rfl,.refl _,bI _ Gg⟩,⟨rfl,.refl _,zu⟩,⟨rfl,.refl _,zu⟩,⟨rfl,rfl,rfl,aV ?_,vf zq⟩,⟨rfl,rfl,rfl,.refl _,bm _<|uj _ _⟩,⟨rfl,.refl _,zu⟩,⟨rfl,.refl _,zu⟩,⟨rfl,rfl,rfl,.refl _,bm _<|ER _⟩,⟨rfl,rfl,rfl,.refl _,bm _<|ER _⟩,vG Kz⟩;exact vT zo zo (o++[(c2:Int)]) zs
    have q5:k=(A.next.getD v []).length:=sO;subst q5;rw[um] at AP;refine sI ?_;refine⟨(i+1,(S,Z,lo,hi,ar),R,o),⟨zo,hQ,lU,vk,AP,Ej⟩,zd,?_⟩;exact aC (by exact sK) rfl
   have q4:i=(W.next.getD u []).length:=sO;subst q4;rw[um,show mw A.next.length (gv W A []<|A.next.getD v [])=[] from rfl,lv] at Fl;have hQ3:QI W A (S,Z,lo,hi,ar) R (W.next.length*A.next.length) []:=by
    subst Fl;exact⟨hQ.th.fin p3 vk,hQ.lo,hQ.hi,hQ.len,hQ.fit⟩
   refine⟨((S,Z,lo,hi,ar),R),⟨hQ3,lU⟩,zd,?_⟩;exact aC (by exact sK) rfl
  have q0:lo=hi:=sO;subst q0;have hl:TQ.aM (S,Z,lo,lo,ar)=[]:=by
   unfold TQ.aM;dsimp only;rw[DA<|by rw[fg];omega]
  refine⟨((S,Z,lo,lo,ar),R),⟨hQ,hl,lU⟩,aL 10 zs rfl (by exact sQ) ⟨⟨rfl,.refl _,bI _ FR⟩,⟨rfl,.refl _,bI _ Gg⟩,⟨rfl,.refl _,zu⟩,⟨rfl,.refl _,zu⟩,⟨rfl,rfl,rfl,CA (c:=l6) (λi hi=>by simp[mq]) λi hi=>?_,bm _<|nM _⟩,⟨rfl,rfl,rfl,.refl _,bm _<|uj _ _⟩,⟨rfl,.refl _,zu⟩,⟨rfl,.refl _,zu⟩,⟨rfl,rfl,rfl,.refl _,bm _<|ER _⟩,⟨rfl,rfl,rfl,.refl _,bm _<|ER _⟩,A9 _⟩⟩;show(eu 1 l6 R)[i]? = _;exact vP hi
 rintro⟨q,R⟩ ⟨hQ,HD,lU⟩;have hA:=Kk q R hQ HD (pC q lU);have M3:=hQ.th.len;have hT:=hQ.th;rw[HD] at hT;obtain⟨aY,hFR⟩:=(hT.inR hb).resolve_right zo;have P4:=λk (hk:k<W.fair.length) F hF=>SM (W:=W) (A:=A) xr 121 (λc=>c/A.next.length) W.next.length zo (λc hc=>zBB A.next.length hm c zo) (λc hc=>Nat.div_lt_of_lt_mul (by rw[Cf];exact hc)) (W.fair.getD k []) (xA ka.fw.xM k) (ft w6 k) F hF q (gi R) f;have Lw:=λk (hk:k<A.fair.length) F hF=>SM (W:=W) (A:=A) xr 122 (λc=>c%A.next.length) A.next.length zo (λc hc=>zBg A.next.length hm c zo) (λc hc=>Nat.mod_lt _ hm) (A.fair.getD k []) (xA ka.fa.xM k) (ft a7 k) F hF q (gi R) f;unfold oV at P4 Lw⊢;unfold bg.cells bT.cells at P4 Lw⊢;refine sW ?_;refine bQ (gG 10 0 1 zs rfl rfl) ?_;generalize Iv:ye (λl c=>gy l (c/A.next.length)) W.fair=F1;refine cq [2,3,5,6,7,11,19,20] (λk:Nat=>[(21,aa k)]) (λk=>oV W A q (gi R) f++[.row true [.own 11 (F1 k).length 0 (F1 k).length],.vec true (F1 k).length 1 (mK (W.next.length*A.next.length) (F1 k))]) (λk=>k<=W.fair.length) (λk=>W.fair.length-k) 0 ?_;refine sW ?_;refine⟨zo,by exact sK,by rw[<-Iv];rfl,?_⟩;rintro k hk;have eL:(F1 k).length=k:=by rw[<-Iv];exact T3 hk
 unfold oV;refine ck ?_;rw[aI];refine sS (λq0=>?_) λq0=>?_
 ·have q0:k<W.fair.length:=sO;have hB:=P4 k q0 (F1 k) zo;have eS:F1 (k+1)=F1 k++[λc=>gy (W.fair.getD k [])<|c/A.next.length]:=(by rw[<-Iv];exact Up q0);have eL2:(F1<|k+1).length=(F1 k).length+1:=(by rw[eS,cL];rfl);rw[<-eS] at hB;refine sL (eV (g:=W.fair) (k:=k) zo q0) ?_;refine sE hB ?_;refine sI ?_;refine⟨k+1,zo,zd,?_⟩;dsimp only;rw[eL2];exact aC (by exact sK) rfl
 have q0:k=W.fair.length:=sO;subst q0;generalize IB:F1 W.fair.length=G1 at *;generalize nC:(λk=>G1++ye (λl c=>gy l<|c%A.next.length) A.fair k)=F2;refine cq [3,6,7,11,19,20] (λk:Nat=>[(22,aa k)]) (λk=>oV W A q (gi R) f++[.row true [.own 11 (F2 k).length 0 (F2 k).length],.vec true (F2 k).length 1<|mK (W.next.length*A.next.length)<|F2 k]) (λk=>k<=A.fair.length) (λk=>A.fair.length-k) 0 ?_;refine sW ?_;refine⟨zo,by exact sK,by rw[<-nC];simp[ye,IB];rfl,?_⟩;rintro k hk;have Px:(F2 k).length=W.fair.length+k:=by rw[<-nC];dsimp only;rw[cL,eL,T3 hk]
 unfold oV;refine ck ?_;rw[aI];refine sS (λq0=>?_) λq0=>?_
 ·have q0:k<A.fair.length:=sO;have hB:=Lw k q0 (F2 k) zo;have eS:F2 (k+1)=F2 k++[λc=>gy (A.fair.getD k [])<|c%A.next.length]:=(by rw[<-nC];dsimp only;rw[Up q0,ig]);have eL2:(F2<|k+1).length=(F2 k).length+1:=(by rw[eS,cL];rfl);rw[<-eS] at hB;refine sL (eV (g:=A.fair) (k:=k) zo q0) ?_;refine sE hB ?_;refine sI ?_;refine⟨k+1,zo,zd,?_⟩;dsimp only;rw[eL2];exact aC (by exact sK) rfl
 have q0:k=A.fair.length:=sO;subst q0;have js:F2 A.fair.length=uC W A:=by
  rw[<-nC];dsimp only;rw[<-IB,<-Iv];unfold ye uC;rw[dM,dM]
 rw[js] at Px⊢;have Dp:=US R zo aY hFR (uC W A) zo;rw[M3] at Dp;have ml:rV (W.next.length*A.next.length) (uC W A)=D.aM 1 (List.drop 0 (List.take (uC W A).length (mK (W.next.length*A.next.length) (uC W A)))):=by rw[cB zs];rfl
 have Dk:bN R=D.aM 1 (List.drop 0<|List.take (W.next.length*A.next.length)<|gi R):=by rw[cB zq];rfl
 rw[ml,Dk] at Dp;refine sV Dp ?_;refine bb [11,23] (λk:Nat=>[(24,aa k)]) (λk=>[]) (λk=>k<=f.length/\∀i,i<k->fwB R (uC W A) (f.getD i 0).toNat=false) (λk=>f.length-k) 0 ?_;refine sW ?_;refine⟨⟨zo,λi hi=>zo⟩,by exact sK,rfl,?_⟩;rintro k ⟨hk,cg⟩;refine bf (λq0=>?_) λq0=>?_
 ·have q0:k<f.length:=sO;have mb:=df q0;have hx:=X6 _ mb;have ss:=λi hi=>cg i hi;refine sB ?_;refine⟨_,bV (l:=f) (k:=k) zo q0,?_⟩;refine sW ?_;generalize mI:f.getD k 0=x at *;refine sL (bc x.toNat zo zo) ?_;cases r:fwB R (uC W A) x.toNat
  ·refine aQ ?_;refine⟨k+1,⟨zo,λi hi=>?_⟩,zd,aC (by exact sK) rfl⟩;by_cases e:i=k
   ·subst e;rw[mI];exact r
   exact cg i zo
  refine sW ?_;exact cf<|by rw[hA.2 ⟨x,mb,zD.1 r⟩]
 have q0:k=f.length:=sO;subst q0;refine cf ?_;cases ha:ans
 ·rfl
 exfalso;obtain⟨x,hx,oj⟩:=hA.1 ha;obtain⟨i,hi,rfl⟩:=iD.1 hx;have:=cg i hi;rw[a8,aX hi,sj,zD.2 oj] at this;cases this
end
theorem S4:Deep H (.agg [au,au,au,au,au]) (mi Od) :=
 .agg _ _ (.cons _ _ _ _ (.none _) (.cons _ _ _ _ (.none _) (.cons _ _ _ _ (.none _) (.cons _ _ _ _ (.none _) (.cons _ _ _ _ (.none _) .nil)))))
theorem zvf:ao aj 114 [ba t]<|ba<|bK 4 t:=by
 refine bt ?_;refine sC (oS 4 t) ?_;exact .refl _
theorem zzB(hs:Small t):ao aj 52 [ba t] (.aJ [mi<|fX t,aa<|gU t]):=by
 refine bS fZ ?_;have lq:=uE (k:=4) hs;have hA:=XG t;unfold CM mN at hA;refine sR ?_;refine sC (zvf t) ?_;by_cases h0:aU bw (bK 4 t)=0
 ·have cy:=((rW _ _).1 h0).2.2;rw[ae h0] at hA;have yx:=vl _<|Rr _ cy;by_cases h1:aU bw (cY<|bK 4 t)=0
  ·rw[ae h1,ae rfl] at hA;have hR:=zpp (bK 4 t) cy h1;rw[hA] at hR;refine sC (yJ _ lq) ?_;rw[h0];refine sW ?_;refine sC (Qb _ cy) ?_;refine sC (yJ _ yx) ?_;rw[h1];refine sW ?_;refine sC hR ?_;exact sP
  rw[ab h1,ab h1] at hA;rw[<-hA];refine sC (yJ _ lq) ?_;rw[h0];refine sW ?_;refine sC (Qb _ cy) ?_;refine sC (yJ _ yx) ?_;refine sS (λh2=>?_) λh2=>?_
  ·exact .aJ _ _ (.cons _ _ _ _ S4 (.cons _ _ _ _ (.refl _) .nil))
  exact absurd (by simpa using h2) h1
 rw[ab h0,ab h0] at hA;rw[<-hA];refine sC (yJ _ lq) ?_;refine sS (λh2=>?_) λh2=>?_
 ·exact .aJ _ _ (.cons _ _ _ _ S4 (.cons _ _ _ _ (.refl _) .nil))
 exact absurd (by simpa using h2) h0
section
def oX(n:Nat):D:=.fn (.func 97) [] [.ax [aa n]]
variable(n:Nat)
@[simp] theorem zCw:Pure<|oX n:=by simp[oX,Pure,aA]
variable(W:bg)
@[simp] theorem zCK:aA W.cells:=by have:=zot W;simpa only[gh,Pure] using this
theorem Cm(hn:n<=1000000)(p:aq)(cl:FuncId)(caps:bj)(LL:aA caps)(hc:∀i:Nat,i<n->ao aj cl (aa i::caps) (ay<|p i)) :
  ao aj 97 [.fn (.func cl) [] caps,.ax [aa n]] (bx n p):=by
 refine dh fZ zs (by simp[aA,Pure,LL]) ?_<|lg _ _;refine sR ?_;refine⟨zo,zo,zo,?_⟩;rw[bO,show List.map D.sc [Value.bool false]=[ay false] from rfl,jS];refine sW ?_;refine bb [0,1,4] (λk:Nat=>[(5,aa k)]) (λk=>[(0,.vec true 0 1<|bF n λi=>if i<k then p i else false)]) (λk=>k<=n) (λk=>n-k) 0 ?_;refine sW ?_;refine⟨zo,by exact sK,by simp;rfl,?_⟩;rintro k hk;refine bf (λq0=>?_) λq0=>?_
 rotate_left
 ·have q0:k=n:=sO;subst q0;rw[iI (g':=p) λi hi=>ae hi];exact qi rfl
 have q0:k<n:=sO;refine sC (hc k q0) ?_;refine sB ?_;refine⟨_,bc k zo q0,?_⟩;refine aQ ?_;refine⟨k+1,zo,zd,aC (by exact sK) ?_⟩;rw[n8 (i:=k) (f':=λi=>if i<k+1 then p i else false) zo λv _=>by
  by_cases e:v=k
  ·subst e;rw[ae zo,ae rfl]
  rw[ab e];by_cases e2:v<k
  ·rw[ae e2,ae zo]
  rw[ab e2,ab zo]]
 rfl
theorem zyE(hn:n<=1000000)(p:aq)(cl:FuncId)(x y:D)(hx:Pure x)(hy:Pure y)(hc:∀i:Nat,i<n->ao aj cl [aa i,.ax [x],.ax [y]] (ay<|p i)) :
  bZ aj 97 [.fn (.func cl) [] [.loc 0 0,.ax [y]],.ax [aa n]] [.row true [x]] (.own 1 0 0 n) [.row true [x],.vec true 0 1<|bF n p]:=by
 refine jb fZ zs zs ?_ zu (by
  intro o ho;simp only[eQ,uH,or_false] at ho;rcases ho with rfl|rfl
  ·exact⟨bz _ hx,trivial⟩
  exact bm _<|uj _ _)
 refine sR ?_;refine⟨zo,zo,zo,?_⟩;rw[bO,show List.map D.sc [Value.bool false]=[ay false] from rfl,jS];refine sW ?_;refine bb [0,1,4] (λk:Nat=>[(5,aa k)]) (λk=>[(1,.vec true 0 1<|bF n λi=>if i<k then p i else false)]) (λk=>k<=n) (λk=>n-k) 0 ?_;refine sW ?_;refine⟨zo,by exact sK,by simp;rfl,?_⟩;rintro k hk;refine bf (λq0=>?_) λq0=>?_
 rotate_left
 ·have q0:k=n:=sO;subst q0;rw[iI (g':=p) λi hi=>ae hi];exact⟨rfl,aS _⟩
 have q0:k<n:=sO;refine sN (hc k q0) ?_;refine sB ?_;refine⟨_,bc k zo q0,?_⟩;refine aQ ?_;refine⟨k+1,zo,zd,aC (by exact sK) ?_⟩;rw[n8 (i:=k) (f':=λi=>if i<k+1 then p i else false) zo λv _=>by
  by_cases e:v=k
  ·subst e;rw[ae zo,ae rfl]
  rw[ab e];by_cases e2:v<k
  ·rw[ae e2,ae zo]
  rw[ab e2,ab zo]]
 rfl
theorem zBk(a:aq)(i:Nat)(hi:i<n):ao aj 99 [aa i,.ax [bx n a]]<|ay<|cv a i:=by
 refine bt ?_;refine sL (bc i zo hi) ?_;exact .refl _
theorem zC4(hn:n<=1000000)(a:aq):ao aj 98 [bx n a,.ax [oX n]]<|bx n<|cv a:=by
 have hE:=Cm n hn (cv a) 99 [.ax [bx n a]] zp λi hi=>zBk n a i hi;refine bS fZ ?_;unfold oX;refine sR ?_;refine sV hE ?_;exact .refl _
theorem zt3(a b:aq)(i:Nat)(hi:i<n):ao aj 103 [aa i,.ax [bx n a],.ax [bx n b]]<|ay<|ia a b i:=by
 refine bS fZ ?_;have e:ia a b i=(a i&&b i):=rfl;refine sR ?_;refine sL (bc i zo hi) ?_;cases r:a i
 ·rw[r] at e;refine sW ?_;rw[e];exact .refl _
 rw[r] at e;refine sW ?_;refine sL (bc i zo hi) ?_;rw[e];exact .refl _
theorem zuA(a b:aq)(i:Nat)(hi:i<n):ao aj 106 [aa i,.ax [bx n a],.ax [bx n b]]<|ay<|ia a b i:=by
 refine bS fZ ?_;have e:ia a b i=(a i&&b i):=rfl;refine sR ?_;refine sL (bc i zo hi) ?_;cases r:a i
 ·rw[r] at e;refine sW ?_;rw[e];exact .refl _
 rw[r] at e;refine sW ?_;refine sL (bc i zo hi) ?_;rw[e];exact .refl _
theorem zvS(hW:W.Fits)(hc:W.aU=0)(a:aq)(i:Nat)(hi:i<W.next.length):ao aj 105 [aa i,.ax W.cells,.ax [bx W.next.length a],.ax [bx W.next.length<|jT W]]<|ay<|fp W a i:=by
 obtain⟨_,qs,xC,_,gR,iW⟩:=qH W hc;have cR:=λk=>ft (g:=W.next) (λl hl=>(gR l hl).2) k;have vJ:iu W.next:=⟨hW.next,hW.yu⟩;have Cj:=vJ.at i;have fN:∀x∈W.next.getD i [],ao aj 106 [aa x,.ax [bx W.next.length a],.ax [bx W.next.length<|jT W]]<|ay<|ia a (jT W) x.toNat:=λx hx=>by
  have h:=cZ (cR i) hx;have:=zuA W.next.length a (jT W) x.toNat zo;rwa [show((x.toNat:Nat):Int)=x by omega] at this
 have hC:=mh (λx=>aa x) (λx=>by simp[Pure]) (W.next.getD i []) zo (λx=>ia a (jT W) x.toNat) 106 [.ax [bx W.next.length a],.ax [bx W.next.length<|jT W]] zp fN;refine bS fZ ?_;have e:fp W a i=(W.next.getD i []).any λx=>ia a (jT W) x.toNat:=rfl;rw[e];unfold bg.cells at *;refine sR ?_;refine sL (eV (g:=W.next) (k:=i) zo hi) ?_;refine sC hC ?_;exact .refl _
theorem zyl(hW:W.Fits)(hc:W.aU=0)(a:aq):ao aj 104 [bx W.next.length a,.ax [oX W.next.length],.ax W.cells,.ax [bx W.next.length<|jT W]]<|bx W.next.length<|fp W a:=by
 obtain⟨_,qs,_⟩:=qH W hc;have hE:=Cm W.next.length zo (fp W a) 105 [.ax W.cells,.ax [bx W.next.length a],.ax [bx W.next.length<|jT W]] zp λi hi=>zvS W hW hc a i hi;refine bS fZ ?_;unfold oX;refine sR ?_;refine sV hE ?_;exact .refl _
end
section
theorem zvl(W:bg)(hW:W.Fits)(hc:W.aU=0)(a b:aq):ao aj 102 [bx W.next.length a,bx W.next.length b,.ax [oX W.next.length],.ax [bx W.next.length<|jT W],.ax [aa W.next.length],.ax W.cells]<|bx W.next.length<|euF W a b:=by
 obtain⟨_,qs,xC,_,gR,iW⟩:=qH W hc;have cR:=λk=>ft (g:=W.next) (λl hl=>(gR l hl).2) k;have vJ:iu W.next:=⟨hW.next,hW.yu⟩;have hM:=zyE W.next.length zo (ia b<|jT W) 103 (bx W.next.length b) (bx W.next.length<|jT W) (lg _ _) (lg _ _) λi hi=>zt3 W.next.length b (jT W) i hi;have e0:euF W a b=euB W.next a (ia b<|jT W):=rfl;refine bS fZ ?_;rw[e0];clear e0;generalize ia b (jT W)=c at *;unfold oX bg.cells at *;refine sR ?_;refine sA hM ?_
 refine bb [0,4,5,9] (λ((m,s):Bool×aq)=>[(10,ay m)]) (λ(m,s)=>[(1,.vec true 0 1<|bF W.next.length s)])
  (λ(m,s)=>(∀v,s v->Eu W.next a c v)/\(∀v,c v->s v)/\(m=false->∀v x,x∈W.next.getD v []->a v->s x.toNat->s v)) (λ(m,s)=>if m=true then 1+cQ s W.next.length else 0) (true,c) ?_
 refine sW ?_;refine⟨⟨(λv h=>.base h),(λv h=>h),(λh=>by cases h)⟩,by exact sK,rfl,?_⟩;rintro⟨m,s0⟩ ⟨hS,hC,fN⟩;refine ck ?_;cases m
 ·refine sW ?_;rw[iI (g':=euB W.next a c) λi _=>zsF hS hC (fN rfl) i];exact qi rfl
 refine sW ?_
 refine bb [0,4,5,9] (λ((m,i,s):Bool×Nat×aq)=>[(10,ay m),(11,aa i)]) (λ(m,i,s)=>[(1,.vec true 0 1<|bF W.next.length s)])
  (λ(m,i,s)=>i<=W.next.length/\(∀v,s v->Eu W.next a c v)/\(∀v,s0 v->s v)/\(m=true->cQ s W.next.length<cQ s0 W.next.length)/\(m=false->∀v x,v<i->x∈W.next.getD v []->a v->s x.toNat->s v)) (λ(m,i,s)=>W.next.length-i) (false,0,s0) ?_
 refine sW ?_;refine⟨⟨zo,hS,(λv h=>h),(λh=>by cases h),(λ_ v x h=>zo)⟩,by exact sK,rfl,?_⟩;clear hS fN;rintro⟨m,i,s⟩ ⟨hi,hS,gd,lK,j7⟩;refine bf (λq1=>?_) λq1=>?_
 rotate_left
 ·have q1:i=W.next.length:=sO;subst q1;have hle:=zS (n:=W.next.length) λj _ h=>gd j h;refine⟨(m,s),⟨hS,λv h=>gd v<|hC v h,λh v x hx=>?_⟩,?_,aC (by exact sK) rfl⟩
  ·rcases gK v W.next.length with q|q
   ·exact j7 h v x q hx
   rw[a8,dG q] at hx;cases hx
  dsimp only;cases m
  ·simp;omega
  have:=lK rfl;simp;omega
 have aT:i<W.next.length:=sO;have Cj:=vJ.at i
 refine bb [0,4,5,9,11] (λ((m,j,s):Bool×Nat×aq)=>[(10,ay m),(12,aa j)]) (λ(m,j,s)=>[(1,.vec true 0 1<|bF W.next.length s)])
  (λ(m,j,s)=>j<=(W.next.getD i []).length/\(∀v,s v->Eu W.next a c v)/\(∀v,s0 v->s v)/\(m=true->cQ s W.next.length<cQ s0 W.next.length)/\(m=false->(∀v x,v<i->x∈W.next.getD v []->a v->s x.toNat->s v)/\∀y,y<j->a i->s ((W.next.getD i []).getD y 0).toNat->s i)) (λ(m,j,s)=>(W.next.getD i []).length-j) (m,0,s) ?_
 refine sW ?_;refine⟨⟨zo,hS,gd,lK,λh=>⟨j7 h,λy h=>zo⟩⟩,by exact sK,rfl,?_⟩;clear hS gd lK j7 q1;rintro⟨m,j,s⟩ ⟨hj,hS,gd,lK,j7⟩;refine ck ?_;refine sL (eV (g:=W.next) (k:=i) zo aT) ?_;rw[aI];refine sS (λq1=>?_) λq1=>?_
 rotate_left
 ·have q1:j=(W.next.getD i []).length:=sO;subst q1;refine sI ?_;refine⟨(m,i+1,s),⟨zo,hS,gd,lK,λh v x hv hx ha CY=>?_⟩,zd,aC (by exact sK) rfl⟩;by_cases e:v=i
  ·subst e;obtain⟨y,hy,rfl⟩:=pd hx;exact(j7 h).2 y hy ha CY
  exact(j7 h).1 v x zo hx ha CY
 have de:j<(W.next.getD i []).length:=sO;have hx:=cZ (cR i)<|df de;have Bm:=df de;have JR:∀z',z'=j->((W.next.getD i []).map λn=>[aa n])[z']? = some [aa<|(W.next.getD i []).getD j 0]:=λz' hz=>bV (l:=W.next.getD i []) hz de;refine sL (bc i zo aT) ?_;cases ra:a i
 ·have F8:a i->s ((W.next.getD i []).getD j 0).toNat->s i:=λh=>by rw[ra] at h;cases h
  refine aQ ?_;refine⟨(m,j+1,s),⟨zo,hS,gd,lK,λh=>⟨(j7 h).1,λy hy ha vR=>?_⟩⟩,zd,aC (by exact sK) rfl⟩;have hq:s i=true:=by
   by_cases e:y=j
   ·subst e;exact F8 (ra.trans ha)<|by first|exact vR|exact rx.trans vR
   exact(j7 h).2 y zo (ra.trans ha) vR
  first|exact hq|exact rs.symm.trans hq
 refine bC ?_;refine⟨_,bc i zo aT,?_⟩;refine sW ?_;cases rs:s i
 rotate_left
 ·have F8:a i->s ((W.next.getD i []).getD j 0).toNat->s i:=λ_ _=>rs;refine aQ ?_;refine⟨(m,j+1,s),⟨zo,hS,gd,lK,λh=>⟨(j7 h).1,λy hy ha vR=>?_⟩⟩,zd,aC (by exact sK) rfl⟩;have hq:s i=true:=by
   by_cases e:y=j
   ·subst e;exact F8 (ra.trans ha)<|by first|exact vR|exact rx.trans vR
   exact(j7 h).2 y zo (ra.trans ha) vR
  first|exact hq|exact rs.symm.trans hq
 refine sW ?_;refine sL (eV (g:=W.next) (k:=i) zo aT) ?_;refine⟨zo,_,JR _ zo,?_⟩;generalize mI:(W.next.getD i []).getD j 0=x at *;refine bC ?_;refine⟨_,bc x.toNat zo zo,?_⟩;refine sW ?_;cases rx:s x.toNat
 ·have F8:a i->s ((W.next.getD i []).getD j 0).toNat->s i:=λ_ h=>by rw[mI,rx] at h;cases h
  refine aQ ?_;refine⟨(m,j+1,s),⟨zo,hS,gd,lK,λh=>⟨(j7 h).1,λy hy ha vR=>?_⟩⟩,zd,aC (by exact sK) rfl⟩;have hq:s i=true:=by
   by_cases e:y=j
   ·subst e;exact F8 (ra.trans ha)<|by first|exact vR|exact rx.trans vR
   exact(j7 h).2 y zo (ra.trans ha) vR
  first|exact hq|exact rs.symm.trans hq
 refine bC ?_;refine⟨_,bc i zo aT,?_⟩;refine aQ ?_;have cG:=nK (s:=s) (s':=mark s i) aT (λj _ q=>fo q) rs<|km _ _;have hle:=zS (n:=W.next.length) λj _ h=>gd j h;refine⟨(true,j+1,mark s i),⟨zo,λv hv=>?_,λv h=>fo<|gd v h,λ_=>zo,λh=>by cases h⟩,zd,aC (by exact sK)<|by rw[nV (v:=i) zo];rfl⟩;rcases nE.1 hv with e|e
 ·subst e;exact .step ra Bm<|hS _ rx
 exact hS v e
end
section
variable(W:bg)
theorem zzl(hl:W.label.length=W.next.length)(hL:tS W.label)(t:Tree)(hn:0<=t.num/\t.num<=63)(i:Nat)(hi:i<W.next.length):ao aj 107 [aa i,.ax W.cells,.ax<|aO t]<|ay<|yv W t.num i:=by
 refine bS fZ ?_;have e:yv W t.num i=oO (W.label.getD i 0) t.num:=rfl;rw[e];unfold bg.cells iw;refine sR ?_;refine sL (UJ (k:=i) zo zo) ?_;refine⟨hn.1,?_⟩;refine sW ?_;refine⟨zc,?_⟩;refine sW ?_;exact .refl _
theorem zBR(t:Tree)(h2:t.width=2)(i:Nat)(hi:i<W.next.length):ao aj 108 [aa i,.ax [.aM 1<|iX W t t.width]]<|ay<|ia (br W t.kids 0) (br W t.kids 1) i:=by
 refine bS fZ ?_;have e:ia (br W t.kids 0) (br W t.kids 1) i=(br W t.kids 0 i&&br W t.kids 1 i):=rfl;rw[e];refine sR ?_;refine sL (jA (j:=0) zo zo) ?_;refine sL (bc i zo hi) ?_;cases r:br W t.kids 0 i
 ·refine sW ?_;exact .refl _
 refine sW ?_;refine sL (jA (j:=1) zo zo) ?_;refine sL (bc i zo hi) ?_;exact .refl _
theorem zCE(t:Tree)(h2:t.width=2)(i:Nat)(hi:i<W.next.length):ao aj 109 [aa i,.ax [.aM 1<|iX W t t.width]]<|ay<|orF (br W t.kids 0) (br W t.kids 1) i:=by
 refine bS fZ ?_;have e:orF (br W t.kids 0) (br W t.kids 1) i=(br W t.kids 0 i||br W t.kids 1 i):=rfl;rw[e];refine sR ?_;refine sL (jA (j:=0) zo zo) ?_;refine sL (bc i zo hi) ?_;cases r:br W t.kids 0 i
 ·refine sW ?_;refine sL (jA (j:=1) zo zo) ?_;refine sL (bc i zo hi) ?_;exact .refl _
 refine sW ?_;exact .refl _
theorem zBa(t:Tree)(h2:t.width=2)(i:Nat)(hi:i<W.next.length):ao aj 110 [aa i,.ax [.aM 1<|iX W t t.width]]<|ay<|ia (cv<|br W t.kids 0) (cv<|br W t.kids 1) i:=by
 refine bS fZ ?_;have e:ia (cv<|br W t.kids 0) (cv<|br W t.kids 1) i=(!br W t.kids 0 i&&!br W t.kids 1 i):=rfl;rw[e];refine sR ?_;refine sL (jA (j:=0) zo zo) ?_;refine sL (bc i zo hi) ?_;cases r:br W t.kids 0 i
 ·refine sW ?_;refine sL (jA (j:=1) zo zo) ?_;refine sL (bc i zo hi) ?_;exact .refl _
 refine sW ?_;exact .refl _
theorem zzJ(n:Nat)(a b:aq)(i:Nat)(hi:i<n):ao aj 111 [aa i,.ax [bx n a],.ax [bx n b]]<|ay<|cv (orF b a) i:=by
 refine bS fZ ?_;have e:cv (orF b a) i=(!a i&&!b i):=by unfold cv orF;rw[Bool.not_or,Bool.and_comm]
 rw[e];refine sR ?_;refine sL (bc i zo hi) ?_;cases r:a i
 ·refine sW ?_;refine sL (bc i zo hi) ?_;exact .refl _
 refine sW ?_;exact .refl _
theorem zuv(hW:W.Fits)(hc:W.aU=0)(hL:tS W.label):∀t:Tree,t.wf c9->ao aj 50 [gh W,ba t] (bx W.next.length<|ni W t):=by
 obtain⟨hl,qs,_⟩:=qH W hc;have h6:W.next.length<=1000000:=zo;have Mh:=ztt W.next.length h6;intro t
 induction t using Tree.ind with
 |h t ih =>
  intro cy;obtain⟨tX,uO⟩:=Sa ((jD _ _).1 cy).1;have OV:t.width<=2:=zo;have xx:=λa=>zC4 W.next.length h6 a;have IK:=λa=>zyl W hW hc a;have JT:=λa b=>zvl W hW hc a b;have Dz:=λz=>zwT W hW hc z;have hA:=Cm W.next.length h6 (yv W t.num) 107 [.ax W.cells,.ax<|aO t] zp λi hi=>zzl W hl hL t uO i hi;have vB:=λ(h:t.width=2)=>Cm W.next.length h6 (ia (br W t.kids 0)<|br W t.kids 1) 108 [.ax [.aM 1<|iX W t t.width]] zp λi hi=>zBR W t h i hi;have hOr:=λ(h:t.width=2)=>Cm W.next.length h6 (orF (br W t.kids 0)<|br W t.kids 1) 109 [.ax [.aM 1<|iX W t t.width]] zp λi hi=>zCE W t h i hi;have hNr:=λ(h:t.width=2)=>Cm W.next.length h6 (ia (cv<|br W t.kids 0)<|cv<|br W t.kids 1) 110 [.ax [.aM 1<|iX W t t.width]] zp λi hi=>zBa W t h i hi;have SU:=λa b=>Cm W.next.length h6 (cv<|orF b a) 111 [.ax [bx W.next.length a],.ax [bx W.next.length b]] zp λi hi=>zzJ W.next.length a b i hi;refine bS (fY [47,3071]) ?_;rw[UA];unfold gh at *;have Gl:W.cells=W.cells:=rfl;refine sR ?_;rw[aI];refine bQ (gG 3 0 1 zs rfl rfl) ?_;refine cq [2,3,5,6] (λk:Nat=>[(7,aa k)]) (λk=>[.row true W.cells,.row true<|aO t,.row true [aa W.next.length],.row true [.own 4 k 0 k],.vec true k 1<|iX W t k]) (λk=>k<=t.width) (λk=>t.width-k) 0 ?_;refine dd ?_;rintro k hk;refine bf (λh1=>?_) λh1=>?_
  ·have ai:k<t.width:=(by simpa [Tree.width] using h1);refine sL (by rw[bO];exact db ai) ?_;have GL:=ih k ai<|gB cy ai;rw[<-VS W ai] at GL;refine sC GL ?_;refine⟨by unfold iF;simp;omega,?_⟩;refine aQ ?_;refine⟨k+1,zo,zd,?_⟩;dsimp only;refine aL 5 zs rfl sQ (sU ?_);exact aV<|XV W t k
  have BG:k=t.width:=(by have:¬k<t.width:=(by simpa [Tree.width] using h1);omega);subst BG;clear ih h1 hk;have Xb:∀{H:aE},H[4]? = some (.vec true t.width 1<|iX W t t.width)->iP (λ_=>true) H (.own 4 t.width 0 t.width) (.aM 1<|iX W t t.width):=λh=>.own _ _ _ _ _ _ _ _ rfl h (aV<|by rw[dP,fG zs])
  refine bQ (nX (λ_=>true) (env':=[(2,.ax W.cells),(3,.ax<|aO t),(5,.ax [aa W.next.length]),(6,.ax [.aM 1<|iX W t t.width])])
   (H':=[.row false W.cells,.row false<|aO t,.row false [aa W.next.length],.row false [.aM 1<|iX W t t.width],.vec false t.width 1<|iX W t t.width]) ?_ ?_) ?_
  ·refine⟨.loc _ _ _ _ _ rfl rfl (.refl _),.loc _ _ _ _ _ rfl rfl (.refl _),.loc _ _ _ _ _ rfl rfl (.refl _),.loc _ _ _ _ _ rfl rfl (.cons _ _ _ _ (Xb rfl) (.refl _)),trivial⟩
  ·exact⟨⟨.inr ⟨rfl,rfl⟩,λ_=>rfl,.refl _⟩,⟨.inr ⟨rfl,rfl⟩,λ_=>rfl,.refl _⟩,⟨.inr ⟨rfl,rfl⟩,λ_=>rfl,.refl _⟩,⟨.inr ⟨rfl,rfl⟩,λ_=>rfl,.cons _ _ _ _ (Xb rfl) (.refl _)⟩,⟨.inr ⟨rfl,rfl⟩,λ_=>rfl,rfl,rfl,.refl _⟩,trivial⟩
  refine sRS (λg7=>?_) λg7=>?_
  ·have g7:7<=t.kind:=sO;refine sC Mh ?_;refine sC (Dz iK) ?_;have ct:∀{H:aE},H[4]? = some (.vec false t.width 1<|iX W t t.width)->True:=λ_=>trivial
   refine bQ (nX (λ_=>true) (env':=[(2,.ax W.cells),(3,.ax<|aO t),(5,.ax [aa W.next.length]),(6,.ax [.aM 1<|iX W t t.width]),(8,.ax [oX W.next.length]),(9,.fn (.func 98) [] [.ax [oX W.next.length]]),(11,.fn (.func 102) [] [.ax [oX W.next.length],.ax [bx W.next.length<|jT W],.ax [aa W.next.length],.ax W.cells]),(12,.fn (.func 104) [] [.ax [oX W.next.length],.ax W.cells,.ax [bx W.next.length<|jT W]])])
    (H':=[.row false W.cells,.row false<|aO t,.row false [aa W.next.length],.row false [.aM 1<|iX W t t.width],.vec false t.width 1<|iX W t t.width,.row false [oX W.next.length],.row false [bx W.next.length<|jT W]]) ?_ ?_) ?_
   ·exact sD
   ·exact sD
   refine sR ?_;refine sC Mh ?_;refine sS (λg=>?_) λg=>?_
   ·exfalso;exact sO
   have g1:¬t.kind=1:=sO;clear g;refine sS (λg=>?_) λg=>?_
   ·exfalso;exact sO
   have g2:¬t.kind=2:=sO;clear g;refine sS (λg=>?_) λg=>?_
   ·exfalso;exact sO
   have g3:¬t.kind=3:=sO;clear g;refine sS (λg=>?_) λg=>?_
   ·exfalso;exact sO
   have g4:¬t.kind=4:=sO;clear g;refine sS (λg=>?_) λg=>?_
   ·exfalso;exact sO
   have g5:¬t.kind=5:=sO;clear g;refine sS (λg=>?_) λg=>?_
   ·exfalso;exact sO
   have g6:¬t.kind=6:=sO;clear g;refine sS (λg=>?_) λg=>?_
   ·have g:t.kind=7:=sO;rw[show dH W t.kind t.num (br W t.kids)=fp W (br W t.kids 0) from by unfold dH;simp[g]];refine sL (jA (j:=0) zo zo) ?_;refine sC (IK<|br W t.kids 0) ?_;exact .refl _
   have g7:¬t.kind=7:=sO;clear g;refine sS (λg=>?_) λg=>?_
   ·have g:t.kind=8:=sO;rw[show dH W t.kind t.num (br W t.kids)=euF W iK (br W t.kids 0) from by unfold dH;simp[g]];refine sL (jA (j:=0) zo zo) ?_;refine sC (JT iK<|br W t.kids 0) ?_;exact .refl _
   have g8:¬t.kind=8:=sO;clear g;refine sS (λg=>?_) λg=>?_
   ·have g:t.kind=9:=sO;rw[show dH W t.kind t.num (br W t.kids)=egF W (br W t.kids 0) from by unfold dH;simp[g]];refine sL (jA (j:=0) zo zo) ?_;refine sC (Dz<|br W t.kids 0) ?_;exact .refl _
   have g9:¬t.kind=9:=sO;clear g;refine sS (λg=>?_) λg=>?_
   ·have g:t.kind=10:=sO;rw[show dH W t.kind t.num (br W t.kids)=euF W (br W t.kids 0) (br W t.kids 1) from by unfold dH;simp[g]];refine sL (jA (j:=0) zo zo) ?_;refine sL (jA (j:=1) zo zo) ?_;refine sC (JT (br W t.kids 0)<|br W t.kids 1) ?_;exact .refl _
   have g10:¬t.kind=10:=sO;clear g;refine sS (λg=>?_) λg=>?_
   ·have g:t.kind=11:=sO;rw[show dH W t.kind t.num (br W t.kids)=cv (fp W<|cv<|br W t.kids 0) from by unfold dH;simp[g]];refine sL (jA (j:=0) zo zo) ?_;refine sC (xx<|br W t.kids 0) ?_;refine sC (IK<|cv<|br W t.kids 0) ?_;refine sC (xx<|fp W<|cv<|br W t.kids 0) ?_;exact .refl _
   have g11:¬t.kind=11:=sO;clear g;refine sS (λg=>?_) λg=>?_
   ·have g:t.kind=12:=sO;rw[show dH W t.kind t.num (br W t.kids)=cv (egF W<|cv<|br W t.kids 0) from by unfold dH;simp[g]];refine sL (jA (j:=0) zo zo) ?_;refine sC (xx<|br W t.kids 0) ?_;refine sC (Dz<|cv<|br W t.kids 0) ?_;refine sC (xx<|egF W<|cv<|br W t.kids 0) ?_;exact .refl _
   have g12:¬t.kind=12:=sO;clear g;refine sS (λg=>?_) λg=>?_
   ·have g:t.kind=13:=sO;rw[show dH W t.kind t.num (br W t.kids)=cv (euF W iK<|cv<|br W t.kids 0) from by unfold dH;simp[g]];refine sL (jA (j:=0) zo zo) ?_;refine sC (xx<|br W t.kids 0) ?_;refine sC (JT iK<|cv<|br W t.kids 0) ?_;refine sC (xx<|euF W iK<|cv<|br W t.kids 0) ?_;exact .refl _
   have g13:¬t.kind=13:=sO;clear g;have g:t.kind=14:=zo;rw[show dH W t.kind t.num (br W t.kids)=auF W (br W t.kids 0) (br W t.kids 1) from by unfold dH;simp[g]];refine sL (jA (j:=1) zo zo) ?_;refine sC (xx<|br W t.kids 1) ?_;refine sC (Dz<|cv<|br W t.kids 1) ?_;refine sL (jA (j:=1) zo zo) ?_;refine sC (xx<|br W t.kids 1) ?_;refine sC (hNr zo) ?_;refine sC (JT (cv<|br W t.kids 1)<|ia (cv<|br W t.kids 0)<|cv<|br W t.kids 1) ?_;refine sV (SU (egF W<|cv<|br W t.kids 1)<|euF W (cv<|br W t.kids 1)<|ia (cv<|br W t.kids 0)<|cv<|br W t.kids 1) ?_;exact .refl _
  have g7:¬7<=t.kind:=sO;have ct:∀{H:aE},H[4]? = some (.vec false t.width 1<|iX W t t.width)->True:=λ_=>trivial
  refine bQ (nX (λ_=>true) (env':=[(2,.ax W.cells),(3,.ax<|aO t),(5,.ax [aa W.next.length]),(6,.ax [.aM 1<|iX W t t.width]),(8,.ax [oX W.next.length]),(9,.fn (.func 98) [] [.ax [oX W.next.length]]),(11,.fn (.func 102) [] [.ax [oX W.next.length],.ax [au],.ax [aa W.next.length],.ax W.cells]),(12,.fn (.func 104) [] [.ax [oX W.next.length],.ax W.cells,.ax [au]])])
   (H':=[.row false W.cells,.row false<|aO t,.row false [aa W.next.length],.row false [.aM 1<|iX W t t.width],.vec false t.width 1<|iX W t t.width,.row false [oX W.next.length],.row false [au]]) ?_ ?_) ?_
  ·exact sD
  ·exact sD
  refine sR ?_;refine sC Mh ?_;refine sS (λg=>?_) λg=>?_
  ·have g:t.kind=1:=sO;rw[show dH W t.kind t.num (br W t.kids)=iK from by unfold dH;simp[g]];exact .refl _
  have g1:¬t.kind=1:=sO;clear g;refine sS (λg=>?_) λg=>?_
  ·have g:t.kind=2:=sO;rw[show dH W t.kind t.num (br W t.kids)=cv iK from by unfold dH;simp[g]];refine sC (xx iK) ?_;exact .refl _
  have g2:¬t.kind=2:=sO;clear g;refine sS (λg=>?_) λg=>?_
  ·have g:t.kind=3:=sO;rw[show dH W t.kind t.num (br W t.kids)=yv W t.num from by unfold dH;simp[g]];refine sC hA ?_;exact .refl _
  have g3:¬t.kind=3:=sO;clear g;refine sS (λg=>?_) λg=>?_
  ·have g:t.kind=4:=sO;rw[show dH W t.kind t.num (br W t.kids)=cv (br W t.kids 0) from by unfold dH;simp[g]];refine sL (jA (j:=0) zo zo) ?_;refine sC (xx<|br W t.kids 0) ?_;exact .refl _
  have g4:¬t.kind=4:=sO;clear g;refine sS (λg=>?_) λg=>?_
  ·have g:t.kind=5:=sO;rw[show dH W t.kind t.num (br W t.kids)=ia (br W t.kids 0) (br W t.kids 1) from by unfold dH;simp[g]];refine sC (vB zo) ?_;exact .refl _
  have g5:¬t.kind=5:=sO;clear g;refine sS (λg=>?_) λg=>?_
  ·have g:t.kind=6:=sO;rw[show dH W t.kind t.num (br W t.kids)=orF (br W t.kids 0) (br W t.kids 1) from by unfold dH;simp[g]];refine sC (hOr zo) ?_;exact .refl _
  have g6:¬t.kind=6:=sO;clear g;omega
end
variable(l:List aZ)
theorem zoQ(hl:l.length<=9223372036854775807)(p:aZ->Bool)(cl:FuncId)(cap:bj)(hp:aA cap)(hc:∀a∈l,ao aj cl (.agg (su a.1 a.2)::cap)<|ay<|p a) :
  ao aj 157 [mo l,.fn (.func cl) [] cap] (aa<|dN p l):=by
 refine dh fZ zs (by simp[aA,Pure,hp,yP]) ?_ zp;refine sR ?_;rw[oz];have fin:∀{z:Int},z=dN p l->Deep [] (aa z) (aa<|dN p l):=λh=>h▸.refl _;refine bb [0,1,7] (λk:Nat=>[(8,aa k)]) (λ_=>[]) (λk=>k<=l.length/\∀j (hj:j<k) (hl:j<l.length),p l[j]=false) (λk=>l.length-k) 0 ?_;refine sW ?_;refine⟨⟨zo,λj hj=>zo⟩,by exact sK,rfl,?_⟩;rintro k ⟨hk,cg⟩;refine bf (λh=>?_) λh=>?_
 ·have ai:k<l.length:=sO;have e:l.getD k (0,0)=l[k]:=(by rw[a8,aX ai];rfl);refine⟨zo,_,lu (k:=k) zo ai,?_⟩;rw[e];refine sW ?_;refine sC (hc _<|iZ ai) ?_;refine sS (λh2=>?_) λh2=>?_
  ·exact fin (xd ai h2 λj hj=>cg j hj zo).symm
  refine sI ?_;refine⟨k+1,⟨zo,λj hj hl=>?_⟩,zd,aC (by exact sK) rfl⟩;by_cases e:j=k
  ·subst e;exact h2
  exact cg j zo hl
 have ai:¬k<l.length:=sO;exact fin (Av λj hj=>cg j zo hj).symm
theorem zg1(hl:l.length<=9223372036854775807)(p:aZ->Bool)(cl:FuncId)(cap:bj)(hp:aA cap)(hc:∀a∈l,ao aj cl (.agg (su a.1 a.2)::cap)<|ay<|p a) :
  ao aj 85 [mo l,.fn (.func cl) [] cap] (ay<|l.any p):=by
 refine dh fZ zs (by simp[aA,Pure,hp,yP]) ?_ zp;refine sR ?_;refine sC (zoQ l hl p cl cap hp hc) ?_;rw[sz];exact .refl _
theorem ztu(e:aZ)(k:Int):ao aj 86 [.agg<|su e.1 e.2,.ax [aa k]]<|ay<|e.1==k:=by
 refine dh fZ zs (by simp[aA,Pure,su]) ?_ zp;refine sR ?_;exact .refl _
def w8(N:List<|List aZ)(m k:Nat):ah:=((N.getD m []).take k).map λx=>x.2
theorem zsI(N:List<|List aZ)(m:Nat):w8 N m 0=[]:=by simp[w8]
variable{N:List<|List aZ}
theorem ztq(h:k<(N.getD m []).length):w8 N m (k+1)=w8 N m k++[((N.getD m []).getD k (0,0)).2]:=by
 unfold w8;rw[jP,getE h,oD];rfl
theorem zwp(h:k<=(N.getD m []).length):(w8 N m k).length=k:=by
 simp only[w8,aI,fg];omega
theorem zsM(N:List<|List aZ)(m:Nat):lJ N (m+1)=if (N.getD m []).length=0 then lJ N m++[(m:Int)] else lJ N m++w8 N m (N.getD m []).length:=by
 simp only[lJ,nu,w8,dM]
 grind
variable(P:af)
theorem E4(hP:P.Fits)(M:ak)(N:List<|List aZ)(hF:B5 P M N):ao aj 47 [b7 P,mS M N]
  (if bu N N.length<=600 then .aJ [vm (jG N 0) (ko N) (oi P.aR N)<|o9 P.aR N,mo<|cc N N.length,aa 0] else .aJ [vm [] [] [] [],mo [],aa 2]):=by
 have hS:=hF.sp;have hf:=hS.few;have hl:=hS.len;have lO:=hS.pos;obtain⟨h0,_,xo⟩:=af.kB hF.steps;have CF:∀j,j<P.aR.length->0<=(P.aR.getD j (0,0,0)).1/\(P.aR.getD j (0,0,0)).1<=63:=λj hj=>by
  have h1:=(af.yW hF.steps hj).node;have:=(jo h0).1;omega
 refine dh fZ zs zp ?_ (by split<;>simp[Pure,aA,UW,yP]);refine sR ?_;refine sC (J6 P hP) ?_;refine bQ (kY (eo 9 2 zs rfl)<|eo 10 1 zs rfl) ?_;refine bb [3,4,7] (λ((m,a):Nat×Nat)=>[(9,.own 3 a 0 a),(10,.own 4 a 0 a),(11,aa m)]) (λ(m,a)=>[(3,.vec true a 2<|iy<|cc N m),(4,.vec true a 1<|aw<|lJ N m)]) (λ(m,a)=>m<=N.length/\a=bu N m) (λ(m,a)=>N.length-m) (0,0) ?_;refine sW ?_;refine⟨⟨zo,rfl⟩,by exact sK,rfl,?_⟩;rintro⟨m,a⟩ ⟨hm,ha⟩;have haS:=D3 hS hm;refine ck ?_;rw[aI];refine sS (λh1=>?_) λh1=>?_
 ·have uT:m<N.length:=sO;have lx:=hS.rowAt m;have e1:=Yd N m;have Il:=zsM N m;have e2:=o4 N m;have e3:=qp N m;have aY:=λk (hk:k<(N.getD m []).length)=>WC hk;have hgs:=λk (hk:k<(N.getD m []).length)=>ztq hk;have N3:=λk (hk:k<=(N.getD m []).length)=>UQ hk;have zqd:=λk (hk:k<=(N.getD m []).length)=>zwp hk;have l3:(cc N m).length=a:=(by rw[ha];rfl);have l4:(lJ N m).length=a:=(by rw[ha,zY]);have iM:=TU N m;have VN:=zsI N m;have cD:=ru (L:=N) (z:=(m:Int).toNat) (k:=m) zo uT;generalize N.getD m []=l at *
  refine bb [3,4,7,11] (λ((k,c):Nat×Nat)=>[(9,.own 3 c 0 c),(10,.own 4 c 0 c),(12,aa k)])
   (λ(k,c)=>[(3,.vec true c 2<|iy<|cc N m++vE N m k),(4,.vec true c 1<|aw<|lJ N m++w8 N m k)]) (λ(k,c)=>k<=l.length/\c=a+k) (λ(k,c)=>l.length-k) (0,a) ?_
  refine sW ?_;refine⟨⟨zo,rfl⟩,by exact sK,by dsimp only;rw[iM,VN,lv,lv];rfl,?_⟩;rintro⟨k,c⟩ ⟨hk,hc⟩;have tH:=N3 k hk;have Dk:=zqd k hk;refine ck ?_;refine sL (cD) ?_;rw[oz];refine sS (λh2=>?_) λh2=>?_
  ·have ai:k<l.length:=sO;have iR:=aY k ai;have hg1:=hgs k ai;refine sL (cD) ?_;refine sL (lu (k:=k) zo ai) ?_;refine sJ ?_;refine sL (cD) ?_;refine sL (lu (k:=k) zo ai) ?_;refine ee ?_;refine⟨(k+1,c+1),⟨zo,zo⟩,zd,?_⟩;dsimp only;rw[iR,hg1];refine aL 5 zs rfl sG (sZ2 ?_ ?_)
   ·rw[<-ig];exact aV<|AH<|by rw[cL,l3,tH,hc]
   rw[<-ig];exact aV<|kJ<|by rw[cL,l4,Dk,hc]
  have ai:k=l.length:=by have:¬k<l.length:=sO
                         omega
  subst ai;refine sL (cD) ?_;rw[oz];refine sS (λh3=>?_) λh3=>?_
  ·have h3:l.length=0:=sO;rw[ae h3] at e1 Il e3;refine sJ ?_;refine ee ?_;refine⟨(m+1,c+1),⟨zo,zo⟩,zd,?_⟩;dsimp only;rw[e1,Il];refine aL 5 zs rfl sG (sZ2 ?_ ?_)
   ·refine aV ?_;rw[h3,iM,lv];exact AH zo
   refine aV ?_;rw[h3,VN,lv];exact kJ zo
  have h3:¬l.length=0:=sO;rw[ab h3] at e1 Il e3;refine sI ?_;refine⟨(m+1,c),⟨zo,zo⟩,zd,?_⟩;dsimp only;rw[e1,Il];exact aL 5 zs rfl sQ sQ
 have uT:m=N.length:=by have:¬m<M.length:=sO
                        omega
 subst uT;subst ha;rw[ua];by_cases hA:bu N N.length<=600
 ·have hb:decide ((bu N N.length:Int)>600)=false:=gI zo;rw[hb,ae hA];refine sW ?_;have LF:=KU N;have BS:=NV P.aR N;have sF:=LG P.aR N;have oZ:=ym N N.length;have Dk:=zY N N.length;have Gp:List.drop 0 (List.take (bu N N.length)<|iy<|cc N N.length)=iy (cc N N.length):=cB (by simp[ym]);have hfg:List.drop 0 (List.take (bu N N.length)<|aw<|lJ N N.length)=aw (lJ N N.length):=cB (by simp[aw,zY])
  refine bQ (kY (nX (λi=>i==3||i==4) (env':=[(14,aa 0),(13,.loc 5 0),(3,.loc 1 0),(4,.loc 2 0),(7,jx P.aR),(9,mo<|cc N N.length),(10,aF<|lJ N N.length)])
   (H':=[.row true P.cells,.row true<|lh M N,.row true [au,au,au,au],.vec false (bu N N.length) 2<|iy<|cc N N.length,.vec false (bu N N.length) 1<|aw<|lJ N N.length,.row true [au,au,au,au]])
   ⟨.refl _,.refl _,.refl _,.refl _,.refl _,.own _ _ _ _ _ _ _ _ rfl rfl (aV Gp),.own _ _ _ _ _ _ _ _ rfl rfl (aV hfg),trivial⟩
   ⟨⟨.inl rfl,(λh=>by cases h),.refl _⟩,⟨.inl rfl,(λh=>by cases h),.refl _⟩,⟨.inl rfl,(λh=>by cases h),.refl _⟩,⟨.inr ⟨rfl,rfl⟩,λ_=>rfl,rfl,rfl,.refl _⟩,⟨.inr ⟨rfl,rfl⟩,λ_=>rfl,rfl,rfl,.refl _⟩,⟨.inl rfl,(λh=>by cases h),.refl _⟩,trivial⟩)
   (kY (gG 5 0 1 zs rfl rfl)<|kY (gG 5 1 1 zs rfl rfl)<|kY (gG 5 2 1 zs rfl rfl)<|gG 5 3 1 zs rfl rfl)) ?_
  generalize vB:bu N N.length=A at *
  refine cq [3,4,7,9,10,13] (λ((i,c,s):Nat×Nat×ah)=>[(14,aa i)])
   (λ(i,c,s)=>[.row true P.cells,.row true<|lh M N,.row true [au,au,au,au],.vec false A 2<|iy<|cc N N.length,.vec false A 1<|aw<|lJ N N.length,.row true [.own 6 c 0 c,.own 7 i 0 i,.own 8 i 0 i,.own 9 0 0 0],
    .vec true c 1 (aw s),.vec true i 1<|fj<|(ko N).take i,.vec true i 1<|oW<|(oi P.aR N).take i,.vec true 0 1<|fj []])
   (λ(i,c,s)=>i<=A/\c=s.length/\c<=i/\s=qz (cc N N.length) 0 i) (λ(i,c,s)=>A-i) (0,0,[]) ?_
  refine sW ?_;refine⟨⟨zo,rfl,zo,rfl⟩,by exact sK,rfl,?_⟩;rintro⟨i,c,s⟩ ⟨hi,hc,hci,hs⟩;refine ck ?_;rw[oz,oZ];refine sS (λh2=>?_) λh2=>?_
  ·have aT:i<A:=sO;obtain⟨m,k,q1,q2,q3⟩:=Db (N:=N) (n:=N.length) (i:=i) zo;have fS:=zN q2 N.length q1;have T4:=PG q2 N.length q1;have qt:=IL q2;rw[<-q3] at fS T4;have e1:=UZ q1 q2;have e2:=X2 (L:=P.aR) q1 q2;rw[<-q3] at e1 e2;have eT:qz (cc N N.length) 0 (i+1)=if ((cc N N.length).getD i (0,0)).2=0 then qz (cc N N.length) 0 i++[(i:Int)] else qz (cc N N.length) 0 i:=rfl
   have l1:((ko N).take i).length=i:=(by rw[fg];omega);have l2:((oi P.aR N).take i).length=i:=(by rw[fg];omega);have hgt:0<=(nu N m).getD k 0/\(nu N m).getD k 0<(N.length:Int)/\(((nF N m).getD k (0,0)).1<0\/((nF N m).getD k (0,0)).1.toNat<P.aR.length):=by
    by_cases hz:(N.getD m []).length=0
    ·have nP:k=0:=(by rw[qp,ae hz] at q2;omega);subst nP;rw[(Jb hz).1,(Jb hz).2];exact⟨zo,zo,.inl<|by show(-1:Int)<0;decide⟩
    rw[(J7 hz q2).1,(J7 hz q2).2];rw[qp,ab hz] at q2;have:=hS.FY q2;exact⟨zo,zo,.inr zd⟩
   have Bl:=Yf (N:=N) (n:=N.length) (t:=((nu N m).getD k 0).toNat) zo;rw[vB,show((((nu N m).getD k 0).toNat:Nat):Int)=(nu N m).getD k 0 by omega] at Bl;have lab:∀x:aZ,¬x.1<0->tm P.aR x.1=2^(P.aR.getD x.1.toNat (0,0,0)).1.toNat:=λx hx=>by unfold tm;rw[ab hx]
   have zMq:∀x:aZ,x.1<0->tm P.aR x.1=9223372036854775808:=λx hx=>by unfold tm;rw[ae hx]
   refine bQ (eo 15 1 zs rfl) ?_;rw[fS,qt,<-hs] at eT;generalize (nF N m).getD k (0,0)=x at *;generalize (nu N m).getD k 0=g at *;refine bb [3,4,7,9,10,13,14] (λ((k,c,l):Nat×Nat×ah)=>[(15,.own 10 c 0 c),(16,aa k)]) (λ(k,c,l)=>[(10,.vec true c 1<|aw l)]) (λ(k,c,l)=>k<=A/\c=l.length/\c<=k/\l=qz (cc N N.length) g k) (λ(k,c,l)=>A-k) (0,0,[]) ?_;refine sW ?_;refine⟨⟨zo,rfl,zo,rfl⟩,by exact sK,rfl,?_⟩;rintro⟨k',c',l⟩ ⟨hk,gb,lH,dO⟩;refine ck ?_;rw[oz,oZ];refine sS (λh3=>?_) λh3=>?_
   ·have ai:k'<A:=sO;have eP:qz (cc N N.length) g (k'+1)=if ((cc N N.length).getD k' (0,0)).2=g then qz (cc N N.length) g k'++[(k':Int)] else qz (cc N N.length) g k':=rfl
    refine sL (lu (l:=cc N N.length) (k:=k') zo zo) ?_;refine⟨zo,_,bV (l:=lJ N N.length) (k:=i) zo zo,?_⟩;rw[T4];refine sW ?_;generalize (cc N N.length).getD k' (0,0)=y at eP;refine sS (λh4=>?_) λh4=>?_
    ·have h4:y.2=g:=sO;rw[ae h4,<-dO] at eP;refine ee ?_;refine⟨(k'+1,c'+1,l++[(k':Int)]),⟨zo,by simp[gb],zo,eP.symm⟩,zd,?_⟩;refine aL 11 zs rfl sQ (sU ?_);exact aV<|kJ gb
    have h4:¬y.2=g:=sO;rw[ab h4,<-dO] at eP;refine sI ?_;exact⟨(k'+1,c',l),⟨zo,gb,zo,eP.symm⟩,zd,aC (by exact sK) rfl⟩
   have ai:k'=A:=by have:¬k'<A:=sO
                    omega
   subst ai;rw[Bl] at dO;refine sJ ?_;refine⟨zo,_,lu (l:=cc N N.length) (k:=i) zo zo,?_⟩;rw[fS];refine sW ?_
   have cR:∀{H:aE},H[10]? = some (.vec true c' 1<|aw l)->kc (mq 10) H (List.drop 0 (List.take i<|fj<|List.take i<|ko N)++List.drop 0 (List.take 1 [[D.own 10 c' 0 c']])) (fj (List.take i<|ko N)++[[aF<|jG N g.toNat]]):=λhH =>
    kc.append _ _ _ _ (aV<|cB<|by simp[fj];omega) (kc.cons _ _ _ _ (l9.cons _ _ _ _ (.own _ _ _ _ _ _ _ _ rfl hH (aV<|by rw[dO,cB<|by simp[aw];rw[<-dO];omega];rfl))<|l9.refl _)<|kc.refl _)
   have eg:fj (List.take i (ko N)++[jG N g.toNat])=fj (List.take i<|ko N)++[[aF<|jG N g.toNat]]:=(by simp[fj]);refine sS (λh5=>?_) λh5=>?_
   ·have h5:¬x.1<0:=sO;rw[lab x h5] at e2;refine⟨zo,_,lu (l:=cc N N.length) (k:=i) zo zo,?_⟩;rw[fS];refine sW ?_;have hx:=hgt.2.2.resolve_left h5;have fE:=CF x.1.toNat hx;refine sL (uZ (k:=x.1.toNat) zo hx) ?_;generalize P.aR.getD x.1.toNat (0,0,0)=st at *;refine⟨zo,?_⟩;rw[SB (k:=st.1.toNat) zo zo];refine .inl ⟨Xo zo,?_⟩;refine sWJ ?_;refine⟨zo,_,lu (l:=cc N N.length) (k:=i) zo zo,?_⟩;rw[fS];refine sWS (λh6=>?_) λh6=>?_
    ·have h6:(m:Int)=0:=(by rw[<-qt];exact sO);rw[ae h6] at eT;refine ee ?_;refine⟨(i+1,c+1,s++[(i:Int)]),⟨zo,by simp[hc],zo,eT.symm⟩,zd,?_⟩;dsimp only;rw[e1,e2]
     (refine aL 10 zs rfl ?_ ?_<;>(repeat' (first|exact trivial|exact rfl|exact .refl _|refine And.intro ?_ ?_|(simp[aK,aG,bB,-List.map_take,-List.map_drop];done))))
     ·exact aV<|kJ hc
     ·rw[eg];exact cR rfl
     exact aV<|Fu l2.symm
    have h6:¬(m:Int)=0:=(by rw[<-qt];exact sO);rw[ab h6] at eT;refine sI ?_;refine⟨(i+1,c,s),⟨zo,hc,zo,eT.symm⟩,zd,?_⟩;dsimp only;rw[e1,e2];refine aL 10 zs rfl sG (sZ2 ?_ ?_)
    ·rw[eg];exact cR rfl
    exact aV<|Fu l2.symm
   have h5:x.1<0:=sO;rw[zMq x h5] at e2;refine sJ ?_;refine⟨zo,_,lu (l:=cc N N.length) (k:=i) zo zo,?_⟩;rw[fS];refine sWS (λh6=>?_) λh6=>?_
   ·have h6:(m:Int)=0:=(by rw[<-qt];exact sO);rw[ae h6] at eT;refine ee ?_;refine⟨(i+1,c+1,s++[(i:Int)]),⟨zo,by simp[hc],zo,eT.symm⟩,zd,?_⟩;dsimp only;rw[e1,e2]
    (refine aL 10 zs rfl ?_ ?_<;>(repeat' (first|exact trivial|exact rfl|exact .refl _|refine And.intro ?_ ?_|(simp[aK,aG,bB,-List.map_take,-List.map_drop];done))))
    ·exact aV<|kJ hc
    ·rw[eg];exact cR rfl
    exact aV<|Fu l2.symm
   have h6:¬(m:Int)=0:=(by rw[<-qt];exact sO);rw[ab h6] at eT;refine sI ?_;refine⟨(i+1,c,s),⟨zo,hc,zo,eT.symm⟩,zd,?_⟩;dsimp only;rw[e1,e2];refine aL 10 zs rfl sG (sZ2 ?_ ?_)
   ·rw[eg];exact cR rfl
   exact aV<|Fu l2.symm
  have aT:i=A:=by have:¬i<A:=sO
                  omega
  subst aT;have Bl:=Yf (N:=N) (n:=N.length) (t:=0) zo;rw[vB] at Bl;rw[show qz (cc N N.length) 0 i=jG N 0 from Bl] at hs;rw[fG zo,fG zo]
  refine bQ (nX (λi=>i==10) (env':=[(18,.ax [aa 0]),(13,.loc 5 0),(3,.loc 1 0),(4,.loc 2 0),(7,jx P.aR),(9,mo<|cc N N.length)])
   (H':=[.row true P.cells,.row true<|lh M N,.row true [au,au,au,au],.vec false i 2<|iy<|cc N N.length,.vec false i 1<|aw<|lJ N N.length,.row true [.own 6 c 0 c,.own 7 i 0 i,.own 8 i 0 i,.own 9 0 0 0],
    .vec true c 1 (aw s),.vec true i 1<|fj<|ko N,.vec true i 1<|oW<|oi P.aR N,.vec true 0 1<|fj [],.row false [aa 0]]) ?_ ?_) ?_
  ·exact⟨.loc _ _ _ _ _ rfl rfl (.refl _),.refl _,.refl _,.refl _,.refl _,.refl _,trivial⟩
  ·exact⟨⟨.inl rfl,(λh=>by cases h),.refl _⟩,⟨.inl rfl,(λh=>by cases h),.refl _⟩,⟨.inl rfl,(λh=>by cases h),.refl _⟩,⟨.inl rfl,(λh=>by cases h),rfl,rfl,.refl _⟩,⟨.inl rfl,(λh=>by cases h),rfl,rfl,.refl _⟩,⟨.inl rfl,(λh=>by cases h),.refl _⟩,⟨.inl rfl,(λh=>by cases h),rfl,rfl,.refl _⟩,⟨.inl rfl,(λh=>by cases h),rfl,rfl,.refl _⟩,⟨.inl rfl,(λh=>by cases h),rfl,rfl,.refl _⟩,⟨.inl rfl,(λh=>by cases h),rfl,rfl,.refl _⟩,⟨.inr ⟨rfl,rfl⟩,λ_=>rfl,.refl _⟩,trivial⟩
  refine cq [3,4,7,9,13] (λk:Nat=>[(18,.ax [aa k])])
   (λk=>[.row true P.cells,.row true<|lh M N,.row true [au,au,au,au],.vec false i 2<|iy<|cc N N.length,.vec false i 1<|aw<|lJ N N.length,.row true [.own 6 c 0 c,.own 7 i 0 i,.own 8 i 0 i,.own 9 k 0 k],
    .vec true c 1 (aw s),.vec true i 1<|fj<|ko N,.vec true i 1<|oW<|oi P.aR N,.vec true k 1<|fj<|(o9 P.aR N).take k,.row false [aa 0]])
   (λk=>k<=P.aR.length) (λk=>P.aR.length-k) 0 ?_
  refine dd ?_;rintro k hk;refine ck ?_;rw[BD];refine sS (λh3=>?_) λh3=>?_
  ·have ai:k<P.aR.length:=sO;have e1:=RL (N:=N) ai;rw[vB] at e1;have l1:((o9 P.aR N).take k).length=k:=(by rw[fg];omega);refine bQ (eo 19 1 zs rfl) ?_;refine bb [3,4,7,9,13,18] (λ((k',c,l):Nat×Nat×ah)=>[(19,.own 11 c 0 c),(20,aa k')]) (λ(k',c,l)=>[(11,.vec true c 1<|aw l)]) (λ(k',c,l)=>k'<=i/\c=l.length/\c<=k'/\l=mZ N (cc N N.length) k k') (λ(k',c,l)=>i-k') (0,0,[]) ?_;refine sW ?_;refine⟨⟨zo,rfl,zo,rfl⟩,by exact sK,rfl,?_⟩;rintro⟨k',c',l⟩ ⟨fk,gb,lH,dO⟩;refine ck ?_;rw[oz,oZ];refine sS (λh4=>?_) λh4=>?_
   ·have Iu:k'<i:=sO;obtain⟨m,j,q1,q2,q3⟩:=Db (N:=N) (n:=N.length) (i:=k') zo;have fS:=zN q2 N.length q1;have qt:=IL q2;rw[<-q3] at fS;have eT:mZ N (cc N N.length) k (k'+1)=if C3 N ((cc N N.length).getD k' (0,0)).2.toNat k=false\/((cc N N.length).getD k' (0,0)).1=k then mZ N (cc N N.length) k k'++[(k':Int)] else mZ N (cc N N.length) k k':=rfl
    rw[fS,qt,bO,<-dO] at eT;generalize (nF N m).getD j (0,0)=x at *;have lx:=hS.rowAt m;have RE:=zg1 (N.getD m []) zo (λy=>y.1==(k:Int)) 86 [.ax [aa k]] zp λa _=>ztu a k;change ao aj _ _<|ay<|C3 N m k at RE;refine⟨zo,_,lu (l:=cc N N.length) (k:=k') zo zo,?_⟩;rw[fS];refine sW ?_;refine sL (ru (L:=N) (k:=m) zo q1) ?_;refine sC RE ?_;cases Ud:C3 N m k
    ·rw[Ud,ae (.inl rfl)] at eT;refine ke ?_;refine⟨(k'+1,c'+1,l++[(k':Int)]),⟨zo,by simp[gb],zo,eT.symm⟩,zd,?_⟩;refine aL 12 zs rfl sQ (sU ?_);exact aV<|kJ gb
    refine sW ?_;refine⟨zo,_,lu (l:=cc N N.length) (k:=k') zo zo,?_⟩;rw[fS];refine sWS (λh7=>?_) λh7=>?_
    ·have h7:x.1=k:=sO;rw[ae (.inr h7)] at eT;refine ee ?_;refine⟨(k'+1,c'+1,l++[(k':Int)]),⟨zo,by simp[gb],zo,eT.symm⟩,zd,?_⟩;refine aL 12 zs rfl sQ (sU ?_);exact aV<|kJ gb
    have h7:¬x.1=k:=sO;rw[Ud,ab λq=>q.elim (λq=>by cases q) h7] at eT;refine sI ?_;exact⟨(k'+1,c',l),⟨zo,gb,zo,eT.symm⟩,zd,aC (by exact sK) rfl⟩
   have Iu:k'=i:=sO;subst Iu;rw[vB] at *;refine ee ?_;refine⟨k+1,zo,zd,?_⟩;dsimp only;rw[e1];refine aL 11 zs rfl (sZ ?_) (sZ ?_)
   ·exact .loc _ _ _ _ _ rfl rfl (.refl _)
   have C7:l.length<=c':=zo;rw[show fj (List.take k (o9 P.aR N)++[mZ N (cc N N.length) (k:Int) k'])=fj (List.take k<|o9 P.aR N)++[[aF<|mZ N (cc N N.length) (k:Int) k']] from by simp[fj],<-dO];exact kc.append _ _ _ _ (aV<|cB<|by simp[fj];omega)<|kc.cons _ _ _ _ (l9.cons _ _ _ _ (.own _ _ _ _ _ _ _ _ rfl rfl (aV<|cB<|by simpa [aw] using C7))<|l9.refl _)<|kc.refl _
  have ai:k=P.aR.length:=by have:¬k<P.aR.length:=sO
                            omega
  subst ai;rw[fG zo];refine .aJ _ _ (.cons _ _ _ _ (.agg _ _ (.cons _ _ _ _ (.own _ _ _ _ _ _ _ _ rfl ?_) (.cons _ _ _ _ (.own _ _ _ _ _ _ _ _ rfl ?_) (.cons _ _ _ _ (.own _ _ _ _ _ _ _ _ rfl ?_) (.cons _ _ _ _ (.own _ _ _ _ _ _ _ _ rfl ?_) .nil))))) (.cons _ _ _ _ (.refl _) (.cons _ _ _ _ (.refl _) .nil)))
  ·rw[cB<|by simp[aw];omega,hs];exact gw _
  ·rw[cB<|by simp[fj,LF]];exact gw _
  ·rw[cB<|by simp[oW,BS]];exact gw _
  rw[cB<|by simp[fj,sF]];exact gw _
 have hb:decide ((bu N N.length:Int)>600)=true:=gQ zo;rw[hb,ab hA];refine sW ?_;exact .aJ _ _ (.cons _ _ _ _ (.agg _ _ (.cons _ _ _ _ (.none _) (.cons _ _ _ _ (.none _) (.cons _ _ _ _ (.none _) (.cons _ _ _ _ (.none _) .nil))))) (.cons _ _ _ _ (.none _) (.cons _ _ _ _ (.refl _) .nil)))
theorem J9(hP:P.nodes.length<=1000000):ao aj 49 [b7 P]<|dr<|fL P:=by
 refine bt ?_;refine bQ (eo 3 1 zs rfl) ?_;refine bb [1] (λk:Nat=>[(3,.own 1 k 0 k),(4,aa k)]) (λk=>[(1,.vec true k 1<|((P.nodes.take k).map λx=>x.1).map λs=>[.sc (.string s)])]) (λk=>k<=P.nodes.length) (λk=>P.nodes.length-k) 0 ?_;refine dd ?_;rintro k hk;refine ck ?_;rw[aI];refine sS (λh=>?_) λh=>?_
 ·have ai:k<P.nodes.length:=sO;refine sL (jv P (k:=k) zo ai) ?_;refine ee ?_;refine⟨k+1,zo,zd,?_⟩;refine aL 2 zs rfl sQ (sU ?_);exact aV<|YC ai
 have ai:k=P.nodes.length:=by have:¬k<P.nodes.length:=sO
                              omega
 subst ai;refine .own _ _ _ _ _ _ _ _ rfl ?_;rw[cB zs,dM];exact gw _
section
variable{P:af}(hP:P.Fits){tok st:Int}{name:aB}(gg:name.size<=9223372036854775807){sort:Int}{x:cA}{k a b c:Int}{f g:Tree}(hf:Small f)(hg:Small g)
def kI(is kn:Bool)(e:Int):D:=.aJ [ay is,ay kn,aa e]
include hP in
theorem zy9(h1:P.c7 tok st≠0):ao aj 21 [b7 P,cK name sort x k a b c f g,aa tok,aa st]<|kI false true<|P.c7 tok st:=by
 have hX:=yT P hP tok st;refine dh fZ zs zp ?_ (by simp[kI,Pure,aA]);generalize P.c7 tok st=e at *;unfold kI b7 af.cells mS at *;refine sR ?_;refine sC hX ?_;refine sS (λh=>?_) λh=>?_
 ·exact .refl _
 exfalso;exact sO
include hP in
theorem zyA(h1:P.c7 tok st=0)(h2:¬bu (P.cu tok st) (P.cu tok st).length<=600):ao aj 21 [b7 P,cK name sort x k a b c f g,aa tok,aa st]<|kI false true 2:=by
 have hX:=yT P hP tok st;have hR:=E4 P hP _ _<|mP h1;rw[h1] at hX;rw[ab h2] at hR;refine dh fZ zs zp ?_ (by simp[kI,Pure,aA]);unfold kI b7 af.cells mS vm at *;refine sR ?_;refine sC hX ?_;refine sC hR ?_;exact .refl _
include hP gg hf hg in
theorem zyo(h1:P.c7 tok st=0)(h2:bu (P.cu tok st) (P.cu tok st).length<=600)(h3:ff (fL P) name sort x k a b c f g≠0):ao aj 21 [b7 P,cK name sort x k a b c f g,aa tok,aa st]<|kI false true<|ff (fL P) name sort x k a b c f g:=by
 have hX:=yT P hP tok st;have hR:=E4 P hP _ _<|mP h1;rw[h1] at hX;rw[ae h2,<-zF] at hR;have hc:=af.kB (mP h1).steps;have zB:=(jo hc.1).1;have nJ:=J9 P zo;have hC:=Ka (fL P) (zQ hP h1) name gg sort x k a b c f g hf hg;refine dh fZ zs zp ?_ (by simp[kI,Pure,aA]);generalize ff (fL P) name sort x k a b c f g=e at *;unfold kI b7 af.cells mS cK ji cm iV aO gh bg.cells at *;refine sR ?_;refine sC hX ?_;refine sC hR ?_;refine sC nJ ?_;refine sC hC ?_;refine sS (λh=>?_) λh=>?_
 ·exact .refl _
 exfalso;exact sO
include hP gg hf hg in
theorem zBN(h1:P.c7 tok st=0)(h2:bu (P.cu tok st) (P.cu tok st).length<=600)(h4:sort=4)(h3:ff (fL P) name sort x k a b c f g=0):∃is kn,ao aj 21 [b7 P,cK name sort x k a b c f g,aa tok,aa st] (kI is kn 0) /\
  (kn=true->is=((dW P tok st).start.all λn=>ni (dW P tok st) g n.toNat)):=by
 have hX:=yT P hP tok st;have hR:=E4 P hP _ _<|mP h1;rw[h1] at hX;rw[ae h2,<-zF] at hR;have hW:=Jo h1 h2;have hc:=af.kB (mP h1).steps;have zB:=(jo hc.1).1;have nJ:=J9 P zo;have hC:=Ka (fL P) (zQ hP h1) name gg sort x k a b c f g hf hg;rw[h3] at hC;subst h4;have hL:=zuv (dW P tok st) hW.fits hW.aU hW.lett g ((rW _ _).1<|SS h3).2.2;obtain⟨w1,w2,w3,w4,w5,w6⟩:=uw _ hW.aU;have qh:=hW.start;clear hW h3;generalize dW P tok st=W at *;by_cases HN:150<W.next.length
 ·refine⟨false,false,?_,λh=>by cases h⟩;refine dh fZ zs zp ?_ (by simp[kI,Pure,aA]);unfold kI b7 af.cells mS cK ji cm iV aO gh bg.cells at *;refine sR ?_;refine sC hX ?_;refine sC hR ?_;refine sC nJ ?_;refine sC hC ?_;rw[aI];refine sS (λq=>?_) λq=>?_
  ·exact .refl _
  exact absurd HN<|sO
 refine⟨W.start.all λn=>ni W g n.toNat,true,?_,λ_=>rfl⟩;refine dh fZ zs zp ?_ (by simp[kI,Pure,aA]);generalize hb:(W.start.all λn=>ni W g n.toNat)=B;unfold kI b7 af.cells mS cK ji cm iV aO gh bg.cells at *;refine sR ?_;refine sC hX ?_;refine sC hR ?_;refine sC nJ ?_;refine sC hC ?_;rw[aI];refine sS (λq=>?_) λq=>?_
 ·exact absurd (sO) HN
 refine sC hL ?_;refine bb [13,16] (λi:Nat=>[(17,aa i)]) (λ_=>[]) (λi=>i<=W.start.length/\∀j,j<i->ni W g (W.start.getD j 0).toNat=true) (λi=>W.start.length-i) 0 ?_;refine sW ?_;refine⟨⟨zo,λj hj=>zo⟩,by exact sK,rfl,?_⟩;rintro i ⟨hi,bR⟩;refine ck ?_;rw[aI];refine sS (λh=>?_) λh=>?_
 ·have aT:i<W.start.length:=sO;have hx:=cZ w4<|df aT;refine sL (bV (k:=i) zo aT) ?_;refine sL (bc (W.start.getD i 0).toNat zo zo) ?_;cases r:ni W g (W.start.getD i 0).toNat
  ·refine sW ?_;have:B=false:=by rw[<-hb,Gi];exact⟨_,df aT,by rw[r];simp⟩
   rw[this];exact .refl _
  refine aQ ?_;refine⟨i+1,⟨zo,λj hj=>?_⟩,zd,aC (by exact sK) rfl⟩;by_cases e:j=i
  ·subst e;exact r
  exact bR j zo
 have aT:i=W.start.length:=by have:¬i<W.start.length:=sO
                              omega
 subst aT;have:B:=by
  rw[<-hb,kb];intro y hy;obtain⟨j,hj,rfl⟩:=pd hy;exact bR j hj
 rw[this];exact .refl _
include hP gg hf hg in
theorem zze(h1:P.c7 tok st=0)(h2:bu (P.cu tok st) (P.cu tok st).length<=600)(h4:sort≠4)(h3:ff (fL P) name sort x k a b c f g=0)(h5:gu sort x k a b c f≠0) :
  ao aj 21 [b7 P,cK name sort x k a b c f g,aa tok,aa st] (kI false true<|gu sort x k a b c f):=by
 have hX:=yT P hP tok st;have hR:=E4 P hP _ _<|mP h1;rw[h1] at hX;rw[ae h2,<-zF] at hR;have hc:=af.kB (mP h1).steps;have zB:=(jo hc.1).1;have nJ:=J9 P zo;have hC:=Ka (fL P) (zQ hP h1) name gg sort x k a b c f g hf hg;rw[h3] at hC;have hM:=Rw name sort x k a b c f g hf;unfold oH at hM;rw[ab h5] at hM;generalize gu sort x k a b c f=e at *;refine dh fZ zs zp ?_ (by simp[kI,Pure,aA]);unfold kI b7 af.cells mS cK ji cm iV aO gh bg.cells at *;refine sR ?_;refine sC hX ?_;refine sC hR ?_;refine sC nJ ?_;refine sC hC ?_;rw[dp h4];refine sW ?_;refine sC hM ?_;refine sS (λh=>?_) λh=>?_
 ·exact .refl _
 exfalso;exact sO
include hP gg hf hg in
theorem zBI(h1:P.c7 tok st=0)(h2:bu (P.cu tok st) (P.cu tok st).length<=600)(h4:sort≠4)(h3:ff (fL P) name sort x k a b c f g=0)(h5:gu sort x k a b c f=0):∃is kn,ao aj 21 [b7 P,cK name sort x k a b c f g,aa tok,aa st] (kI is kn<|gU<|cr sort x k a b c f) /\
  (gU (cr sort x k a b c f)=0->kn->is=!(iO (dW P tok st)<|fX<|cr sort x k a b c f)):=by
 have hX:=yT P hP tok st;have hR:=E4 P hP _ _<|mP h1;rw[h1] at hX;rw[ae h2,<-zF] at hR;have hW:=Jo h1 h2;have hc:=af.kB (mP h1).steps;have zB:=(jo hc.1).1;have nJ:=J9 P zo;have hC:=Ka (fL P) (zQ hP h1) name gg sort x k a b c f g hf hg;rw[h3] at hC;have hM:=Rw name sort x k a b c f g hf;unfold oH at hM;rw[ae h5,h5] at hM;have Bg:=Q3 h5;have Jj:=zzB (cr sort x k a b c f)<|WT _ _ _ _ _ _ _ hf;by_cases h6:gU (cr sort x k a b c f)=0
 ·have hb:=L8 hW.fits hW.aU hW.start hW.rows h6;have hn:=Oo (nQ (dB (cY (bK 4 (cr sort x k a b c f))))) (b6 [] (partsOf (cY (bK 4 (cr sort x k a b c f))))) (cY (bK 4 (cr sort x k a b c f)));rw[<-Ql h6] at hn;have lO:0<(fX (cr sort x k a b c f)).next.length:=(by rw[hn];exact Nat.two_pow_pos _);have hL:tS (fX (cr sort x k a b c f)).jy:=(by rw[Ql h6];exact ZD _ _ _);have h2l:=KZ hb.two;rw[h6] at Jj⊢;have hT:(dW P tok st).next.length*(fX (cr sort x k a b c f)).next.length<=4000->ao aj 53 [gh (dW P tok st),mi (fX (cr sort x k a b c f))] (ay (iO (dW P tok st) (fX (cr sort x k a b c f)))):=λh=>zxL hb h hL lO;have emul:((dW P tok st).next.length:Int)*((fX (cr sort x k a b c f)).next.length:Int)=(((dW P tok st).next.length*(fX (cr sort x k a b c f)).next.length:Nat):Int):=(by rw[E8]);clear hn hb lO hL Bg hW h3 h5 h6;generalize cr sort x k a b c f=T at *;generalize fX T=A at *;generalize dW P tok st=W at *;generalize Kk:iO W A=ans at *;by_cases hN:W.next.length*A.next.length<=4000
  ·have hT2:=hT hN;clear hT;refine⟨!ans,true,?_,λ_ _=>rfl⟩;refine dh fZ zs zp ?_ (by simp[kI,Pure,aA]);generalize W.next.length*A.next.length=N at *;unfold kI b7 af.cells mS cK ji cm iV aO gh bg.cells mi bT.cells at *;refine sR ?_;refine sC hX ?_;refine sC hR ?_;refine sC nJ ?_;refine sC hC ?_;rw[dp h4];refine sW ?_;refine sC hM ?_;refine sC Jj ?_;rw[aI,aI,emul];refine sI ?_;refine sS (λq=>?_) λq=>?_
   ·have q:((N:Nat):Int)>4000:=pH q;exact absurd hN zo
   refine sC hT2 ?_;cases ans<;>exact .refl _
  refine⟨false,false,?_,λ_ h=>by cases h⟩;clear hT;refine dh fZ zs zp ?_ (by simp[kI,Pure,aA]);generalize W.next.length*A.next.length=N at *;unfold kI b7 af.cells mS cK ji cm iV aO gh bg.cells mi bT.cells at *;refine sR ?_;refine sC hX ?_;refine sC hR ?_;refine sC nJ ?_;refine sC hC ?_;rw[dp h4];refine sW ?_;refine sC hM ?_;refine sC Jj ?_;rw[aI,aI,emul];refine sI ?_;refine sS (λq=>?_) λq=>?_
  ·exact .refl _
  have q:¬((N:Nat):Int)>4000:=of_decide_eq_false q;exact absurd zo hN
 refine⟨false,true,?_,λh=>absurd h h6⟩;generalize gU (cr sort x k a b c f)=e at *;generalize cr sort x k a b c f=T at *;generalize dW P tok st=W at *;refine dh fZ zs zp ?_ (by simp[kI,Pure,aA]);unfold kI b7 af.cells mS cK ji cm iV aO gh bg.cells mi bT.cells at *;refine sR ?_;refine sC hX ?_;refine sC hR ?_;refine sC nJ ?_;refine sC hC ?_;rw[dp h4];refine sW ?_;refine sC hM ?_;refine sC Jj ?_;refine sS (λq=>?_) λq=>?_
 ·exact .refl _
 exfalso;exact sO
include hP gg hf hg in
theorem zqm(tok st:Int)(sort:Int)(x:cA)(k a b c:Int):∃is kn,ao aj 21 [b7 P,cK name sort x k a b c f g,aa tok,aa st] (kI is kn<|jE P tok st name sort x k a b c f g) /\
  (jE P tok st name sort x k a b c f g=0->kn->is=jB P tok st name sort x k a b c f g):=by
 by_cases h1:P.c7 tok st=0
 ·by_cases h2:bu (P.cu tok st) (P.cu tok st).length<=600
  ·by_cases h3:ff (fL P) name sort x k a b c f g=0
   ·by_cases h4:sort=4
    ·have e:jE P tok st name sort x k a b c f g=0:=(by unfold jE;rw[ab<|by simpa using h1,ab<|by simpa using h2,ab<|by simpa using h3,ae h4]);obtain⟨is,kn,t,u⟩:=zBN hP gg hf hg h1 h2 h4 h3 (x:=x) (k:=k) (a:=a) (b:=b) (c:=c);have hb:jB P tok st name sort x k a b c f g=((dW P tok st).start.all λn=>ni (dW P tok st) g n.toNat):=(by unfold jB;rw[e,ae h4];simp);exact⟨is,kn,by rw[e];exact t,λ_ q=>by rw[hb];exact u q⟩
    by_cases h5:gu sort x k a b c f=0
    ·have e:jE P tok st name sort x k a b c f g=gU (cr sort x k a b c f):=(by unfold jE;rw[ab<|by simpa using h1,ab<|by simpa using h2,ab<|by simpa using h3,ab h4,ab<|by simpa using h5]);obtain⟨is,kn,t,u⟩:=zBI hP gg hf hg h1 h2 h4 h3 h5;exact⟨is,kn,by rw[e];exact t,λp q=>by unfold jB;rw[ab h4,gQ p,kP];exact u (e.symm.trans p) q⟩
    have e:jE P tok st name sort x k a b c f g=gu sort x k a b c f:=(by unfold jE;rw[ab<|by simpa using h1,ab<|by simpa using h2,ab<|by simpa using h3,ab h4,ae h5]);exact⟨false,true,by rw[e];exact zze hP gg hf hg h1 h2 h4 h3 h5,λp=>absurd (e.symm.trans p) h5⟩
   have e:jE P tok st name sort x k a b c f g=ff (fL P) name sort x k a b c f g:=(by unfold jE;rw[ab<|by simpa using h1,ab<|by simpa using h2,ae h3]);exact⟨false,true,by rw[e];exact zyo hP gg hf hg h1 h2 h3,λp=>absurd (e.symm.trans p) h3⟩
  have e:jE P tok st name sort x k a b c f g=2:=(by unfold jE;rw[ab<|by simpa using h1,ae h2]);exact⟨false,true,by rw[e];exact zyA hP h1 h2,λp=>absurd (e.symm.trans p) zc⟩
 have e:jE P tok st name sort x k a b c f g=P.c7 tok st:=by unfold jE;rw[ae h1]
 exact⟨false,true,by rw[e];exact zy9 hP h1,λp=>absurd (e.symm.trans p) h1⟩
end
def O5(g:ak)(to:aq)(o:Nat->Int)(r k i:Nat)(o':Nat->Int):Prop :=
 (o'=o/\∀j,j<i->o ((g.getD k []).getD j 0).toNat≠(r:Int)+1)\/(ow g to o' r (k+1)/\o' k≠0)
variable{g:ak}{to:aq}{o:Nat->Int}
theorem O5.out{o':Nat->Int}{r:Nat}(h:O5 g to o r k i o')(hJ:ow g to o r k)(hi:i=(g.getD k []).length\/o' k≠0):ow g to o' r<|k+1:=by
 rcases h with⟨rfl,h⟩|⟨h,_⟩
 ·rcases hi with rfl|hi
  ·refine hJ.tW (.inr λx hx=>?_);obtain⟨j,hj,rfl⟩:=pd hx;exact h j hj
  exact hJ.tW (.inl hi)
 exact h
theorem zzV(aY:∀l∈g,bq l g.length)(h:ow g to o g.length 0)(hn:n<g.length):o n=cP g to n+1:=by
 rcases rp (cP g to n) 0 with q|q
 ·rw[QB q];by_cases e:o n=0
  ·omega
  obtain⟨d,h1,h2⟩:=h.gf n e;by_cases w:d<=g.length
  ·have:=AZ.1<|(h.old n d w).1 h2;omega
  exact absurd zo<|h.rest n<|kZ _
 have hf:=AZ.2 (show cP g to n=((cP g to n).toNat:Int) by omega);have hb:=Pg aY hn hf;have:=(h.old n _ zo).2 hf;omega
theorem zBu(gp:∀i,g.length<=i->to i=false):∀m,g.length<=m->∀d,¬Far g to m d:=by
 rintro m hm d ⟨h,_⟩
 cases d with
 |zero=>rw[Wlk,gp m hm] at h;cases h
 |succ d =>
  obtain⟨x,hx,_⟩:=h
  grind
theorem Ti{p q:aq}{l:ah}:∀k,(∀j,j<k->p (l.getD j 0).toNat=q (l.getD j 0).toNat)->ey p l k=ey q l k
 |0,_=>rfl
 |k+1,h=>by simp only[ey];rw[h k zo,Ti k λj hj=>h j zo]
variable{d:Nat}
theorem zxv{F:Nat->Int}(hF:∀n,n<g.length->F n=cP g to n+1){l:ah}(hl:bq l g.length):ey (λn=>decide (F n=(d:Int)+1)) l l.length=ey (λn=>decide (cP g to n=(d:Int))) l l.length :=
 Ti _ λj hj=>by
  have:=nZ hl hj;show decide (F (l.getD j 0).toNat=(d:Int)+1)=decide (cP g to (l.getD j 0).toNat=(d:Int));rw[hF _ zo]
  congr 1
  simp
variable{from_:ah}
theorem zqC(hf:bq from_ g.length)(h1:∀e,e<d->ey (λn=>decide (cP g to n=(e:Int))) from_ from_.length<0) :
  (0<=ey (λn=>decide (cP g to n=(d:Int))) from_ from_.length->ki g from_ to=ey (λn=>decide (cP g to n=(d:Int))) from_ from_.length/\cP g to (ki g from_ to).toNat=d):=by
 intro h2;have h0:∀k,k<from_.length->0<=from_.getD k 0:=λk hk=>(nZ hf hk).1;rcases rp (ki g from_ to) 0 with q|q
 ·have:=zqA h0 q (d:Int) zo;omega
 obtain⟨b1,b2⟩:=TM h0 q;have rz:=(IA hf q).2;unfold ki at q rz⊢;rcases rp (d:Int) (cP g to (ir (cP g to) from_ from_.length).toNat) with w|w
 ·have:=b2 d zo w;omega
 rcases rp (cP g to (ir (cP g to) from_ from_.length).toNat) (d:Int) with z|z
 ·have:=h1 (cP g to (ir (cP g to) from_ from_.length).toNat).toNat zo
  grind
 repeat grind
theorem ztl(aY:∀l∈g,bq l g.length)(hf:bq from_ g.length)(h1:∀e,e<g.length->ey (λn=>decide (cP g to n=(e:Int))) from_ from_.length<0):ki g from_ to<0:=by
 rcases rp (ki g from_ to) 0 with q|q
 ·exact q
 obtain⟨s1,s2⟩:=IA hf q;have h0:∀k,k<from_.length->0<=from_.getD k 0:=λk hk=>(nZ hf hk).1;obtain⟨b1,_⟩:=TM h0 q;have hl:=Li aY (to:=to) (n:=(ki g from_ to).toNat) zo;have:=h1 (cP g to (ki g from_ to).toNat).toNat zo;rw[uY s2] at this;unfold ki at this q
 grind
theorem Rs(n:Nat)(F:Nat->Int)(l:ah)(hl:bq l n)(C7:l.length<=9223372036854775807)(d:Int) :
  ao aj 84 [aF l,aa d,.ax [aF<|gl n F]] (aa<|ey (λi=>decide (F i=d)) l l.length):=by
 refine bt ?_;refine bb [0,1,2] (λk:Nat=>[(6,aa<|ey (λi=>decide (F i=d)) l k),(7,aa k)]) (λ_=>[]) (λk=>k<=l.length) (λk=>l.length-k) 0 ?_;refine dd ?_;rintro k hk;refine ck ?_;rw[aI];refine sS (λh7=>?_) λh7=>?_
 ·have ai:k<l.length:=sO;have hx:=nZ hl ai;refine sL (bV (l:=l) (k:=k) zo ai) ?_;have eS:ey (λi=>decide (F i=d)) l (k+1)=if decide (F (l.getD k 0).toNat=d)=true/\(ey (λi=>decide (F i=d)) l k<0\/l.getD k 0<ey (λi=>decide (F i=d)) l k) then l.getD k 0 else ey (λi=>decide (F i=d)) l k:=rfl
  simp only[ja] at eS;generalize ey (λi=>decide (F i=d)) l k=y at eS;refine sL (bX (l.getD k 0).toNat zo zo) ?_;refine sS (λc1=>?_) λc1=>?_
  ·have c1:F (l.getD k 0).toNat=d:=sO;refine sS (λc2=>?_) λc2=>?_
   ·have hc:F (l.getD k 0).toNat=d/\(y<0\/l.getD k 0<y):=⟨c1,.inl<|sO⟩;refine sW ?_;refine sL (bV (l:=l) (k:=k) zo ai) ?_;refine sI ?_;refine⟨k+1,zo,zd,?_⟩;dsimp only;rw[eS,ae hc];exact aC (by exact sK) rfl
   have c2:¬y<0:=sO;refine sL (bV (l:=l) (k:=k) zo ai) ?_;refine sS (λc3=>?_) λc3=>?_
   ·have hc:F (l.getD k 0).toNat=d/\(y<0\/l.getD k 0<y):=⟨c1,.inr<|sO⟩;refine sW ?_;refine sL (bV (l:=l) (k:=k) zo ai) ?_;refine sI ?_;refine⟨k+1,zo,zd,?_⟩;dsimp only;rw[eS,ae hc];exact aC (by exact sK) rfl
   have hc:¬(F (l.getD k 0).toNat=d/\(y<0\/l.getD k 0<y)):=λh=>sO;refine aQ ?_;refine⟨k+1,zo,zd,?_⟩;dsimp only;rw[eS,ab hc];exact aC (by exact sK) rfl
  have hc:¬(F (l.getD k 0).toNat=d/\(y<0\/l.getD k 0<y)):=λh=>sO;refine aQ ?_;refine⟨k+1,zo,zd,?_⟩;dsimp only;rw[eS,ab hc];exact aC (by exact sK) rfl
 have ai:k=l.length:=by have:¬k<l.length:=sO
                        omega
 subst ai;exact .refl _
theorem ZK(g:ak)(hg:l7 g=0)(hF:iu g)(from_:ah)(hf:bq from_ g.length)(s9:from_.length<=9223372036854775807)(to:aq)(gp:∀i,g.length<=i->to i=false) :
  ao aj 46 [bN g,aF from_,bx g.length to] (.aJ [aF<|pZ g from_ to,ay<|decide (0<=ki g from_ to)]):=by
 obtain⟨hn,aY⟩:=oP.1 hg;refine bt ?_;rw[aI];refine⟨zo,zo,zo,?_⟩;rw[bO,show List.map D.sc [Value.int .i64 0]=[aa 0] from rfl,yE];refine sW ?_;refine bb [0,1,2,8] (λk:Nat=>[(9,aa k)]) (λk=>[(0,.vec true 0 1<|aw<|gl g.length λi=>if i<k/\to i=true then 1 else 0)]) (λk=>k<=g.length) (λk=>g.length-k) 0 ?_;refine sW ?_;refine⟨zo,by exact sK,by rw[ou (g':=λi=>if i<0/\to i=true then 1 else 0) λi _=>zs];rfl,?_⟩;rintro k hk;refine ck ?_;rw[aI];refine sS (λh1=>?_) λh1=>?_
 ·have ai:k<g.length:=sO;refine sL (bc k zo ai) ?_;cases ht:to k
  ·refine aQ ?_;refine⟨k+1,zo,zd,?_⟩;refine aC (by exact sK) ?_;rw[ou (g':=λi=>if i<k+1/\to i=true then 1 else 0) λi _=>by
    by_cases e:i=k
    ·subst e;simp[ht]
    have:i<k+1↔i<k:=zo;simp[this]]
   rfl
  refine bC ?_;refine⟨_,bX k zo ai,?_⟩;refine aQ ?_;refine⟨k+1,zo,zd,?_⟩;refine aC (by exact sK) ?_;rw[Cq (k:=k) zo,ou (g':=λi=>if i<k+1/\to i=true then 1 else 0) λi _=>by
   by_cases e:i=k
   ·subst e;simp[ht]
   have:i<k+1↔i<k:=zo;rw[rY e];simp[this]]
  rfl
 have ai:k=g.length:=by have:¬k<g.length:=sO
                        omega
 subst ai;refine bb [0,1,8] (λ((o,r):(Nat->Int)×Nat)=>[(10,aa<|(r:Int)+1)]) (λ(o,r)=>[(0,.vec true 0 1<|aw<|gl g.length o)]) (λ(o,r)=>r<=g.length/\ow g to o r 0) (λ(o,r)=>g.length-r) (λi=>if to i=true then 1 else 0,0) ?_;refine sW ?_;refine⟨⟨zo,ow.begin λn=>rfl⟩,by exact sK,by rw[ou (g':=λi=>if to i=true then 1 else 0) λi hi=>by simp[hi]];rfl,?_⟩;rintro⟨o,r⟩ ⟨hr,hJ⟩;refine ck ?_;rw[aI];refine sS (λh2=>?_) λh2=>?_
 ·have xl:r<g.length:=sO;refine bb [0,1,8,10] (λ((o,k):(Nat->Int)×Nat)=>[(11,aa k)]) (λ(o,k)=>[(0,.vec true 0 1<|aw<|gl g.length o)]) (λ(o,k)=>k<=g.length/\ow g to o r k) (λ(o,k)=>g.length-k) (o,0) ?_;refine sW ?_;refine⟨⟨zo,hJ⟩,by exact sK,rfl,?_⟩;clear hJ;rintro⟨o,k⟩ ⟨hk,hJ⟩;refine ck ?_;rw[aI];refine sS (λh3=>?_) λh3=>?_
  ·have ai:k<g.length:=sO;have ZR:=ft aY k;have BS:=hF.at k;refine bb [0,1,8,10,11] (λ((o',i):(Nat->Int)×Nat)=>[(12,aa i)]) (λ(o',i)=>[(0,.vec true 0 1<|aw<|gl g.length o')]) (λ(o',i)=>i<=(g.getD k []).length/\O5 g to o r k i o') (λ(o',i)=>(g.getD k []).length-i) (o,0) ?_;refine sW ?_;refine⟨⟨zo,.inl ⟨rfl,λj hj=>zo⟩⟩,by exact sK,rfl,?_⟩;rintro⟨o',i⟩ ⟨hi,hE⟩;refine ck ?_;refine sL (eV (g:=g) (k:=k) zo ai) ?_;rw[aI];have done:(i=(g.getD k []).length\/o' k≠0)->ow g to o' r (k+1):=hE.out hJ;refine sS (λh4=>?_) λh4=>?_
   ·have aT:i<(g.getD k []).length:=sO;have hx:=nZ ZR aT;have mb:=df aT;refine sB ?_;refine⟨_,bX k zo ai,?_⟩;refine sWS (λh5=>?_) λh5=>?_
    ·have h5:o' k=0:=sO;have Qc:o'=o/\∀j,j<i->o ((g.getD k []).getD j 0).toNat≠(r:Int)+1:=by
      rcases hE with h|h
      ·exact h
      exact absurd h5 h.2
     obtain⟨rfl,Qc⟩:=Qc;refine sW ?_;refine sL (eV (g:=g) (k:=k) zo ai) ?_;refine sL (bV (l:=g.getD k []) (k:=i) zo aT) ?_;generalize hX:(g.getD k []).getD i 0=x at hx mb;refine sB ?_;refine⟨_,bX x.toNat zo zo,?_⟩;refine sWS (λh6=>?_) λh6=>?_
     ·have h6:o' x.toNat=(r:Int)+1:=sO;refine sIB ?_;refine⟨_,bX k zo ai,?_⟩;refine aQ ?_;have hh:=hJ.bD h5 mb h6;refine⟨(qI o' k<|(r:Int)+2,i+1),⟨zo,.inr ⟨hh,by rw[tz];omega⟩⟩,zd,?_⟩;refine aC (by exact sK) ?_;dsimp only;rw[Cq (k:=k) zo,show(r:Int)+1+1=(r:Int)+2 by omega];rfl
     have h6:o' x.toNat≠(r:Int)+1:=sO;refine sI ?_;refine⟨(o',i+1),⟨zo,.inl ⟨rfl,λj hj=>?_⟩⟩,zd,aC (by exact sK) rfl⟩;by_cases e:j=i
     ·subst e;rw[hX];exact h6
     exact Qc j zo
    have h5:o' k≠0:=sO;refine aQ ?_;refine⟨(o',k+1),⟨zo,done (.inr h5)⟩,zd,aC (by exact sK) rfl⟩
   have aT:i=(g.getD k []).length:=by have:¬i<(g.getD k []).length:=sO
                                      omega
   refine aQ ?_;refine⟨(o',k+1),⟨zo,done (.inl aT)⟩,zd,aC (by exact sK) rfl⟩
  have ai:k=g.length:=by have:¬k<g.length:=sO
                         omega
  subst ai;refine sI ?_;refine⟨(o,r+1),⟨zo,hJ.next<|zBu gp⟩,zd,aC ⟨by show D.sc _=D.sc _;simp,by exact sK⟩ rfl⟩
 have xl:r=g.length:=by have:¬r<g.length:=sO
                        omega
 subst xl;have hD:=λn (h:n<g.length)=>zzV aY hJ h;have Te:=λ(l:ah) (hl:bq l g.length) (d:Nat)=>zxv hD hl (d:=d);refine bb [0,1,13] (λd:Nat=>[(14,aa<|(d:Int)+1)]) (λ_=>[]) (λd=>d<=g.length/\∀e,e<d->ey (λn=>decide (cP g to n=(e:Int))) from_ from_.length<0) (λd=>g.length-d) 0 ?_;refine sW ?_;refine⟨⟨zo,λe he=>zo⟩,by exact sK,rfl,?_⟩;rintro d ⟨hd,cg⟩;refine ck ?_;rw[aI];refine sS (λh3=>?_) λh3=>?_
 ·have yf:d<g.length:=sO;refine .inr (.inl ⟨_,_,(.cons _ _ _ _ (.refl _) (.cons _ _ _ _ (.refl _) (.cons _ _ _ _ (.loc _ _ _ _ _ rfl (.cons _ _ _ _ (vV rfl) .nil)) .nil))),Rs g.length o from_ hf s9<|(d:Int)+1,rfl,?_⟩);refine sW ?_;rw[Te from_ hf d];have R3:=zqC hf cg;have Aw:=zqy (p:=λn=>decide (cP g to n=(d:Int))) hf from_.length<|aS _;have DW:ey (λn=>decide (cP g to n=(d:Int))) from_ from_.length<0->∀e,e<d+1->ey (λn=>decide (cP g to n=(e:Int))) from_ from_.length<0:=λh e he=>by
   by_cases q:e=d
   ·subst q;exact h
   exact cg e zo
  generalize ey (λn=>decide (cP g to n=(d:Int))) from_ from_.length=a at R3 Aw DW;refine sS (λh4=>?_) λh4=>?_
  ·have h4:a<0:=sO;refine sI ?_;refine⟨d+1,⟨zo,DW h4⟩,zd,aC ⟨by show D.sc _=D.sc _;simp,by exact sK⟩ rfl⟩
  have h4:0<=a:=sO;obtain⟨e1,e2⟩:=R3 h4;rw[e1] at e2;unfold pZ;rw[e1,ae h4,gQ h4,e2,bO];generalize hW:n7 g (cP g to) d a=W;refine sI ?_
  refine bb [0,13] (λ((b,pre,k):Int×ah×Nat)=>[(15,aa b),(16,.own 2 pre.length 0<|pre.length+1),(17,aa k)]) (λ(b,pre,k)=>[(2,.vec true pre.length 1<|aw<|pre++[b])])
   (λ(b,pre,k)=>0<=b/\b<(g.length:Int)/\cP g to b.toNat=(k:Int)/\pre.length+k<=20000/\pre++n7 g (cP g to) k b=W) (λ(b,pre,k)=>k) (a,[],d) ?_
  refine sW ?_;refine⟨⟨h4,Aw.1,e2,zq,hW⟩,⟨rfl,rfl,by show D.sc _=D.sc _;simp,by exact sK⟩,rfl,?_⟩;rintro⟨b,pre,k⟩ ⟨FO,GZ,Xh,hb4,u9⟩;refine bf (λh6=>?_) λh6=>?_
  ·have h6:(0:Int)<k:=sO;obtain⟨k,rfl⟩:∃j,k=j+1:=⟨k-1,zo⟩;obtain⟨n1,n2,n3⟩:=KS aY (to:=to) (a:=b.toNat) (d:=k) zo;rw[HL] at u9;refine sL (eV (g:=g) (k:=b.toNat) zo zo) ?_;have hB:=ft aY b.toNat;have QU:=hF.at b.toNat;refine .inr (.inl ⟨_,_,(.cons _ _ _ _ (.refl _) (.cons _ _ _ _ (.refl _) (.cons _ _ _ _ (.loc _ _ _ _ _ rfl (.cons _ _ _ _ (vV rfl) .nil)) .nil))),Rs g.length o (g.getD b.toNat []) hB zo ((k+1:Nat):Int),rfl,?_⟩);refine sW ?_;rw[show((k+1:Nat):Int)=(k:Int)+1 by omega,Te _ hB k];generalize ey (λn=>decide (cP g to n=(k:Int))) (g.getD b.toNat []) (g.getD b.toNat []).length=y at n1 n2 n3 u9;refine ee ?_;refine⟨(y,pre++[b],k),⟨n1,n2,n3,zq,by rw[<-u9];simp⟩,zd,?_⟩;dsimp only;rw[show(pre++[b]).length=pre.length+1 by simp,show(k:Int)+1-1=(k:Int) by omega];refine aL 3 zs rfl sQ (sU ?_);exact aV<|by rw[fG zs,dP];simp[aw]
  have h6':¬(0:Int)<k:=sO;have h6:k=0:=zo;subst h6;refine .aJ _ _ (.cons _ _ _ _ ?_<|mE _);rw[<-u9];exact .own _ _ _ _ _ _ _ _ rfl (by rw[dP,fG zs];exact gw _)
 have yf:d=g.length:=by have:¬d<g.length:=sO
                        omega
 subst yf;have AD:¬0<=ki g from_ to:=by have:=ztl aY hf cg;omega
 unfold pZ;rw[ab AD,gI AD];exact .aJ _ _ (.cons _ _ _ _ (.none _)<|mE _)
structure Cw(g:ak)(from_:ah)(s:aq):Prop where
 start:∀x∈from_,s x.toNat=true
 seen:∀v,s v->gx g from_ v
theorem Cw.done{s:aq}(h:Cw g from_ s)(hc:∀a,a<g.length->s a->∀x∈g.getD a [],s x.toNat)(v:Nat):s v=gL g from_ v :=
 OD ⟨h.seen v,P2 h.start (λv hv x hx=>by
  by_cases q:v<g.length
  ·exact hc v q hv x hx
  rw[a8,dG zo] at hx;simp at hx) v⟩
theorem ztm{s:aq}{v:Nat}(h:s v):mark s v=s:=by
 funext i;unfold mark;split
 ·rename_i e;subst e;exact h.symm
 rfl
theorem Qx(g:ak)(hg:l7 g=0)(hF:iu g)(from_:ah)(hf:bq from_ g.length)(s9:from_.length<=100000000):ao aj 44 [bN g,aF from_]<|bx g.length<|gL g from_:=by
 obtain⟨hn,aY⟩:=oP.1 hg;refine bt ?_;rw[aI];refine⟨zo,zo,zo,?_⟩;rw[bO,show List.map D.sc [Value.bool false]=[ay false] from rfl,jS];refine sW ?_;refine bb [0,1,5] (λ((k,s):Nat×aq)=>[(6,aa k)]) (λ(k,s)=>[(0,.vec true 0 1<|bF g.length s)]) (λ(k,s)=>k<=from_.length/\(∀j,j<k->s (from_.getD j 0).toNat)/\∀v,s v=true->gx g from_ v) (λ(k,s)=>from_.length-k) (0,λ_=>false) ?_;refine sW ?_;refine⟨⟨zo,λj hj=>zo,λv hv=>by cases hv⟩,by exact sK,rfl,?_⟩;rintro⟨k,s⟩ ⟨hk,h1,h2⟩;refine ck ?_;rw[aI];refine sS (λq1=>?_) λq1=>?_
 ·have ai:k<from_.length:=sO;have hx:=nZ hf ai;have Bm:=df ai;refine sL (bV (k:=k) zo ai) ?_;generalize Pq:from_.getD k 0=x at hx Bm;refine sB ?_;refine⟨_,bc x.toNat zo zo,?_⟩;refine aQ ?_;refine⟨(k+1,mark s x.toNat),⟨zo,λj hj=>?_,λv hv=>?_⟩,zd,aC (by exact sK)<|by rw[nV (v:=x.toNat) zo];rfl⟩
  ·by_cases e:j=k
   ·subst e;rw[Pq];exact km _ _
   exact fo<|h1 j zo
  rcases nE.1 hv with rfl|hv
  ·exact .base Bm
  exact h2 v hv
 have ai:k=from_.length:=by have:¬k<from_.length:=sO
                            omega
 subst ai;have AJ:Cw g from_ s:=⟨λx hx=>by obtain⟨j,hj,rfl⟩:=pd hx;exact h1 j hj,h2⟩;clear h1 h2 q1 hk;refine bb [0,5] (λ((m,s):Bool×aq)=>[(7,ay m)]) (λ(m,s)=>[(0,.vec true 0 1<|bF g.length s)]) (λ(m,s)=>Cw g from_ s/\(m=false->∀a,a<g.length->s a->∀x∈g.getD a [],s x.toNat)) (λ(m,s)=>if m=true then 1+cQ s g.length else 0) (true,s) ?_;refine sW ?_;refine⟨⟨AJ,λh=>by cases h⟩,by exact sK,rfl,?_⟩;clear AJ;rintro⟨m,s0⟩ ⟨hC,fN⟩;refine ck ?_;cases m
 ·refine sW ?_;have:=hC.done<|fN rfl;rw[iI (g':=gL g from_) λi _=>this i];exact qi rfl
 refine sW ?_
 refine bb [0,5] (λ((m,a,s):Bool×Nat×aq)=>[(7,ay m),(8,aa a)]) (λ(m,a,s)=>[(0,.vec true 0 1<|bF g.length s)])
  (λ(m,a,s)=>a<=g.length/\Cw g from_ s/\(∀v,s0 v->s v)/\(m=true->cQ s g.length<cQ s0 g.length)/\(m=false->∀b,b<a->s b->∀x∈g.getD b [],s x.toNat)) (λ(m,a,s)=>g.length-a) (false,0,s0) ?_
 refine sW ?_;refine⟨⟨zo,hC,(λv h=>h),(λh=>by cases h),(λ_ b hb=>zo)⟩,by exact sK,rfl,?_⟩;clear hC fN;rintro⟨m,a,s⟩ ⟨ha,hC,gd,lK,j7⟩;refine ck ?_;rw[aI];refine sS (λq1=>?_) λq1=>?_
 ·have fq:a<g.length:=sO
  refine bb [0,5,8] (λ((m,i,s):Bool×Nat×aq)=>[(7,ay m),(9,aa i)]) (λ(m,i,s)=>[(0,.vec true 0 1<|bF g.length s)])
   (λ(m,i,s)=>i<=(g.getD a []).length/\Cw g from_ s/\(∀v,s0 v->s v)/\(m=true->cQ s g.length<cQ s0 g.length)/\(m=false->(∀b,b<a->s b->∀x∈g.getD b [],s x.toNat)/\∀j,j<i->s ((g.getD a []).getD j 0).toNat)) (λ(m,i,s)=>(g.getD a []).length-i) (m,0,s) ?_
  refine sW ?_;refine⟨⟨zo,hC,gd,lK,λh=>⟨j7 h,λj hj=>zo⟩⟩,by exact sK,rfl,?_⟩;clear hC gd lK j7 q1;rintro⟨m,i,s⟩ ⟨hi,hC,gd,lK,j7⟩;refine ck ?_;refine sB ?_;refine⟨_,bc a zo fq,?_⟩;refine sW ?_;cases Om:s a
  ·refine sW ?_;have cR:m=false->s a=true->∀x∈g.getD a [],s x.toNat=true:=λ_ h=>by rw[Om] at h;cases h
   refine sI ?_;refine⟨(m,a+1,s),⟨zo,hC,gd,lK,λh b hb Gh x hx=>?_⟩,zd,aC (by exact sK) rfl⟩;by_cases e:b=a
   ·subst e;exact cR h Gh x hx
   exact(j7 h).1 b zo Gh x hx
  refine sW ?_;refine sL (eV (k:=a) zo fq) ?_;rw[aI];refine sS (λq1=>?_) λq1=>?_
  ·have aT:i<(g.getD a []).length:=sO;have hx:=nZ (ft aY a) aT;have Bm:=df aT;have cD:=bV (l:=g.getD a []) (z:=(i:Int).toNat) (k:=i) zo aT;generalize Pq:(g.getD a []).getD i 0=x at hx Bm cD;have hR:gx g from_ x.toNat:=.step (hC.seen a Om) Bm;have Tl:Cw g from_<|mark s x.toNat:=⟨λy hy=>fo<|hC.start y hy,λv hv=>by
    rcases nE.1 hv with rfl|hv
    ·exact hR
    exact hC.seen v hv⟩
   have WM:∀v,s0 v->mark s x.toNat v:=λv hv=>fo<|gd v hv;have qY:=hF.at a;have hle:cQ (mark s x.toNat) g.length<=cQ s g.length:=zS λv _ hv=>fo hv;cases m
   ·refine sW ?_;refine sL (eV (k:=a) zo fq) ?_;refine sL (cD) ?_;refine sB ?_;refine⟨_,bc x.toNat zo zo,?_⟩;refine sW ?_;cases CY:s x.toNat
    ·refine sW ?_;refine sL (eV (k:=a) zo fq) ?_;refine sL (cD) ?_;refine sB ?_;refine⟨_,bc x.toNat zo zo,?_⟩;refine sW ?_;rw[nV (v:=x.toNat) zo];refine sI ?_;have cG:=nK (s:=s) (s':=mark s x.toNat) (n:=g.length) (i:=x.toNat) zo (λv _ hv=>fo hv) CY<|km _ _;have zQb:=zS (s:=s0) (s':=s) (n:=g.length) λv _ hv=>gd v hv;exact⟨(true,i+1,mark s x.toNat),⟨zo,Tl,WM,(λ_=>zo),(λh=>by cases h)⟩,zd,aC (by exact sK) rfl⟩
    refine sW ?_;refine sL (eV (k:=a) zo fq) ?_;refine sL (cD) ?_;refine sB ?_;refine⟨_,bc x.toNat zo zo,?_⟩;refine sW ?_;rw[nV (v:=x.toNat) zo];refine sI ?_;have hms:=ztm CY;rw[hms];obtain⟨f1,f2⟩:=j7 rfl;refine⟨(false,i+1,s),⟨zo,hC,gd,(λh=>by cases h),(λ_=>⟨f1,λj hj=>?_⟩)⟩,zd,aC (by exact sK) rfl⟩;by_cases e:j=i
    ·subst e;rw[Pq];exact CY
    exact f2 j zo
   refine sW ?_;refine sL (eV (k:=a) zo fq) ?_;refine sL (cD) ?_;refine sB ?_;refine⟨_,bc x.toNat zo zo,?_⟩;refine sW ?_;rw[nV (v:=x.toNat) zo];refine sI ?_;have:=lK rfl;exact⟨(true,i+1,mark s x.toNat),⟨zo,Tl,WM,(λ_=>zo),(λh=>by cases h)⟩,zd,aC (by exact sK) rfl⟩
  have aT:i=(g.getD a []).length:=by have:¬i<(g.getD a []).length:=sO
                                     omega
  have cR:m=false->s a->∀x∈g.getD a [],s x.toNat:=λh _ x hx=>by
   obtain⟨j,hj,rfl⟩:=pd hx;exact(j7 h).2 j zo
  refine sI ?_;refine⟨(m,a+1,s),⟨zo,hC,gd,lK,λh b hb Gh x hx=>?_⟩,zd,aC (by exact sK) rfl⟩;by_cases e:b=a
  ·subst e;exact cR h Gh x hx
  exact(j7 h).1 b zo Gh x hx
 have fq:a=g.length:=by have:¬a<g.length:=sO
                        omega
 subst fq;refine⟨(m,s),⟨hC,j7⟩,?_,aC (by exact sK) rfl⟩;cases m
 ·simp only[if_true,xt,if_false];omega
 have:=lK rfl;simp only[if_true];omega
theorem zpK{m:ah}(h:∀x∈m,0<=x):(m.all λx=>x==0)=ld m:=by
 unfold ld;rw[j9];simp only[kb,ib,FX,yK,ja];constructor
 ·intro q x hx;have:=q x hx;omega
 intro q x hx;have:=q x hx;have:=h x hx;omega
theorem Xy{p:aq}{j:Nat}(h:j<n):gm p n (n-j)=if p j=true then (j:Int) else gm p n<|n-(j+1):=by
 rw[show n-j=(n-(j+1))+1 by omega];simp only[gm];rw[show n-(n-(j+1)+1)=j by omega]
theorem Zw{M:ak}(hS:SpN M N s)(hi:i<M.length) :
  lY M N i=!((List.range M.length).any λj=>gL (gN N) [(i:Int)] j&&ld (M.getD j [])):=by
 obtain⟨g1,_⟩:=hS.graph;have hl:=hS.len;have aY:=(oP.1 g1).2;have gE:∀v y,y∈(gN N).getD v []->0<=y/\y.toNat<(gN N).length:=λv y hy=>by have:=cZ (ft aY v) hy;omega
 unfold lY
 congr 1
 rw[j9,pO,Yk λx hx=>(GM.1 hx).1,mJ];constructor
 ·rintro⟨x,hx,h⟩;obtain⟨h0,h1,h2⟩:=GM.1 hx;refine⟨x.toNat,jz.2 zo,?_⟩;rw[gr,pO];refine⟨Tt gE (v:=x.toNat) ?_,h2⟩;rw[uY h0];exact h
 rintro⟨k,hk,h⟩;rw[gr,pO] at h;have hk:=jz.1 hk;refine⟨(k:Int),GM.2 ⟨zo,zo,by rw[bO];exact h.2⟩,?_⟩;exact Sd gE (by rw[oU,hl];exact hi) h.1
theorem zxn(m:ah)(hm:m.length<=100000):ao aj 43 [aF m]<|ay<|m.all λx=>x==0:=by
 refine bt ?_;refine bb [0] (λk:Nat=>[(3,aa k)]) (λ_=>[]) (λk=>k<=m.length/\∀j,j<k->m.getD j 0=0) (λk=>m.length-k) 0 ?_;refine sW ?_;refine⟨⟨zo,λj hj=>zo⟩,by exact sK,rfl,?_⟩;rintro k ⟨hk,cg⟩;refine ck ?_;rw[aI];refine sS (λh1=>?_) λh1=>?_
 ·have ai:k<m.length:=sO;refine sL (bV (k:=k) zo ai) ?_;refine sS (λh2=>?_) λh2=>?_
  ·have h2:m.getD k 0≠0:=sO;refine cf ?_;have:(m.all λx=>x==0)=false:=by
    rw[Gi];exact⟨_,df ai,by simpa using h2⟩
   rw[this]
  have h2:m.getD k 0=0:=sO;refine sI ?_;refine⟨k+1,⟨zo,λj hj=>?_⟩,zd,aC (by exact sK) rfl⟩;by_cases e:j=k
  ·subst e;exact h2
  exact cg j zo
 have ai:k=m.length:=by have:¬k<m.length:=sO
                        omega
 subst ai;refine cf ?_;have:(m.all λx=>x==0)=true:=by
  rw[kb];intro x hx;obtain⟨j,hj,rfl⟩:=pd hx;rw[cg j hj];rfl
 rw[this]
theorem zws(M:ak)(N:List<|List aZ)(sn:Nat)(hS:SpN M N sn)(to:Int)(gp:to<(M.length:Int)):ao aj 45 [aa to,.ax [aa M.length],.ax [bN<|gN N],.ax<|lh M N]<|aF<|ly N to:=by
 have hf:=hS.few;have hp:=hS.pos;have hl:=hS.len;obtain⟨g1,g2⟩:=hS.graph;refine dh fZ zs (by simp[aA,Pure,l5,lh,ze]) ?_<|cX _;unfold lh;refine sRS (λh1=>?_) λh1=>?_
 ·have h1:to<0:=sO;unfold ly;rw[ae h1];exact .none _
 have h1:¬to<0:=sO;refine⟨zo,zo,zo,?_⟩;rw[bO,show List.map D.sc [Value.bool false]=[ay false] from rfl,jS];refine bC ?_;refine⟨_,bc to.toNat zo zo,?_⟩;refine sW ?_;rw[Y2 (z:=to.toNat) zo];have zHK:∀i,(gN N).length<=i->(λi:Nat=>decide ((i:Int)=to)) i=false:=λi hi=>gI (by rw[oU] at hi;omega);have h0:bq [0] (gN N).length=true:=iS λx hx=>by rw[cV] at hx;subst hx;rw[oU];omega
 have hW:=ZK (gN N) g1 g2 [0] h0 zs _ zHK;have aY:=(oP.1 g1).2;obtain⟨w1,w2,w3⟩:=Nk aY h0 (to:=λi:Nat=>decide ((i:Int)=to));have eL:ly N to=CD N (pZ (gN N) [0] λi=>decide ((i:Int)=to)):=by unfold ly;rw[ab h1]
 rw[eL];rw[show(gN N).length=M.length by rw[oU,hl]] at hW w2 w3;generalize (pZ (gN N) [0] λi=>decide ((i:Int)=to))=dk at hW w1 w2 w3;refine .inr (.inr (.inr (.inr (.inr (.inl ⟨rfl,_,_,.cons _ _ _ _ (.refl _) (.cons _ _ _ _ (.own _ _ _ _ _ _ _ _ rfl (gw _)) (.cons _ _ _ _ (qi rfl) .nil)),hW,?_⟩)))));refine sW ?_;refine bQ (eo 9 1 zs rfl) ?_;have hn:=λk (hk:k<dk.length)=>w2 _<|df hk;refine bb [3,7] (λ((k,c,l):Nat×Nat×ah)=>[(9,.own 2 c 0 c),(10,aa<|(k:Int)+1)]) (λ(k,c,l)=>[(2,.vec true c 1<|aw l)]) (λ(k,c,l)=>k<=dk.length-1/\c=l.length/\c=k/\l=ur N dk k) (λ(k,c,l)=>dk.length-k) (0,0,[]) ?_;refine sW ?_;refine⟨⟨zo,rfl,zo,rfl⟩,by(repeat' (first|exact trivial|refine And.intro rfl ?_)),rfl,?_⟩;rintro⟨k,c,l⟩ ⟨hk,hc,lH,dO⟩
 ((conv=>whnf);repeat(refine⟨rfl,?_⟩;conv=>whnf))
 ((apply ry;focus (repeat' constructor));((conv=>whnf);repeat(refine⟨rfl,?_⟩;conv=>whnf)))
 rw[aI]
 (refine pW (λq1=>?_) (λq1=>?_)<;>(rw[q1];((conv=>whnf);repeat(refine⟨rfl,?_⟩;conv=>whnf))))
 ·have ai:k+1<dk.length:=(by((try simp only[oo,reduceCtorEq]at*)<;>omega));have qo:=hn k zo;have ss:=hn (k+1) ai;have gE:=w1 k ai;have eA:ur N dk (k+1)=ur N dk k++[C9 (N.getD (dk.getD k 0).toNat [])<|dk.getD (k+1) 0]:=rfl;have sh:=bV (l:=dk) (z:=k) (k:=k) rfl zo;have He:=bV (l:=dk) (z:=k+1) (k:=k+1) rfl ai;generalize dk.getD k 0=a at qo gE eA sh;generalize dk.getD (k+1) 0=b at ss gE eA He;rw[Qg] at gE;have lx:=hS.rowAt a.toNat;have cR:=ru (L:=N) (z:=a.toNat) (k:=a.toNat) rfl zo;generalize N.getD a.toNat []=es at gE eA lx cR;have zJX:∀j,(∀q,q<j->(es.getD q (0,0)).2≠b)->j<es.length:=λj cg=>by
   obtain⟨x,hx,Qu⟩:=dq.1 gE;obtain⟨q,hq,rfl⟩:=iD.1 hx;rcases gK j es.length with w|w
   ·exact w
   exact absurd (show(es.getD q (0,0)).2=b by rw[a8,aX hq];exact Qu)<|cg q zo
  have z1:((k:Int)+1-1).toNat=k:=zo;have z2:((k:Int)+1).toNat=k+1:=zo;refine bb [3,7,9,10] (λj:Nat=>[(11,aa j)]) (λ_=>[]) (λj=>j<=es.length/\∀q,q<j->(es.getD q (0,0)).2≠b) (λj=>es.length-j) 0 ?_
  ((conv=>whnf);repeat(refine⟨rfl,?_⟩;conv=>whnf))
  refine⟨⟨zo,λq hq=>zo⟩,by(repeat' (first|exact trivial|refine And.intro rfl ?_)),rfl,?_⟩;rintro j ⟨hj,cg⟩;have de:=zJX j cg;have FN:=λh=>Wc (l:=es) (t:=b) de h cg;have EW:(es.getD j (0,0)).2≠b->∀q,q<j+1->(es.getD q (0,0)).2≠b:=λh q hq=>by
   by_cases e:q=j
   ·subst e;exact h
   exact cg q zo
  have Mt:=lu (l:=es) (z:=(j:Int).toNat) (k:=j) zo de;generalize es.getD j (0,0)=e at FN EW Mt
  ((conv=>whnf);repeat(refine⟨rfl,?_⟩;conv=>whnf))
  ((apply ry;focus (repeat' constructor));((conv=>whnf);repeat(refine⟨rfl,?_⟩;conv=>whnf)))
  (refine .inl ⟨by(unfold InR;rw[po];omega),?_⟩;((conv=>whnf);repeat(refine⟨rfl,?_⟩;conv=>whnf)))
  refine sL ((by rw[z1];exact sh)) ?_;refine sL (cR) ?_;refine sL (Mt) ?_;refine sL ((by rw[z2];exact He)) ?_
  (refine pW (λh3=>?_) (λh3=>?_)<;>(rw[h3];((conv=>whnf);repeat(refine⟨rfl,?_⟩;conv=>whnf))))
  ·have h3:e.2≠b:=by((try simp only[oo,reduceCtorEq]at*)<;>omega)
   (refine .inl ⟨by(unfold InR;rw[po];omega),?_⟩;((conv=>whnf);repeat(refine⟨rfl,?_⟩;conv=>whnf)))
   exact⟨j+1,⟨zo,EW h3⟩,zd,aC (by(repeat' (first|exact trivial|refine And.intro rfl ?_))) rfl⟩
  have h3:e.2=b:=by((try simp only[oo,reduceCtorEq]at*)<;>omega)
  (refine .inl ⟨by(unfold InR;rw[po];omega),?_⟩;((conv=>whnf);repeat(refine⟨rfl,?_⟩;conv=>whnf)))
  refine sL ((by rw[z1];exact sh)) ?_;refine sL (cR) ?_;refine sL (Mt) ?_;rw[FN h3] at eA;refine sJ ?_
  (refine .inl ⟨by(unfold InR;rw[po];omega),?_⟩;((conv=>whnf);repeat(refine⟨rfl,?_⟩;conv=>whnf)))
  refine⟨(k+1,c+1,l++[e.1]),⟨zo,by simp[hc],zo,by rw[eA,dO]⟩,zd,?_⟩;refine aL 3 (aS 3) rfl ?_ ?_<;>(repeat' (first|exact trivial|exact rfl|exact .refl _|refine And.intro ?_ ?_|(simp[aK,aG,bB,-List.map_take,-List.map_drop];done)));exact aV<|kJ hc
 have ai:k=dk.length-1:=by have:¬k+1<dk.length:=sO
                           omega
 subst ai;unfold CD;rw[<-dO];exact .own _ _ _ _ _ _ _ _ rfl (by rw[dP,fG zq];exact gw _)
def A2:bj:=[au,aa 0,aa 0,au,au]
theorem zsO(hP:P.Fits)(M:ak)(N:List<|List aZ)(hF:B5 P M N):ao aj 16 [b7 P,mS M N]<|findD P M N:=by
 have hS:=hF.sp;have hf:=hS.few;have hl:=hS.len;have l8:P.nodes.length<=20:=(jo (af.kB hF.steps).1).1;obtain⟨g1,Mw⟩:=hS.graph;refine dh (fY [447,1535]) zs zp ?_ (by unfold findD;simp[R8]);refine sR ?_;refine sC (J6 P hP) ?_;rw[aI,aI];refine⟨zo,zo,zo,?_⟩;rw[bO,show List.map D.sc [Value.bool false]=[ay false] from rfl,jS];refine sW ?_;refine⟨zo,zo,zo,?_⟩;rw[bO];refine sW ?_
 refine pj (λ_:Unit=>[(2,.loc 0 0),(3,.loc 1 0),(4,.loc 2 0),(7,.loc 3 0),(8,.loc 4 0),(9,.own 5 0 0 P.nodes.length),(10,.loc 7 0)])
  (λ_=>[.row true P.cells,.row true<|lh M N,.row true A2,.row true [aa M.length],.row true [au,aa (-1),aa (-1),au,au],.vec true 0 1<|bF P.nodes.length<|mz P.aR N N.length,.vec true 0 1<|(gN N).map λl=>[aF l],.row true [.own 6 0 0 M.length]]) (λ_=>True) ?_ ?_
 ·refine sR ?_;refine bQ (yX 6 1 M.length 0 zs rfl) ?_
  refine cq [2,3,4,5,7,8,9,10] (λn:Nat=>[(11,aa n)])
   (λn=>.row true P.cells::.row true (lh M N)::.row true A2::.row true [aa M.length]::.row true [au,aa (-1),aa (-1),au,au]::.vec true 0 1 (bF P.nodes.length<|mz P.aR N n)::.vec true 0 1 (iT 8<|gTo N n 0)::.row true [.own 6 0 0 M.length]::eu 1 pg (gTo N n 0)) (λn=>n<=N.length) (λn=>N.length-n) 0 ?_
  refine sW ?_;refine⟨zo,by exact sK,?_,?_⟩
  ·show _::_::_::_::_::_::_::_::_=_::_::_::_::_::_::_::_::_;rw[xL 1 _ pg,W9,hl];rw[<-x' (α:=Int) 8 M.length];rfl
  rintro n hn;refine bf (λh1=>?_) λh1=>?_
  ·have du:n<N.length:=sO;have lx:=hS.rowAt n;have C5:=λk hk=>hS.FY (i:=n) (k:=k) hk;have eN:mz P.aR N (n+1)=wq P.aR (N.getD n []) (mz P.aR N n) (N.getD n []).length:=rfl;have cD:=ru (L:=N) (z:=(n:Int).toNat) (k:=n) zo du;generalize mz P.aR N n=s0 at eN
   refine cq [2,3,4,5,7,8,9,10,11] (λk:Nat=>[(12,aa k)])
    (λk=>.row true P.cells::.row true (lh M N)::.row true A2::.row true [aa M.length]::.row true [au,aa (-1),aa (-1),au,au]::.vec true 0 1 (bF P.nodes.length<|wq P.aR (N.getD n []) s0 k)::.vec true 0 1 (iT 8<|gTo N n k)::.row true [.own 6 0 0 M.length]::eu 1 pg (gTo N n k)) (λk=>k<=(N.getD n []).length) (λk=>(N.getD n []).length-k) 0 ?_
   refine dd ?_;rintro k hk;have lG:=Y7 N n k;refine ck ?_;refine sL (cD) ?_;rw[oz];refine sS (λh2=>?_) λh2=>?_
   ·have ai:k<(N.getD n []).length:=sO;have js:=VW du ai;have cR:=V8 (k:=k) du;have lrow:((se N n).take k).length=k:=(by rw[fg,SR];omega);have he:=C5 k ai;have AS:=lu (l:=N.getD n []) (z:=(k:Int).toNat) (k:=k) zo ai;have eR:wq P.aR (N.getD n []) s0 (k+1)=mark (wq P.aR (N.getD n []) s0 k) (P.aR.getD ((N.getD n []).getD k (0,0)).1.toNat (0,0,0)).1.toNat:=rfl;generalize (N.getD n []).getD k (0,0)=e at js he AS eR;refine sL (cD) ?_;refine sL (AS) ?_;have bW:=(af.yW hF.steps (k:=e.1.toNat) zo).node;refine sL (uZ (k:=e.1.toNat) zo zo) ?_;generalize P.aR.getD e.1.toNat (0,0,0)=st at bW eR;refine sB ?_;refine⟨_,bc st.1.toNat zo zo,?_⟩;refine sW ?_;rw[nV (v:=st.1.toNat) zo,<-eR];refine sB ?_;refine⟨_,kW (i:=n) zo zo,?_⟩;refine sW ?_;refine sL (cD) ?_;refine sL (AS) ?_;refine wo ?_;refine sW ?_;refine sY ?_;refine u4 zo ?_;refine sW ?_;rw[cR];refine⟨by unfold iF;simp only[lD,fg,dC,fy];omega,?_⟩;refine sW ?_;refine xg ((se N n).take k++[e.2]) zo ?_ ?_
    ·exact uK
    refine bC ?_;refine⟨_,kW (i:=n) zo zo,?_⟩;refine aQ ?_;refine⟨k+1,zo,zd,?_⟩;dsimp only;rw[<-js];refine aL (M.length+8) (by simp[hl]) (by simp[hl]) (by exact sQ) ⟨⟨rfl,.refl _,zs⟩,⟨rfl,.refl _,by simp[lh,aG,aK]⟩,⟨rfl,.refl _,by simp[A2,aG,aK]⟩,⟨rfl,.refl _,zu⟩,⟨rfl,.refl _,zu⟩,⟨rfl,rfl,rfl,.refl _,zs⟩,⟨rfl,rfl,rfl,aV ?_,vf zq⟩,⟨rfl,.refl _,zu⟩,vG I7⟩;exact vT zo zo _ zs
   have ai:k=(N.getD n []).length:=by have:¬k<(N.getD n []).length:=sO
                                      omega
   subst ai;refine sI ?_;refine⟨n+1,zo,zd,?_⟩;rw[Vb];dsimp only;rw[eN];exact aC (by exact sK) rfl
  have du:n=N.length:=by have:¬n<M.length:=sO
                         omega
  subst du;rw[VT]
  refine⟨(),trivial,aL 8 zs rfl (by exact sQ)
   ⟨⟨rfl,.refl _,zs⟩,⟨rfl,.refl _,by simp[lh,aG,aK]⟩,⟨rfl,.refl _,by simp[A2,aG,aK]⟩,⟨rfl,.refl _,zu⟩,⟨rfl,.refl _,zu⟩,⟨rfl,rfl,rfl,.refl _,zs⟩,⟨rfl,rfl,rfl,CA (c:=pg) (λi hi=>by simp[mq]) λi hi=>?_,zu⟩,⟨rfl,.refl _,zu⟩,A9 _⟩⟩
  show(eu 1 pg<|gN N)[i]? = _;exact vP hi
 rintro _ _;refine sW ?_
 refine bQ (nX (mq 6) (env':=[(13,aa 0),(2,.loc 0 0),(3,.loc 1 0),(4,.loc 2 0),(7,.loc 3 0),(8,.loc 4 0),(9,.own 5 0 0 P.nodes.length),(10,.ax [bN<|gN N])])
  (H':=[.row true P.cells,.row true<|lh M N,.row true A2,.row true [aa M.length],.row true [au,aa (-1),aa (-1),au,au],.vec true 0 1<|bF P.nodes.length<|mz P.aR N N.length,.vec false 0 1<|(gN N).map λl=>[aF l],.row false [bN<|gN N]])
  ⟨.refl _,.refl _,.refl _,.refl _,.refl _,.refl _,.refl _,.loc _ _ _ _ _ rfl rfl (.cons _ _ _ _ (.own _ _ _ _ _ _ _ _ rfl rfl (aV<|cB<|by simp[hl])) (.refl _)),trivial⟩
  ⟨⟨.inl rfl,(λh=>by cases h),.refl _⟩,⟨.inl rfl,(λh=>by cases h),.refl _⟩,⟨.inl rfl,(λh=>by cases h),.refl _⟩,⟨.inl rfl,(λh=>by cases h),.refl _⟩,⟨.inl rfl,(λh=>by cases h),.refl _⟩,⟨.inl rfl,(λh=>by cases h),rfl,rfl,.refl _⟩,⟨.inr ⟨rfl,rfl⟩,λ_=>rfl,rfl,rfl,.refl _⟩,⟨.inr ⟨rfl,rfl⟩,λ_=>rfl,.cons _ _ _ _ (.own _ _ _ _ _ _ _ _ rfl rfl (aV<|cB<|by simp[hl])) (.refl _)⟩,trivial⟩) ?_
 have eD:xu P N=nA P (mz P.aR N N.length) P.nodes.length:=rfl;have fD:findD P M N=BY (xu P N) (gm (lf M N) M.length M.length) (gm (lY M N) M.length M.length) (ly N<|gm (lf M N) M.length M.length) (ly N<|gm (lY M N) M.length M.length):=rfl;rw[fD];generalize mz P.aR N N.length=s0 at eD;refine bQ (gG 4 0 1 zs rfl rfl) ?_;refine bb [2,3,4,7,8,9,10] (λ((k,c,l):Nat×Nat×ah)=>[(13,aa k)]) (λ(k,c,l)=>[(4,.row true [.own 8 c 0 c,aa (-1),aa (-1),au,au]),(8,.vec true c 1<|aw l)]) (λ(k,c,l)=>k<=P.nodes.length/\c=l.length/\c<=k/\l=nA P s0 k) (λ(k,c,l)=>P.nodes.length-k) (0,0,[]) ?_;refine sW ?_;refine⟨⟨zo,rfl,zo,rfl⟩,by exact sK,rfl,?_⟩;rintro⟨k,c,l⟩ ⟨hk,hc,lH,dO⟩;refine bf (λh1=>?_) λh1=>?_
 ·have ai:k<P.nodes.length:=sO;have eT:nA P s0 (k+1)=if s0 k=false/\P.kind k≠1 then nA P s0 k++[(k:Int)] else nA P s0 k:=rfl
  refine sB ?_;refine⟨_,bc k zo ai,?_⟩;refine sW ?_;cases hs:s0 k
  ·refine sW ?_;refine sL (jv P (k:=k) zo ai) ?_;refine sS (λh2=>?_) λh2=>?_
   ·have h2:P.kind k≠1:=sO;rw[ae ⟨hs,h2⟩] at eT;refine ee ?_;refine⟨(k+1,c+1,l++[(k:Int)]),⟨zo,by simp[hc],zo,by rw[eT,dO]⟩,zd,?_⟩;refine aL 9 zs rfl sQ (sU ?_);exact aV<|kJ hc
   have h2:P.kind k=1:=sO;rw[ab λq=>q.2 h2] at eT;refine sI ?_;exact⟨(k+1,c,l),⟨zo,hc,zo,by rw[eT,dO]⟩,zd,aC (by exact sK) rfl⟩
  refine sW ?_;rw[ab λq=>by rw[hs] at q;cases q.1] at eT;refine sI ?_;exact⟨(k+1,c,l),⟨zo,hc,zo,by rw[eT,dO]⟩,zd,aC (by exact sK) rfl⟩
 have ai:k=P.nodes.length:=by have:¬k<P.nodes.length:=sO
                              omega
 subst ai;rw[eD,<-dO];clear h1 hk lH;refine sI ?_;have zm:=λj (hj:j<M.length)=>Xy (p:=lf M N) hj;have xf:=λj (hj:j<M.length)=>Xy (p:=lY M N) hj;have U4:=λto h=>zws M N _ hS to h;have iW:∀p:Nat->Bool,gm p M.length M.length<(M.length:Int):=λp=>by
  rcases IF (p:=p) (n:=M.length) M.length<|aS _ with⟨h1,_⟩|⟨k,h1,_,h3,_⟩<;>omega
 have FO:∀(p:aq) d,-1<=gm p M.length d:=λp d=>by
  induction d with
  |zero=>simp[gm]
  |succ d ih=>simp only[gm];split<;>omega
 refine bb [3,4,7,8,10] (λk:Nat=>[(14,aa<|(k:Int)-1)]) (λk=>[(4,.row true [.own 8 c 0 c,aa<|gm (lf M N) M.length<|M.length-k,aa<|gm (lY M N) M.length<|M.length-k,au,au])]) (λk=>k<=M.length) (λk=>k) M.length ?_;refine sW ?_;refine⟨zo,by exact sK,by rw[xb];rfl,?_⟩;rintro k hk;refine bf (λh1=>?_) λh1=>?_
 ·have h1:1<=k:=sO;obtain⟨i,rfl⟩:∃i,k=i+1:=⟨k-1,zo⟩;rw[show((i+1:Nat):Int)-1=(i:Int) by omega];have hi:i<M.length:=zo;have hm:=hS.mark _<|af.rB hi;have hz:=λj (hj:j<M.length)=>zpK (hS.mark _<|af.rB hj).2;have hZ:=λj (hj:j<M.length)=>zxn (M.getD j []) (by have:=(hS.mark _<|af.rB hj).1;omega);have e1:=zm i hi;have e2:=xf i hi;have eS:lf M N i=(decide ((N.getD i []).length=0)&&!(ld<|M.getD i [])):=rfl;rw[Zw hS hi] at e2;refine sL (ru (L:=N) (k:=i) zo zo) ?_;rw[oz];cases q1:(((N.getD i []).length:Int)==0)
  ·have q1:(N.getD i []).length≠0:=sO;refine sW ?_;rw[eS,gI q1,pT,ab zc] at e1;have y7:=Qx (gN N) g1 Mw [(i:Int)] (iS λx hx=>by rw[cV] at hx;subst hx;rw[oU];omega) zs;rw[oU,hl] at y7;refine sE (wO (pre:=[bN<|gN N]) (post:=[]) (xs:=[[aa i]]) y7 (lg _ _) ⟨l5 _,trivial⟩ trivial (by simp[dF,aA,Pure]) rfl) ?_;refine bb [3,4,7,8,10,14,16] (λ((j,b):Nat×Bool)=>[(15,ay b),(17,aa j)]) (λ_=>[]) (λ(j,b)=>j<=M.length/\b=(List.range j).any λj=>gL (gN N) [(i:Int)] j&&ld (M.getD j [])) (λ(j,b)=>M.length-j) (0,false) ?_;refine sW ?_;refine⟨⟨zo,rfl⟩,by exact sK,rfl,?_⟩;rintro⟨j,b⟩ ⟨hj,hb⟩;refine bf (λq3=>?_) λq3=>?_
   ·have de:j<M.length:=sO;have jw:(List.range<|j+1).any (λj=>gL (gN N) [(i:Int)] j&&ld (M.getD j []))=(b||(gL (gN N) [(i:Int)] j&&ld (M.getD j []))):=by
     rw[qf,tZ,<-hb];simp
    cases b
    ·refine sW ?_;refine sL (bc j zo de) ?_;cases q4:gL (gN N) [(i:Int)] j
     ·refine aQ ?_;exact⟨(j+1,false),⟨zo,by rw[jw,q4];rfl⟩,zd,aC (by exact sK) rfl⟩
     refine sW ?_;refine sL (eV (k:=j) zo de) ?_;refine sC (hZ j de) ?_;rw[hz j de];refine sI ?_;exact⟨(j+1,ld<|M.getD j []),⟨zo,by rw[jw,q4];rfl⟩,zd,aC (by exact sK) rfl⟩
    refine aQ ?_;exact⟨(j+1,true),⟨zo,by rw[jw];rfl⟩,zd,aC (by exact sK) rfl⟩
   have de:j=M.length:=by have:¬j<M.length:=sO
                          omega
   subst de;rw[<-hb] at e2;cases b
   ·rw[ae zc] at e2;refine aQ ?_;refine⟨i,zo,zd,?_⟩;dsimp only;rw[e1,e2];exact aL 9 zs rfl sQ sQ
   rw[ab zc] at e2;refine aQ ?_;refine⟨i,zo,zd,?_⟩;dsimp only;rw[e1,e2];exact aL 9 zs rfl sQ sQ
  have q1:(N.getD i []).length=0:=sO;refine sW ?_;refine sL (eV (k:=i) zo hi) ?_;refine sC (hZ i hi) ?_;rw[hz i hi];refine sS (λq2=>?_) λq2=>?_
  ·have q2:ld (M.getD i [])=false:=(by simpa using q2);rw[eS,gQ q1,q2,ae zc] at e1;have y7:=Qx (gN N) g1 Mw [(i:Int)] (iS λx hx=>by rw[cV] at hx;subst hx;rw[oU];omega) zs;rw[oU,hl] at y7;refine sE (wO (pre:=[bN<|gN N]) (post:=[]) (xs:=[[aa i]]) y7 (lg _ _) ⟨l5 _,trivial⟩ trivial (by simp[dF,aA,Pure]) rfl) ?_;refine bb [3,4,7,8,10,14,16] (λ((j,b):Nat×Bool)=>[(15,ay b),(17,aa j)]) (λ_=>[]) (λ(j,b)=>j<=M.length/\b=(List.range j).any λj=>gL (gN N) [(i:Int)] j&&ld (M.getD j [])) (λ(j,b)=>M.length-j) (0,false) ?_;refine sW ?_;refine⟨⟨zo,rfl⟩,by exact sK,rfl,?_⟩;rintro⟨j,b⟩ ⟨hj,hb⟩;refine bf (λq3=>?_) λq3=>?_
   ·have de:j<M.length:=sO;have jw:(List.range<|j+1).any (λj=>gL (gN N) [(i:Int)] j&&ld (M.getD j []))=(b||(gL (gN N) [(i:Int)] j&&ld (M.getD j []))):=by
     rw[qf,tZ,<-hb];simp
    cases b
    ·refine sW ?_;refine sL (bc j zo de) ?_;cases q4:gL (gN N) [(i:Int)] j
     ·refine aQ ?_;exact⟨(j+1,false),⟨zo,by rw[jw,q4];rfl⟩,zd,aC (by exact sK) rfl⟩
     refine sW ?_;refine sL (eV (k:=j) zo de) ?_;refine sC (hZ j de) ?_;rw[hz j de];refine sI ?_;exact⟨(j+1,ld<|M.getD j []),⟨zo,by rw[jw,q4];rfl⟩,zd,aC (by exact sK) rfl⟩
    refine aQ ?_;exact⟨(j+1,true),⟨zo,by rw[jw];rfl⟩,zd,aC (by exact sK) rfl⟩
   have de:j=M.length:=by have:¬j<M.length:=sO
                          omega
   subst de;rw[<-hb] at e2;cases b
   ·rw[ae zc] at e2;refine aQ ?_;refine⟨i,zo,zd,?_⟩;dsimp only;rw[e1,e2];exact aL 9 zs rfl sQ sQ
   rw[ab zc] at e2;refine aQ ?_;refine⟨i,zo,zd,?_⟩;dsimp only;rw[e1,e2];exact aL 9 zs rfl sQ sQ
  have q2:ld<|M.getD i []:=(by simpa using q2);rw[eS,gQ q1,q2,ab zc] at e1;have y7:=Qx (gN N) g1 Mw [(i:Int)] (iS λx hx=>by rw[cV] at hx;subst hx;rw[oU];omega) zs;rw[oU,hl] at y7;refine sE (wO (pre:=[bN<|gN N]) (post:=[]) (xs:=[[aa i]]) y7 (lg _ _) ⟨l5 _,trivial⟩ trivial (by simp[dF,aA,Pure]) rfl) ?_;refine bb [3,4,7,8,10,14,16] (λ((j,b):Nat×Bool)=>[(15,ay b),(17,aa j)]) (λ_=>[]) (λ(j,b)=>j<=M.length/\b=(List.range j).any λj=>gL (gN N) [(i:Int)] j&&ld (M.getD j [])) (λ(j,b)=>M.length-j) (0,false) ?_;refine sW ?_;refine⟨⟨zo,rfl⟩,by exact sK,rfl,?_⟩;rintro⟨j,b⟩ ⟨hj,hb⟩;refine bf (λq3=>?_) λq3=>?_
  ·have de:j<M.length:=sO;have jw:(List.range<|j+1).any (λj=>gL (gN N) [(i:Int)] j&&ld (M.getD j []))=(b||(gL (gN N) [(i:Int)] j&&ld (M.getD j []))):=by
    rw[qf,tZ,<-hb];simp
   cases b
   ·refine sW ?_;refine sL (bc j zo de) ?_;cases q4:gL (gN N) [(i:Int)] j
    ·refine aQ ?_;exact⟨(j+1,false),⟨zo,by rw[jw,q4];rfl⟩,zd,aC (by exact sK) rfl⟩
    refine sW ?_;refine sL (eV (k:=j) zo de) ?_;refine sC (hZ j de) ?_;rw[hz j de];refine sI ?_;exact⟨(j+1,ld<|M.getD j []),⟨zo,by rw[jw,q4];rfl⟩,zd,aC (by exact sK) rfl⟩
   refine aQ ?_;exact⟨(j+1,true),⟨zo,by rw[jw];rfl⟩,zd,aC (by exact sK) rfl⟩
  have de:j=M.length:=by have:¬j<M.length:=sO
                         omega
  subst de;rw[<-hb] at e2;cases b
  ·rw[ae zc] at e2;refine aQ ?_;refine⟨i,zo,zd,?_⟩;dsimp only;rw[e1,e2];exact aL 9 zs rfl sQ sQ
  rw[ab zc] at e2;refine aQ ?_;refine⟨i,zo,zd,?_⟩;dsimp only;rw[e1,e2];exact aL 9 zs rfl sQ sQ
 have nP:k=0:=by have:¬1<=k:=sO;omega
 subst nP;rw[ua];have KC:=iW<|lf M N;have Kl:=iW<|lY M N;generalize gm (lf M N) M.length M.length=f1 at KC;generalize gm (lY M N) M.length M.length=f2 at Kl
 refine bQ (nX (λi=>i==1||i==3) (env':=[(3,.ax<|lh M N),(4,.loc 2 0),(7,.ax [aa M.length]),(8,.loc 4 0),(10,.ax [bN<|gN N])])
  (H':=[.row true P.cells,.row false<|lh M N,.row true A2,.row false [aa M.length],.row true [.own 8 c 0 c,aa f1,aa f2,au,au],.vec true 0 1<|bF P.nodes.length s0,.vec false 0 1<|(gN N).map λl=>[aF l],.row false [bN<|gN N],.vec true c 1<|aw l])
  ⟨.loc _ _ _ _ _ rfl rfl (.refl _),.refl _,.loc _ _ _ _ _ rfl rfl (.refl _),.refl _,.refl _,trivial⟩
  ⟨⟨.inl rfl,(λh=>by cases h),.refl _⟩,⟨.inr ⟨rfl,rfl⟩,λ_=>rfl,.refl _⟩,⟨.inl rfl,(λh=>by cases h),.refl _⟩,⟨.inr ⟨rfl,rfl⟩,λ_=>rfl,.refl _⟩,⟨.inl rfl,(λh=>by cases h),.refl _⟩,⟨.inl rfl,(λh=>by cases h),rfl,rfl,.refl _⟩,⟨.inl rfl,(λh=>by cases h),rfl,rfl,.refl _⟩,⟨.inl rfl,(λh=>by cases h),.refl _⟩,⟨.inl rfl,(λh=>by cases h),rfl,rfl,.refl _⟩,trivial⟩) ?_
 refine sR ?_;refine sC (U4 f1 KC) ?_;refine sC (U4 f2 Kl) ?_;refine .agg _ _ (.cons _ _ _ _ (.own _ _ _ _ _ _ _ _ rfl ?_)<|mE _);rw[dP,fG zq];exact gw _
variable{P:af}
theorem zvY(hP:P.Fits)(tok st:Int)(l:List kj)(he:P.c7 tok st≠0):ao aj 5 [b7 P,p' l,aa tok,aa st] (.aJ [.sc (.string ⟨#[]⟩),ay true,aa<|P.c7 tok st]):=by
 refine bt ?_;refine sC (yT P hP tok st) ?_;refine sS (λh=>?_) λh=>?_
 ·exact .refl _
 exfalso;exact sO
theorem zxT(hP:P.Fits)(tok st:Int)(l:List kj)(he:P.c7 tok st=0)(hl:20<l.length):ao aj 5 [b7 P,p' l,aa tok,aa st] (.aJ [.sc (.string ⟨#[]⟩),ay true,aa 2]):=by
 have hE:=yT P hP tok st;rw[he] at hE;refine bS fZ ?_;unfold p';refine sR ?_;refine sC hE ?_;rw[aI];refine sS (λh=>?_) λh=>?_
 ·exact .refl _
 exfalso;exact sO
theorem zte(s:aB):(⟨#[]⟩:aB)++s=s:=by
 apply ByteArray.ext;simp[ByteArray.data_append]
theorem zBo(S:Nat×aB)(a:aB):(gV P S a []).2=S.2++(a++⟨#[10]⟩):=by
 show(S.2++a)++_=_;rw[ByteArray.append_assoc]
theorem zwh(hP:P.Fits)(tok st:Int)(l:List kj)(he:P.c7 tok st=0)(hl:l.length<=20)(hr:∀r∈l,r.OK):∃b kn,ao aj 5 [b7 P,p' l,aa tok,aa st] (.aJ [.sc (.string b),ay kn,aa 0])/\(kn=true->b=(pn P tok st (JI P (P.exM tok st)<|P.cu tok st) l).2):=by
 have hE:=yT P hP tok st;have hF:=mP he;have hK:=zsO P hP _ _ hF;rw[he] at hE;obtain⟨hc,hL,zJe⟩:=af.kB hF.steps;have hS:=J6 P hP;rw[hF.steps] at hS;have h8:∀k,k<P.nodes.length->(P.name k).size<=8:=λk hk=>Q7 hc hk;have DN:=jo hc;have eJ:=PU h8 he;have jw:=λs k h=>VG (P:=P) (tok:=tok) (st:=st) (s:=s) (l:=l) (k:=k) h
 have hj:∀r∈l,∃is kn,ao aj 21 [b7 P,cK r.name r.sort r.x r.k r.a r.b r.c r.f r.g,aa tok,aa st] (kI is kn<|jE P tok st r.name r.sort r.x r.k r.a r.b r.c r.f r.g)/\(jE P tok st r.name r.sort r.x r.k r.a r.b r.c r.f r.g=0->kn->is=jB P tok st r.name r.sort r.x r.k r.a r.b r.c r.f r.g) :=
  λr h=>zqm hP (hr r h).name (hr r h).f (hr r h).g tok st r.sort r.x r.k r.a r.b r.c
 obtain⟨I,K,hJ⟩:∃I K:kj->Bool,∀r∈l,ao aj 21 [b7 P,cK r.name r.sort r.x r.k r.a r.b r.c r.f r.g,aa tok,aa st] (kI (I r) (K r) (jE P tok st r.name r.sort r.x r.k r.a r.b r.c r.f r.g))/\(jE P tok st r.name r.sort r.x r.k r.a r.b r.c r.f r.g=0->K r->I r=jB P tok st r.name r.sort r.x r.k r.a r.b r.c r.f r.g):=by
  classical
  exact⟨λr=>if h:r∈l then (hj r h).choose else false,λr=>if h:r∈l then (hj r h).choose_spec.choose else false,λr h=>by simp only[dif_pos h];exact(hj r h).choose_spec.choose_spec⟩
 clear hj;have hb:=λr:kj=>Nv P tok st r.name r.sort r.x r.k r.a r.b r.c r.f r.g he;generalize P.exM tok st=M at *;generalize P.cu tok st=N at *;have zOM:=hF.sp.few;have hlen:=hF.sp.len;have OY:=LD hF.sp.rowAt;have bW:∀x∈P.aR,0<=x.1/\x.1<P.nodes.length:=λx hx=>(af.Kh DN.2 (aS _)<|hL▸hx).node;have hd:=Oj P (mz P.aR N N.length) P.nodes.length;have ml:=PK P (mz P.aR N N.length) P.nodes.length;have ht:=λt=>RP hF t;unfold JI findD at *;unfold xu at *;generalize nA P (mz P.aR N N.length) P.nodes.length=dead at *;generalize gm (lf M N) M.length M.length=still at *;generalize gm (lY M N) M.length M.length=never at *;have lq:=ht still;have lk:=ht never;generalize ly N still=ts at *;generalize ly N never=tn at *;generalize hT:(pn P tok st (fdS P P.aR dead still never ts tn<|gV P (0,⟨#[]⟩) (hdT M N) []) l).2=T;refine⟨if l.all K=true then T else ⟨#[]⟩,l.all K,?_,λh=>ae h⟩;refine bt ?_;refine sC hE ?_;rw[aI];refine ue (by simp only[oo];omega) ?_;refine sW ?_;refine sC hS ?_
 refine bQ (nX (λ_=>true) (env':=[(1,p' l),(2,aa tok),(3,aa st),(4,.ax P.cells),(11,.ax [bN M,.aM 1<|jR N]),(13,.ax [jx P.aR]),(15,aa 0),(16,aa 0)])
  (H':=[.row false P.cells,.row false [bN M,.aM 1<|jR N],.row false [jx P.aR]]) ?_ ?_) ?_
 ·exact sD
 ·exact sD
 refine bb [1,2,3,4,11,13] (λk:Nat=>[(15,aa<|tp N k),(16,aa k)]) (λ_=>[]) (λk=>k<=N.length) (λk=>N.length-k) 0 ?_;refine dd ?_;rintro k hk;have hek:=OY k hk;refine ck ?_;rw[D'];refine sS (λh1=>?_) λh1=>?_
 ·have ai:k<N.length:=sO;have zCq:=hF.sp.rowAt k;refine sW ?_;refine sL (ru (k:=k) zo ai) ?_;rw[oz];refine sI ?_;refine sI ?_;refine⟨k+1,zo,zd,?_⟩;dsimp only;rw[Pn ai,Int.natCast_add];exact aL 3 zs rfl sQ sQ
 have ai:k=N.length:=sO;subst ai;have q1:=BZ (n:=M.length) zo zo;have q2:=BZ (n:=tp N N.length) zo zo;have q3:(⟨#[109,97,114,107,105,110,103,115,32]⟩:aB).size=9:=rfl;have q4:(⟨#[32,101,100,103,101,115,32]⟩:aB).size=7:=rfl;have q5:(hdT M N).size<=60:=by
  unfold hdT;simp only[mW];omega
 have q7:(⟨#[10]⟩:aB).size=1:=rfl;refine sW ?_;rw[aI];refine sC (DH (n:=M.length) zo zo) ?_;refine⟨zo,?_⟩;refine sW ?_;refine⟨by rw[mW];omega,?_⟩;refine sW ?_;refine sC (DH (n:=tp N N.length) zo zo) ?_;refine⟨by simp only[mW];omega,?_⟩;refine sW ?_;refine⟨by simp only[mW];omega,?_⟩;refine sW ?_;refine sC hK ?_;have e0:(gV P (0,⟨#[]⟩) (hdT M N) []).2=hdT M N++⟨#[10]⟩:=by
  show(⟨#[]⟩++hdT M N)++_=_;rw[zte]
 have q8:(gV P (0,⟨#[]⟩) (hdT M N) []).2.size<=61:=by rw[e0,mW];omega
 have e0:∀a b c f:al,[a,b,c,al.row true [.sc (.string<|⟨#[109,97,114,107,105,110,103,115,32]⟩++x6 M.length++⟨#[32,101,100,103,101,115,32]⟩++x6 (tp N N.length)++⟨#[10]⟩)],f][3]? = some (.row true [.sc (.string (gV P (0,⟨#[]⟩) (hdT M N) []).2)]):=λ_ _ _ _=>by rw[e0];rfl
 have q9:=Rm h8 bW (s:=gV P (0,⟨#[]⟩) (hdT M N) []) (still:=still) (never:=never) hd lq.2 lk.2;generalize zm:gV P (0,⟨#[]⟩) (hdT M N) []=S1 at *;have e4:(⟨#[100,101,97,100]⟩:aB).size=4:=rfl;have e5:(⟨#[115,116,105,108,108]⟩:aB).size=5:=rfl;have e6:(⟨#[115,111,117,110,100]⟩:aB).size=5:=rfl;have e7:(⟨#[110,101,118,101,114]⟩:aB).size=5:=rfl;have nl:∀l:ah,(ndL P.aR l).length=l.length:=λl=>aI _;have z1:=wW h8 S1 ⟨#[115,111,117,110,100]⟩ (l:=[]) zs;have z2:=wW h8 S1 ⟨#[100,101,97,100]⟩ hd;have z3:=wW h8 S1 ⟨#[115,116,105,108,108]⟩<|C8 bW lq.2;have z4:=wW h8 (gV P S1 ⟨#[100,101,97,100]⟩ dead) ⟨#[115,116,105,108,108]⟩<|C8 bW lq.2;have c0:aA []:=by simp[aA]
 have cN:aA [D.ax [jx P.aR]]:=by simp[aA,Pure,Dx]
 have nd:=λ{t:ah} (h:∀x∈t,0<=x/\x<(P.aR.length:Int)) (n:Int) (hn:n∈t)=>(⟨zwC<|h n hn,C8 bW h _<|List.mem_map_of_mem hn⟩:ao aj 18 (aa n::[.ax [jx P.aR]]) (.sc (.int .i64 (P.aR.getD n.toNat (0,0,0)).1))/\_);rw[nl] at z3 z4;rw[fy] at z1;apply cutG
 case m =>
  intro key;by_cases h1:dead.length=0<;>by_cases h2:still<0<;>by_cases h3:never<0
  all_goals
   repeat' (first
    |(refine wJ (by(try simp only[oo]);omega) ?_;refine sW ?_)
    |(refine ue (by(try simp only[oo]);omega) ?_;refine sW ?_))
   first
    |refine sE (HS (by first|rfl|((try simp only[oo]);omega)) (l:=[]) (.inr ⟨rfl,rfl⟩) cN h8 (by rw[fy];omega) (e0 _ _ _ _)) ?_
    |refine sE (H3 (by first|rfl|((try simp only[oo]);omega)) (l:=[]) (l':=[]) (.inr ⟨rfl,rfl⟩) cN h8 (λn=>n) rfl zs (by rw[fy];omega) (e0 _ _ _ _)) ?_
   first
    |refine sE (HS (by first|rfl|((try simp only[oo]);omega)) (.inl rfl) c0 h8 zo (i:=3) rfl) ?_
    |refine sE (H3 (by first|rfl|((try simp only[oo]);omega)) (.inl rfl) c0 h8 (λn=>n) (List.map_id' dead) (λn hn=>⟨zxH n,hd n hn⟩) zo (i:=3) rfl) ?_
   first
    |refine sE (HS (by first|rfl|((try simp only[oo]);omega)) (.inl rfl) cN h8 zo (i:=3) rfl) ?_
    |refine sE (H3 (by first|rfl|((try simp only[oo]);omega)) (.inl rfl) (l':=ndL P.aR ts) cN h8 (λn=>(P.aR.getD n.toNat (0,0,0)).1) rfl (nd lq.2) zo (i:=3) rfl) ?_
   first
    |refine sE (HS (by first|rfl|((try simp only[oo]);omega)) (.inl rfl) cN h8 zo (i:=3) rfl) ?_
    |refine sE (H3 (by first|rfl|((try simp only[oo]);omega)) (.inl rfl) (l':=ndL P.aR tn) cN h8 (λn=>(P.aR.getD n.toNat (0,0,0)).1) rfl (nd lk.2) zo (i:=3) rfl) ?_
   refine bQ (aC (env':=[(1,p' l),(2,aa tok),(3,aa st),(4,.ax P.cells),(17,.loc 3 0),(21,aa 0)])
    (H':=[.row false P.cells,.row false [bN M,.aM 1<|jR N],.row false [jx P.aR],.row true [.sc (.string (fdS P P.aR dead still never ts tn S1).2)],.row true [aF dead,aa still,aa never,aF ts,aF tn]]) ⟨rfl,rfl,rfl,rfl,rfl,rfl,trivial⟩ (by simp only[fdS,h1,h2,h3,decide_true,decide_false];rfl)) ?_
   exact key ()
 case pf =>
  clear z1 z2 z3 z4 e4 e5 e6 e7 nd cN c0 e0;generalize Kc:fdS P P.aR dead still never ts tn S1=S0 at *;refine bb [1,2,3,4,17] (λk:Nat=>[(21,aa k)]) (λk=>[(3,.row true [.sc (.string (pn P tok st S0<|l.take k).2)])]) (λk=>k<=l.length/\∀j (h:j<l.length),j<k->K l[j]=true) (λk=>l.length-k) 0 ?_;refine sW ?_;refine⟨⟨zo,λj h q=>absurd q zo⟩,by exact sK,rfl,?_⟩;rintro k ⟨hk,bR⟩;have N0:=eJ (l.take k) S0;rw[fg] at N0;refine ck ?_;rw[aI];refine sS (λh4=>?_) λh4=>?_
  ·have ai:k<l.length:=sO;have hm:=iZ ai;obtain⟨Fj,L5⟩:=hJ l[k] hm;have hN:=JV l[k].name (hr _ hm).name;have FO:=hb l[k];have hx:=jw S0 k ai;have hI:=DH (n:=jE P tok st l[k].name l[k].sort l[k].x l[k].k l[k].a l[k].b l[k].c l[k].f l[k].g) zo zo;have hz:=BZ (n:=jE P tok st l[k].name l[k].sort l[k].x l[k].k l[k].a l[k].b l[k].c l[k].f l[k].g) zo zo;have qo:=@Ig l[k].name;have ss:((⟨#[63]⟩:aB)).size=1:=rfl;have c1:(⟨#[32,104,111,108,100,115]⟩:aB)++⟨#[10]⟩=⟨#[32,104,111,108,100,115,10]⟩:=rfl;have c2:(⟨#[32,98,114,111,107,101,110]⟩:aB)++⟨#[10]⟩=⟨#[32,98,114,111,107,101,110,10]⟩:=rfl;have z5:(⟨#[10]⟩:aB).size=1:=rfl;have z6:(⟨#[32,104,111,108,100,115,10]⟩:aB).size=7:=rfl;have z7:(⟨#[32,98,114,111,107,101,110,10]⟩:aB).size=8:=rfl;have z8:(⟨#[32,101,114,114,111,114,32]⟩:aB).size=7:=rfl;unfold vdW at hx;generalize jE P tok st l[k].name l[k].sort l[k].x l[k].k l[k].a l[k].b l[k].c l[k].f l[k].g=e at *;generalize jB P tok st l[k].name l[k].sort l[k].x l[k].k l[k].a l[k].b l[k].c l[k].f l[k].g=ok at *;cases hK:K l[k]
   ·have hA:l.all K=false:=by
     rw[Gi];exact⟨l[k],hm,by rw[hK];simp⟩
    rw[hK] at Fj;cases hn:fF l[k].name
    all_goals
     rw[hn] at hN;refine sW ?_;refine sL (Hv zo ai) ?_;refine sC hN ?_;refine sL (Hv zo ai) ?_;refine sC Fj ?_;rw[hA];exact .refl _
   have IG:∀j (h:j<l.length),j<k+1->K l[j]:=λj h q=>by
    by_cases e:j=k
    ·subst e;exact hK
    exact bR j h zo
   rw[hK] at Fj;cases hn:fF l[k].name<;>by_cases h0:e=0<;>cases hi:I l[k]
   all_goals
    rw[hn] at hN hx qo;rw[hi] at Fj L5
    first
     |(rw[ae (show e≠0 from h0)] at hx)
     |(rw[ab (λq=>q h0),<-L5 h0 hK] at hx)
    simp only[xt,reduceIte,true_implies] at hx qo;replace hx:=bH Prod.snd hx;rw[zBo] at hx;simp only[ByteArray.append_assoc,c1,c2] at hx;refine sW ?_;refine sL (Hv zo ai) ?_;refine sC hN ?_;refine sL (Hv zo ai) ?_;refine sC Fj ?_
    repeat' (first
     |(refine wJ (by(try simp only[oo]);omega) ?_;refine sW ?_)
     |(refine ue (by(try simp only[oo]);omega) ?_;refine sW ?_)
     |(refine⟨by(try simp only[mW]);omega,?_⟩;refine sW ?_)
     |refine sC hI ?_)
    refine sI ?_;refine⟨k+1,⟨zo,IG⟩,zd,?_⟩;dsimp only;rw[hx];try simp only[ByteArray.append_assoc]
    exact aL 5 zs rfl sQ sQ
  have ai:k=l.length:=sO;subst ai;rw[dM] at *;have hA:l.all K=true:=kb.2 λr hr=>by
   obtain⟨j,hj,rfl⟩:=iD.1 hr;exact bR j hj hj
  refine sW ?_;rw[hA,hT];exact .refl _
theorem zww{t:Tree}(h:t.kids.length<=9223372036854775807)(k:∀u∈t.kids,Small u):Small t :=
 .mk t h λj hj=>by rw[Tree.oJ hj];exact k _<|iZ _
theorem Uq{P:bG}{L:Nat}{T E I:bp}{f0 f1 f2:Field}(hT:P.underlying T=some (.struct #[f0,f1,f2]))(h0:f0.type=I)(h1:f1.type=I)(h2:f2.type=E)(hE:P.underlying E=some (.slice T))(hI:P.underlying I=some (.int .i64))(hC:P.cellsOf T=3) :
  ∀(m:Nat) (ds:bj),SizeOf.sizeOf ds<=m->kT P L T ds->∃t:Tree,ds=aO t/\Small t:=by
 intro m
 induction m with
 |zero=>intro ds hm;exact absurd hm<|by cases ds<;>simp<;>omega
 |succ m ih =>
  intro ds hm h;have:=of_struct hT h;simp only[fR,jc,h0,h1,h2] at this;obtain⟨a,b,rfl,ha,hb⟩:=xw this;obtain⟨c,d,rfl,hc,hd⟩:=xw hb;obtain⟨e,f,rfl,he,hf⟩:=xw hd;obtain rfl:=Cb hf;obtain⟨k,rfl,_⟩:=of_int hI ha;obtain⟨n,rfl,_⟩:=of_int hI hc;obtain⟨xs,rfl,hl,hx⟩:=of_slice hE he;rw[hC] at hm⊢;have each:∀x∈xs,∃t:Tree,x=aO t/\Small t:=λx mU=>ih x (by
   have:=List.sizeOf_lt_of_mem mU;simp at hm;omega) (RT hx x mU)
  have all:∃ts:List Tree,xs=ts.map gF/\∀t∈ts,Small t:=by
   clear hm hx hl he hd hb this h ih
   induction xs with
   |nil=>exact⟨[],rfl,zs⟩
   |cons x r ihx =>
    obtain⟨t,rfl,ht⟩:=each x zs;obtain⟨ts,rfl,kF⟩:=ihx λy hy=>each y (by simp[hy]);refine⟨t::ts,by rw[fR,wY],λu hu=>?_⟩;rcases eQ.1 hu with rfl|hu
    ·exact ht
    exact kF u hu
  obtain⟨ts,rfl,kF⟩:=all;exact⟨.node k n ts,rfl,zww (by simpa [Tree.kids] using hl) kF⟩
section
open Go.RowKit Go.ChangeShapes Go.WideShapes Go.ChangeAt
theorem OG{P:bG}{e:bp}{f:α->bj}{ok:α->Prop}(he:∀cs,OfT P e cs->∃a,cs=f a/\ok a){xs:fc}(h:OfTL P e xs):∃l:List α,xs=l.map f/\∀a∈l,ok a:=by
 induction xs with
 |nil=>exact⟨[],rfl,zs⟩
 |cons x r ih =>
  cases h with
  |cons _ _ _ h k =>
   obtain⟨a,rfl,ha⟩:=he x h;obtain⟨l,rfl,hl⟩:=ih k;exact⟨a::l,rfl,λb hb=>by
    rcases eQ.1 hb with rfl|hb
    ·exact ha
    exact hl b hb⟩
theorem Z7{d:D}(h:OfA aj 25 d):∃P:af,d=b7 P/\P.Fits:=by
 unfold OfA BP at h;rw[Tryz.underlying25] at h;obtain⟨cs,rfl,h⟩:=h;have h:=of_struct Tryz.underlying25 h;simp only[fR,jc] at h;obtain⟨xs,r,rfl,CO,hx,h⟩:=UT Tryz.underlying22 h;obtain⟨ys,r,rfl,AT,hy,h⟩:=UT Tryz.underlying23 h;obtain rfl:=Cb h;obtain⟨nodes,rfl,hn⟩:=OG (f:=jj) (ok:=λx=>x.1.size<=9223372036854775807) (λcs h=>by
  have h:=of_struct Tryz.underlying77 h;simp only[fR,jc] at h;obtain⟨s,_,rfl,hs,h⟩:=WR Tryz.underlying9 h;obtain⟨k,_,rfl,_,h⟩:=qG Tryz.underlying3 h;obtain rfl:=Cb h;exact⟨(s,k),rfl,hs⟩) hx
 obtain⟨aH,rfl,_⟩:=OG (f:=lL) (ok:=λ_=>True) (λcs h=>by
  have h:=of_struct Tryz.underlying149 h;simp only[fR,jc] at h;obtain⟨s,_,rfl,hs,h⟩:=qG Tryz.underlying3 h;obtain⟨k,_,rfl,_,h⟩:=qG Tryz.underlying3 h;obtain rfl:=Cb h;exact⟨(s,k),rfl,trivial⟩) hy
 refine⟨⟨nodes,aH⟩,?_,⟨by simpa using CO,by simpa using AT,hn⟩⟩;rw[show Tryz.prog.cellsOf 77=2 by kernel_rfl,show Tryz.prog.cellsOf 149=2 by kernel_rfl];rfl
end
section
open Go.RowKit Go.ChangeShapes Go.WideShapes Go.ChangeAt
theorem zAV{cs:bj}(h:OfT aj 69 cs):∃name sort x k a b c f g,cs=ji name sort x k a b c f g/\name.size<=9223372036854775807/\Small f/\Small g:=by
 have h:=of_struct Tryz.underlying69 h;simp only[fR,jc] at h;obtain⟨name,r1,rfl,gg,h⟩:=WR Tryz.underlying9 h;obtain⟨sort,r2,rfl,_,h⟩:=qG Tryz.underlying3 h;obtain⟨ps,r3,rfl,hp,h⟩:=xw h;obtain⟨tcs,r4,rfl,ht,h⟩:=xw h;obtain⟨fs,r5,rfl,hf,h⟩:=xw h;obtain⟨gs,r6,rfl,hg,h⟩:=xw h;obtain rfl:=Cb h;have hp:=of_struct Tryz.underlying59 hp;obtain⟨kk,_,rfl,_,hp⟩:=qG Tryz.underlying3 hp;obtain⟨sc,_,rfl,_,hp⟩:=qG Tryz.underlying3 hp;obtain⟨p,_,rfl,_,hp⟩:=qG Tryz.underlying3 hp;obtain⟨s,_,rfl,_,hp⟩:=qG Tryz.underlying3 hp;obtain⟨q,_,rfl,_,hp⟩:=qG Tryz.underlying3 hp;obtain⟨r,_,rfl,_,hp⟩:=qG Tryz.underlying3 hp;obtain⟨n,_,rfl,_,hp⟩:=qG Tryz.underlying3 hp;obtain rfl:=Cb hp;have ht:=of_struct Tryz.underlying61 ht;obtain⟨k,_,rfl,_,ht⟩:=qG Tryz.underlying3 ht;obtain⟨a,_,rfl,_,ht⟩:=qG Tryz.underlying3 ht;obtain⟨b,_,rfl,_,ht⟩:=qG Tryz.underlying3 ht;obtain⟨c,_,rfl,_,ht⟩:=qG Tryz.underlying3 ht;obtain rfl:=Cb ht;obtain⟨f,rfl,sf⟩:=Uq (I:=3) (E:=62) Tryz.underlying64 rfl rfl rfl Tryz.underlying62 Tryz.underlying3 zk _ _ (aS _) hf;obtain⟨g,rfl,sg⟩:=Uq (I:=3) (E:=65) Tryz.underlying67 rfl rfl rfl Tryz.underlying65 Tryz.underlying3 zk _ _ (aS _) hg;exact⟨name,sort,⟨kk,sc,p,s,q,r,n⟩,k,a,b,c,f,g,by simp[ji,cm,iV],gg,sf,sg⟩
end
end Go.Proofs.YtmajadpcpohneaaGreatDoor
