/-
  Parts of a proof, joined. No statement is proved here.
-/
import Derived.Test.YtolilnhippapaaaGreatX71
import Derived.Test.YtolilnhippapaaaGreatX72
import Derived.DeepKeys4
import Derived.WalkKit
import Derived.Test.YtolilnhippapaaaGreatX70
namespace Go.Proofs.YtolilnhippapaaaGreat
set_option linter.unusedSimpArgs false
set_option linter.unusedVariables false
set_option maxRecDepth 100000
set_option linter.unusedSectionVars false
open Go.RowKit
abbrev bZ:=Int×Int
abbrev bq:=Int×Int
structure SpR where
 e:Int
 marks:aj
 aH:List bZ
 cur:List bq
 last:bZ
def nz(marks:aj)(m:ah):Nat:=marks.idxOf m
def tt(m:ah)(tok:Int):Bool:=m.any λx=>decide (x>tok)
def jl(marks:aj)(m:ah)(tok:Int)(st:Nat):Int:=if tt m tok=true then 7 else if m∈marks then 0 else if marks.length=st then 8 else 0
def iB(marks:aj)(m:ah)(tok:Int)(st:Nat):aj:=if jl marks m tok st=0/\¬m∈marks then marks++[m] else marks
def ld(marks:aj)(aH:List bZ)(m:ah)(tok:Int)(st:Nat)(o:bZ):List bZ:=if jl marks m tok st=0/\¬m∈marks then aH++[o] else aH
def j9(marks:aj)(m:ah)(tok:Int)(st:Nat):Int:=if jl marks m tok st=0 then (nz (iB marks m tok st) m:Int) else 0
namespace af
noncomputable def fG(P:af)(tok:Int)(st:Nat)(n:Nat)(M:ah):ah->aj->List bZ->List bq->bZ->SpR
 |[],marks,aH,cur,last=>⟨0,marks,aH,cur,last⟩
 |k::r,marks,aH,cur,_ =>
  if P.jM M k≠0 then ⟨P.jM M k,marks,aH,cur,((n:Int),k)⟩
  else if jl marks (P.dB M k) tok st≠0 then ⟨jl marks (P.dB M k) tok st,marks,aH,cur,((n:Int),k)⟩
  else P.fG tok st n M r (iB marks (P.dB M k) tok st) (ld marks aH (P.dB M k) tok st ((n:Int),k)) (cur++[(k,j9 marks (P.dB M k) tok st)]) ((n:Int),k)
structure SpF where
 e:Int
 marks:aj
 aH:List bZ
 next:List<|List bq
 last:bZ
noncomputable def j0(P:af)(tok:Int)(st:Nat):Nat->Nat->aj->List bZ->List (List bq)->bZ->SpF
 |0,_,marks,aH,next,last=>⟨0,marks,aH,next,last⟩
 |f+1,n,marks,aH,next,last =>
  if n<marks.length then
   if (P.fG tok st n (marks.getD n []) (P.du<|marks.getD n []) marks aH [] last).e≠0 then
    ⟨(P.fG tok st n (marks.getD n []) (P.du<|marks.getD n []) marks aH [] last).e,(P.fG tok st n (marks.getD n []) (P.du<|marks.getD n []) marks aH [] last).marks,
     (P.fG tok st n (marks.getD n []) (P.du<|marks.getD n []) marks aH [] last).aH,next,(P.fG tok st n (marks.getD n []) (P.du<|marks.getD n []) marks aH [] last).last⟩
   else P.j0 tok st f (n+1) (P.fG tok st n (marks.getD n []) (P.du<|marks.getD n []) marks aH [] last).marks (P.fG tok st n (marks.getD n []) (P.du<|marks.getD n []) marks aH [] last).aH
    (next++[(P.fG tok st n (marks.getD n []) (P.du<|marks.getD n []) marks aH [] last).cur]) (P.fG tok st n (marks.getD n []) (P.du<|marks.getD n []) marks aH [] last).last
  else ⟨0,marks,aH,next,last⟩
structure Sp(P:af)(tok:Int)(st:Nat)(marks:aj)(aH:List bZ):Prop where
 one:marks.Nodup
 fx:∀m∈marks,P.ml m=true
 room:marks.length<=st
 len:aH.length=marks.length
 back:∀i,0<i->i<aH.length->0<=(aH.getD i (0,0)).1/\(aH.getD i (0,0)).1<(i:Int)
 root:aH.length=0\/(aH.getD 0 (0,0))=(-1,-1)
variable{marks:aj}{m:ah}{tok:Int}{st:Nat}
theorem zri(h:jl marks m tok st=0):tt m tok=false/\(m∈marks\/marks.length≠st):=by
 unfold jl at h;split at h
 ·cases h
 rename_i h1;refine⟨by simpa using h1,?_⟩;split at h
 ·rename_i h2;exact .inl h2
 split at h
 ·cases h
 rename_i h3;exact .inr h3
variable{P:af}{k:Int}
theorem Sp.put{aH:List bZ}(h:Sp P tok st marks aH)(hm:P.ml m){a:Int}(ha:0<=a)(hl:a<(marks.length:Int)):Sp P tok st (iB marks m tok st)<|ld marks aH m tok st (a,k):=by
 unfold iB ld;split
 ·rename_i q;obtain⟨q1,q2⟩:=q;have h3:=(zri q1).2.resolve_left q2;have hr:=h.room;have hlen:=h.len;refine⟨?_,?_,by simp;omega,by simp[hlen],?_,?_⟩
  ·rw[yJ];refine⟨h.one,zs,λx hx y hy=>?_⟩;rw[cB] at hy;subst hy;intro e;subst e;exact q2 hx
  ·intro x hx;rcases dt.1 hx with hx|hx
   ·exact h.fx x hx
   rw[cB] at hx;subst hx;exact hm
  ·intro i hi tz;rw[cq,jA] at tz;by_cases e:i=aH.length
   ·subst e;rw[aE,gJ<|aT _,rm];simp;omega
   have:=h.back i hi zo;rw[aE,fv zo,<-aE];exact this
  right;rcases h.root with q|q
  ·omega
  rw[aE,fv zo,<-aE];exact q
 exact h
theorem GY:marks.length<=(iB marks m tok st).length:=by
 unfold iB;split<;>simp
theorem LB{i:Nat}(h:i<marks.length):(iB marks m tok st).getD i []=marks.getD i []:=by
 unfold iB;split
 ·rw[aE,fv h,<-aE]
 rfl
theorem TG(h:jl marks m tok st=0):m∈iB marks m tok st:=by
 unfold iB;split
 ·simp
 rename_i q;by_cases e:m∈marks
 ·exact e
 exact absurd ⟨h,e⟩ q
theorem uo{l:aj}{k:Nat}(h:k<l.length):l.getD k []∈l:=by
 rw[aE,aJ h];exact ib h
variable{M:ah}
theorem I9(h:k∈P.du M):P.kf M=0/\0<=k/\k.toNat<P.bd.length/\P.nw M (P.bd.getD k.toNat (0,0,0)):=by
 unfold du at h;split at h
 ·rename_i he;refine⟨he,?_⟩;have key:∀n,n<=P.bd.length->k∈P.nM M P.bd n->0<=k/\k.toNat<n/\P.nw M (P.bd.getD k.toNat (0,0,0))=true:=by
   intro n
   induction n with
   |zero=>intro _ h;simp[nM] at h
   |succ n ih =>
    intro hn h;simp only[nM] at h;split at h
    ·rename_i hm;rcases dt.1 h with h|h
     ·obtain⟨h1,h2,h3⟩:=ih zo h;exact⟨h1,zo,h3⟩
     rw[cB] at h;subst h;refine⟨zo,zs,?_⟩;simpa using hm
    obtain⟨h1,h2,h3⟩:=ih zo h;exact⟨h1,zo,h3⟩
  obtain⟨h1,h2,h3⟩:=key _ (aT _) h;exact⟨h1,h2,h3⟩
 simp at h
theorem QK(h:k∈P.du M):P.jM M k=P.kW M (P.bd.getD k.toNat (0,0,0))/\P.dB M k=P.qe M (P.bd.getD k.toNat (0,0,0)):=by
 obtain⟨h1,h2,h3,h4⟩:=I9 h;have e:P.jM M k=P.kW M (P.bd.getD k.toNat (0,0,0)):=by
  unfold jM;rw[ab zo,ab zo,ae h4]
 refine⟨e,?_⟩;unfold dB;rw[e];split
 ·rfl
 rename_i q;exact(Wp q).symm
theorem Lu(hM:P.ml M)(h:k∈P.du M)(he:P.jM M k=0):P.ml<|P.dB M k:=by
 obtain⟨e1,e2⟩:=QK h;rw[e2];exact VB hM (I9 h).2.2.2<|by rw[<-e1];exact he
theorem LP(P:af)(M:ah):(P.du M).length<=P.bd.length:=by
 unfold du;split
 ·exact P.TL M _ _
 simp
end af
section
theorem zro{P:bI}{k e:bl}{q:IntKind}{n:Nat}(fT:0<P.types.size)(hk:P.keyType k)(hu:P.underlying k=some (.array n e))(he:P.underlying e=some (.int q))(A5:P.cellsOf e=1)(ow:P.cellsOf k=n)(vs:ah)(hl:vs.length=n)(hw:∀x∈vs,(Lit.int q x).wf) :
  ∃l,keyOf P k (.agg (vs.map<|Value.int q).toArray)=some l:=by
 obtain⟨d,hd⟩:∃d,P.types.size=d+1:=⟨P.types.size-1,zo⟩;have key:∀is:List Nat,(∀i∈is,i<n)->∃r,(is.mapM λi=>P.keyLits (d+1) e<|((vs.map<|Value.int q).drop<|i*P.cellsOf e).take<|P.cellsOf e)=some r:=by
  intro is
  induction is with
  |nil=>intro _;exact⟨[],rfl⟩
  |cons i is ih =>
   intro h;obtain⟨r,hr⟩:=ih λj hj=>h j (by simp[hj]);have hi:=h i zs;have e1:((vs.map<|Value.int q).drop<|i*P.cellsOf e).take (P.cellsOf e)=[.int q<|vs[i]'zo]:=by
    rw[A5,Nat.mul_one,zZ<|by simp;omega];simp
   refine⟨[.int q<|vs[i]'zo]::r,?_⟩;rw[List.mapM_cons,hr,e1];simp only[Program.keyLits,he];rw[ae ⟨trivial,hw _<|ib _⟩];rfl
 obtain⟨r,hr⟩:=key (List.range n) λi hi=>fX.1 hi;unfold keyOf;rw[hu];simp only[hk,Value.formed,hu,ow,kP];rw[ae<|by simp[hl],hd];show ∃l,(P.keyLits (d+1+1) k (vs.map<|Value.int q).toArray.toList).map _=some l;rw[Program.keyLits];simp only[hu];rw[ae<|by simp[hl,ow],hr]
 ·exact⟨_,rfl⟩
 exact hu
def vk(m:ah):ah:=(List.range 30).map λi=>m.getD i 0
def z7(m:ah):bh:=(vk m).map λx=>.sc (.int .i8 x)
def uM(m:ah):aP:=.agg ((z7 m).map scV).toArray
theorem O4(m:ah):uM m=.agg ((vk m).map<|Value.int .i8).toArray:=by
 unfold uM z7;rw[wJ];rfl
variable{m:ah}
theorem RD{m':ah}(hl:m.length=m'.length)(oX:m.length<=30)(h:uM m=uM m'):m=m':=by
 rw[O4,O4] at h;have h:=(Value.agg.injEq _ _).mp h;have h:=bJ Array.toList h;simp only[List.toList_toArray] at h;have h:vk m=vk m':=by
  have:=bJ (List.map λv=>match v with|Value.int _ x=>x|_=>0) h;simpa [wJ,Function.comp_def] using this
 apply Du hl;intro i h1 h2;have:=bJ (λl:ah=>l[i]?) h;simp only[vk,cU,qI<|show i<30 by omega,x5,Option.some.injEq] at this;rw[aE,aE,aJ h1,aJ h2] at this;exact this
noncomputable def vX(marks:aj):Nat->aP->Option aP
 |0=>λ_=>none
 |k+1=>pO (vX marks k) (uM<|marks.getD k []) (.int .i64 k)
noncomputable def fM(marks:aj):aP->Option aP:=vX marks marks.length
theorem RB{marks:aj}{m:ah}:∀k,k<=marks.length->vX (marks++[m]) k=vX marks k
 |0,_=>rfl
 |k+1,h=>by
  simp only[vX];rw[RB k zo,aE,fv zo,<-aE]
theorem zyx(marks:aj)(m:ah):fM (marks++[m])=pO (fM marks) (uM m) (.int .i64 marks.length):=by
 unfold fM;rw[cq,jA];simp only[vX];rw[RB _<|aT _,aE,gJ<|aT _,rm];rfl
theorem Qr{marks:aj}{m:ah}(hl:∀x∈marks,x.length=m.length)(oX:m.length<=30)(hm:¬m∈marks):∀k,k<=marks.length->vX marks k (uM m)=none
 |0,_=>rfl
 |k+1,h=>by
  simp only[vX,pO];rw[ab ?_,Qr hl oX hm k zo];intro e;have hk:=af.uo (l:=marks) (k:=k) zo;have:=RD (hl _ hk).symm oX e;exact hm<|this▸hk
theorem Ub{marks:aj}{m:ah}(hl:∀x∈marks,x.length=m.length)(oX:m.length<=30)(hn:marks.Nodup){i:Nat}(hi:i<marks.length)(hm:marks.getD i []=m):∀k,i<k->k<=marks.length->vX marks k (uM m)=some (.int .i64 i)
 |0,h,_=>zo
 |k+1,h,hk=>by
  simp only[vX,pO];by_cases e:i=k
  ·subst e;rw[hm,ae rfl]
  rw[ab ?_,Ub hl oX hn hi hm k zo zo];intro q;have YK:=af.uo (l:=marks) (k:=k) zo;have:=RD (hl _ YK).symm oX q;rw[<-hm,aE,aE,aJ hi,aJ zo] at this;exact tG.1 hn i k hi zo zo this
variable{marks:aj}
theorem NZ(h:m∈marks):nz marks m<marks.length/\marks.getD (nz marks m) []=m:=by
 unfold nz;have h1:=KN h;refine⟨h1,?_⟩;rw[aE,aJ h1,List.getElem_idxOf h1];rfl
theorem Wc(hl:∀x∈marks,x.length=m.length)(oX:m.length<=30)(hn:marks.Nodup)(h:m∈marks):fM marks (uM m)=some (.int .i64<|nz marks m):=by
 obtain⟨h1,h2⟩:=NZ h;exact Ub hl oX hn h1 h2 _ h1<|aT _
theorem Zg(hl:∀x∈marks,x.length=m.length)(oX:m.length<=30)(h:¬m∈marks):fM marks (uM m)=none:=Qr hl oX h _<|aT _
variable{k:Nat}
theorem zto{cs:bh}{z:Nat}{c:D}{K:bh->Prop}(hz:z=k)(h:k<cs.length)(hK:K<|cs.set k c):rL cs z [c] K:=by
 subst hz;refine(Dc _ _ _ _).2 ⟨by simp;omega,?_⟩;rw[List.set_eq_take_append_cons_drop,ae h] at hK;rw[jA,gy,List.singleton_append];exact hK
def rJ(a b:Int):bh:=[aa a,aa b]
def iR(l:List<|Int×Int):fE:=l.map λo=>rJ o.1 o.2
def l7(l:List<|Int×Int):D:=.aM 2<|iR l
def kI(L:List<|List bq):fE:=L.map λl=>[l7 l]
variable(l:List<|Int×Int)
@[simp] theorem tu:(iR l).length=l.length:=by simp[iR]
@[simp] theorem Yf(l:List<|List bq):(kI l).length=l.length:=by simp[kI]
@[simp] theorem D6:fc<|iR l:=db _ (λl=>by simp[rJ,an,Pure]) l
@[simp] theorem xJ:Pure<|l7 l:=by simp only[l7,Pure];exact D6 l
@[simp] theorem zM(l:List<|List bq):fc<|kI l:=db _ (λl=>by simp[an,xJ]) l
variable{m:Nat}
@[simp] theorem zvI:bg m (iR l)↔True:=⟨λ_=>trivial,λ_=>aV _<|D6 l⟩
@[simp] theorem zvP(l:List<|List bq):bg m (kI l)↔True:=⟨λ_=>trivial,λ_=>aV _<|zM l⟩
@[simp] theorem zv0:aq m (l7 l)↔True:=⟨λ_=>trivial,λ_=>bw _<|xJ l⟩
variable{l:List<|Int×Int}
theorem ni{z:Nat}(hz:z=k)(h:k<l.length):(iR l)[z]? = some (rJ (l.getD k (0,0)).1 (l.getD k (0,0)).2):=by
 subst hz;unfold iR;rw[cU,aJ h,aE,aJ h];rfl
variable{c:Nat}
theorem zu{a b:Int}(h:c=l.length):List.drop 0 (List.take c<|iR l)++[rJ a b]=iR (l++[(a,b)]):=by
 subst h;rw[cx zs];simp[iR]
theorem V7{L:List<|List bq}{l:List bq}(h:c=L.length):List.drop 0 (List.take c<|kI L)++[[l7 l]]=kI (L++[l]):=by
 subst h;rw[cx zs];simp[kI]
def Aj(P:af)(tok:Int)(st n no nn:Nat)(last:bZ):bh:=[.aM 2<|P.nodes.map ke,.aM 2<|P.aG.map oC,aa tok,aa st,.own 2 n 0 n,.own 4 nn 0 nn,.mp 0,.own 3 no 0 no,aa last.1,aa last.2]
noncomputable def mH(P:af)(tok:Int)(st:Nat)(marks:aj)(aH:List bZ)(next:List<|List bq)(last:bZ):aF :=
 [.eU true<|lK ai 253<|fM marks,.row true<|Aj P tok st marks.length aH.length next.length last,.vec true marks.length 1<|eQ marks,.vec true aH.length 2<|iR aH,.vec true next.length 1 (kI next)]
theorem zvw:laidOutB ai:=by kernel_rfl
theorem RE:Maps.Keyed ai 253:=Maps.Keyed.of_law<|deep_law_laid zvw (m:=2) zo (qL<|by kernel_rfl) (by kernel_rfl)<|by rw[Tryz.underlying253]
def ze(m:ah)(k:Nat):bh:=(List.range 30).map λi=>.sc (.int .i8<|if i<k then m.getD i 0 else 0)
theorem zrD{m:ah}:(ze m k).set k (.sc (.int .i8<|m.getD k 0))=ze m (k+1):=by
 unfold ze;apply qC;intro i;rw[vo];by_cases hi:i<30
 ·by_cases e:k=i
  ·subst e;simp[hi]
  rw[ab e];simp only[cU,qI hi,x5];by_cases q:i<k
  ·rw[ae q,ae zo]
  rw[ab q,ab zo]
 rw[cY (l:=(List.range 30).map _)<|by simp;omega,cY (l:=(List.range 30).map _)<|by simp;omega];split
 ·simp;omega
 rfl
variable(m:ah)
theorem zsF:ze m m.length=z7 m:=by
 unfold ze z7 vk;rw[wJ];refine qY λi _=>?_;by_cases h:i<m.length
 ·simp[h]
 simp[h,aE,cY<|Fp h]
theorem Qw(hl:m.length<=30)(hm:∀x∈m,0<=x/\x<=127):ar ai 241 [aO m] (.agg<|z7 m):=by
 refine dC fZ zs (by simp[an,Pure,cG]) ?_ (by simp only[Pure,z7];generalize vk m=l;induction l with|nil=>simp[an]|cons x r ih=>simpa [an,Pure] using ih);refine sR ?_;rw[aK];refine bt [2,3,6,7] (λk:Nat=>[(8,aa k)]) (λk=>[(1,.row true<|ze m k)]) (λk=>k<=m.length) (λk=>m.length-k) 0 ?_;refine eC ?_;rintro k hk;refine br (λh1=>?_) λh1=>?_
 ·have al:k<m.length:=sO;refine sL (cA (l:=m) (k:=k) zo al) ?_;have hx:=hm _<|dP al;have KW:dQ .i8<|m.getD k 0:=by
   unfold dQ;generalize m.getD k 0=x at hx;simp[IntKind.wrap,IntKind.bits,IntKind.signed];omega
  refine .inl ⟨KW,?_⟩;refine sW ?_;refine⟨zo,zo,?_⟩;refine sW ?_;refine zto (k:=k) zo (by simp[ze];omega) ?_;refine bb ?_;refine⟨k+1,zo,zd,?_⟩;refine aL (by exact sK) ?_;rw[zrD];rfl
 have al:k=m.length:=by have:¬k<m.length:=sO
                        omega
 refine cd ?_;show D.agg (ze m k)=D.agg (z7 m);rw[al,zsF]
theorem zof(hm:∀x∈m,0<=x/\x<=127):∃l,keyOf ai 253 (uM m)=some l:=by
 rw[O4];refine zro (qL<|by kernel_rfl) (by kernel_rfl) Tryz.underlying253 Tryz.underlying251 (by kernel_rfl) (by kernel_rfl) (vk m) (by simp[vk]) λx hx=>?_;unfold vk at hx;obtain⟨i,_,rfl⟩:=dq.1 hx;have:0<=m.getD i 0/\m.getD i 0<=127:=by
  by_cases h:i<m.length
  ·exact hm _<|dP h
  rw[aE,cY zo];simp
 simp only[Lit.wf,fY,ja];have h1:IntKind.min .i8=-128:=zc;have h2:IntKind.max .i8=127:=zc;omega
theorem zpd(x tok:Int):ar ai 240 [aa x,.aB [.aB [.dW,.dW,aa tok,.dW,.dW,.dW,.dW,.dW,.dW,.dW]]]<|aD<|decide (x>tok):=by
 refine bL ?_;exact .refl _
theorem ztV(tok:Int):(m.any λx=>decide (x>tok))=tt m tok:=rfl
theorem VK(P:af)(tok:Int)(st:Nat)(cE:st<=200)(marks:aj)(aH:List bZ)(next:List<|List bq)(last:bZ)(hS:af.Sp P tok st marks aH)(oX:P.aG.length<=30)(m:ah)(hm:P.ml m)(o:bZ) :
  cp ai 161 [.loc 1 0,aO m,.agg<|rJ o.1 o.2] (mH P tok st marks aH next last) (.aI [aa<|j9 marks m tok st,aa<|jl marks m tok st]) (mH P tok st (iB marks m tok st) (ld marks aH m tok st o) next o):=by
 have hM:=af.gg hm;have Vs:=hM.len;have l5:∀x∈m,0<=x/\x<=9:=λx hx=>by
  unfold af.ml at hm;rw[fY] at hm;have:=cZ hm.2 hx;omega
 have hlen:∀x∈marks,x.length=m.length:=λx hx=>by rw[(af.gg<|hS.fx x hx).len,Vs]
 have hr:=hS.room;have oT:=hS.len;refine iV fZ zs (by simp[mH]) ?_ (by simp[aq,au]) (by
  intro x hx;simp only[mH,dZ,rH,or_false] at hx;rcases hx with rfl|rfl|rfl|rfl|rfl<;>simp[ao.under,Aj,au,aq,mH])
 unfold mH Aj rJ;refine sR ?_
 refine .inr (.inl ⟨_,_,.cons _ _ _ _ (.refl _) (.cons _ _ _ _ (.fn _ _ _ _ _ .nil (.cons _ _ _ _ (.loc _ _ _ _ _ rfl (.cons _ _ _ _ (.loc _ _ _ _ _ rfl (.cons _ _ _ _ (.dW _) (.cons _ _ _ _ (.dW _) (.cons _ _ _ _ (.refl _) (.cons _ _ _ _ (.dW _) (.cons _ _ _ _ (.dW _) (.cons _ _ _ _ (.dW _) (.cons _ _ _ _ (.dW _) (.cons _ _ _ _ (.dW _) (.cons _ _ _ _ (.dW _) (.cons _ _ _ _ (.dW _) .nil))))))))))) .nil)) .nil)) .nil),
  mC (λn=>aa n) (λa=>by simp[Pure]) m zo (λx=>decide (x>tok)) 240 [.aB [.aB [.dW,.dW,aa tok,.dW,.dW,.dW,.dW,.dW,.dW,.dW]]] (by simp[an,Pure]) (λa _=>zpd a tok),rfl,?_⟩)
 rw[ztV];have eE:jl marks m tok st=if tt m tok=true then 7 else if m∈marks then 0 else if marks.length=st then 8 else 0:=rfl
 refine sW ?_;have qz:∀v,jl marks m tok st=v->v≠0->iB marks m tok st=marks/\ld marks aH m tok st o=aH/\j9 marks m tok st=0:=λv h1 h2=>by
  unfold iB ld j9;rw[h1,ab λq=>h2 q.1,ab λq=>h2 q.1,ab h2];exact⟨rfl,rfl,rfl⟩
 cases h1:tt m tok
 ·refine sW ?_;refine sC (Qw m zo λx hx=>by have:=l5 x hx;omega) ?_;have lk:=zof m (λx hx=>by have:=l5 x hx;omega);refine⟨fM marks,rfl,RE,lk,λv hv=>?_,λhv=>?_⟩
  ·refine sW ?_;by_cases h2:m∈marks
   ·have hs:=Wc hlen zo hS.one h2;have lH:some v=some (Value.int .i64<|nz marks m):=hv.symm.trans hs;cases lH;have e0:jl marks m tok st=0:=(by rw[eE,h1,ab zs,ae h2]);have eM:iB marks m tok st=marks:=(by unfold iB;rw[ab λq=>q.2 h2]);have eG:ld marks aH m tok st o=aH:=(by unfold ld;rw[ab λq=>q.2 h2]);have eI:j9 marks m tok st=(nz marks m:Int):=(by unfold j9;rw[ae e0,eM]);rw[eM,eG,eI,e0];exact⟨rfl,rfl,zs⟩
   exfalso;have:=Zg hlen zo h2;have lH:some v=none:=hv.symm.trans this;cases lH
  refine sW ?_;have h2:¬m∈marks:=λh2=>by
   have hs:=Wc hlen zo hS.one h2;have lH:(none:Option aP)=some (Value.int .i64<|nz marks m):=hv.symm.trans hs;cases lH
  refine sS (λh3=>?_) λh3=>?_
  ·have h3:marks.length=st:=sO;have e8:jl marks m tok st=8:=(by rw[eE,h1,ab zs,ab h2,ae h3]);obtain⟨eM,eG,eI⟩:=qz 8 e8 zc;rw[eM,eG,eI,e8];exact⟨rfl,rfl,zs⟩
  have h3:marks.length≠st:=sO;have e0:jl marks m tok st=0:=(by rw[eE,h1,ab zs,ab h2,ab h3]);have eM:iB marks m tok st=marks++[m]:=(by unfold iB;rw[ae ⟨e0,h2⟩]);have eG:ld marks aH m tok st o=aH++[o]:=(by unfold ld;rw[ae ⟨e0,h2⟩]);have eI:j9 marks m tok st=(marks.length:Int):=by
   unfold j9;rw[ae e0,eM]
   congr 1
   unfold nz;rw[List.idxOf_append,ab h2];simp
  refine sC (Qw m zo λx hx=>by have:=l5 x hx;omega) ?_;refine⟨fM marks,rfl,RE,lk,hv,?_⟩;refine sWJ ?_;refine sJ ?_;rw[eM,eG,eI,e0];refine⟨rfl,?_,zs⟩;rw[zyx,cq,cq,jA,jA];have g1:=BY (L:=marks) (c:=marks.length) (x:=m) rfl;have g2:=zu (l:=aH) (c:=aH.length) (a:=o.1) (b:=o.2) rfl;rw[<-g1,<-g2];rfl
 have e7:jl marks m tok st=7:=by rw[eE,ae h1]
 obtain⟨eM,eG,eI⟩:=qz 7 e7 zc;refine sW ?_;rw[eM,eG,eI,e7];exact⟨rfl,rfl,zs⟩
end
section
def Fe(R:SpR):List bq:=if R.e=0 then R.cur else []
namespace af
theorem Ba{P:af}{tok:Int}{st n:Nat}{M:ah}{k:Int}{r:ah}{marks:aj}{aH:List bZ}{cur:List bq}{last:bZ} :
  P.fG tok st n M (k::r) marks aH cur last=if P.jM M k≠0 then ⟨P.jM M k,marks,aH,cur,((n:Int),k)⟩
  else if jl marks (P.dB M k) tok st≠0 then ⟨jl marks (P.dB M k) tok st,marks,aH,cur,((n:Int),k)⟩
  else P.fG tok st n M r (iB marks (P.dB M k) tok st) (ld marks aH (P.dB M k) tok st ((n:Int),k)) (cur++[(k,j9 marks (P.dB M k) tok st)]) ((n:Int),k):=rfl
theorem UT{l:ah}{k:Nat}(h:k<l.length):l.drop k=l.getD k 0::l.drop (k+1):=by
 rw[zZ h,aE,aJ h];rfl
end af
variable{P:af}{tok:Int}{st:Nat}{marks:aj}{aH:List bZ}{last:bZ}
theorem Kf{next:List<|List bq}:fo 5<|mH P tok st marks aH next last:=by
 simp[mH,fo,ao.under,Aj,au,aq]
theorem OS{next:List<|List bq}{G R:aF}:vZ 5 G (mH P tok st marks aH next last++R) (mH P tok st marks aH next last) :=
 ln _ _ λo ho=>AY Kf o ho
theorem zn0(P:af)(hP:P.Fits)(h1:P.dI=0)(tok:Int)(st:Nat)(cE:st<=200)(marks:aj)(aH:List bZ)(next:List<|List bq)(last:bZ)(hS:af.Sp P tok st marks aH)(n:Nat)(hn:n<marks.length) :
  cp ai 162 [.loc 1 0,aa n] (mH P tok st marks aH next last)
   (.aI [l7<|Fe<|P.fG tok st n (marks.getD n []) (P.du<|marks.getD n []) marks aH [] last,.sc (.int .i64 (P.fG tok st n (marks.getD n []) (P.du<|marks.getD n []) marks aH [] last).e)])
   (mH P tok st (P.fG tok st n (marks.getD n []) (P.du<|marks.getD n []) marks aH [] last).marks (P.fG tok st n (marks.getD n []) (P.du<|marks.getD n []) marks aH [] last).aH next (P.fG tok st n (marks.getD n []) (P.du<|marks.getD n []) marks aH [] last).last):=by
 obtain⟨h0,_,qB⟩:=af.kY h1;have oX:=(jV h0).2;have oT:=hS.len;refine sy fZ zs (by simp[mH]) ?_ (by simp[aq,au]);have ma:=hS.fx _<|af.uo hn;have hr:=hS.room;generalize hM:marks.getD n []=M at ma;have hML:=(af.gg ma).len;generalize hR:P.fG tok st n M (P.du M) marks aH [] last=R;have eM:P.kf M=0:=by unfold af.kf;rw[ab zo,ae ma]
 have C9:=P.LP M;have hLs:∀k∈P.du M,k∈P.du M:=λ_ h=>h;generalize hL:P.du M=L at hR C9;unfold mH Aj;refine sR ?_;refine sB ?_;refine⟨_,x4 (k:=n) zo hn,?_⟩;refine sW ?_;rw[hM];refine sC (zkw P hP M zo) ?_;rw[hL,aK];refine b8 (fL 6 2 zs rfl) ?_
 refine cJ [0,1,30,31] (λ((mk,og,cur,la,k):aj×List bZ×List bq×bZ×Nat)=>[(6,.own 5 cur.length 0 cur.length),(32,aa k)]) (λ(mk,og,cur,la,k)=>mH P tok st mk og next la++[.vec true cur.length 2<|iR cur])
  (λ(mk,og,cur,la,k)=>k<=L.length/\af.Sp P tok st mk og/\n<mk.length/\mk.getD n []=M/\cur.length=k/\P.fG tok st n M (L.drop k) mk og cur la=R) (λ(mk,og,cur,la,k)=>L.length-k) (marks,aH,[],last,0) ?_
 refine sW ?_;refine⟨⟨zo,hS,hn,hM,rfl,hR⟩,by exact sK,rfl,?_⟩;rintro⟨mk,og,cur,la,k⟩ ⟨hk,lv,fk,Ch,hc,hF⟩;have Is:=lv.room;have X0:=lv.len;unfold mH Aj;refine br (λh2=>?_) λh2=>?_
 ·have al:k<L.length:=sO;rw[af.UT al,af.Ba] at hF;have m3:L.getD k 0∈P.du M:=(by rw[hL];exact dP al);refine sL (cA (l:=L) (k:=k) zo al) ?_;generalize L.getD k 0=x at hF m3;refine sB ?_;refine⟨_,x4 (k:=n) zo fk,?_⟩;refine sW ?_;rw[Ch];refine sC (zrm P hP M zo x) ?_;refine sS (λh3=>?_) λh3=>?_
  ·have h3:P.jM M x≠0:=sO;rw[ae h3] at hF;subst hF;have vQ:Fe ⟨P.jM M x,mk,og,cur,((n:Int),x)⟩=[]:=ab h3;rw[vQ];exact⟨.aI _ _ (.cons _ _ _ _ (.none _) (.refl _)),OS (P:=P) (tok:=tok) (st:=st) (marks:=mk) (aH:=og) (next:=next) (last:=((n:Int),x)) (R:=[_])⟩
  have h3:P.jM M x=0:=sO;rw[ab λq=>q h3] at hF;have BQ:=af.Lu ma m3 h3;generalize P.dB M x=m at hF BQ;refine sA (mS (VK P tok st cE mk og next ((n:Int),x) lv oX m BQ ((n:Int),x)) [.vec true cur.length 2<|iR cur] rfl (by simp[au,aq,rJ,mH]) Kf) ?_;refine sS (λh4=>?_) λh4=>?_
  ·have h4:jl mk m tok st≠0:=sO;rw[ae h4] at hF;have KM:iB mk m tok st=mk:=(by unfold iB;rw[ab λq=>h4 q.1]);have H4:ld mk og m tok st ((n:Int),x)=og:=(by unfold ld;rw[ab λq=>h4 q.1]);subst hF;have vQ:Fe ⟨jl mk m tok st,mk,og,cur,((n:Int),x)⟩=[]:=ab h4;rw[vQ];refine⟨.aI _ _ (.cons _ _ _ _ (.none _) (.refl _)),?_⟩;rw[KM,H4];exact OS (P:=P) (tok:=tok) (st:=st) (marks:=mk) (aH:=og) (next:=next) (last:=((n:Int),x)) (R:=[_])
  have h4:jl mk m tok st=0:=sO;rw[ab λq=>q h4] at hF;refine fA ?_;refine⟨(iB mk m tok st,ld mk og m tok st ((n:Int),x),cur++[(x,j9 mk m tok st)],((n:Int),x),k+1),⟨zo,lv.put BQ zo zo,vh fk af.GY,by rw[af.LB fk,Ch],by simp[hc],hF⟩,zd,?_⟩;dsimp only;rw[show(cur++[(x,j9 mk m tok st)]).length=cur.length+1 by simp];refine aR 6 zs rfl sQ (sU ?_);exact aZ<|zu rfl
 have al:k=L.length:=by have:¬k<L.length:=sO
                        omega
 rw[al,tf] at hF;have E2:R=⟨0,mk,og,cur,la⟩:=hF.symm;subst E2;have vQ:Fe ⟨0,mk,og,cur,la⟩=cur:=ae rfl;rw[vQ];refine⟨.aI _ _ (.cons _ _ _ _ (.own _ _ _ _ _ _ _ _ rfl rfl ?_) (.refl _)),OS (P:=P) (tok:=tok) (st:=st) (marks:=mk) (aH:=og) (next:=next) (last:=la) (R:=[_])⟩;rw[cx zs];exact .refl _
end
section
namespace af
noncomputable def fp(P:af)(tok:Int)(st:Nat):SpF:=P.j0 tok st 201 0 [P.jx] [(-1,-1)] [] (-1,-1)
theorem Sp.nil(P:af)(tok:Int)(st:Nat):Sp P tok st [] []:=⟨zs,zs,zs,rfl,λi h1 h2=>by simp at h2,.inl rfl⟩
variable{P:af}{tok:Int}
theorem zpf(h:P.dI=0)(ht:1<=tok):tt P.jx tok=false:=by
 unfold tt jx;rw[ae h,pd];intro x hx;unfold gl at hx;obtain⟨i,_,rfl⟩:=dq.1 hx;unfold qR;split<;>simp<;>omega
variable{st:Nat}
theorem zrh(h:P.dI=0)(ht:1<=tok)(hs:1<=st):jl [] P.jx tok st=0/\iB [] P.jx tok st=[P.jx]/\ld [] [] P.jx tok st (-1,-1)=[(-1,-1)]:=by
 have e0:jl [] P.jx tok st=0:=by
  unfold jl;rw[zpf h ht];simp;omega
 refine⟨e0,?_,?_⟩
 ·unfold iB;rw[ae ⟨e0,zs⟩];rfl
 unfold ld;rw[ae ⟨e0,zs⟩];rfl
theorem Sp.start(h:P.dI=0)(hs:1<=st):Sp P tok st [P.jx] [(-1,-1)] :=
 ⟨zs,λm hm=>by rw[cB] at hm;subst hm;exact Of h,by simpa using hs,rfl,λi h1 h2=>by simp at h2;omega,.inr rfl⟩
theorem Dr{P:af}{tok:Int}{st n:Nat}{M:ah}(hM:P.ml M):∀(L:ah) (marks:aj) (aH:List bZ) (cur:List bq) (last:bZ),(∀k∈L,k∈P.du M)->Sp P tok st marks aH->n<marks.length ->
  Sp P tok st (P.fG tok st n M L marks aH cur last).marks (P.fG tok st n M L marks aH cur last).aH/\marks.length<=(P.fG tok st n M L marks aH cur last).marks.length /\
   (∀i,i<marks.length->(P.fG tok st n M L marks aH cur last).marks.getD i []=marks.getD i [])
 |[],marks,aH,cur,last,_,hS,_=>⟨hS,aT _,λ_ _=>rfl⟩
 |k::r,marks,aH,cur,last,hL,hS,hn=>by
  rw[Ba];split
  ·exact⟨hS,aT _,λ_ _=>rfl⟩
  split
  ·exact⟨hS,aT _,λ_ _=>rfl⟩
  rename_i h1 h2;have hg:=Lu hM (hL k zs) zo;have hl:=GY (marks:=marks) (m:=P.dB M k) (tok:=tok) (st:=st);have fk:n<(iB marks (P.dB M k) tok st).length:=vh hn hl;have lv:=hS.put hg (a:=(n:Int)) (k:=k) zo zo;obtain⟨g1,g2,g3⟩:=Dr hM r (iB marks (P.dB M k) tok st) (ld marks aH (P.dB M k) tok st ((n:Int),k)) (cur++[(k,j9 marks (P.dB M k) tok st)]) ((n:Int),k) (λj hj=>hL j<|by simp[hj]) lv fk;exact⟨g1,iv hl g2,λi hi=>by rw[g3 i<|vh hi hl,LB hi]⟩
end af
def EM(P:af)(tok:Int)(st n no nn:Nat)(last:bZ):bh:=[.aM 2<|P.nodes.map ke,.aM 2<|P.aG.map oC,aa tok,aa st,.own 3 n 0 n,.own 5 nn 0 nn,.mp 1,.own 4 no 0 no,aa last.1,aa last.2]
noncomputable def rC(P:af)(tok:Int)(st:Nat)(marks:aj)(aH:List bZ)(next:List<|List bq)(last:bZ):aF :=
 [.row true [.aM 2<|P.nodes.map ke,.aM 2<|P.aG.map oC],.eU true<|lK ai 253<|fM marks,.row true<|EM P tok st marks.length aH.length next.length last,.vec true marks.length 1<|eQ marks,.vec true aH.length 2<|iR aH,.vec true next.length 1 (kI next)]
variable{ρ:Nat->Nat}(P:af)
theorem He:D.aQ ρ (.aM 2<|P.nodes.map ke)=.aM 2 (P.nodes.map ke)/\D.aQ ρ (.aM 2<|P.aG.map oC)=.aM 2 (P.aG.map oC):=by
 have h:=sr P;simp only[cm,af.cells,Pure,an] at h;exact⟨iT _<|by simpa only[Pure] using h.1,iT _<|by simpa only[Pure] using h.2.1⟩
theorem U3(P:af)(tok:Int)(st:Nat)(marks:aj)(aH:List bZ)(next:List<|List bq)(last:bZ) :
  [ao.row true [.aM 2<|P.nodes.map ke,.aM 2<|P.aG.map oC]]++((mH P tok st marks aH next last).map (ao.aQ λi=>[ao.row true [.aM 2<|P.nodes.map ke,.aM 2<|P.aG.map oC]].length+i)++[])=rC P tok st marks aH next last:=by
 have h1:=λρ=>(He (ρ:=ρ) P).1;have h2:=λρ=>(He (ρ:=ρ) P).2;have h3:=λρ=>kQ (ρ:=ρ) _<|EF marks;have h4:=λρ=>kQ (ρ:=ρ) _<|D6 aH;have h5:=λρ=>kQ (ρ:=ρ) _<|zM next;simp only[mH,rC,Aj,EM,fi,gm,ao.aQ,bP,h1,h2,h3,h4,h5,kM,bH,bU,ov,lW];simp only[D.aQ]
theorem zll{P:af}{tok:Int}{st:Nat}{marks:aj}{aH:List bZ}{next:List<|List bq}{last:bZ}:∀o∈rC P tok st marks aH next last,o.under 6:=by
 intro o ho;simp only[rC,dZ,rH,or_false] at ho;rcases ho with rfl|rfl|rfl|rfl|rfl|rfl<;>simp[ao.under,EM,au,aq]
theorem zwy(l:List<|Int×Int)(v:aP):D.aQ ρ (.aI [l7 l,.sc v])=.aI [l7 l,.sc v]:=by
 simp only[D.aQ,bP,iT _<|xJ l]
theorem Zz(u v:aP):D.aQ ρ (.aI [.sc u,.sc v])=.aI [.sc u,.sc v]:=by
 simp only[D.aQ,bP]
theorem TZ{P:af}{f:FuncId}{tok:Int}{st:Nat}{marks T9:aj}{aH U6:List bZ}{next:List<|List bq}{last Wj:bZ}{args args':bh}{d d':D}
  (hA:cp ai f args (mH P tok st marks aH next last) d<|mH P tok st T9 U6 next Wj) (hu:au 5 args) (e1:bP (λi=>1+i) args=args') (e2:D.aQ (λi=>1+i) d=d') :
  cp ai f args' (rC P tok st marks aH next last) d' (rC P tok st T9 U6 next Wj) :=
 r9 hA [.row true [.aM 2<|P.nodes.map ke,.aM 2<|P.aG.map oC]] [] rfl hu Kf e1 e2 (U3 ..) (U3 ..)
def zBa:PC:=.seq (SO [qm 62 15,qm 63 10,q 64 (.jR 63),Fa 65 4 64,Fa 66 0 65,Lo 67 66,Ln 68 67,Bi 69 .lss 62 68]<|CX 69 0) (.seq (.block 1<|SO [qm 73 10,qm 74 15,Ca 75 162 [73,74],qm 72 75,Xt 76 0 72,Xt 77 1 72,qm 16 76,qm 17 77] (.seq (SO [qm 78 17,Bi 79 .neq 78 K0]<|If 79<|SO [qm 80 10,qm 81 17,qm 6 80,qm 7 81] .ret)<|OP [qm 82 10,qm 83 10,q 84 (.jR 83),Fa 85 4 84,Fa 86 1 85,Lo 87 86,qm 88 16,Bs 89 1 1 [88],Ap 90 1 24 87 89,q 91 (.jR 82),Fa 92 4 91,Fa 93 1 92,So 1 93 90]))<|OP [qm 70 15,Bi 71 .add 70 K1,qm 15 71])
def c92:PC:=SO [Bx 3 0,q 6 (.move (.const (.pointer none))),Mv 7 K0] (.seq (SO [LA 19 2 3,Ca 20 29 [19],qm 18 20,Xt 21 0 18,Xt 22 1 18,qm 8 21,qm 9 22]<|SO [qm 23 9,Bi 24 .neq 23 K0]<|If 24<|SO [qm 25 9,q 6 (.move (.const (.pointer none))),qm 7 25] .ret) (.seq (SO [qm 26 1,Bi 27 .lss 26 K1,qm 28 27,GF 29 28 (.move 1),GF 30 28 (.bin .gtr 29 K9),Pk 31 28 cT 30,qm 32 31,GF 33 32 (.move 2),GF 34 32 (.bin .lss 33 K1),Pk 35 32 cT 34,qm 36 35,GF 37 36 (.move 2),GF 38 36 (.bin .gtr 37<|cI 200),Pk 39 36 cT 38]<|If 39<|SO [q 6 (.move (.const (.pointer none))),Mv 7 K1] .ret)<|SO [LA 40 2 3,qm 41 1,qm 42 2,q 43 (.FH 253),q 44 (.build [vN,vN,v0,v0,vN,vN,(.map none),vN,v0,v0] [(0,2,40),(2,1,41),(3,1,42),(6,1,43)]),Bx 45 44,qm 10 45]<|SO [LA 47 2 3,Ca 48 160 [47],qm 46 48,Xt 49 0 46,Xt 50 1 46,qm 11 49,qm 12 50] (.seq (.seq (.stop<|OP [qm 52 10,qm 53 11,q 54 (.build [v0,v0] [(0,1,(cI (-1))),(1,1,(cI (-1)))]),Ca 55 161 [52,53,54],qm 51 55,Xt 56 0 51,Xt 57 1 51,qm 13 56,qm 14 57])<|SO [qm 58 14,Bi 59 .neq 58 K0]<|If 59<|SO [qm 60 10,qm 61 14,qm 6 60,qm 7 61] .ret) (.seq (SO [Mv 15 K0]<|BL 0 zBa)<|SO [qm 94 10,qm 6 94,Mv 7 K0] .ret))))
theorem OY:ud ai 92 95 [.tmp 6,.tmp 7] c92:=fK Tryz.func92
theorem zio(hP:P.Fits)(h1:P.dI≠0)(tok st:Int):cp ai 92 [cm P,aa tok,aa st] [] (.aI [.sc (.pointer none),aa P.dI]) []:=by
 refine iV OY zs zs ?_ (by simp[aq,au]) zs;unfold cm af.cells;refine sR ?_;refine sC (CL P hP) ?_;refine sS (λh2=>?_) λh2=>?_
 ·exact jr _
 exfalso;exact sO
theorem ziA(hP:P.Fits)(h1:P.dI=0)(tok st:Int)(hb:tok<1\/9<tok\/st<1\/200<st):cp ai 92 [cm P,aa tok,aa st] [] (.aI [.sc (.pointer none),aa 1]) []:=by
 refine iV OY zs zs ?_ (by simp[aq,au]) zs;unfold cm af.cells;refine sR ?_;refine sC (CL P hP) ?_;refine sS (λh2=>?_) λh2=>?_
 ·exfalso;exact sO
 refine sS (λh3=>?_) λh3=>?_
 ·refine sW ?_;exact jr _
 refine sS (λh4=>?_) λh4=>?_
 ·refine sW ?_;exact jr _
 refine sS (λh5=>?_) λh5=>?_
 ·refine sW ?_;exact jr _
 refine sS (λh6=>?_) λh6=>?_
 ·exact jr _
 exfalso;exact sO
theorem Yk(hP:P.Fits)(h1:P.dI=0)(tok:Int)(ht:1<=tok)(ht':tok<=9)(st:Nat)(hs:1<=st)(HV:st<=200) :
  cp ai 92 [cm P,aa tok,aa st] [] (.aI [.loc 2 0,.sc (.int .i64 (P.fp tok st).e)]) (rC P tok st (P.fp tok st).marks (P.fp tok st).aH (P.fp tok st).next (P.fp tok st).last):=by
 obtain⟨h0,_,qB⟩:=af.kY h1;have oX:=(jV h0).2;refine iV OY zs zs ?_ (by simp[aq,au,rC]) zll;have hB:=af.Of h1;obtain⟨p1,p2,p3⟩:=af.zrh h1 ht hs;unfold cm af.cells;refine sR ?_;refine sC (CL P hP) ?_;refine sS (λh2=>?_) λh2=>?_
 ·exfalso;exact sO
 refine sS (λh3=>?_) λh3=>?_
 ·exfalso;exact sO
 refine sS (λh4=>?_) λh4=>?_
 ·exfalso;exact sO
 refine sS (λh5=>?_) λh5=>?_
 ·exfalso;exact sO
 refine sS (λh6=>?_) λh6=>?_
 ·exfalso;exact sO
 refine sC (zoU P hP) ?_;refine b8 (iq 2 4 1 zs rfl rfl) ?_;refine b8 (iq 2 7 2 zs rfl rfl) ?_;refine b8 (iq 2 5 1 zs rfl rfl) ?_;refine sR ?_;refine sA (TZ (VK P tok st HV [] [] [] (0,0) (af.Sp.nil P tok st) oX P.jx hB (-1,-1)) (by simp[au,aq,rJ]) (by simp only[bP,D.aQ,rJ,iT _<|cG _])<|Zz _ _) ?_;rw[p1,p2,p3];refine sW ?_;have eF:P.fp tok st=P.j0 tok st 201 0 [P.jx] [(-1,-1)] [] (-1,-1):=rfl;generalize P.fp tok st=F at eF
 refine cJ [10] (λ((mk,og,nx,la,n):aj×List bZ×List (List bq)×bZ×Nat)=>[(15,aa n)]) (λ(mk,og,nx,la,n)=>rC P tok st mk og nx la)
  (λ(mk,og,nx,la,n)=>n<=mk.length/\af.Sp P tok st mk og/\nx.length=n/\P.j0 tok st (201-n) n mk og nx la=F) (λ(mk,og,nx,la,n)=>201-n) ([P.jx],[(-1,-1)],[],(-1,-1),0) ?_
 refine sW ?_;refine⟨⟨zs,af.Sp.start h1 hs,rfl,eF.symm⟩,by exact sK,rfl,?_⟩;rintro⟨mk,og,nx,la,n⟩ ⟨hn,hS,iD,hF⟩;have hr:=hS.room;obtain⟨f,ef⟩:∃f,201-n=f+1:=⟨200-n,zo⟩;rw[ef] at hF;simp only[af.j0] at hF;unfold rC EM;refine br (λh7=>?_) λh7=>?_
 ·have fk:n<mk.length:=sO;rw[ae fk] at hF;have aC:=af.Dr (tok:=tok) (st:=st) (n:=n) (hS.fx _<|af.uo fk) (P.du<|mk.getD n []) mk og [] la (λ_ h=>h) hS fk;refine sA (TZ (zn0 P hP h1 tok st HV mk og nx la hS n fk) (by simp[au,aq]) (by simp only[bP,D.aQ])<|zwy _ _) ?_;generalize P.fG tok st n (mk.getD n []) (P.du<|mk.getD n []) mk og [] la=R at hF aC;refine sS (λh8=>?_) λh8=>?_
  ·have h8:R.e≠0:=sO;rw[ae h8] at hF;rw[<-hF];exact⟨rfl,rfl,aT _⟩
  have h8:R.e=0:=sO;rw[ab λq=>q h8] at hF;have vQ:Fe R=R.cur:=ae h8;rw[vQ];refine fA ?_;refine⟨(R.marks,R.aH,nx++[R.cur],R.last,n+1),⟨zo,aC.1,by simp[iD],by rw[show 201-(n+1)=f by omega];exact hF⟩,zd,?_⟩;dsimp only;rw[show(nx++[R.cur]).length=nx.length+1 by simp];refine aR 6 zs rfl sQ (sU ?_);exact aZ<|V7 rfl
 have fk:¬n<mk.length:=sO;rw[ab fk] at hF;rw[<-hF];exact⟨rfl,rfl,aT _⟩
end
section
def rt(aH:List bZ):Nat->bZ->ah
 |0,_=>[]
 |f+1,o=>if o.1<0 then [] else rt aH f (aH.getD o.1.toNat (0,0))++[o.2]
def rtC(aH:List bZ)(o:bZ):ah:=rt aH (o.1+1).toNat o
def xW(aH:List bZ):Prop:=(∀i,0<i->i<aH.length->0<=(aH.getD i (0,0)).1/\(aH.getD i (0,0)).1<(i:Int))/\(aH.length=0\/aH.getD 0 (0,0)=(-1,-1))
variable{aH:List bZ}
theorem xW.at(h:xW aH){i:Nat}(hi:i<aH.length):-1<=(aH.getD i (0,0)).1/\(aH.getD i (0,0)).1<(i:Int):=by
 by_cases e:i=0
 ·subst e;rcases h.2 with q|q
  ·omega
  rw[q];simp
 have:=h.1 i zo hi;omega
theorem zwB(h:xW aH):∀(f g:Nat) (o:bZ),o.1<(aH.length:Int)->o.1<(f:Int)->o.1<(g:Int)->rt aH f o=rt aH g o:=by
 intro f
 induction f with
 |zero =>
  intro g o h1 h2 h3
  cases g with
  |zero=>rfl
  |succ g=>simp only[rt];rw[ae zo]
 |succ f ih =>
  intro g o h1 h2 h3
  cases g with
  |zero=>simp only[rt];rw[ae zo]
  |succ g =>
   simp only[rt];split
   ·rfl
   have hb:=h.at (i:=o.1.toNat) zo;rw[ih g _ zo zo zo]
variable{o:bZ}
theorem zza(h:xW aH){f:Nat}(h1:o.1<(aH.length:Int))(h2:o.1<(f:Int)):rt aH f o=rtC aH o:=zwB h _ _ o h1 h2 zo
theorem Wd(h:xW aH){a k:Int}(h0:0<=a)(h1:a<(aH.length:Int)):rtC aH (a,k)=rtC aH (aH.getD a.toNat (0,0))++[k]:=by
 unfold rtC;rw[show((a,k):bZ).1=a from rfl,show(a+1).toNat=a.toNat+1 by omega];simp only[rt];rw[ab zo];have hb:=h.at (i:=a.toNat) zo;rw[zza h zo zo];rfl
theorem V4{aH:List bZ}{x:bZ}(h:xW aH):∀(f:Nat) (o:bZ),o.1<(aH.length:Int)->rt (aH++[x]) f o=rt aH f o
 |0,_,_=>rfl
 |f+1,o,h1=>by
  simp only[rt];split
  ·rfl
  have hb:=h.at (i:=o.1.toNat) zo;have e:(aH++[x]).getD o.1.toNat (0,0)=aH.getD o.1.toNat (0,0):=by
   rw[aE,fv zo,<-aE]
  rw[e,V4 h f _ zo]
theorem Wz{x:bZ}(h:xW aH)(h1:o.1<(aH.length:Int)):rtC (aH++[x]) o=rtC aH o:=V4 h _ o h1
theorem VC(aH:List bZ):∀(f:Nat) (o:bZ),(rt aH f o).length<=f
 |0,_=>by simp[rt]
 |f+1,o=>by
  simp only[rt];split
  ·simp
  have:=VC aH f<|aH.getD o.1.toNat (0,0);rw[cq,jA];omega
namespace af
variable{P:af}{tok:Int}{st:Nat}
theorem Sp.bk{marks:aj}(h:Sp P tok st marks aH):xW aH:=⟨h.back,h.root⟩
theorem VR{P:af}{tok:Int}{st n:Nat}{M:ah}:∀(L:ah) (marks:aj) (aH:List bZ) (cur:List bq) (last:bZ),last.1=(n:Int)\/L≠[]\/last.1=-1 ->
  (P.fG tok st n M L marks aH cur last).last.1=(n:Int)\/(P.fG tok st n M L marks aH cur last).last=last
 |[],marks,aH,cur,last,_=>.inr rfl
 |k::r,marks,aH,cur,last,_=>by
  rw[Ba];split
  ·exact .inl rfl
  split
  ·exact .inl rfl
  rcases VR r (iB marks (P.dB M k) tok st) (ld marks aH (P.dB M k) tok st ((n:Int),k)) (cur++[(k,j9 marks (P.dB M k) tok st)]) ((n:Int),k) (.inl rfl) with h|h
  ·exact .inl h
  rw[h];exact .inl rfl
theorem SW{P:af}{tok:Int}{st:Nat}:∀(f n:Nat) (marks:aj) (aH:List bZ) (next:List<|List bq) (last:bZ),Sp P tok st marks aH->last.1<(marks.length:Int) ->
  Sp P tok st (P.j0 tok st f n marks aH next last).marks (P.j0 tok st f n marks aH next last).aH/\(P.j0 tok st f n marks aH next last).last.1<((P.j0 tok st f n marks aH next last).marks.length:Int)
 |0,n,marks,aH,next,last,hS,hl=>⟨hS,hl⟩
 |f+1,n,marks,aH,next,last,hS,hl=>by
  simp only[j0];split
  ·rename_i hn;obtain⟨g1,g2,_⟩:=Dr (tok:=tok) (st:=st) (n:=n) (hS.fx _<|uo hn) (P.du<|marks.getD n []) marks aH [] last (λ_ h=>h) hS hn;have g3:(P.fG tok st n (marks.getD n []) (P.du<|marks.getD n []) marks aH [] last).last.1=(n:Int)\/(P.fG tok st n (marks.getD n []) (P.du<|marks.getD n []) marks aH [] last).last=last:=by
    generalize P.du (marks.getD n [])=L
    cases L with
    |nil=>exact .inr rfl
    |cons k r=>exact VR _ _ _ _ _ (.inr (.inl zs))
   generalize P.fG tok st n (marks.getD n []) (P.du<|marks.getD n []) marks aH [] last=R at g1 g2 g3;have g4:R.last.1<(R.marks.length:Int):=by
    rcases g3 with g3|g3
    ·omega
    rw[g3];omega
   split
   ·exact⟨g1,g4⟩
   exact SW f (n+1) _ _ _ _ g1 g4
  exact⟨hS,hl⟩
theorem zzP(h:P.dI=0)(hs:1<=st):Sp P tok st (P.fp tok st).marks (P.fp tok st).aH/\(P.fp tok st).last.1<((P.fp tok st).marks.length:Int) :=
 SW _ _ _ _ _ _ (Sp.start h hs) zs
def qq(tok st:Int):Prop:=tok<1\/9<tok\/st<1\/200<st
instance (tok st:Int):Decidable<|qq tok st:=by unfold qq;infer_instance
noncomputable def dL(P:af)(tok st:Int):Int:=if P.dI≠0 then P.dI else if qq tok st then 1 else (P.fp tok st.toNat).e
noncomputable def exM(P:af)(tok st:Int):aj:=if P.dL tok st=0 then (P.fp tok st.toNat).marks else []
noncomputable def cj(P:af)(tok st:Int):List<|List bq:=if P.dL tok st=0 then (P.fp tok st.toNat).next else []
noncomputable def exW(P:af)(tok st:Int):ah:=if P.dI≠0\/qq tok st\/(P.fp tok st.toNat).e=0 then [] else rtC (P.fp tok st.toNat).aH (P.fp tok st.toNat).last
end af
end
section
variable(l:ah)
@[simp] theorem zsy:fc<|aA l:=by simp[aA,an,Pure]
theorem zlO{ρ:Nat->Nat}:lz ρ (aA l)=aA l:=kQ _<|zsy l
def o4(M:aj)(N:List<|List bq):D:=.agg [bY M,.aM 1<|kI N]
@[simp] theorem zmU(M:aj)(N:List<|List bq):Pure<|o4 M N:=by simp[o4,Pure,an,mj,zM]
theorem UZ{H:aF}{id v n:Nat}{q:Bool}{L:List<|List bq}(hn:n=L.length)(h:H[id]? = some (.vec q v 1<|kI L)):Deep H (.own id v 0 n) (.aM 1<|kI L):=by
 subst hn;exact .own _ _ _ _ _ _ _ _ h<|by rw[cx zs];exact iX _
def R5(b:Nat)(P:af)(tok:Int)(st n no nn:Nat)(last:bZ):bh:=[.aM 2<|P.nodes.map ke,.aM 2<|P.aG.map oC,aa tok,aa st,.own (b+2) n 0 n,.own (b+4) nn 0 nn,.mp b,.own (b+3) no 0 no,aa last.1,aa last.2]
noncomputable def Kv(b:Nat)(P:af)(tok:Int)(st:Nat)(marks:aj)(aH:List bZ)(next:List<|List bq)(last:bZ):aF :=
 [.row true [.aM 2<|P.nodes.map ke,.aM 2<|P.aG.map oC],.eU true<|lK ai 253<|fM marks,.row true<|R5 b P tok st marks.length aH.length next.length last,.vec true marks.length 1<|eQ marks,.vec true aH.length 2<|iR aH,.vec true next.length 1 (kI next)]
theorem zpI(b:Nat)(P:af)(tok:Int)(st:Nat)(marks:aj)(aH:List bZ)(next:List<|List bq)(last:bZ) :
  (rC P tok st marks aH next last).map (ao.aQ λi=>[b,b+1,b+2,b+3,b+4,b+5].getD i 0)=Kv (b+1) P tok st marks aH next last:=by
 have h1:=λρ=>(He (ρ:=ρ) P).1;have h2:=λρ=>(He (ρ:=ρ) P).2;have h3:=λρ=>kQ (ρ:=ρ) _<|EF marks;have h4:=λρ=>kQ (ρ:=ρ) _<|D6 aH;have h5:=λρ=>kQ (ρ:=ρ) _<|zM next;simp only[Kv,rC,R5,EM,fi,gm,ao.aQ,bP,h1,h2,h3,h4,h5];simp only[D.aQ];rfl
variable{args:bh}{e:Int}
theorem zpa{P:af}{tok:Int}{st:Nat}{marks:aj}{aH:List bZ}{next:List<|List bq}{last:bZ}(hA:cp ai 92 args [] (.aI [.loc 2 0,aa e])<|rC P tok st marks aH next last)(hp:an args)
  {H:aF} {b:Nat} (hb:H.length=b):pJ ai 92 args H (.aI [.loc (b+2) 0,aa e]) (H++Kv (b+1) P tok st marks aH next last) [b,b+1,b+2,b+3,b+4,b+5] :=
 ri hA hp _ (by rw[hb];rfl) (by simp only[D.aQ,bP];rfl) (by rw[zpI])
theorem TN(hA:cp ai 92 args [] (.aI [.sc (.pointer none),aa e]) [])(hp:an args)
  {H:aF}:pJ ai 92 args H (.aI [.sc (.pointer none),aa e]) H [] :=
 ri hA hp [] rfl (by simp only[D.aQ,bP]) zs
theorem WQ(P:af)(hP:P.Fits)(tok st:Int):ar ai 28 [cm P,aa tok,aa st] (.aI [o4 (P.exM tok st)<|P.cj tok st,aa<|P.dL tok st]):=by
 refine bK fZ ?_;have OH:an [cm P,aa tok,aa st]:=by simp[an,Pure,sr]
 unfold cm af.cells;refine sR ?_;have bad:∀e,e≠0->P.dL tok st=e->P.exM tok st=[]/\P.cj tok st=[]:=λe h1 h2=>by
  unfold af.exM af.cj;rw[h2,ab h1,ab h1];exact⟨rfl,rfl⟩
 by_cases h1:P.dI=0
 ·by_cases h2:af.qq tok st
  ·have e1:P.dL tok st=1:=(by unfold af.dL;rw[ab zo,ae h2]);obtain⟨eM,eN⟩:=bad 1 zc e1;refine sE (TN (ziA P hP h1 tok st h2) OH) ?_;rw[eM,eN,e1];exact .aI _ _ (.cons _ _ _ _ (.agg _ _ (.cons _ _ _ _ (.none _) (.cons _ _ _ _ (.none _) .nil)))<|oN _)
  have El:=h2;unfold af.qq at El;obtain⟨s,rfl⟩:∃s:Nat,st=s:=⟨st.toNat,zo⟩;have e1:P.dL tok s=(P.fp tok s).e:=(by unfold af.dL;rw[ab zo,ab h2,bQ]);have hA:=zpa (Yk P hP h1 tok zo zo s zo zo) OH (H:=[.row true [.aM 2<|P.nodes.map ke,.aM 2<|P.aG.map oC],.row true [ax,ax]]) (b:=2) rfl;refine sE (hA) ?_;refine sS (λh3=>?_) λh3=>?_
  ·have h3:P.dL tok s≠0:=(by rw[e1];exact sO);obtain⟨eM,eN⟩:=bad _ h3 rfl;rw[eM,eN,e1];exact .aI _ _ (.cons _ _ _ _ (.agg _ _ (.cons _ _ _ _ (.none _) (.cons _ _ _ _ (.none _) .nil)))<|oN _)
  have h3:P.dL tok s=0:=(by rw[e1];exact sO);unfold af.exM af.cj;rw[ae h3,ae h3,h3,bQ];exact .aI _ _ (.cons _ _ _ _ (.agg _ _ (.cons _ _ _ _ (KK rfl rfl) (.cons _ _ _ _ (UZ rfl rfl) .nil)))<|oN _)
 have e1:P.dL tok st=P.dI:=by unfold af.dL;rw[ae h1]
 obtain⟨eM,eN⟩:=bad _ h1 e1;refine sE (TN (zio P hP h1 tok st) OH) ?_;have hb:(P.dI != 0)=true:=by simp[h1]
 rw[hb];refine sW ?_;rw[eM,eN,e1];exact .aI _ _ (.cons _ _ _ _ (.agg _ _ (.cons _ _ _ _ (.none _) (.cons _ _ _ _ (.none _) .nil)))<|oN _)
end
def mw(N:List<|List bq)(m:Nat):List bq:=if (N.getD m []).length=0 then [(-1,(m:Int))] else (N.getD m []).map λx=>(x.1,(m:Int))
def ly(N:List<|List bq)(m:Nat):ah:=if (N.getD m []).length=0 then [(m:Int)] else (N.getD m []).map λx=>x.2
def bW(N:List<|List bq):Nat->List bq
 |0=>[]
 |m+1=>bW N m++mw N m
def lf(N:List<|List bq):Nat->ah
 |0=>[]
 |m+1=>lf N m++ly N m
def bm(N:List<|List bq)(m:Nat):Nat:=(bW N m).length
def im(N:List<|List bq)(m:Nat):Nat:=(mw N m).length
variable(N:List<|List bq)
theorem ztQ(m:Nat):1<=im N m:=by
 unfold im mw;split
 ·simp
 rename_i h;simp only[aK];omega
theorem pB(m:Nat):im N m=if (N.getD m []).length=0 then 1 else (N.getD m []).length:=by
 unfold im mw;split<;>simp
theorem zyC(m:Nat):(ly N m).length=im N m:=by
 rw[pB];unfold ly;split<;>simp
theorem oO(m:Nat):bm N (m+1)=bm N m+im N m:=by simp[bm,im,bW]
theorem xI(N:List<|List bq):∀m,(lf N m).length=bm N m
 |0=>rfl
 |m+1=>by rw[oO];simp only[lf,cq,zyC,xI N m]
variable{N:List<|List bq}{m n:Nat}
theorem u9(h:m<=n):bm N m<=bm N n:=by
 induction n with
 |zero=>rw[show m=0 by omega];exact aT _
 |succ n ih =>
  by_cases e:m=n+1
  ·subst e;exact aT _
  rw[oO];have:=ih zo;omega
variable{α:Type}{a:Nat}
theorem RF{l r:List α}{d:α}(h:a<l.length):(l++r).getD a d=l.getD a d:=by
 rw[aE,aE,fv h]
variable{k:Nat}
theorem Uj{l r:List α}{d:α}(h:a=l.length+k):(l++r).getD a d=r.getD k d:=by
 subst h;rw[aE,aE,gJ zo,Cz]
theorem vn{N:List<|List bq}{m k:Nat}(hk:k<im N m):∀n,m<n->(bW N n).getD (bm N m+k) (0,0)=(mw N m).getD k (0,0)
 |0,h=>zo
 |n+1,h=>by
  simp only[bW];by_cases e:m=n
  ·subst e;exact Uj rfl
  have h1:=u9 (N:=N) (show m+1<=n by omega);rw[oO] at h1;rw[RF (show bm N m+k<(bW N n).length by unfold bm at h1⊢;omega),vn hk n zo]
theorem HK{N:List<|List bq}{m k:Nat}(hk:k<im N m):∀n,m<n->(lf N n).getD (bm N m+k) 0=(ly N m).getD k 0
 |0,h=>zo
 |n+1,h=>by
  simp only[lf];by_cases e:m=n
  ·subst e;exact Uj<|by rw[xI]
  have h1:=u9 (N:=N) (show m+1<=n by omega);rw[oO] at h1;rw[RF<|by rw[xI];omega,HK hk n zo]
theorem Dj(hk:k<im N m):((mw N m).getD k (0,0)).2=(m:Int):=by
 rw[pB] at hk;unfold mw;split
 ·rename_i h;rw[ae h] at hk;rw[show k=0 by omega];rfl
 rename_i h;rw[ab h] at hk;rw[aE,cU,aJ hk];rfl
theorem zL{N:List<|List bq}:∀{n i:Nat},i<bm N n->∃m k,m<n/\k<im N m/\i=bm N m+k
 |0,i,h=>by simp[bm,bW] at h
 |n+1,i,h=>by
  rw[oO] at h;by_cases q:i<bm N n
  ·obtain⟨m,k,h1,h2,h3⟩:=zL q;exact⟨m,k,zo,h2,h3⟩
  exact⟨n,i-bm N n,zo,zo,zo⟩
def iF(N:List<|List bq)(t:Nat):ah:=(List.range<|im N t).map λ(i:Nat)=>((bm N t+i:Nat):Int)
def qi(of:List bq)(t:Int):Nat->ah
 |0=>[]
 |k+1=>if (of.getD k (0,0)).2=t then qi of t k++[(k:Int)] else qi of t k
theorem W4{N:List<|List bq}{n t:Nat}(ht:t<n):∀k,k<=bm N n->qi (bW N n) (t:Int) k=(List.range<|min (k-bm N t)<|im N t).map λ(i:Nat)=>((bm N t+i:Nat):Int)
 |0,_=>by simp[qi]
 |k+1,hk=>by
  obtain⟨m,j,h1,h2,h3⟩:=zL (show k<bm N n by omega);have hm:((bW N n).getD k (0,0)).2=(m:Int):=(by rw[h3,vn h2 n h1,Dj h2]);simp only[qi];rw[hm,W4 ht k zo];by_cases e:m=t
  ·subst e;rw[ae rfl,show min (k+1-bm N m) (im N m)=min (k-bm N m) (im N m)+1 by omega,qy,nZ,show min (k-bm N m) (im N m)=k-bm N m by omega];simp;omega
  rw[ab zo]
  congr 2
  rcases dY m t with q|q
  ·have:=u9 (N:=N) (show m+1<=t by omega);rw[oO] at this;omega
  have:=u9 (N:=N) (show t+1<=m by omega);rw[oO] at this;omega
variable{t:Nat}
theorem O'(ht:t<n):qi (bW N n) (t:Int) (bm N n)=iF N t:=by
 rw[W4 ht _<|aT _];unfold iF;have:=u9 (N:=N) (show t+1<=n by omega);rw[oO] at this;rw[show min (bm N n-bm N t) (im N t)=im N t by omega]
theorem Yw(h:(N.getD m []).length=0):iF N m=[(bm N m:Int)]:=by
 unfold iF;rw[pB,ae h];rfl
theorem Gv(N:List<|List bq)(t:Nat):(iF N t).length=im N t:=by simp[iF]
def Co(N:List<|List bq)(m:Nat)(k:Int):Bool:=(N.getD m []).any λy=>y.1==k
def mV(N:List<|List bq)(of:List bq)(s:Int):Nat->ah
 |0=>[]
 |i+1=>if Co N (of.getD i (0,0)).2.toNat s=false\/(of.getD i (0,0)).1=s then mV N of s i++[(i:Int)] else mV N of s i
theorem U5(N:List<|List bq)(of:List bq)(s:Int):∀i,(mV N of s i).length<=i
 |0=>by simp[mV]
 |i+1=>by
  simp only[mV];have:=U5 N of s i;split<;>simp<;>omega
section
variable{mk:aj}{m:ah}
theorem zo2(hn:mk.Nodup){i:Nat}(hi:i<mk.length)(h:mk.getD i []=m):nz mk m=i:=by
 have hm:m∈mk:=h▸af.uo hi;obtain⟨h1,h2⟩:=NZ hm;have h3:mk[nz mk m]=mk[i]:=by
  have q:mk.getD (nz mk m) []=mk.getD i []:=h2.trans h.symm;rw[aE,aE,aJ hi,aJ h1] at q;exact q
 rcases yR (nz mk m) i with q|q|q
 ·exact absurd h3<|tG.1 hn _ _ h1 hi q
 ·exact q
 exact absurd h3.symm<|tG.1 hn _ _ hi h1 q
theorem zy1(h:∀j,j<mk.length->mk.getD j []≠m):¬m∈mk:=λhm=>by
 obtain⟨h1,h2⟩:=NZ hm;exact h _ h1 h2
variable{tok:Int}
theorem zpe{f:Nat}(hf:f<m.length)(h:m.getD f 0>tok):tt m tok:=by
 unfold tt;rw[kJ];exact⟨_,dP hf,by simpa using h⟩
theorem ZF(h:∀f,f<m.length->¬m.getD f 0>tok):tt m tok=false:=by
 unfold tt;rw[pd];intro x hx;obtain⟨k,hk,rfl⟩:=s7 hx;simpa using h k hk
def ED(og:List bZ)(wy:aj):Prop:=wy.length=og.length/\∀i,i<og.length->wy.getD i []=rtC og (og.getD i (0,0))
theorem ED.put{og:List bZ}{wy:aj}(h:ED og wy)(hb:xW og){n k:Int}(h0:0<=n)(h1:n<(og.length:Int)):ED (og++[(n,k)])<|wy++[wy.getD n.toNat []++[k]]:=by
 obtain⟨hl,hw⟩:=h;refine⟨by simp[hl],λi hi=>?_⟩;rw[cq,jA] at hi;by_cases e:i=og.length
 ·subst e;rw[aE,gJ zo,hl,rm,aE (l:=og++_),gJ<|aT _,rm];show wy.getD n.toNat []++[k]=rtC (og++[(n,k)]) (n,k);rw[Wz hb (o:=(n,k)) h1,Wd hb h0 h1,hw _ zo]
 have xc:=hb.at (i:=i) zo;rw[aE,fv zo,<-aE,aE (l:=og++_),fv zo,<-aE,hw i zo];rw[Wz hb zo]
theorem zv3(og:List bZ)(o:bZ):(rtC og o).length<=(o.1+1).toNat:=VC _ _ _
theorem Me{H:aF}{a b:fE}(h:a=b):n4 H a b:=h▸iX a
theorem IP(A:fE)(y:bh):List.drop 0 (List.take (A.length-0+(List.drop 0<|List.take 1 [y]).length)<|List.drop 0 (List.take A.length A)++List.drop 0 (List.take 1 [y]))=A++[y]:=by
 rw[cx (l:=A)<|aT _,fQ,jd zs];rfl
theorem CQ(P:af)(hP:P.Fits)(tok st:Int):ar ai 14 [cm P,aa tok,aa st] (.aI [o4 (P.exM tok st)<|P.cj tok st,aO<|P.exW tok st,aa<|P.dL tok st]):=by
 refine bK fZ ?_;have bad:∀{H:aF} (e:Int),e≠0->P.dL tok st=e->P.exW tok st=[]->Deep H (.aI [.agg [ax,ax],ax,aa e]) (.aI [o4 (P.exM tok st)<|P.cj tok st,aO<|P.exW tok st,aa<|P.dL tok st]):=λe h1 h2 h3=>by
  unfold af.exM af.cj;rw[h2,ab h1,ab h1,h3];exact .aI _ _ (.cons _ _ _ _ (.agg _ _ (.cons _ _ _ _ (.none _) (.cons _ _ _ _ (.none _) .nil))) (.cons _ _ _ _ (.none _)<|oN _))
 unfold cm af.cells;refine sR ?_;refine sC (Ly P hP) ?_;refine sS (λh1=>?_) λh1=>?_
 ·have h1:P.dI≠0:=sO;exact bad _ h1 (by unfold af.dL;rw[ae h1])<|by unfold af.exW;rw[ae (.inl h1)]
 have h1:P.dI=0:=sO
 have bad1:∀{H:aF},af.qq tok st->Deep H (.aI [.agg [ax,ax],ax,aa 1]) (.aI [o4 (P.exM tok st)<|P.cj tok st,aO<|P.exW tok st,aa<|P.dL tok st]):=λh =>
  bad 1 zc (by unfold af.dL;rw[ab zo,ae h]) (by unfold af.exW;rw[ae (.inr (.inl h))])
 refine sS (λh2=>?_) λh2=>?_
 ·refine sW ?_;exact bad1<|by unfold af.qq;exact sO
 refine sS (λh3=>?_) λh3=>?_
 ·refine sW ?_;exact bad1<|by unfold af.qq;exact sO
 refine sS (λh4=>?_) λh4=>?_
 ·refine sW ?_;exact bad1<|by unfold af.qq;exact sO
 refine sS (λh5=>?_) λh5=>?_
 ·exact bad1<|by unfold af.qq;exact sO
 clear bad1;obtain⟨s,rfl⟩:∃s:Nat,st=s:=⟨st.toNat,sO⟩;have g2:1<=tok:=sO;have g3:tok<=9:=sO;have g4:1<=s:=sO;have g5:s<=200:=sO;have Lx:¬af.qq tok s:=by unfold af.qq;omega
 have e1:P.dL tok s=(P.fp tok s).e:=by unfold af.dL;rw[ab zo,ab Lx,bQ]
 have eW:P.exW tok s=if (P.fp tok s).e=0 then [] else rtC (P.fp tok s).aH (P.fp tok s).last:=by
  unfold af.exW;rw[bQ];by_cases q:(P.fp tok s).e=0
  ·rw[ae (.inr (.inr q)),ae q]
  rw[ab λw=>w.elim (λq1=>q1 h1) λw=>w.elim (λq1=>Lx q1) λq1=>q q1,ab q]
 have eM:P.exM tok s=if (P.fp tok s).e=0 then (P.fp tok s).marks else []:=by unfold af.exM;rw[e1,bQ]
 have eN:P.cj tok s=if (P.fp tok s).e=0 then (P.fp tok s).next else []:=by unfold af.cj;rw[e1,bQ]
 rw[e1,eW,eM,eN];clear bad e1 eW eM eN h2 h3 h4 h5 Lx;obtain⟨h0,_,qB⟩:=af.kY h1;have oX:=(jV h0).2;refine sC (Sj P hP h1) ?_;have eF:P.fp tok s=P.j0 tok s 201 0 [P.jx] [(-1,-1)] [] (-1,-1):=rfl;generalize P.fp tok s=F at eF;have W6:=af.Sp.start h1 (tok:=tok) g4;generalize hBg:P.jx=M0 at eF W6
 refine b8 (aR 4 (H':=[.row true [.aM 2<|P.nodes.map ke,.aM 2<|P.aG.map oC],.row true [ax,ax],.vec true 0 1<|eQ [M0],.vec true 0 1<|eQ [[]]])
  (env':=[(1,aa tok),(2,aa s),(3,.loc 0 0),(6,.loc 1 0),(9,m4 P.bd),(10,.own 2 0 0 1),(11,.own 3 0 0 1),(12,aa 0)]) zs rfl ?_ ?_) ?_
 ·exact sQ
 ·have YF:=bu (m:=4) _<|L1 P;exact⟨⟨rfl,.refl _,YF⟩,⟨rfl,.refl _,by simp[au,aq]⟩,⟨rfl,rfl,rfl,.refl _,zs⟩,⟨rfl,rfl,rfl,.cons _ _ _ _ (.cons _ _ _ _ (.none _) (.refl _)) (.refl _),zs⟩,trivial⟩
 refine b8 (iq 1 1 1 zs rfl rfl) ?_
 refine bt [1,2,3,6,9] (λ((mk,og,wy,nx,la,c,n):aj×List bZ×aj×List (List bq)×bZ×Nat×Nat)=>[(10,.own 2 c 0<|c+1),(11,.own 3 c 0<|c+1),(12,aa n)])
  (λ(mk,og,wy,nx,la,c,n)=>[(1,.row true [ax,.own 4 n 0 n]),(2,.vec true c 1<|eQ mk),(3,.vec true c 1<|eQ wy),(4,.vec true n 1<|kI nx)])
  (λ(mk,og,wy,nx,la,c,n)=>n<=c+1/\mk.length=c+1/\af.Sp P tok s mk og/\ED og wy/\nx.length=n/\P.j0 tok s (201-n) n mk og nx la=F) (λ(mk,og,wy,nx,la,c,n)=>201-n) ([M0],[(-1,-1)],[[]],[],(-1,-1),0,0) ?_
 refine sW ?_;refine⟨⟨zo,rfl,W6,⟨rfl,λi hi=>?_⟩,rfl,eF.symm⟩,by exact sK,rfl,?_⟩
 ·have:i=0:=by simp at hi;exact hi
  subst this;rfl
 rintro⟨mk,og,wy,nx,la,c,n⟩ ⟨hn,pP,hS,hW,iD,hF⟩;have hr:=hS.room;have oT:=hS.len;obtain⟨f,ef⟩:∃f,201-n=f+1:=⟨200-n,zo⟩;rw[ef] at hF;simp only[af.j0] at hF;refine br (λh2=>?_) λh2=>?_
 ·have fk:n<mk.length:=sO;rw[ae fk] at hF;refine sB ?_;refine⟨_,x4 (k:=n) zo fk,?_⟩;refine sW ?_;have ma:=hS.fx _<|af.uo fk;have aC:=af.Dr (tok:=tok) (st:=s) (n:=n) ma (P.du<|mk.getD n []) mk og [] la (λ_ h=>h) hS fk;have TS:=P.LP<|mk.getD n [];generalize hM:mk.getD n []=M at hF ma aC TS;have eM:P.kf M=0:=(by unfold af.kf;rw[ab zo,ae ma]);refine sC (Vl P hP M eM) ?_;generalize hR:P.fG tok s n M (P.du M) mk og [] la=R at hF aC;generalize hL:P.du M=L at hR TS;refine b8 (fL 14 2 zs rfl) ?_
  refine bt [1,2,3,6,9,12,13] (λ((mk,og,wy,cur,la,c,i):aj×List bZ×aj×List bq×bZ×Nat×Nat)=>[(10,.own 2 c 0<|c+1),(11,.own 3 c 0<|c+1),(14,.own 5 i 0 i),(15,aa i)])
   (λ(mk,og,wy,cur,la,c,i)=>[(2,.vec true c 1<|eQ mk),(3,.vec true c 1<|eQ wy),(5,.vec true i 2<|iR cur)])
   (λ(mk,og,wy,cur,la,c,i)=>i<=L.length/\n<mk.length/\mk.length=c+1/\mk.getD n []=M/\af.Sp P tok s mk og/\ED og wy/\cur.length=i/\P.fG tok s n M (L.drop i) mk og cur la=R) (λ(mk,og,wy,cur,la,c,i)=>L.length-i) (mk,og,wy,[],la,c,0) ?_
  refine sW ?_;refine⟨⟨zo,fk,pP,hM,hS,hW,rfl,hR⟩,by exact sK,rfl,?_⟩;rintro⟨mk',ux,Dl,cur,Xe,c',i⟩ ⟨hi,zG,O1,Ch,lv,BC,hc,mI⟩;have Is:=lv.room;have X0:=lv.len;have xB:=BC.1;refine c6 ?_;rw[aK];refine sS (λh3=>?_) λh3=>?_
  ·have aW:i<L.length:=sO;rw[af.UT aW,af.Ba] at mI;have m3:L.getD i 0∈P.du M:=(by rw[hL];exact dP aW);refine sB ?_;refine⟨_,x4 (L:=Dl) (k:=n) zo zo,?_⟩;refine sW ?_;have PY:=BC.2 n zo;have Rc:=zv3 ux<|ux.getD n (0,0);have hbn:=lv.bk.at (i:=n) zo;rw[<-PY] at Rc;have xk:=Wd lv.bk (a:=(n:Int)) (k:=L.getD i 0) zo zo;have Jp:=BC.put lv.bk (n:=(n:Int)) (k:=L.getD i 0) zo zo;rw[bQ,<-PY] at xk;rw[bQ] at Jp;generalize Dl.getD n []=wn at Rc xk Jp;refine sJ ?_;refine sL (cA (l:=L) (k:=i) zo aW) ?_;refine sJ ?_;refine sB ?_;refine⟨_,x4 (L:=mk') (k:=n) zo zG,?_⟩;refine sW ?_;rw[Ch];refine sL (cA (l:=L) (k:=i) zo aW) ?_;generalize mq:L.getD i 0=x at mI m3 xk Jp;obtain⟨_,x0,x1,xm⟩:=af.I9 m3;obtain⟨fe,fl⟩:=af.QK m3;have KH:=af.gg ma;have pS:=af.zb h1 x1;refine sL (xg (k:=x.toNat) zo x1) ?_;have OT:=UP P hP h0 M KH _ pS;rw[<-fe,<-fl] at OT;refine sC OT ?_;have fin:∀{H:aF} {w:D} (e:Int),e≠0->(⟨e,mk',ux,cur,((n:Int),x)⟩:SpR)=R->Deep H w (aO<|wn++[x])->Deep H (.aI [.agg [ax,ax],w,aa e]) (.aI [o4 (if F.e=0 then F.marks else [])<|if F.e=0 then F.next else [],aO<|if F.e=0 then [] else rtC F.aH F.last,aa F.e]):=λe q1 q2 q3=>by
    rw[<-q2] at hF;dsimp only at hF;rw[ae q1] at hF;rw[<-hF];dsimp only;rw[ab q1,ab q1,ab q1,xk];exact .aI _ _ (.cons _ _ _ _ (.agg _ _ (.cons _ _ _ _ (.none _) (.cons _ _ _ _ (.none _) .nil))) (.cons _ _ _ _ q3<|oN _))
   refine sS (λh4=>?_) λh4=>?_
   ·have h4:P.jM M x≠0:=sO;rw[ae h4] at mI;exact fin _ h4 mI (.own _ _ _ _ _ _ _ _ rfl (Me<|by rw[IP];simp))
   have h4:P.jM M x=0:=sO;rw[ab λq=>q h4] at mI;have BQ:=af.Lu ma m3 h4;clear OT fe fl;generalize P.dB M x=m at mI BQ;have Vs:=(af.gg BQ).len;refine bt [1,2,3,6,9,10,11,12,13,14,15,16,17] (λf:Nat=>[(19,aa f)]) (λ_=>[]) (λf=>f<=m.length/\∀j,j<f->¬m.getD j 0>tok) (λf=>m.length-f) 0 ?_;refine sW ?_;refine⟨⟨zo,λj hj=>zo⟩,by exact sK,rfl,?_⟩;rintro f ⟨hf,da⟩;refine c6 ?_;rw[aK];refine sS (λh5=>?_) λh5=>?_
   ·have Dz:f<m.length:=sO;refine sL (cA (l:=m) (k:=f) zo Dz) ?_;refine sS (λh6=>?_) λh6=>?_
    ·have h6:m.getD f 0>tok:=sO;have e7:jl mk' m tok s=7:=(by unfold jl;rw[ae<|zpe Dz h6]);rw[e7,ae zc] at mI;exact fin 7 zc mI (.own _ _ _ _ _ _ _ _ rfl (Me<|by rw[IP];simp))
    have h6:¬m.getD f 0>tok:=sO;refine sI ?_;refine⟨f+1,⟨zo,λj hj=>?_⟩,zd,aL (by exact sK) rfl⟩;by_cases e:j=f
    ·subst e;exact h6
    exact da j zo
   have hov:tt m tok=false:=ZF λj hj=>da j<|sO;clear h5 da hf;have eE:jl mk' m tok s=if m∈mk' then 0 else if mk'.length=s then 8 else 0:=by unfold jl;rw[hov];rfl
   refine bt [1,2,3,6,9,10,11,12,13,14,15,16,17] (λa:Nat=>[(20,aa a)]) (λ_=>[]) (λa=>a<=mk'.length/\∀j,j<a->mk'.getD j []≠m) (λa=>mk'.length-a) 0 ?_;refine sW ?_;refine⟨⟨zo,λj hj=>zo⟩,by exact sK,rfl,?_⟩;rintro a ⟨ha,da⟩;refine br (λh5=>?_) λh5=>?_
   ·have gV:a<mk'.length:=sO;refine sB ?_;refine⟨_,x4 (L:=mk') (k:=a) zo gV,?_⟩;refine sW ?_;have Sn:=(af.gg<|lv.fx _<|af.uo gV).len;refine sC (SQ (mk'.getD a []) m zo) ?_;by_cases h6:mk'.getD a []=m
    ·rw[ia h6];refine sW ?_;have hb:((a:Int)==((c'+1-0:Nat):Int))=false:=(by simp;omega);rw[hb];refine sW ?_;have j8:m∈mk':=h6▸af.uo gV;have e0:jl mk' m tok s=0:=(by rw[eE,ae j8]);have eM1:iB mk' m tok s=mk':=(by unfold iB;rw[ab λq=>q.2 j8]);have eG1:ld mk' ux m tok s ((n:Int),x)=ux:=(by unfold ld;rw[ab λq=>q.2 j8]);have eI1:j9 mk' m tok s=(a:Int):=(by unfold j9;rw[ae e0,eM1,zo2 lv.one gV h6]);rw[ab λq=>q e0,eM1,eG1,eI1] at mI;refine sL (cA (l:=L) (k:=i) zo aW) ?_;rw[mq];refine fA ?_;refine⟨(mk',ux,Dl,cur++[(x,(a:Int))],((n:Int),x),c',i+1),⟨zo,zG,O1,Ch,lv,BC,by simp[hc],mI⟩,zd,?_⟩;refine aR 6 zs rfl sQ (sU ?_);exact aZ<|zu hc.symm
    rw[gM h6];refine bb ?_;refine⟨a+1,⟨zo,λj hj=>?_⟩,zd,aL (by exact sK) rfl⟩;by_cases e:j=a
    ·subst e;exact h6
    exact da j zo
   have gV:a=mk'.length:=by have:¬a<mk'.length:=sO
                            omega
   subst gV;have j8:¬m∈mk':=zy1 da;refine sW ?_;have hb:((mk'.length:Int)==((c'+1-0:Nat):Int))=true:=(by simp;omega);rw[hb];refine sWS (λh6=>?_) λh6=>?_
   ·have h6:mk'.length=s:=sO;have e8:jl mk' m tok s=8:=(by rw[eE,ab j8,ae h6]);rw[e8,ae zc] at mI;exact fin 8 zc mI (.own _ _ _ _ _ _ _ _ rfl (Me<|by rw[IP];simp))
   have h6:mk'.length≠s:=sO;have e0:jl mk' m tok s=0:=(by rw[eE,ab j8,ab h6]);have eM1:iB mk' m tok s=mk'++[m]:=(by unfold iB;rw[ae ⟨e0,j8⟩]);have eG1:ld mk' ux m tok s ((n:Int),x)=ux++[((n:Int),x)]:=(by unfold ld;rw[ae ⟨e0,j8⟩]);have eI1:j9 mk' m tok s=(mk'.length:Int):=by
    unfold j9;rw[ae e0,eM1]
    congr 1
    unfold nz;rw[List.idxOf_append,ab j8];simp
   have wh:=lv.put BQ (a:=(n:Int)) (k:=x) zo zo;rw[eM1,eG1] at wh;rw[ab λq=>q e0,eM1,eG1,eI1] at mI;refine sJ ?_;refine sJ ?_;refine sL (cA (l:=L) (k:=i) zo aW) ?_;rw[mq];refine fA ?_;refine⟨(mk'++[m],ux++[((n:Int),x)],Dl++[wn++[x]],cur++[(x,(mk'.length:Int))],((n:Int),x),c'+1,i+1),⟨zo,by simp;omega,by simp[O1],?_,wh,Jp,by simp[hc],mI⟩,zd,?_⟩
   ·rw[aE,fv zG,<-aE];exact Ch
   (refine aR 6 zs rfl ?_ ?_<;>(repeat' (first|exact trivial|exact rfl|exact .refl _|refine And.intro ?_ ?_|(simp[aq,au,bg,-List.map_take,-List.map_drop];done))))
   ·exact aZ<|BY zo
   ·rw[<-BY (L:=Dl) (c:=c'+1) (x:=wn++[x]) zo];exact .append _ _ _ _ (.refl _) (.cons _ _ _ _ (.cons _ _ _ _ (.own _ _ _ _ _ _ _ _ rfl rfl (aZ<|by rw[IP];simp)) (.refl _)) (.refl _))
   exact aZ<|zu hc.symm
  have aW:i=L.length:=by have:¬i<L.length:=sO
                         omega
  subst aW;rw[tf] at mI;have zCb:R=⟨0,mk',ux,cur,Xe⟩:=mI.symm;subst zCb;dsimp only at hF;rw[ab λq=>q rfl] at hF;refine fA ?_;refine⟨(mk',ux,Dl,nx++[cur],Xe,c',n+1),⟨zo,O1,lv,BC,by simp[iD],by rw[show 201-(n+1)=f by omega];exact hF⟩,zd,?_⟩;refine aR 5 zs rfl sQ (sU ?_);rw[<-V7 (L:=nx) (c:=n) (l:=cur) iD.symm];refine .append _ _ _ _ (.refl _) (.cons _ _ _ _ (.cons _ _ _ _ (.own _ _ _ _ _ _ _ _ rfl rfl (aZ ?_)) (.refl _)) (.refl _));rw[cx<|by simp;omega]
 have fk:¬n<mk.length:=sO;rw[ab fk] at hF;rw[<-hF];dsimp only;rw[ae rfl,ae rfl,ae rfl];exact .aI _ _ (.cons _ _ _ _ (.agg _ _ (.cons _ _ _ _ (KK pP.symm rfl) (.cons _ _ _ _ (UZ iD.symm rfl) .nil))) (.cons _ _ _ _ (.none _)<|oN _))
end
section
theorem XY{L:List<|List bq}{z:Nat}(hz:z=k)(h:k<L.length):(kI L)[z]? = some [l7 L[k]]:=by
 subst hz;unfold kI;rw[cU,aJ h];rfl
namespace af
theorem PR{P:af}{tok:Int}{st n:Nat}{M:ah}:∀(L:ah) (marks:aj) (aH:List bZ) (cur:List bq) (last:bZ),(P.fG tok st n M L marks aH cur last).cur.length<=cur.length+L.length
 |[],_,_,_,_=>by simp[fG]
 |k::r,marks,aH,cur,last=>by
  rw[Ba];split
  ·simp
  split
  ·simp
  have:=PR (P:=P) (tok:=tok) (st:=st) (n:=n) (M:=M) r (iB marks (P.dB M k) tok st) (ld marks aH (P.dB M k) tok st ((n:Int),k)) (cur++[(k,j9 marks (P.dB M k) tok st)]) ((n:Int),k);simp at this⊢;omega
theorem Q2{P:af}{tok:Int}{st:Nat}:∀(f n:Nat) (marks:aj) (aH:List bZ) (next:List<|List bq) (last:bZ),(∀x∈next,x.length<=P.bd.length) ->
  (∀x∈(P.j0 tok st f n marks aH next last).next,x.length<=P.bd.length)/\(P.j0 tok st f n marks aH next last).next.length<=next.length+f
 |0,_,_,_,next,_,h=>⟨h,aT _⟩
 |f+1,n,marks,aH,next,last,h=>by
  simp only[j0];split
  ·split
   ·exact⟨h,zs⟩
   have hl:=PR (P:=P) (tok:=tok) (st:=st) (n:=n) (M:=marks.getD n []) (P.du<|marks.getD n []) marks aH [] last;have he:=P.LP<|marks.getD n [];generalize P.fG tok st n (marks.getD n []) (P.du<|marks.getD n []) marks aH [] last=R at hl;obtain⟨g1,g2⟩:=Q2 (P:=P) (tok:=tok) (st:=st) f (n+1) R.marks R.aH (next++[R.cur]) R.last λx hx=>by
    rcases dt.1 hx with hx|hx
    ·exact h x hx
    rw[cB] at hx;subst hx;exact iv hl<|by rw[bU,lZ];exact he
   refine⟨g1,?_⟩;rw[cq,jA] at g2;omega
  exact⟨h,zs⟩
end af
end
def vd(L:aj)(n t:Nat):aj :=
 if (L.getD t []).length=0\/(L.getD t []).getD ((L.getD t []).length-1) 0≠(n:Int) then L.set t<|L.getD t []++[(n:Int)] else L
theorem zrB(L:aj)(n t:Nat):(vd L n t).length=L.length:=by unfold vd;split<;>simp
variable{L:aj}{l:ah}
theorem Xi(h:t<L.length):(L.set t l).getD m []=if m=t then l else L.getD m []:=by
 rw[aE,vo];by_cases e:t=m
 ·subst e;simp[h]
 rw[ab e,ab λq=>e q.symm,aE]
variable{x:Int}
theorem ZV(h:t<L.length):x∈(vd L n t).getD m []↔x∈L.getD m []\/(m=t/\x=(n:Int)):=by
 unfold vd;split
 ·rw[Xi h];split
  ·rename_i e;subst e;rw[dt,cB];constructor
   ·rintro(q|q)
    ·exact .inl q
    exact .inr ⟨rfl,q⟩
   rintro(q|⟨_,q⟩)
   ·exact .inl q
   exact .inr q
  rename_i e;exact⟨.inl,λq=>q.elim id λw=>absurd w.1 e⟩
 rename_i q;refine⟨.inl,λw=>w.elim id ?_⟩;rintro⟨rfl,rfl⟩;have q1:(L.getD m []).length≠0:=λe=>q (.inl e);have q2:(L.getD m []).getD ((L.getD m []).length-1) 0=(n:Int):=by
  by_cases e:(L.getD m []).getD ((L.getD m []).length-1) 0=(n:Int)
  ·exact e
  exact absurd (.inr e) q
 have:=dP (l:=L.getD m []) (k:=(L.getD m []).length-1) zo;rw[q2] at this;exact this
def pf(g:aj)(n:Nat):Nat->aj->aj
 |0,L=>L
 |k+1,L=>vd (pf g n k L) n ((g.getD n []).getD k 0).toNat
def fV(g:aj):Nat->aj
 |0=>List.replicate g.length []
 |n+1=>pf g n (g.getD n []).length<|fV g n
theorem GJ(g:aj)(n:Nat):∀(k:Nat) (L:aj),(pf g n k L).length=L.length
 |0,_=>rfl
 |k+1,L=>by simp only[pf];rw[zrB,GJ g n k L]
theorem tJ(g:aj):∀n,(fV g n).length=g.length
 |0=>by simp[fV]
 |n+1=>by simp only[fV];rw[GJ,tJ g n]
theorem Vr{g:aj}{n m:Nat}{x:Int}(hg:∀v y,y∈g.getD v []->y.toNat<g.length){L:aj}(hL:L.length=g.length):∀{k:Nat},k<=(g.getD n []).length ->
  (x∈(pf g n k L).getD m []↔x∈L.getD m []\/(x=(n:Int)/\∃j,j<k/\((g.getD n []).getD j 0).toNat=m))
 |0,_=>⟨.inl,λh=>h.elim id λ⟨_,j,hj,_⟩=>zo⟩
 |k+1,hk=>by
  simp only[pf];have hm:=dP (l:=g.getD n []) (k:=k) zo;rw[ZV<|by rw[GJ,hL];exact hg n _ hm,Vr hg hL zo];constructor
  ·rintro((h|⟨h,j,hj,e⟩)|⟨e,h⟩)
   ·exact .inl h
   ·exact .inr ⟨h,j,zo,e⟩
   exact .inr ⟨h,k,zo,e.symm⟩
  rintro(h|⟨h,j,hj,e⟩)
  ·exact .inl (.inl h)
  by_cases q:j=k
  ·subst q;exact .inr ⟨e.symm,h⟩
  exact .inl (.inr ⟨h,j,zo,e⟩)
theorem C1{g:aj}{m:Nat}{x:Int}(hg:∀v y,y∈g.getD v []->y.toNat<g.length):∀{n:Nat},n<=g.length ->
  (x∈(fV g n).getD m []↔∃k,k<n/\x=(k:Int)/\∃y,y∈g.getD k []/\y.toNat=m)
 |0,_=>by
  simp only[fV];rw[aE,td];constructor
  ·intro h;split at h<;>simp at h
  rintro⟨k,h,_⟩;omega
 |n+1,hn=>by
  simp only[fV];rw[Vr hg (tJ g n)<|aT _,C1 hg zo];constructor
  ·rintro(⟨k,h1,h2,h3⟩|⟨h,j,hj,e⟩)
   ·exact⟨k,zo,h2,h3⟩
   exact⟨n,zo,h,_,dP hj,e⟩
  rintro⟨k,h1,h2,y,h3,h4⟩;by_cases q:k=n
  ·subst q;obtain⟨j,hj,e⟩:=s7 h3;exact .inr ⟨h2,j,hj,by rw[e];exact h4⟩
  exact .inl ⟨k,zo,h2,y,h3,h4⟩
theorem zrJ:(vd L n t).getD m []=L.getD m []\/((vd L n t).getD m []=L.getD m []++[(n:Int)]/\((L.getD m []).length=0\/(L.getD m []).getD ((L.getD m []).length-1) 0≠(n:Int))):=by
 unfold vd;split
 ·rename_i q;by_cases h:t<L.length
  ·rw[Xi h];split
   ·rename_i e;subst e;exact .inr ⟨rfl,q⟩
   exact .inl rfl
  rw[List.set_eq_of_length_le zo];exact .inl rfl
 exact .inl rfl
theorem Hb{g:aj}{n m:Nat}{L:aj}:∀k,(pf g n k L).getD m []=L.getD m []\/(pf g n k L).getD m []=L.getD m []++[(n:Int)]
 |0=>.inl rfl
 |k+1=>by
  simp only[pf];rcases zrJ (L:=pf g n k L) (n:=n) (t:=((g.getD n []).getD k 0).toNat) (m:=m) with h|⟨h,q⟩
  ·rw[h];exact Hb k
  rcases Hb (g:=g) (n:=n) (m:=m) (L:=L) k with w|w
  ·rw[h,w];exact .inr rfl
  rw[w] at q;exfalso;rcases q with q|q
  ·simp at q
  apply q;rw[cq,jA,Nat.add_sub_cancel,aE,gJ<|aT _,rm];rfl
theorem C4(g:aj):∀n m,((fV g n).getD m []).length<=n
 |0,m=>by
  simp only[fV];rw[aE,td];split<;>simp
 |n+1,m=>by
  simp only[fV];have:=C4 g n m;rcases Hb (g:=g) (n:=n) (m:=m) (L:=fV g n) (g.getD n []).length with h|h
  ·rw[h];omega
  rw[h,cq,jA];omega
section
def Al(n:Int):bh:=[aa n]
@[simp] theorem SL(n:Int):au m<|Al n:=by simp[Al,au,aq]
theorem zso(g:aj)(hg:ph g=0)(hF:jH g):ar ai 178 [bY g]<|bY<|fV g g.length:=by
 obtain⟨hn,bp⟩:=AE.1 hg;refine bK fZ ?_;unfold bY;refine sR ?_;rw[aK];refine⟨zo,zo,zo,?_⟩;rw[bQ];refine sW ?_;refine b8 (Bp 0 1 g.length 0 zs rfl) ?_;refine cJ [3,12,13] (λn:Nat=>[(14,aa n)]) (λn=>.vec true 0 1 (jZ 1<|fV g n)::fO 1 Al (fV g n)) (λn=>n<=g.length) (λn=>g.length-n) 0 ?_;refine sW ?_;refine⟨zo,by exact sK,?_,?_⟩
 ·show _::_=_::_;rw[A9 1 _ Al];exact bJ (λx=>ao.vec true 0 1 x::_)<|Bn (α:=Int) 1 _
 rintro n nD;refine c6 ?_;rw[aK];have lG:=tJ g n;refine sS (λh1=>?_) λh1=>?_
 ·have fk:n<g.length:=sO;refine sL (iL (k:=n) zo fk) ?_;rw[aK];have lx:=hF.at n;have lR:∀k,(pf g n k<|fV g n).length=g.length:=λk=>by rw[GJ,lG]
  refine cJ [3,4,12,13,14,19,20] (λk:Nat=>[(21,aa k)]) (λk=>.vec true 0 1 (jZ 1<|pf g n k<|fV g n)::fO 1 Al (pf g n k<|fV g n)) (λk=>k<=(g.getD n []).length) (λk=>(g.getD n []).length-k) 0 ?_;refine eC ?_;rintro k hk;have hl:=lR k;refine br (λh2=>?_) λh2=>?_
  ·have al:k<(g.getD n []).length:=sO;have hx:=Wv (gY bp n) al;refine sL (cA (k:=k) zo al) ?_;have et:pf g n (k+1) (fV g n)=vd (pf g n k (fV g n)) n ((g.getD n []).getD k 0).toNat:=rfl;generalize (g.getD n []).getD k 0=x at hx et;refine sB ?_;refine⟨_,mh (i:=x.toNat) zo zo,?_⟩;refine sW ?_;refine No zo ?_;refine sW ?_;generalize hR:pf g n k (fV g n)=R at hl et⊢;rw[xG];have dF:(R.getD x.toNat []).length<=n+1:=by
    have h5:=C4 g n x.toNat;rcases Hb (g:=g) (n:=n) (m:=x.toNat) (L:=fV g n) k with h|h
    ·rw[<-hR,h];omega
    rw[<-hR,h,cq,jA];omega
   have eE:vd R n x.toNat=if (R.getD x.toNat []).length=0\/(R.getD x.toNat []).getD ((R.getD x.toNat []).length-1) 0≠(n:Int) then R.set x.toNat<|R.getD x.toNat []++[(n:Int)] else R:=rfl
   cases h3:(((R.getD x.toNat []).length:Int)==0)
   ·refine sW ?_;have bT:(R.getD x.toNat []).length≠0:=sO;refine sB ?_;refine⟨_,mh (i:=x.toNat) zo zo,?_⟩;refine bb ?_;refine No zo ?_;refine sW ?_;refine⟨zo,zo,?_⟩;refine sW ?_;refine No zo ?_;refine sW ?_;refine⟨_,cA (l:=R.getD x.toNat []) (k:=(R.getD x.toNat []).length-1) zo zo,?_⟩;refine sWS (λh4=>?_) λh4=>?_
    ·have tv:(R.getD x.toNat []).length=0\/(R.getD x.toNat []).getD ((R.getD x.toNat []).length-1) 0≠(n:Int):=.inr<|sO;refine sB ?_;refine⟨_,mh (i:=x.toNat) zo zo,?_⟩;refine sW ?_;refine yq ?_;refine sW ?_
     (repeat (first|(refine gL 0 rfl ?_;((conv=>whnf);repeat(refine⟨rfl,?_⟩;conv=>whnf)))|(refine gN 0 rfl ?_;((conv=>whnf);repeat(refine⟨rfl,?_⟩;conv=>whnf)))|(refine gL 1 rfl ?_;((conv=>whnf);repeat(refine⟨rfl,?_⟩;conv=>whnf)))|(refine gN 1 rfl ?_;((conv=>whnf);repeat(refine⟨rfl,?_⟩;conv=>whnf)))))
     refine wN zo ?_;refine sW ?_;refine⟨by unfold je;simp only[lL,gA,bH,bU];omega,?_⟩;refine sW ?_;refine yp (R.getD x.toNat []++[(n:Int)]) zo ?_ ?_
     ·exact x9
     refine bE ?_;refine⟨_,mh (i:=x.toNat) zo zo,?_⟩;refine bb ?_;refine⟨k+1,zo,zd,?_⟩;dsimp only;rw[et,eE,ae tv];refine aR (g.length+1) (by simp[lG]) (by simp[hl]) (by exact sQ) ⟨⟨rfl,rfl,rfl,aZ<|xr zo zo _ zs,xz<|by simp;omega⟩,wL SL⟩
    have tv:¬((R.getD x.toNat []).length=0\/(R.getD x.toNat []).getD ((R.getD x.toNat []).length-1) 0≠(n:Int)):=by
     rintro(q|q)
     ·exact bT q
     exact sO
    refine sI ?_;refine⟨k+1,zo,zd,?_⟩;dsimp only;rw[et,eE,ab tv];exact aL (by exact sK) rfl
   refine sW ?_;have bT:(R.getD x.toNat []).length=0:=sO;have tv:(R.getD x.toNat []).length=0\/(R.getD x.toNat []).getD ((R.getD x.toNat []).length-1) 0≠(n:Int):=.inl bT;refine sB ?_;refine⟨_,mh (i:=x.toNat) zo zo,?_⟩;refine sW ?_;refine yq ?_;refine sW ?_
   (repeat (first|(refine gL 0 rfl ?_;((conv=>whnf);repeat(refine⟨rfl,?_⟩;conv=>whnf)))|(refine gN 0 rfl ?_;((conv=>whnf);repeat(refine⟨rfl,?_⟩;conv=>whnf)))|(refine gL 1 rfl ?_;((conv=>whnf);repeat(refine⟨rfl,?_⟩;conv=>whnf)))|(refine gN 1 rfl ?_;((conv=>whnf);repeat(refine⟨rfl,?_⟩;conv=>whnf)))))
   refine wN zo ?_;refine sW ?_;refine⟨by unfold je;simp only[lL,gA,bH,bU];omega,?_⟩;refine sW ?_;refine yp (R.getD x.toNat []++[(n:Int)]) zo ?_ ?_
   ·exact x9
   refine bE ?_;refine⟨_,mh (i:=x.toNat) zo zo,?_⟩;refine bb ?_;refine⟨k+1,zo,zd,?_⟩;dsimp only;rw[et,eE,ae tv];refine aR (g.length+1) (by simp[lG]) (by simp[hl]) (by exact sQ) ⟨⟨rfl,rfl,rfl,aZ<|xr zo zo _ zs,xz<|by simp;omega⟩,wL SL⟩
  have al:k=(g.getD n []).length:=by have:¬k<(g.getD n []).length:=sO
                                     omega
  subst al;refine sI ?_;refine⟨n+1,zo,zd,?_⟩;exact aL (by exact sK) rfl
 have fk:n=g.length:=by have:¬n<g.length:=sO
                        omega
 subst fk;have:=XN (H:=ao.vec true 0 1 (jZ 1<|fV g g.length)::fO 1 Al (fV g g.length)) (b:=1) (ak:=1) (c:=Al) (L:=fV g g.length) (λi hi=>by
  rw[show i+1=i+1 from rfl,E9];exact xv hi)
 refine .own _ _ _ _ _ _ _ _ rfl ?_;rw[cx<|by simp[lG]];exact this
end
section
variable{Z:ah}{lo hi:Nat}
open Classical in
theorem Fs(h1:lo<hi)(h2:hi<=Z.length):(Z.take hi).drop lo=Z.getD lo 0::(Z.take hi).drop (lo+1):=by
 rw[zZ<|by rw[gA];omega,List.getElem_take,aE,aJ zo];rfl
theorem Ah{k:Int}:((aA Z).take hi).drop lo++[[aa k]]=aA ((Z.take hi).drop lo++[k]):=by
 simp[aA]
end
section
def nu(l:ah):List Nat:=l.map Int.toNat
theorem GV(l r:ah):nu (l++r)=nu l++nu r:=by simp[nu]
theorem CT:n∈nu l↔∃x∈l,x.toNat=n:=by simp[nu]
theorem Wn(x:Int)(r:ah):nu (x::r)=x.toNat::nu r:=rfl
end
section
end
theorem gW.one(g:aj)(v:Nat):gW g [(v:Int)] v:=by
 have:=gW.base (g:=g) (from_:=[(v:Int)]) (x:=(v:Int)) zs;rwa [bQ] at this
variable{g:aj}{u v:Nat}
theorem gW.trans{a:ah}(h:gW g a u)(k:gW g [(u:Int)] v):gW g a v:=by
 induction k with
 |base hx =>
  rw[cB] at hx;subst hx;simpa using h
 |step _ hx ih=>exact .step ih hx
theorem ztx(bp:∀v y,y∈g.getD v []->0<=y/\y.toNat<g.length)(hu:u<g.length):gW g [(u:Int)] v->gW (fV g g.length) [(v:Int)] u:=by
 intro h;have key:∀w,gW g [(u:Int)] w->w<g.length/\gW (fV g g.length) [(w:Int)] u:=by
  intro w hw
  induction hw with
  |base hx =>
   rw[cB] at hx;subst hx;exact⟨by simpa using hu,by rw[bQ];exact gW.one _ u⟩
  |@step a x ha hx ih =>
   have Jx:=bp a x hx;refine⟨Jx.2,?_⟩;have e:(a:Int)∈(fV g g.length).getD x.toNat []:=(C1 (λv y hy=>(bp v y hy).2)<|aT _).2 ⟨a,ih.1,rfl,x,hx,rfl⟩;have s:gW (fV g g.length) [((x.toNat:Nat):Int)] a:=by
    have:=gW.step (g:=fV g g.length) (from_:=[((x.toNat:Nat):Int)]) (u:=x.toNat) (gW.one _ x.toNat) e;rwa [bQ] at this
   exact s.trans ih.2
 exact(key v h).2
theorem zvK(bp:∀v y,y∈g.getD v []->0<=y/\y.toNat<g.length):gW (fV g g.length) [(v:Int)] u->gW g [(u:Int)] v:=by
 intro h;have key:∀w,gW (fV g g.length) [(v:Int)] w->gW g [(w:Int)] v:=by
  intro w hw
  induction hw with
  |base hx =>
   rw[cB] at hx;subst hx;rw[bQ];exact gW.one g v
  |@step a x ha hx ih =>
   obtain⟨k,hk,rfl,y,hy,hya⟩:=(C1 (λv y hy=>(bp v y hy).2)<|aT _).1 hx;rw[bQ];have s:gW g [(k:Int)] y.toNat:=gW.step (u:=k) (gW.one g k) hy;rw[hya] at s;exact s.trans ih
 exact key u h
theorem zys(hl:∀x∈l,0<=x):gW g l v↔∃x∈l,gW g [x] v:=by
 constructor
 ·intro h
  induction h with
  |@base x hx=>exact⟨x,hx,.base zs⟩
  |step _ hx ih=>obtain⟨x,h1,h2⟩:=ih;exact⟨x,h1,.step h2 hx⟩
 rintro⟨x,hx,h⟩;have e:x=((x.toNat:Nat):Int):=by have:=hl x hx;omega
 rw[e] at h;exact gW.trans (.base hx) h
structure SpN(M:aj)(N:List<|List bq)(s:Nat):Prop where
 len:N.length=M.length
 pos:1<=M.length
 few:M.length<=200
 row:∀l∈N,l.length<=60
 LH:∀l∈N,∀x∈l,0<=x.1/\x.1<(s:Int)/\0<=x.2/\x.2<(M.length:Int)
 mark:∀m∈M,m.length<=30/\∀x∈m,0<=x
variable{M:aj}{s:Nat}
theorem SpN.rowAt(h:SpN M N s)(i:Nat):(N.getD i []).length<=60:=by
 rw[aE]
 cases e:N[i]? with
 |none=>simp
 |some l=>exact h.row l<|nB e
theorem zq2{l:List bq}(h:k<l.length):l.getD k (0,0)∈l:=by
 rw[aE,aJ h];exact ib h
variable{i:Nat}
theorem SpN.NR(h:SpN M N s)(hk:k<(N.getD i []).length):0<=((N.getD i []).getD k (0,0)).1/\((N.getD i []).getD k (0,0)).1<(s:Int)/\0<=((N.getD i []).getD k (0,0)).2/\((N.getD i []).getD k (0,0)).2<(M.length:Int):=by
 have hm:=zq2 hk;have hi:N.getD i []∈N:=by
  rw[aE] at hk⊢
  cases e:N[i]? with
  |none=>rw[e] at hk;simp at hk
  |some l=>exact nB e
 exact h.LH _ hi _ hm
variable{z:Nat}
theorem EW{L:List<|List bq}(hz:z=k)(h:k<L.length):(kI L)[z]? = some [l7<|L.getD k []]:=by
 rw[XY hz h,aE,aJ h];rfl
def Bb(M:aj)(N:List<|List bq):bh:=[bY M,.aM 1<|kI N]
structure Jo(P:af)(M:aj)(N:List<|List bq):Prop where
 sp:SpN M N P.bd.length
 steps:P.dI=0
def kK(N:List<|List bq)(m:Nat):ah:=gl m λt=>(bm N t:Int)
def mO(N:List<|List bq)(m:Nat):ah:=gl m λt=>(im N t:Int)
theorem Ss(n:Nat)(g:Nat->Int):gl (n+1) g=gl n g++[g n]:=by simp[gl,qy]
def uA(N:List<|List bq)(m k:Nat):List bq:=((N.getD m []).take k).map λx=>(x.1,(m:Int))
theorem UD(N:List<|List bq)(m:Nat):uA N m 0=[]:=by simp[uA]
theorem Rt(h:k<(N.getD m []).length):uA N m (k+1)=uA N m k++[(((N.getD m []).getD k (0,0)).1,(m:Int))]:=by
 unfold uA;rw[lI,aJ h,aE (l:=N.getD m []),aJ h,nZ];rfl
theorem QY(h:k<=(N.getD m []).length):(uA N m k).length=k:=by
 simp only[uA,aK,gA];omega
theorem xY(N:List<|List bq)(m:Nat):(bW N m).length=bm N m:=rfl
theorem PQ(N:List<|List bq)(m:Nat):bW N (m+1)=if (N.getD m []).length=0 then bW N m++[(-1,(m:Int))] else bW N m++uA N m (N.getD m []).length:=by
 simp only[bW,mw,uA,eZ];split<;>rfl
theorem Wx{N:List<|List bq}{c:Nat}(h:∀i,(N.getD i []).length<=c)(hc:1<=c):∀m,bm N m<=c*m
 |0=>by simp[bm,bW]
 |m+1=>by
  rw[oO,pB,Nat.mul_succ];have:=Wx h hc m;have:=h m;split<;>omega
theorem B4(h:SpN M N s)(hm:m<=N.length):bm N m<=12000:=by
 have h1:=Wx (N:=N) (c:=60) h.rowAt zo m;have:=h.few;have:=h.len;omega
theorem Tn(h:SpN M N s)(m:Nat):im N m<=60:=by
 rw[pB];have:=h.rowAt m;split<;>omega
theorem XI(N:List<|List bq)(m:Nat):max (1:Int) ((N.getD m []).length:Int)=(im N m:Int):=by
 rw[pB];split<;>omega
def vr(L:List b7)(M:aj)(N:List<|List bq)(o a y:D):bh :=
 [m4 L,bY M,.aM 1<|kI N,o,a,y,ax,ax,ax,ax]
theorem zlM(L:List b7)(M:aj)(N:List<|List bq)(s:Nat)(hS:SpN M N s) :
  cp ai 30 [.loc 0 0] [.row true<|vr L M N ax ax ax] (aD<|decide ((bm N N.length:Int)<=600))
   [.row true<|vr L M N (.own 1 (bm N N.length) 0<|bm N N.length) (.own 2 N.length 0 N.length) (.own 3 N.length 0 N.length),.vec true (bm N N.length) 2<|iR<|bW N N.length,.vec true N.length 1<|aA<|kK N N.length,.vec true N.length 1<|aA<|mO N N.length]:=by
 have hf:=hS.few;have hl:=hS.len;refine iV fZ zs zs ?_ (by simp[aq]) (by simp[ao.under,vr,au,aq]);unfold vr;refine sR ?_;rw[Yf];refine b8 (kS (iq 0 3 2 zs rfl rfl)<|kS (iq 0 4 1 zs rfl rfl)<|iq 0 5 1 zs rfl rfl) ?_
 refine cJ [0,11,12] (λ((m,a):Nat×Nat)=>[(13,aa m)])
  (λ(m,a)=>[.row true [m4 L,bY M,.aM 1<|kI N,.own 1 a 0 a,.own 2 m 0 m,.own 3 m 0 m,ax,ax,ax,ax],.vec true a 2<|iR<|bW N m,.vec true m 1<|aA<|kK N m,.vec true m 1<|aA<|mO N m])
  (λ(m,a)=>m<=N.length/\a=bm N m) (λ(m,a)=>N.length-m) (0,0) ?_
 refine sW ?_;refine⟨⟨zo,rfl⟩,by exact sK,rfl,?_⟩;rintro⟨m,a⟩ ⟨hm,ha⟩;have haS:=B4 hS hm;refine br (λh1=>?_) λh1=>?_
 ·have uE:m<N.length:=sO;have lx:=hS.rowAt m;have la1:kK N (m+1)=kK N m++[(bm N m:Int)]:=Ss _ _;have la2:mO N (m+1)=mO N m++[(im N m:Int)]:=Ss _ _;have e1:=PQ N m;have e2:=oO N m;have e3:=pB N m;have e4:=XI N m;have bp:=λk (hk:k<(N.getD m []).length)=>Rt hk;have Kr:=λk (hk:k<=(N.getD m []).length)=>QY hk;have l1:(kK N m).length=m:=(by simp[kK]);have l2:(mO N m).length=m:=(by simp[mO]);have l3:(bW N m).length=a:=(by rw[ha];rfl);have iI:=UD N m;have hmp:=Tn hS m;refine sL (EW (L:=N) (k:=m) zo uE) ?_;generalize N.getD m []=l at *;refine sJ ?_;rw[tu]
  refine cJ [0,3,4,11,12,13,32,33] (λ((k,c):Nat×Nat)=>[(34,aa k)])
   (λ(k,c)=>[.row true [m4 L,bY M,.aM 1<|kI N,.own 1 c 0 c,.own 2 (m+1) 0<|m+1,.own 3 m 0 m,ax,ax,ax,ax],.vec true c 2<|iR<|bW N m++uA N m k,.vec true (m+1) 1<|aA<|kK N m++[(bm N m:Int)],.vec true m 1<|aA<|mO N m,.vec true 0 1 [[aa a]]])
   (λ(k,c)=>k<=l.length/\c=a+k) (λ(k,c)=>l.length-k) (0,a) ?_
  refine sW ?_;refine⟨⟨zo,rfl⟩,by exact sK,?_,?_⟩
  ·have hx:List.drop 0 (List.take m<|aA<|kK N m)++[[aa ((a-0:Nat):Int)]]=aA (kK N m++[(bm N m:Int)]):=(by rw[nk l1.symm,xG,ha]);dsimp only;rw[iI,kM,<-hx];rfl
  rintro⟨k,c⟩ ⟨hk,hc⟩;have tz:=Kr k hk;refine br (λh2=>?_) λh2=>?_
  ·have al:k<l.length:=sO;have gT:=bp k al;refine sL (ni (k:=k) zo al) ?_;generalize l.getD k (0,0)=x at gT;refine fA ?_;refine⟨(k+1,c+1),⟨zo,zo⟩,zd,?_⟩;dsimp only;rw[gT];refine aR 5 zs rfl sQ (sU ?_);rw[<-gy];exact aZ<|zu<|by rw[cq,l3,tz,hc]
  have al:k=l.length:=by have:¬k<l.length:=sO
                         omega
  subst al;rw[tu];refine sS (λh3=>?_) λh3=>?_
  ·have h3:l.length=0:=sO;rw[ae h3] at e1 e3;refine sJ ?_;rw[tu,e4];refine fA ?_;refine⟨(m+1,c+1),⟨zo,zo⟩,zd,?_⟩;dsimp only;rw[la1,la2,e1]
   (refine aR 4 zs rfl ?_ ?_<;>(repeat' (first|exact trivial|exact rfl|exact .refl _|refine And.intro ?_ ?_|(simp[aq,au,bg,-List.map_take,-List.map_drop];done))))
   ·refine aZ ?_;rw[h3,iI,kM];exact zu zo
   exact aZ<|nk l2.symm
  have h3:¬l.length=0:=sO;rw[ab h3] at e1 e3;rw[tu,e4];refine fA ?_;refine⟨(m+1,c),⟨zo,zo⟩,zd,?_⟩;dsimp only;rw[la1,la2,e1];refine aR 4 zs rfl sQ (sU ?_);exact aZ<|nk l2.symm
 have uE:m=N.length:=by have:¬m<N.length:=sO
                        omega
 subst uE;subst ha;rw[xG];exact⟨rfl,rfl,aT _⟩
def n9(l:ah):fE:=l.map λn=>[.sc (.int .u64 n)]
variable(l:ah)
@[simp] theorem M5:fc<|n9 l:=db _ (λl=>by simp[an,Pure]) l
@[simp] theorem zxy:bg m (n9 l)↔True:=⟨λ_=>trivial,λ_=>aV _<|M5 l⟩
variable{c:Nat}
theorem EL{l:ah}(h:c=l.length):List.drop 0 (List.take c<|n9 l)++[[D.sc (.int .u64 x)]]=n9 (l++[x]):=by
 rw[fQ,jd<|by simp[h,n9]];simp[n9]
def ox(L:List b7)(M:aj)(N:List<|List bq)(dS:D)(a x b y c z:Nat):bh :=
 [m4 L,bY M,.aM 1<|kI N,l7<|bW N N.length,aO<|kK N N.length,aO<|mO N N.length,dS,.own a x 0 x,.own b y 0 y,.own c z 0 z]
def ku(L:List b7)(M:aj)(N:List<|List bq)(dS:D)(x y z:Nat)(X:aj)(Y:ah)(Z:aj):aF :=
 [.row true<|ox L M N dS 1 x 2 y 3 z,.vec true x 1<|eQ X,.vec true y 1<|n9 Y,.vec true z 1<|eQ Z]
variable{L:List b7}{ρ:Nat->Nat}{dS:D}{b y:Nat}
theorem ZW(hd:Pure dS){x:Nat}:bP ρ (ox L M N dS a x b y c z)=ox L M N dS (ρ a) x (ρ b) y (ρ c) z:=by
 have h1:=iT (ρ:=ρ) _<|IG L;have h2:=iT (ρ:=ρ) _<|mj M;have h3:=iT (ρ:=ρ) (.aM 1<|kI N) (by simp only[Pure];exact zM N);have h4:=iT (ρ:=ρ) _<|xJ<|bW N N.length;have h5:=iT (ρ:=ρ) _<|cG<|kK N N.length;have h6:=iT (ρ:=ρ) _<|cG<|mO N N.length;have h7:=iT (ρ:=ρ) _ hd;unfold ox;simp only[bP,h1,h2,h3,h4,h5,h6,h7];rfl
theorem zpG(hd:Pure dS){x:Nat}(ha:a<k)(hb:b<k)(hc:c<k):au k<|ox L M N dS a x b y c z:=by
 have h1:=bw (m:=k) _<|IG L;have h2:=bw (m:=k) _<|mj M;have h3:=bw (m:=k) (.aM 1<|kI N) (by simp only[Pure];exact zM N);have h4:=bw (m:=k) _<|xJ<|bW N N.length;have h5:=bw (m:=k) _<|cG<|kK N N.length;have h6:=bw (m:=k) _<|cG<|mO N N.length;have h7:=bw (m:=k) _ hd;unfold ox;exact⟨h1,h2,h3,h4,h5,h6,h7,ha,hb,hc,trivial⟩
variable{X Z:aj}{Y:ah}
theorem PH(hk:4<=k)(hd:Pure dS){x:Nat}:fo k (ku L M N dS x y z X Y Z) :=
 ⟨zpG hd zo zo zo,by simp[ao.under],by simp[ao.under],by simp[ao.under],trivial⟩
theorem CU(hd:Pure dS){x:Nat}{G R:aF}:vZ 4 G (ku L M N dS x y z X Y Z++R) (ku L M N dS x y z X Y Z) :=
 ln _ _ λo ho=>AY (PH (aT _) hd) o ho
theorem EB{f:FuncId}{rest:bh}{d:D}{L:List b7}{M:aj}{N:List<|List bq}(hd:Pure dS){x y z:Nat}{X:aj}{Y:ah}{Z:aj}
  (hA:cp ai f (.loc 0 0::rest) (ku L M N dS x y z X Y Z) d<|ku L M N dS x y z X Y Z) (hr:an rest) (hp:Pure d) {H:aF} (m a b c:Nat) (hn:[m,a,b,c].Nodup)
  (h0:H[m]? = some (.row true<|ox L M N dS a x b y c z)) (h1:H[a]? = some (.vec true x 1<|eQ X)) (h2:H[b]? = some (.vec true y 1<|n9 Y)) (h3:H[c]? = some (.vec true z 1<|eQ Z)):Br ai f (.loc m 0::rest) H d [m,a,b,c]:=by
 refine OM hA [m,a,b,c] rfl hn ⟨by simp[aq,ku],bu _ hr⟩ (PH (aT _) hd) (by simp only[bP,mo _ hr];rfl) (iT _ hp) (λi o ho=>?_) m zs h0 zs (λid hid=>?_)
 ·have key:∀{i:Nat} {q p:ao},(ku L M N dS x y z X Y Z)[i]? = some q->H[[m,a,b,c].getD i 0]? = some p->q.aQ (λi=>[m,a,b,c].getD i 0)=p->(ku L M N dS x y z X Y Z)[i]? = some o->H[[m,a,b,c].getD i 0]? = some (o.aQ λi=>[m,a,b,c].getD i 0):=λk1 k2 k3 k4=>by
   rw[k1] at k4;cases k4;rw[k3];exact k2
  match i with
  |0=>exact key rfl h0 (by simp only[ao.aQ,ZW hd];rfl) ho
  |1=>exact key rfl h1 (by simp only[ao.aQ,kQ _<|EF X]) ho
  |2=>exact key rfl h2 (by simp only[ao.aQ,kQ _<|M5 Y]) ho
  |3=>exact key rfl h3 (by simp only[ao.aQ,kQ _<|EF Z]) ho
  |i+4=>simp[ku] at ho
 simp only[dZ,rH,or_false] at hid;rcases hid with rfl|rfl|rfl|rfl
 ·exact .inl rfl
 ·exact .inr ⟨x,0,x,by simp[ox]⟩
 ·exact .inr ⟨y,0,y,by simp[ox]⟩
 exact .inr ⟨z,0,z,by simp[ox]⟩
@[simp] theorem WL(v:aP):Pure (.sc v):=by simp[Pure]
theorem zsu(h:k<im N t):(iF N t).take (k+1)=(iF N t).take k++[((bm N t+k:Nat):Int)]:=by
 have hl:=Gv N t;rw[lI,aJ zo];simp[iF]
variable(L:List b7)
theorem VQ(M:aj)(N:List<|List bq)(s:Nat)(hS:SpN M N s)(dS:D)(hd:Pure dS)(x y z:Nat)(X:aj)(Y:ah)(Z:aj)(t:Nat)(ht:t<N.length):cp ai 33 [.loc 0 0,aa t] (ku L M N dS x y z X Y Z) (aO<|iF N t)<|ku L M N dS x y z X Y Z:=by
 have hf:=hS.few;have hl:=hS.len;have ha:=B4 hS (m:=t) zo;have hm:=Tn hS t;have Sn:=Gv N t;refine sy fZ zs (by simp[ku]) ?_ (by simp[aq]);unfold ku ox;refine sR ?_;refine sL (cA (l:=mO N N.length) (k:=t) zo<|by simpa [mO] using ht) ?_;rw[show(mO N N.length).getD t 0=(im N t:Int) from C' ht];refine b8 (fL 5 1 zs rfl) ?_;refine bt [0,1,13] (λk:Nat=>[(5,.own 4 k 0 k),(14,aa k)]) (λk=>[(4,.vec true k 1<|aA<|(iF N t).take k)]) (λk=>k<=im N t) (λk=>im N t-k) 0 ?_;refine eC ?_;rintro k hk;refine br (λh1=>?_) λh1=>?_
 ·have al:k<im N t:=sO;refine sL (cA (l:=kK N N.length) (k:=t) zo<|by simpa [kK] using ht) ?_;rw[show(kK N N.length).getD t 0=(bm N t:Int) from C' ht];refine sI ?_;refine fA ?_;refine⟨k+1,zo,zd,?_⟩;dsimp only;rw[zsu al];have e:(bm N t:Int)+(k:Int)=((bm N t+k:Nat):Int):=zo;rw[e];have ck:((iF N t).take k).length=k:=by rw[gA];omega
  (refine aR 5 zs rfl ?_ ?_<;>(repeat' (first|exact trivial|exact rfl|exact .refl _|refine And.intro ?_ ?_|(simp[aq,au,bg,-List.map_take,-List.map_drop];done))))
  ·exact bw _ hd
  exact aZ<|nk ck.symm
 have al:k=im N t:=by have:¬k<im N t:=sO
                      omega
 subst al;rw[jd zo];exact⟨.own _ _ _ _ _ _ _ _ rfl rfl (aZ<|cx<|by simp[aA];omega),CU hd⟩
theorem HS{l:List bq}(h:k<l.length):l[k]? = some (l.getD k (0,0)):=by
 rw[aE,aJ h];rfl
theorem HZ(h0:(N.getD m []).length≠0)(hk:k<im N m):(mw N m).getD k (0,0)=(((N.getD m []).getD k (0,0)).1,(m:Int))/\(ly N m).getD k 0=((N.getD m []).getD k (0,0)).2:=by
 rw[pB,ab h0] at hk;unfold mw ly;rw[ab h0,ab h0];constructor
 ·rw[aE,cU,HS hk];rfl
 rw[aE,cU,HS hk];rfl
theorem Iz(h0:(N.getD m []).length=0):(mw N m).getD 0 (0,0)=(-1,(m:Int))/\(ly N m).getD 0 0=(m:Int):=by
 unfold mw ly;rw[ae h0,ae h0];exact⟨rfl,rfl⟩
theorem YH(M:aj)(N:List<|List bq)(s:Nat)(hS:SpN M N s)(dS:D)(hd:Pure dS)(x y z:Nat)(X:aj)(Y:ah)(Z:aj)(m k:Nat)(hm:m<N.length)(hk:k<im N m):cp ai 31 [.loc 0 0,aa ((bm N m+k:Nat):Int)] (ku L M N dS x y z X Y Z) (aO<|iF N ((ly N m).getD k 0).toNat)<|ku L M N dS x y z X Y Z:=by
 have hf:=hS.few;have hl:=hS.len;have ha:=B4 hS (m:=m+1) zo;have gV:=u9 (N:=N) (show m+1<=N.length by omega);have Yu:=oO N m;have oT:=xY N N.length;have gb:=vn hk N.length hm;have bR:=λt (ht:t<N.length)=>VQ L M N s hS dS hd x y z X Y Z t ht;refine sy fZ zs (by simp[ku]) ?_ (by simp[aq]);by_cases h0:(N.getD m []).length=0
 ·have tL:k=0:=(by rw[pB,ae h0] at hk;omega);subst tL;obtain⟨e1,e2⟩:=Iz h0;rw[e2,bQ,Yw h0];rw[e1] at gb;unfold ku ox;refine sR ?_;refine⟨zo,_,ni (l:=bW N N.length) (k:=bm N m+0) zo zo,?_⟩;rw[gb];refine sW ?_;exact⟨.own _ _ _ _ _ _ _ _ rfl rfl (.refl _),CU hd⟩
 obtain⟨e1,e2⟩:=HZ h0 hk;rw[e1] at gb;have al:k<(N.getD m []).length:=by rw[pB,ab h0] at hk;exact hk
 have he:=hS.NR al;have cW:=EW (L:=N) (z:=(m:Int).toNat) (k:=m) zo hm;have Hw:=ni (l:=N.getD m []) (z:=k) (k:=k) rfl al;rw[e2];generalize (N.getD m []).getD k (0,0)=e at *;have hA:=bR e.2.toNat zo;rw[show((e.2.toNat:Nat):Int)=e.2 by omega] at hA;unfold ku ox;refine sR ?_;refine⟨zo,_,ni (l:=bW N N.length) (k:=bm N m+k) zo zo,?_⟩;rw[gb];refine sWS (λh1=>?_) λh1=>?_
 ·exfalso;exact sO
 refine sL (cW) ?_;refine sL (cA (l:=kK N N.length) (k:=m) zo<|by simpa [kK] using hm) ?_;rw[show(kK N N.length).getD m 0=(bm N m:Int) from C' hm];refine sI ?_;refine sL ((show(iR<|N.getD m [])[(((bm N m+k:Nat):Int)-(bm N m:Int)).toNat]? = _ by rw[show(((bm N m+k:Nat):Int)-(bm N m:Int)).toNat=k by omega];exact Hw)) ?_;refine sX (EB hd hA (by simp[an,Pure]) (cG _) 0 1 2 3 zc rfl rfl rfl rfl) ?_;exact⟨.refl _,CU hd⟩
def ss(L:List b7)(z:Int):Int:=if z<0 then 9223372036854775808 else 2^(L.getD z.toNat (0,0,0)).1.toNat
theorem Ui{z:Int}(hk:z=k)(h:k<=63):(1:Int)*2^min z.toNat IntKind.u64.bits=2^k:=by
 subst hk;rw[bQ,Int.one_mul,sq<|by show k<=64;omega]
theorem Xg(h:k<=63):dQ .u64<|(2:Int)^k:=by
 have h1:=JJ k;have h2:=Fx (k:=k) (n:=63) h;have h3:(2:Int)^63=9223372036854775808:=zc;unfold dQ IntKind.wrap;simp only[IntKind.bits,IntKind.signed];have h4:(2:Int)^64=18446744073709551616:=zc;simp;omega
theorem zo5(M:aj)(N:List<|List bq)(s:Nat)(hS:SpN M N s)(dS:D)(hd:Pure dS)(x y z:Nat)(X:aj)(Y:ah)(Z:aj)(hL:∀j,j<L.length->0<=(L.getD j (0,0,0)).1/\(L.getD j (0,0,0)).1<=63)(hs:s=L.length)(m k:Nat)(hm:m<N.length)(hk:k<im N m):cp ai 32 [.loc 0 0,aa ((bm N m+k:Nat):Int)] (ku L M N dS x y z X Y Z) (.sc (.int .u64<|ss L ((mw N m).getD k (0,0)).1))<|ku L M N dS x y z X Y Z:=by
 have hf:=hS.few;have hl:=hS.len;have ha:=B4 hS (m:=m+1) zo;have gV:=u9 (N:=N) (show m+1<=N.length by omega);have Yu:=oO N m;have oT:=xY N N.length;have gb:=vn hk N.length hm;refine sy fZ zs (by simp[ku]) ?_ (by simp[aq]);by_cases h0:(N.getD m []).length=0
 ·have tL:k=0:=(by rw[pB,ae h0] at hk;omega);subst tL;obtain⟨e1,e2⟩:=Iz h0;rw[e1];rw[e1] at gb;unfold ku ox;refine sR ?_;refine⟨zo,_,ni (l:=bW N N.length) (k:=bm N m+0) zo zo,?_⟩;rw[gb];refine sW ?_;exact⟨.refl _,CU (R:=[]) hd⟩
 obtain⟨e1,e2⟩:=HZ h0 hk;rw[e1] at gb⊢;have al:k<(N.getD m []).length:=by rw[pB,ab h0] at hk;exact hk
 have he:=hS.NR al;generalize (N.getD m []).getD k (0,0)=e at *;have AX:=hL e.1.toNat zo;have e3:ss L e.1=2^(L.getD e.1.toNat (0,0,0)).1.toNat:=by unfold ss;rw[ab zo]
 unfold ku ox;refine sR ?_;refine⟨zo,_,ni (l:=bW N N.length) (k:=bm N m+k) zo zo,?_⟩;rw[gb];refine sWS (λh1=>?_) λh1=>?_
 ·exfalso;exact sO
 refine⟨zo,_,ni (l:=bW N N.length) (k:=bm N m+k) zo zo,?_⟩;rw[gb];refine sW ?_;refine sL (xg (k:=e.1.toNat) zo zo) ?_;generalize L.getD e.1.toNat (0,0,0)=st at *;refine⟨zo,?_⟩;rw[Ui (k:=st.1.toNat) zo zo,<-e3];refine .inl ⟨by rw[e3];exact Xg zo,?_⟩;refine sW ?_;exact⟨.refl _,CU (R:=[]) hd⟩
theorem zsP(M:aj)(N:List<|List bq)(s:Nat)(hS:SpN M N s)(dS:D)(hd:Pure dS)(x y z:Nat)(X:aj)(Y:ah)(Z:aj)(st:Int):cp ai 34 [.loc 0 0,aa st] (ku L M N dS x y z X Y Z) (aO<|mV N (bW N N.length) st<|bm N N.length)<|ku L M N dS x y z X Y Z:=by
 have hf:=hS.few;have hl:=hS.len;have ha:=B4 hS (m:=N.length) zo;have oT:=xY N N.length;refine sy fZ zs (by simp[ku]) ?_ (by simp[aq]);unfold ku ox;refine sR ?_;rw[tu,oT];refine b8 (fL 5 1 zs rfl) ?_;refine bt [0,1,14,15] (λ((k,c,l):Nat×Nat×ah)=>[(5,.own 4 c 0 c),(16,aa k)]) (λ(k,c,l)=>[(4,.vec true c 1<|aA l)]) (λ(k,c,l)=>k<=bm N N.length/\c=l.length/\c<=k/\l=mV N (bW N N.length) st k) (λ(k,c,l)=>bm N N.length-k) (0,0,[]) ?_;refine sW ?_;refine⟨⟨zo,rfl,zo,rfl⟩,by exact sK,rfl,?_⟩;rintro⟨k,c,l⟩ ⟨hk,hc,ow,iS⟩;refine br (λh1=>?_) λh1=>?_
 ·have al:k<bm N N.length:=sO;obtain⟨m,j,q1,q2,q3⟩:=zL al;have gb:=vn q2 N.length q1;rw[<-q3] at gb;have pP:=Dj q2;have eT:mV N (bW N N.length) st (k+1)=if Co N ((bW N N.length).getD k (0,0)).2.toNat st=false\/((bW N N.length).getD k (0,0)).1=st then mV N (bW N N.length) st k++[(k:Int)] else mV N (bW N N.length) st k:=rfl
  refine⟨zo,_,ni (l:=bW N N.length) (k:=k) zo zo,?_⟩;rw[gb] at eT⊢;generalize (mw N m).getD j (0,0)=e at eT pP;rw[pP,bQ,<-iS] at eT;obtain⟨e1,e2⟩:=e;dsimp only at pP eT;subst pP;refine sW ?_;have lx:=hS.rowAt m;refine sL (EW (L:=N) (k:=m) zo q1) ?_;rw[tu];refine bt [0,1,5,6,7,14,15,16,29,30] (λ((j,b):Nat×Bool)=>[(8,aD b),(31,aa j)]) (λ_=>[]) (λ(j,b)=>j<=(N.getD m []).length/\b=((N.getD m []).take j).any λy=>y.1==st) (λ(j,b)=>(N.getD m []).length-j) (0,false) ?_;refine sW ?_;refine⟨⟨zo,zs⟩,by exact sK,rfl,?_⟩;rintro⟨j,b⟩ ⟨hj,hb⟩;refine br (λh2=>?_) λh2=>?_
  ·have jf:j<(N.getD m []).length:=sO;refine sL (ni (k:=j) zo jf) ?_;have iD:((N.getD m []).take<|j+1).any (λy=>y.1==st)=(b||(((N.getD m []).getD j (0,0)).1==st)):=by
    rw[lI,HS jf,wW,<-hb];simp
   generalize (N.getD m []).getD j (0,0)=e at iD;cases b
   ·refine bb ?_;refine⟨(j+1,e.1==st),⟨zo,by rw[iD];rfl⟩,zd,?_⟩;refine aR 6 zs rfl sQ (sU ?_);exact bw _ hd
   refine bb ?_;refine⟨(j+1,true),⟨zo,by rw[iD];rfl⟩,zd,?_⟩;refine aR 6 zs rfl sQ (sU ?_);exact bw _ hd
  have jf:j=(N.getD m []).length:=by have:¬j<(N.getD m []).length:=sO
                                     omega
  subst jf;rw[eZ] at hb;have hb:b=Co N m st:=hb;rw[<-hb] at eT;cases b
  ·refine sW ?_;rw[ae (.inl rfl)] at eT;refine fA ?_;refine⟨(k+1,c+1,l++[(k:Int)]),⟨zo,by simp[hc],zo,eT.symm⟩,zd,?_⟩
   (refine aR 5 zs rfl ?_ ?_<;>(repeat' (first|exact trivial|exact rfl|exact .refl _|refine And.intro ?_ ?_|(simp[aq,au,bg,-List.map_take,-List.map_drop];done))))
   ·exact bw _ hd
   exact aZ<|nk hc
  refine sWS (λh3=>?_) λh3=>?_
  ·have h3:e1=st:=sO;rw[ae (.inr h3)] at eT;refine fA ?_;refine⟨(k+1,c+1,l++[(k:Int)]),⟨zo,by simp[hc],zo,eT.symm⟩,zd,?_⟩
   (refine aR 5 zs rfl ?_ ?_<;>(repeat' (first|exact trivial|exact rfl|exact .refl _|refine And.intro ?_ ?_|(simp[aq,au,bg,-List.map_take,-List.map_drop];done))))
   ·exact bw _ hd
   exact aZ<|nk hc
  have h3:¬e1=st:=sO;rw[ab λq=>q.elim (λq=>by cases q) h3] at eT;refine sI ?_;refine⟨(k+1,c,l),⟨zo,hc,zo,eT.symm⟩,zd,?_⟩;refine aR 5 zs rfl sQ (sU ?_);exact bw _ hd
 have al:k=bm N N.length:=by have:¬k<bm N N.length:=sO
                             omega
 subst al;rw[<-iS];exact⟨.own _ _ _ _ _ _ _ _ rfl rfl (aZ<|cx<|by simp[aA];omega),CU hd⟩
def jt(N:List<|List bq):aj:=(lf N N.length).map λt=>iF N t.toNat
def nG(L:List b7)(N:List<|List bq):ah:=(bW N N.length).map λx=>ss L x.1
def oR(L:List b7)(N:List<|List bq):aj:=(List.range L.length).map λ(k:Nat)=>mV N (bW N N.length) (k:Int)<|bm N N.length
theorem GL(N:List<|List bq):(jt N).length=bm N N.length:=by simp[jt,xI]
theorem OB(N:List<|List bq):(nG L N).length=bm N N.length:=by simp[nG,xY]
theorem MH(N:List<|List bq):(oR L N).length=L.length:=by simp[oR]
theorem La{β:Type}{f:α->β}{l:List α}{d:α}(h:i<l.length):(l.map f).take (i+1)=(l.map f).take i++[f<|l.getD i d]:=by
 rw[lI,cU,aJ h,aE,aJ h];rfl
theorem WK(hm:m<N.length)(hk:k<im N m):(jt N).take (bm N m+k+1)=(jt N).take (bm N m+k)++[iF N ((ly N m).getD k 0).toNat]:=by
 have h1:=u9 (N:=N) (show m+1<=N.length by omega);rw[oO] at h1;unfold jt;rw[La (d:=0)<|by rw[xI];omega,HK hk N.length hm]
variable{L:List b7}
theorem Rz(hm:m<N.length)(hk:k<im N m):(nG L N).take (bm N m+k+1)=(nG L N).take (bm N m+k)++[ss L ((mw N m).getD k (0,0)).1]:=by
 have h1:=u9 (N:=N) (show m+1<=N.length by omega);rw[oO] at h1;unfold nG;rw[La (d:=(0,0))<|by rw[xY];omega,vn hk N.length hm]
theorem WR(h:k<L.length):(oR L N).take (k+1)=(oR L N).take k++[mV N (bW N N.length) (k:Int)<|bm N N.length]:=by
 unfold oR;rw[La (d:=0)<|by simpa using h];simp[aE,qI,h]
def NH(l:ah):D:=.aM 1<|n9 l
def ur(start:ah)(next:aj)(label:ah)(fair:aj):D:=.agg [aO start,bY next,NH label,bY fair]
@[simp] theorem zpC:Pure<|NH l:=by simp only[NH,Pure];exact M5 l
@[simp] theorem XB(start:ah)(next:aj)(label:ah)(fair:aj):Pure<|ur start next label fair:=by simp[ur,Pure,an,cG,mj,zpC]
theorem Qf{o a y:D}:bP ρ (vr L M N o a y)=vr L M N (D.aQ ρ o) (D.aQ ρ a) (D.aQ ρ y):=by
 have h1:=iT (ρ:=ρ) _<|IG L;have h2:=iT (ρ:=ρ) _<|mj M;have h3:=iT (ρ:=ρ) (.aM 1<|kI N) (by simp only[Pure];exact zM N);unfold vr;simp only[bP,h1,h2,h3];rfl
theorem zr3(L:List b7)(M:aj)(N:List<|List bq)(s:Nat)(hS:SpN M N s)(o0 o1 o2:ao) :
  pJ ai 30 [.loc 3 0] [o0,o1,o2,.row true<|vr L M N ax ax ax] (aD<|decide ((bm N N.length:Int)<=600))
   [o0,o1,o2,.row true<|vr L M N (.own 4 (bm N N.length) 0<|bm N N.length) (.own 5 N.length 0 N.length) (.own 6 N.length 0 N.length),.vec true (bm N N.length) 2<|iR<|bW N N.length,.vec true N.length 1<|aA<|kK N N.length,.vec true N.length 1<|aA<|mO N N.length] [3,4,5,6]:=by
 refine SB (zlM L M N s hS) [3] rfl zs (by simp[au,aq]) (by simp[fo,ao.under,vr,au,aq]) [3,4,5,6] rfl rfl rfl (λi o ho=>?_) ?_
 ·match i with
  |0 =>
   simp at ho;subst ho;simp only[ao.aQ,Qf];rfl
  |i+1=>simp at ho
 simp only[bH,bU,u4,r7,Eg,fQ,fi,gm,ao.aQ,Qf,kQ _<|D6 _,zlO,mJ];rfl
variable(P:af)
theorem zu1(hP:P.Fits)(tok st:Int)(he:P.dL tok st≠0):ar ai 7 [cm P,aa tok,aa st] (.aI [ur [] [] [] [],l7 [],aa<|P.dL tok st]):=by
 have hE:=WQ P hP tok st;refine bK fZ ?_;generalize P.dL tok st=e at *;refine sR ?_;refine sC hE ?_;refine sS (λh1=>?_) λh1=>?_
 ·exact .aI _ _ (.cons _ _ _ _ (.agg _ _ (.cons _ _ _ _ (.none _) (.cons _ _ _ _ (.none _) (.cons _ _ _ _ (.none _) (.cons _ _ _ _ (.none _) .nil))))) (.cons _ _ _ _ (.none _) (.cons _ _ _ _ (.refl _) .nil)))
 exfalso;exact sO
theorem EJ(hP:P.Fits)(tok st:Int)(he:P.dL tok st=0)(hF:Jo P (P.exM tok st)<|P.cj tok st):ar ai 7 [cm P,aa tok,aa st]
  (if bm (P.cj tok st) (P.cj tok st).length<=600 then .aI [ur (iF (P.cj tok st) 0) (jt<|P.cj tok st) (nG P.bd<|P.cj tok st)<|oR P.bd<|P.cj tok st,l7<|bW (P.cj tok st) (P.cj tok st).length,aa 0] else .aI [ur [] [] [] [],l7 [],aa 2]):=by
 have hE:=WQ P hP tok st;rw[he] at hE;generalize P.exM tok st=M at *;generalize P.cj tok st=N at *;have hS:=hF.sp;have hf:=hS.few;have hl:=hS.len;have l5:=hS.pos;obtain⟨h0,_,qB⟩:=af.kY hF.steps;have AX:∀j,j<P.bd.length->0<=(P.bd.getD j (0,0,0)).1/\(P.bd.getD j (0,0,0)).1<=63:=λj hj=>by
  have h1:=(af.zb hF.steps hj).node;have:=(jV h0).1;omega
 refine dC fZ zs (by simp[an,Pure,sr]) ?_ (by split<;>simp[Pure,an,XB,xJ]);refine sR ?_;refine sC hE ?_;refine sC (CL P hP) ?_;refine sE (zr3 P.bd M N P.bd.length hS _ _ _) ?_;by_cases hA:bm N N.length<=600
 ·have hb:decide ((bm N N.length:Int)<=600)=true:=ia zo;rw[hb,ae hA];refine sW ?_;rw[xG];have KO:=GL N;have C9:=OB P.bd N;have rG:=MH P.bd N;have vI:Pure ax:=WL _;have C2:Pure<|aO<|iF N 0:=cG _;have pD:=λi X Y m k (hm:m<N.length) (hk:k<im N m)=>YH P.bd M N _ hS _ vI i i 0 X Y [] m k hm hk;have Gr:=λi j X Y m k (hm:m<N.length) (hk:k<im N m)=>zo5 P.bd M N _ hS _ vI i j 0 X Y [] AX rfl m k hm hk;have bR:=λX Y=>VQ P.bd M N _ hS _ vI (bm N N.length) (bm N N.length) 0 X Y [] 0 zo;have Yo:=λk X Y Z st=>zsP P.bd M N _ hS _ C2 (bm N N.length) (bm N N.length) k X Y Z st;have JM:List.drop 0 (List.take (bm N N.length)<|iR<|bW N N.length)=iR (bW N N.length):=cx (by simp[xY]);have hfa:List.drop 0 (List.take N.length<|aA<|kK N N.length)=aA (kK N N.length):=cx (by simp[aA,kK]);have hfm:List.drop 0 (List.take N.length<|aA<|mO N N.length)=aA (mO N N.length):=cx (by simp[aA,mO])
  refine b8 (kS (rZ (λi=>i==4||i==5||i==6) (env':=[(6,.loc 1 0),(11,.loc 3 0),(44,aa<|bm N N.length),(45,aa 0)])
   (H':=[.row true P.cells,.row true [ax,ax,ax,ax],.row true<|Bb M N,.row true [m4 P.bd,bY M,.aM 1<|kI N,l7<|bW N N.length,aO<|kK N N.length,aO<|mO N N.length,ax,ax,ax,ax],
    .vec false (bm N N.length) 2 (iR<|bW N N.length),.vec false N.length 1<|aA<|kK N N.length,.vec false N.length 1<|aA<|mO N N.length])
   ⟨.refl _,.refl _,.refl _,.refl _,trivial⟩ ?_)
   (kS (iq 3 7 1 zs rfl rfl)<|kS (iq 3 8 1 zs rfl rfl)<|iq 3 9 1 zs rfl rfl)) ?_
  ·refine⟨⟨.inl rfl,(λh=>by cases h),.refl _⟩,⟨.inl rfl,(λh=>by cases h),.refl _⟩,⟨.inl rfl,(λh=>by cases h),.refl _⟩,⟨.inl rfl,(λh=>by cases h),?_⟩,⟨.inr ⟨rfl,rfl⟩,λ_=>rfl,rfl,rfl,.refl _⟩,⟨.inr ⟨rfl,rfl⟩,λ_=>rfl,rfl,rfl,.refl _⟩,⟨.inr ⟨rfl,rfl⟩,λ_=>rfl,rfl,rfl,.refl _⟩,trivial⟩;refine .cons _ _ _ _ (.refl _) (.cons _ _ _ _ (.refl _) (.cons _ _ _ _ (.refl _) (.cons _ _ _ _ (.own _ _ _ _ _ _ _ _ rfl rfl (aZ JM)) (.cons _ _ _ _ (.own _ _ _ _ _ _ _ _ rfl rfl (aZ hfa)) (.cons _ _ _ _ (.own _ _ _ _ _ _ _ _ rfl rfl (aZ hfm)) (.refl _))))))
  refine cJ [6,11,44] (λi:Nat=>[(45,aa i)])
   (λi=>[.row true P.cells,.row true [ax,ax,ax,ax],.row true<|Bb M N,.row true<|ox P.bd M N ax 7 i 8 i 9 0,
    .vec false (bm N N.length) 2 (iR<|bW N N.length),.vec false N.length 1<|aA<|kK N N.length,.vec false N.length 1<|aA<|mO N N.length,.vec true i 1<|eQ<|(jt N).take i,.vec true i 1<|n9<|(nG P.bd N).take i,.vec true 0 1<|eQ []])
   (λi=>i<=bm N N.length) (λi=>bm N N.length-i) 0 ?_
  refine eC ?_;rintro i hi;refine br (λh1=>?_) λh1=>?_
  ·have aW:i<bm N N.length:=sO;obtain⟨m,k,q1,q2,rfl⟩:=zL aW;have e1:=WK q1 q2;have e2:=Rz (L:=P.bd) q1 q2;have l1:((jt N).take<|bm N m+k).length=bm N m+k:=(by rw[gA];omega);have l2:((nG P.bd N).take<|bm N m+k).length=bm N m+k:=(by rw[gA];omega);have hn:=λX Y=>pD (bm N m+k) X Y m k q1 q2;have hlb:=λj X Y=>Gr (bm N m+k+1) j X Y m k q1 q2;refine sX (EB vI (hn _ _) (by simp[an,Pure]) (cG _) 3 7 8 9 zc rfl rfl rfl rfl) ?_;rw[show List.drop 0 (List.take (bm N m+k)<|eQ<|List.take (bm N m+k)<|jt N)++List.drop 0 (List.take 1 [[aO<|iF N ((ly N m).getD k 0).toNat]])=eQ ((jt N).take<|bm N m+k+1) from by rw[e1];exact BY l1.symm];refine sJ ?_;refine sX (EB vI (hlb (bm N m+k) _ _) (by simp[an,Pure]) (WL _) 3 7 8 9 zc rfl rfl rfl rfl) ?_;rw[show List.drop 0 (List.take (bm N m+k)<|n9<|List.take (bm N m+k)<|nG P.bd N)++List.drop 0 (List.take 1 [[D.sc (.int .u64<|ss P.bd ((mw N m).getD k (0,0)).1)]])=n9 ((nG P.bd N).take<|bm N m+k+1) from by rw[e2];exact EL l2.symm];refine fA ?_;refine⟨bm N m+k+1,zo,zd,?_⟩;exact aR 10 zs rfl sQ sQ
  have aW:i=bm N N.length:=by have:¬i<bm N N.length:=sO
                              omega
  subst aW;rw[jd zo,jd zo];refine sX (EB vI (bR _ _) (by simp[an,Pure]) (cG _) 3 7 8 9 zc rfl rfl rfl rfl) ?_;rw[zh]
  refine cJ [6,11,87] (λi:Nat=>[(88,aa i)])
   (λi=>[.row true P.cells,.row true [ax,ax,ax,ax],.row true<|Bb M N,.row true<|ox P.bd M N (aO<|iF N 0) 7 (bm N N.length) 8 (bm N N.length) 9 i,
    .vec false (bm N N.length) 2 (iR<|bW N N.length),.vec false N.length 1<|aA<|kK N N.length,.vec false N.length 1<|aA<|mO N N.length,.vec true (bm N N.length) 1<|eQ<|jt N,.vec true (bm N N.length) 1<|n9<|nG P.bd N,.vec true i 1<|eQ<|(oR P.bd N).take i])
   (λi=>i<=P.bd.length) (λi=>P.bd.length-i) 0 ?_
  refine eC ?_;rintro k hk;refine br (λh2=>?_) λh2=>?_
  ·have al:k<P.bd.length:=sO;have e1:=WR (N:=N) al;have l1:((oR P.bd N).take k).length=k:=(by rw[gA];omega);refine sX (EB C2 (Yo k _ _ _ k) (by simp[an,Pure]) (cG _) 3 7 8 9 zc rfl rfl rfl rfl) ?_;refine fA ?_;refine⟨k+1,zo,zd,?_⟩;dsimp only;rw[e1];refine aR 10 zs rfl sQ (sU ?_);exact aZ<|BY l1.symm
  have al:k=P.bd.length:=by have:¬k<P.bd.length:=sO
                            omega
  subst al;rw[jd zo];refine .aI _ _ (.cons _ _ _ _ (.agg _ _ (.cons _ _ _ _ (.refl _) (.cons _ _ _ _ (.own _ _ _ _ _ _ _ _ rfl ?_) (.cons _ _ _ _ (.own _ _ _ _ _ _ _ _ rfl ?_) (.cons _ _ _ _ (.own _ _ _ _ _ _ _ _ rfl ?_) .nil))))) (.cons _ _ _ _ (.refl _) (.cons _ _ _ _ (.refl _) .nil)))
  ·rw[cx<|by simp[eQ,KO]];exact iX _
  ·rw[cx<|by simp[n9,C9]];exact iX _
  rw[cx<|by simp[eQ,rG]];exact iX _
 have hb:decide ((bm N N.length:Int)<=600)=false:=gM zo;rw[hb,ab hA];refine sW ?_;exact .aI _ _ (.cons _ _ _ _ (.agg _ _ (.cons _ _ _ _ (.none _) (.cons _ _ _ _ (.none _) (.cons _ _ _ _ (.none _) (.cons _ _ _ _ (.none _) .nil))))) (.cons _ _ _ _ (.none _) (.cons _ _ _ _ (.refl _) .nil)))
namespace af
def Bf(s m:Nat)(e:bq):Prop:=0<=e.1/\e.1<(s:Int)/\0<=e.2/\e.2<(m:Int)
theorem Bf.mono{m':Nat}{e:bq}(h:Bf s m e)(hm:m<=m'):Bf s m' e:=⟨h.1,h.2.1,h.2.2.1,by have:=h.2.2.2;omega⟩
theorem Sg{P:af}{tok:Int}{st n:Nat}{M:ah}:∀(L:ah) (marks:aj) (aH:List bZ) (cur:List bq) (last:bZ),(∀k∈L,k∈P.du M)->(∀e∈cur,Bf P.bd.length marks.length e) ->
  marks.length<=(P.fG tok st n M L marks aH cur last).marks.length/\∀e∈(P.fG tok st n M L marks aH cur last).cur,Bf P.bd.length (P.fG tok st n M L marks aH cur last).marks.length e
 |[],marks,aH,cur,last,_,hc=>⟨aT _,hc⟩
 |k::r,marks,aH,cur,last,hL,hc=>by
  rw[Ba];split
  ·exact⟨aT _,hc⟩
  split
  ·exact⟨aT _,hc⟩
  rename_i h1 h2;have h2:jl marks (P.dB M k) tok st=0:=zo;have hl:=GY (marks:=marks) (m:=P.dB M k) (tok:=tok) (st:=st);obtain⟨_,k1,k2,_⟩:=I9<|hL k zs
  obtain⟨q1,q2⟩:=Sg (P:=P) (tok:=tok) (st:=st) (n:=n) (M:=M) r (iB marks (P.dB M k) tok st) (ld marks aH (P.dB M k) tok st ((n:Int),k)) (cur++[(k,j9 marks (P.dB M k) tok st)]) ((n:Int),k)
   (λx hx=>hL x<|by simp[hx]) (λe he=>by
    rcases dt.1 he with he|he
    ·exact(hc e he).mono hl
    rw[cB] at he;subst he;have hm:=TG h2;have hi:=KN hm;have e:j9 marks (P.dB M k) tok st=(nz (iB marks (P.dB M k) tok st) (P.dB M k):Int):=(by unfold j9;rw[ae h2]);refine⟨k1,by show k<_;omega,?_,?_⟩
    ·show 0<=j9 marks (P.dB M k) tok st;rw[e];omega
    show j9 marks (P.dB M k) tok st<_;rw[e];unfold nz;omega)
  exact⟨iv hl q1,q2⟩
theorem Th{P:af}{tok:Int}{st:Nat}(cE:st<=200):∀(f n:Nat) (marks:aj) (aH:List bZ) (next:List<|List bq) (last:bZ),Sp P tok st marks aH->(∀l∈next,∀e∈l,Bf P.bd.length marks.length e)->next.length=n->n<=marks.length->n+f=201 ->
  (P.j0 tok st f n marks aH next last).e=0->(P.j0 tok st f n marks aH next last).next.length=(P.j0 tok st f n marks aH next last).marks.length/\marks.length<=(P.j0 tok st f n marks aH next last).marks.length /\
   ∀l∈(P.j0 tok st f n marks aH next last).next,∀e∈l,Bf P.bd.length (P.j0 tok st f n marks aH next last).marks.length e
 |0,n,marks,aH,next,last,hS,_,_,hn,hf,_=>by have:=hS.room;omega
 |f+1,n,marks,aH,next,last,hS,hN,hl,hn,hf,he=>by
  simp only[j0] at he⊢;split
  ·rename_i ck;rw[ae ck] at he;have hM:=hS.fx _<|uo ck;obtain⟨q1,q2,_⟩:=Dr (tok:=tok) (st:=st) (n:=n) hM (P.du<|marks.getD n []) marks aH [] last (λ_ h=>h) hS ck;obtain⟨r1,r2⟩:=Sg (P:=P) (tok:=tok) (st:=st) (n:=n) (M:=marks.getD n []) (P.du<|marks.getD n []) marks aH [] last (λ_ h=>h) zs;split
   ·rename_i h0;rw[ae h0] at he;exact absurd he h0
   rename_i h0;rw[ab h0] at he;obtain⟨t1,t2,t3⟩:=Th cE f (n+1) _ _ _ _ q1 (λl iS e IK=>by
    rcases dt.1 iS with iS|iS
    ·exact(hN l iS e IK).mono q2
    rw[cB] at iS;subst iS;exact r2 e IK) (by simp[hl]) zo zo he
   exact⟨t1,iv q2 t2,t3⟩
  rename_i ck;exact⟨by show next.length=marks.length;omega,aT _,hN⟩
end af
theorem mc{P:af}{tok st:Int}(he:P.dL tok st=0):Jo P (P.exM tok st)<|P.cj tok st:=by
 have eM:P.exM tok st=(P.fp tok st.toNat).marks:=by unfold af.exM;rw[ae he]
 have eN:P.cj tok st=(P.fp tok st.toNat).next:=by unfold af.cj;rw[ae he]
 unfold af.dL at he;split at he
 ·exfalso;omega
 rename_i h1;have h1:P.dI=0:=zo;split at he
 ·exfalso;omega
 rename_i h2;unfold af.qq at h2;obtain⟨h0,_,qB⟩:=af.kY h1;have oX:=(jV h0).2;obtain⟨hS,_⟩:=af.zzP h1 (tok:=tok) (st:=st.toNat) zo;have hr:=hS.room;obtain⟨g1,g2⟩:=af.Q2 (P:=P) (tok:=tok) (st:=st.toNat) 201 0 [P.jx] [(-1,-1)] [] (-1,-1) zs;obtain⟨t1,t2,t3⟩:=af.Th (P:=P) (tok:=tok) (st:=st.toNat) zo 201 0 [P.jx] [(-1,-1)] [] (-1,-1) (af.Sp.start h1 zo) zs rfl zs rfl he;rw[eM,eN];refine⟨⟨t1,t2,zo,λl hl=>iv (g1 l hl) qB,t3,λm hm=>?_⟩,h1⟩;have hk:=af.gg<|hS.fx m hm;refine⟨by have:=hk.len;omega,λx hx=>?_⟩;obtain⟨j,hj,rfl⟩:=s7 hx;exact by have:=hk.pos j;unfold val at this;exact this
abbrev Pr:=Int×Int
def jW(L:List Pr)(p:Pr):List Pr:=if p∈L then L else L++[p]
def gF(L:List Pr)(p:Pr):Nat:=L.idxOf p
theorem zuD(L:List Pr)(p:Pr):L.length<=(jW L p).length/\(jW L p).length<=L.length+1:=by unfold jW;split<;>simp
variable{L:List Pr}
theorem PV(h:L.Nodup)(p:Pr):(jW L p).Nodup:=by
 unfold jW;split
 ·exact h
 rename_i q;rw[yJ];exact⟨h,by simp,λa ha b hb=>by rw[cB] at hb;subst hb;exact λe=>q<|e▸ha⟩
variable{p:Pr}
theorem NG{q:Pr}:q∈jW L p↔q∈L\/q=p:=by
 unfold jW;split
 ·rename_i h;exact⟨λk=>.inl k,λk=>k.elim id λe=>e▸h⟩
 simp
theorem ztK(L:List Pr)(p:Pr):gF (jW L p) p=if p∈L then gF L p else L.length:=by
 unfold jW gF;split
 ·rfl
 rename_i h;rw[List.idxOf_append,ab h];simp
theorem Dw(h:p∈L):gF L p<L.length:=KN h
abbrev To(g:aj)(u v:Nat):Prop:=gW g [(u:Int)] v
theorem mN(g:aj)(v:Nat):To g v v:=by
 have:=gW.base (g:=g) (from_:=[(v:Int)]) (x:=(v:Int)) (by simp);simpa using this
theorem m5(h:To g a b)(k:To g b c):To g a c:=by
 unfold To at k;generalize hb:[(b:Int)]=fr at k
 induction k with
 |base m=>subst hb;simp only[cB] at m;subst m;simpa using h
 |step _ m ih=>exact .step ih m
theorem rM(h:x∈g.getD a []):To g a x.toNat:=.step (mN g a) h
theorem DX{s:Nat->Prop}(h:∀v,s v->∀x∈g.getD v [],s x.toNat)(k:To g u v)(hu:s u):s v:=by
 unfold To at k;generalize hb:[(u:Int)]=fr at k
 induction k with
 |base m=>subst hb;simp only[cB] at m;subst m;simpa using hu
 |step _ m ih=>exact h _ ih _ m
structure TJ where
 num:Nat->Nat
 low:Nat->Nat
 part:Nat->Int
 stack:List Nat
 path:List<|Nat×Nat
 count:Nat
 dA:Nat
def up{α:Type}(f:Nat->α)(k:Nat)(v:α):Nat->α:=λi=>if i=k then v else f i
@[simp] theorem nU(f:Nat->α)(k:Nat)(v:α):up f k v k=v:=by simp[up]
theorem kL{f:Nat->α}{v:α}(h:i≠k):up f k v i=f i:=by simp[up,h]
def nv(g:aj)(S:TJ):Nat->Bool->List (Nat×Nat)->Prop
 |U,_,[]=>∀v,v∈S.stack->U<=S.num v
 |U,top,(p,i)::r =>
  p∈S.stack/\S.num p<U /\
  (∀v,v∈S.stack->S.num p<=S.num v->S.num v<U->To g p v/\(v≠p->(∃w,w∈S.stack/\S.num w<S.num v/\To g v w)/\∀x∈g.getD v [],S.num x.toNat≠0/\(S.part x.toNat<0->S.low p<=S.num x.toNat))) /\
  (∀k,k<(g.getD p []).length->(if top=true then k<i else k+1<i)->S.num ((g.getD p []).getD k 0).toNat≠0/\(S.part ((g.getD p []).getD k 0).toNat<0->S.low p<=S.num ((g.getD p []).getD k 0).toNat)) /\
  S.low p<=S.num p/\(∃w,w∈S.stack/\S.num w=S.low p/\To g p w) /\
  (top=false->1<=i/\i<=(g.getD p []).length) /\
  (match r with
   |[]=>True
   |(q,j)::_=>1<=j/\j<=(g.getD q []).length/\((g.getD q []).getD (j-1) 0).toNat=p) /\
  nv g S (S.num p) false r
theorem nv.wS{g:aj}{S S':TJ}(h3:∀x,S.num x≠0->S'.num x≠0/\(S'.part x<0->S.part x<0/\S'.num x=S.num x)) :
  ∀(r:List<|Nat×Nat) {U:Nat} {top:Bool},(∀v,v∈S'.stack->S'.num v<U->v∈S.stack/\S.num v=S'.num v)->(∀v,v∈S.stack->S.num v<U->v∈S'.stack/\S'.num v=S.num v/\S'.low v=S.low v)->nv g S U top r->nv g S' U top r
 |[],U,top,h1,h2,h=>λv hv=>by
  rcases dY (S'.num v) U with q|q
  ·obtain⟨a,b⟩:=h1 v hv q;have:=h v a;omega
  exact q
 |(p,i)::r,U,top,h1,h2,h=>by
  obtain⟨g1,g2,g3,g4,g5,⟨w,w1,w2,w3⟩,g7,g8,g9⟩:=h;obtain⟨p1,p2,p3⟩:=h2 p g1 g2;refine⟨p1,by omega,λv hv a b=>?_,λk hk ht=>?_,by omega,?_,g7,g8,?_⟩
  ·obtain⟨c1,c2⟩:=h1 v hv b;obtain⟨d1,d2⟩:=g3 v c1 (by omega) (by omega);refine⟨d1,λbT=>?_⟩;obtain⟨⟨w,e1,e2,e3⟩,e4⟩:=d2 bT;obtain⟨f1,f2,f3⟩:=h2 w e1 (by omega);refine⟨⟨w,f1,by omega,e3⟩,λx hx=>?_⟩;obtain⟨n1,n2⟩:=e4 x hx;obtain⟨m1,m2⟩:=h3 _ n1;refine⟨m1,λq=>?_⟩;obtain⟨o1,o2⟩:=m2 q;have:=n2 o1;omega
  ·obtain⟨n1,n2⟩:=g4 k hk ht;obtain⟨m1,m2⟩:=h3 _ n1;refine⟨m1,λq=>?_⟩;obtain⟨o1,o2⟩:=m2 q;have:=n2 o1;omega
  ·obtain⟨f1,f2,f3⟩:=h2 w w1 (by omega);exact⟨w,f1,by omega,w3⟩
  rw[p2];exact nv.wS h3 r (λv hv q=>h1 v hv<|by omega) (λv hv q=>h2 v hv<|by omega) g9
structure TjI(g:aj)(S:TJ):Prop where
 stk:∀v,v∈S.stack↔S.num v≠0/\S.part v<0
 srt:S.stack.Pairwise λa b=>S.num b<S.num a
 cnt:∀v,S.num v<=S.count
 node:∀v,S.num v≠0->v<g.length
 par:∀v,0<=S.part v->S.part v<(S.dA:Int)/\S.num v≠0
 cls:∀v,0<=S.part v->∀x∈g.getD v [],0<=S.part x.toNat
 same:∀u v,0<=S.part u->0<=S.part v->(S.part u=S.part v↔To g u v/\To g v u)
 seg:nv g S (S.count+1) true S.path
 size:S.dA+S.stack.length<=S.count
 seen:dH (λv=>decide (S.num v≠0)) g.length+S.count=g.length
 deep:S.path.length+dH (λv=>decide (S.num v≠0)) g.length<=g.length
 Ee:∀u v,S.num u=S.num v->S.num u≠0->u=v
def TJ.open(S:TJ)(v:Nat)(path:List<|Nat×Nat):TJ:=⟨up S.num v<|S.count+1,up S.low v<|S.count+1,S.part,v::S.stack,(v,0)::path,S.count+1,S.dA⟩
variable{S:TJ}
theorem XL(hv:v<n)(h:S.num v=0):dH (λw=>decide (up S.num v (S.count+1) w≠0)) n+1=dH (λw=>decide (S.num w≠0)) n:=by
 have:=Il (f:=λw=>if decide (S.num w≠0)=true then 0 else 1) (f':=λw=>if decide (up S.num v (S.count+1) w≠0)=true then 0 else 1) n hv λj _ bT=>by rw[kL bT]
 unfold dH;rw[nU] at this;simp only[h] at this;simp at this;simp;omega
theorem TjI.opened(h:TjI g S)(hv:v<g.length)(h0:S.num v=0){path:List<|Nat×Nat}(hp:path.length<=S.path.length)
  (hs:nv g S (S.count+1) false path) (hl:match path with|[]=>True|(q,j)::_=>1<=j/\j<=(g.getD q []).length/\((g.getD q []).getD (j-1) 0).toNat=v):TjI g<|S.open v path:=by
 have hvs:v ∉ S.stack:=λq=>((h.stk v).1 q).1 h0;have MR:S.part v<0:=by
  rcases Int.lt_or_le (S.part v) 0 with q|q
  ·exact q
  exact absurd h0 (h.par v q).2
 have bT:∀w,w∈S.stack->w≠v:=λw hw e=>hvs<|e▸hw;have qz:∀w,S.num w≠0->w≠v:=λw hw e=>hw<|e▸h0;have hun:=XL hv h0;refine⟨λw=>?_,?_,λw=>?_,λw hw=>?_,λw hw=>?_,h.cls,h.same,?_,?_,?_,?_,?_⟩
 ·show w∈v::S.stack↔up S.num v (S.count+1) w≠0/\S.part w<0;by_cases e:w=v
  ·subst e;simp[MR]
  rw[kL e,<-h.stk w];simp[e]
 ·show(v::S.stack).Pairwise λa b=>up S.num v (S.count+1) b<up S.num v (S.count+1) a;refine List.pairwise_cons.2 ⟨λw hw=>?_,h.srt.imp_of_mem λ{a b} ha hb q=>?_⟩
  ·rw[nU,kL<|bT w hw];have:=h.cnt w;omega
  rw[kL<|bT a ha,kL<|bT b hb];exact q
 ·show up S.num v (S.count+1) w<=S.count+1;by_cases e:w=v
  ·subst e;rw[nU];omega
  rw[kL e];have:=h.cnt w;omega
 ·by_cases e:w=v
  ·subst e;exact hv
  exact h.node w (by
   have:up S.num v (S.count+1) w≠0:=hw;rw[kL e] at this;exact this)
 ·obtain⟨a,b⟩:=h.par w hw;refine⟨a,?_⟩;show up S.num v (S.count+1) w≠0;rw[kL<|qz w b];exact b
 ·show nv g (S.open v path) (S.count+1+1) true<|(v,0)::path;refine⟨List.mem_cons_self ..,?_,λw hw a b=>?_,λk _ hk=>?_,?_,⟨v,List.mem_cons_self ..,?_,mN g v⟩,λq=>(by cases q),hl,?_⟩
  ·show up S.num v (S.count+1) v<_;rw[nU];omega
  ·have e:w=v:=by
    rcases dZ.1 hw with e|e
    ·exact e
    have a:up S.num v (S.count+1) v<=up S.num v (S.count+1) w:=a;rw[nU,kL<|bT w e] at a;have:=h.cnt w;omega
   subst e;exact⟨mN g w,λq=>absurd rfl q⟩
  ·rw[ae rfl] at hk;omega
  ·show up S.low v (S.count+1) v<=up S.num v (S.count+1) v;rw[nU,nU];exact aT _
  ·show up S.num v (S.count+1) v=up S.low v (S.count+1) v;rw[nU,nU]
  have e:(S.open v path).num v=S.count+1:=nU ..;rw[e];refine nv.wS (S:=S) (S':=S.open v path) (λx hx=>⟨?_,λq=>⟨q,?_⟩⟩) path (λw hw q=>?_) (λw hw q=>?_) hs
  ·show up S.num v (S.count+1) x≠0;rw[kL<|qz x hx];exact hx
  ·show up S.num v (S.count+1) x=_;rw[kL<|qz x hx]
  ·have q:up S.num v (S.count+1) w<S.count+1:=q;by_cases e:w=v
   ·subst e;rw[nU] at q;omega
   refine⟨(dZ.1 hw).resolve_left e,?_⟩;show _=up S.num v (S.count+1) w;rw[kL e]
  have e:=bT w hw;refine⟨List.mem_cons_of_mem _ hw,?_,?_⟩
  ·show up S.num v (S.count+1) w=_;rw[kL e]
  show up S.low v (S.count+1) w=_;rw[kL e]
 ·have:=h.size;show S.dA+(v::S.stack).length<=S.count+1;rw[bH];omega
 ·have:=h.seen;show dH (λw=>decide (up S.num v (S.count+1) w≠0)) g.length+(S.count+1)=g.length;omega
 ·have:=h.deep;show((v,0)::path).length+dH (λw=>decide (up S.num v (S.count+1) w≠0)) g.length<=g.length;rw[bH];omega
 intro a b e ha;have e:up S.num v (S.count+1) a=up S.num v (S.count+1) b:=e;have ha:up S.num v (S.count+1) a≠0:=ha;have ca:=h.cnt a;have cb:=h.cnt b;by_cases e1:a=v<;>by_cases e2:b=v
 ·omega
 ·subst e1;rw[nU,kL e2] at e;omega
 ·subst e2;rw[nU,kL e1] at e;omega
 rw[kL e1,kL e2] at e;rw[kL e1] at ha;exact h.Ee a b e ha
variable{p:Nat}{r:List<|Nat×Nat}
theorem nv.next{U:Nat}(h:nv g S U true<|(p,i)::r)(hi:i<(g.getD p []).length):nv g S U false<|(p,i+1)::r:=by
 obtain⟨g1,g2,g3,g4,g5,g6,g7,g8,g9⟩:=h;exact⟨g1,g2,g3,λk hk ht=>g4 k hk (by
  rw[ab<|by decide] at ht;rw[ae rfl];omega),g5,g6,λ_=>⟨by omega,by omega⟩,g8,g9⟩
theorem TjI.push(h:TjI g S)(hp:S.path=(p,i)::r)(hi:i<(g.getD p []).length)(hv:((g.getD p []).getD i 0).toNat<g.length)(h0:S.num ((g.getD p []).getD i 0).toNat=0) :
  TjI g (S.open ((g.getD p []).getD i 0).toNat<|(p,i+1)::r):=by
 refine h.opened hv h0 (by rw[hp];simp) (nv.next (by rw[<-hp];exact h.seg) hi) ⟨by omega,by omega,?_⟩;rw[Nat.add_sub_cancel]
def TJ.skip(S:TJ)(p i:Nat)(r:List<|Nat×Nat)(x:Nat):TJ:=⟨S.num,if S.part x<0 then up S.low p<|min (S.low p)<|S.num x else S.low,S.part,S.stack,(p,i+1)::r,S.count,S.dA⟩
theorem TjI.skip{g:aj}{S:TJ}(h:TjI g S){p i:Nat}{r:List<|Nat×Nat}(hp:S.path=(p,i)::r)(hi:i<(g.getD p []).length)(h0:S.num ((g.getD p []).getD i 0).toNat≠0) :
  TjI g (S.skip p i r ((g.getD p []).getD i 0).toNat):=by
 have hx:(g.getD p []).getD i 0∈g.getD p []:=dP hi;generalize mq:(g.getD p []).getD i 0=x at *;have qF:=h.seg;rw[hp] at qF;obtain⟨g1,g2,g3,g4,g5,⟨w,w1,w2,w3⟩,g7,g8,g9⟩:=qF;have A3:∀v,S.num v<S.num p->(S.skip p i r x.toNat).low v=S.low v:=λv hv=>by
  show(if S.part x.toNat<0 then up S.low p<|min (S.low p)<|S.num x.toNat else S.low) v=_;split
  ·rw[kL λe=>by subst e;omega]
  rfl
 have rq:(S.skip p i r x.toNat).low p=if S.part x.toNat<0 then min (S.low p)<|S.num x.toNat else S.low p:=by
  show(if S.part x.toNat<0 then up S.low p<|min (S.low p)<|S.num x.toNat else S.low) p=_;split
  ·rw[nU]
  rfl
 have hle:(S.skip p i r x.toNat).low p<=S.low p:=by rw[rq];split<;>omega
 refine⟨h.stk,h.srt,h.cnt,h.node,h.par,h.cls,h.same,?_,h.size,h.seen,?_,h.Ee⟩
 ·show nv g (S.skip p i r x.toNat) (S.count+1) true<|(p,i+1)::r;refine⟨g1,g2,λv hv a b=>?_,λk hk ht=>?_,?_,?_,λq=>(by cases q),g8,?_⟩
  ·obtain⟨d1,d2⟩:=g3 v hv a b;refine⟨d1,λbT=>⟨(d2 bT).1,λy hy=>?_⟩⟩;obtain⟨n1,n2⟩:=(d2 bT).2 y hy;exact⟨n1,λq=>iv hle<|n2 q⟩
  ·rw[ae rfl] at ht;rcases dY k i with q|q
   ·obtain⟨n1,n2⟩:=g4 k hk (by rw[ae rfl];exact q);exact⟨n1,λz=>iv hle<|n2 z⟩
   have:k=i:=by omega
   subst this;rw[mq];refine⟨h0,λz=>?_⟩;have z:S.part x.toNat<0:=z;rw[rq,ae z];exact Nat.min_le_right _ _
  ·exact iv hle g5
  ·rw[rq];by_cases z:S.part x.toNat<0
   ·rw[ae z];rcases Nat.le_total (S.low p)<|S.num x.toNat with q|q
    ·rw[sq q];exact⟨w,w1,w2,w3⟩
    rw[Nat.min_eq_right q];exact⟨x.toNat,(h.stk _).2 ⟨h0,z⟩,rfl,rM hx⟩
   rw[ab z];exact⟨w,w1,w2,w3⟩
  exact nv.wS (S:=S) (S':=S.skip p i r x.toNat) (λy hy=>⟨hy,λq=>⟨q,rfl⟩⟩) r (λv hv q=>⟨hv,rfl⟩) (λv hv q=>⟨hv,rfl,A3 v q⟩) g9
 have:=h.deep;rw[hp] at this;exact this
def TJ.back(S:TJ)(n p j:Nat)(r:List<|Nat×Nat):TJ:=⟨S.num,up S.low p<|min (S.low p)<|S.low n,S.part,S.stack,(p,j)::r,S.count,S.dA⟩
theorem TjI.back{g:aj}{S:TJ}(h:TjI g S){n i p j:Nat}{r:List<|Nat×Nat}(hp:S.path=(n,i)::(p,j)::r)(hi:(g.getD n []).length<=i)(hl:S.low n≠S.num n):TjI g<|S.back n p j r:=by
 have qF:=h.seg;rw[hp] at qF;obtain⟨g1,g2,g3,g4,g5,⟨w,w1,w2,w3⟩,g7,⟨k1,k2,k3⟩,f1,f2,f3,f4,f5,⟨u,u1,u2,u3⟩,f7,f8,f9⟩:=qF;have A3:∀v,S.num v<S.num p->(S.back n p j r).low v=S.low v:=λv hv=>by
  show up S.low p (min (S.low p)<|S.low n) v=_;rw[kL λe=>by subst e;omega]
 have rq:(S.back n p j r).low p=min (S.low p) (S.low n):=nU ..;have qJ:To g p n:=by
  have:=rM (g:=g) (a:=p)<|dP (l:=g.getD p []) (k:=j-1) (by omega);rw[k3] at this;exact this
 have T4:S.low n<S.num n:=by omega
 refine⟨h.stk,h.srt,h.cnt,h.node,h.par,h.cls,h.same,?_,h.size,h.seen,?_,h.Ee⟩
 ·show nv g (S.back n p j r) (S.count+1) true ((p,j)::r)
  refine⟨f1,by have:S.num p<S.num n:=f2
               have:S.num n<S.count+1:=g2;show S.num p<S.count+1;omega,λv hv a b=>?_,λk hk ht=>?_,?_,?_,λq=>(by cases q),f8,?_⟩
  ·have a:S.num p<=S.num v:=a;have b:S.num v<S.count+1:=b;rcases dY (S.num v)<|S.num n with q|q
   ·obtain⟨d1,d2⟩:=f3 v hv a q;refine⟨d1,λbT=>⟨(d2 bT).1,λy hy=>?_⟩⟩;obtain⟨n1,n2⟩:=(d2 bT).2 y hy;refine⟨n1,λz=>?_⟩;rw[rq];exact iv (Nat.min_le_left _ _)<|n2 z
   obtain⟨d1,d2⟩:=g3 v hv q b;refine⟨m5 qJ d1,λbT=>?_⟩;by_cases e:v=n
   ·subst e;refine⟨⟨w,w1,by show S.num w<S.num v;omega,w3⟩,λy hy=>?_⟩;obtain⟨k,hk,rfl⟩:=s7 hy;obtain⟨n1,n2⟩:=g4 k hk (by rw[ae rfl];omega);refine⟨n1,λz=>?_⟩;rw[rq];exact iv (Nat.min_le_right _ _)<|n2 z
   refine⟨(d2 e).1,λy hy=>?_⟩;obtain⟨n1,n2⟩:=(d2 e).2 y hy;refine⟨n1,λz=>?_⟩;rw[rq];exact iv (Nat.min_le_right _ _)<|n2 z
  ·rw[ae rfl] at ht;rw[rq];rcases dY (k+1) j with q|q
   ·obtain⟨n1,n2⟩:=f4 k hk (by rw[ab<|by decide];exact q);exact⟨n1,λz=>iv (Nat.min_le_left _ _)<|n2 z⟩
   have:k=j-1:=by omega
   subst this;rw[k3];refine⟨((h.stk n).1 g1).1,λz=>?_⟩;show min _ _<=S.num n;omega
  ·rw[rq];show _<=S.num p;omega
  ·rw[rq];rcases Nat.le_total (S.low p)<|S.low n with q|q
   ·rw[sq q];exact⟨u,u1,u2,u3⟩
   rw[Nat.min_eq_right q];exact⟨w,w1,w2,m5 qJ w3⟩
  exact nv.wS (S:=S) (S':=S.back n p j r) (λy hy=>⟨hy,λq=>⟨q,rfl⟩⟩) r (λv hv q=>⟨hv,rfl⟩) (λv hv q=>⟨hv,rfl,A3 v q⟩) f9
 have:=h.deep;rw[hp] at this;simp only[bH] at this;show((p,j)::r).length+dH (λv=>decide (S.num v≠0)) g.length<=g.length;rw[bH];omega
def TJ.shut(S:TJ)(n:Nat)(path:List<|Nat×Nat)(low:Nat->Nat):TJ:=⟨S.num,low,λv=>if v∈S.stack/\S.num n<=S.num v then (S.dA:Int) else S.part v,S.stack.filter λv=>decide (S.num v<S.num n),path,S.count,S.dA+1⟩
theorem PM{α:Type}{p:α->Bool}{a:α}:∀{l:List α},a∈l->p a=false->(l.filter p).length<l.length
 |[],h,_=>by cases h
 |b::l,h,hp=>by
  rw[BD];by_cases e:p b=true
  ·rw[ae e];rcases dZ.1 h with q|q
   ·subst q;rw[hp] at e;cases e
   have:=PM q hp;simp only[bH];omega
  rw[ab e];have:=Aw p l;simp only[bH];omega
theorem TjI.shut{g:aj}{S:TJ}(h:TjI g S){n i:Nat}{r:List<|Nat×Nat}(hp:S.path=(n,i)::r)(hi:(g.getD n []).length<=i)(hl:S.low n=S.num n){low:Nat->Nat}(A3:∀v,S.num v<S.num n->low v=S.low v):TjI g<|S.shut n r low:=by
 have qF:=h.seg;rw[hp] at qF;obtain⟨g1,g2,g3,g4,g5,g6,g7,g8,g9⟩:=qF;have qz:=(h.stk n).1 g1;have tZ:∀v,(S.shut n r low).part v=if v∈S.stack/\S.num n<=S.num v then (S.dA:Int) else S.part v:=λv=>rfl
 -- the piece of n
 have hE:∀v,v∈S.stack->S.num n<=S.num v->∀x∈g.getD v [],S.num x.toNat≠0/\(S.part x.toNat<0->S.num n<=S.num x.toNat):=λv hv a x hx=>by
  have b:S.num v<S.count+1:=(by have:=h.cnt v;omega);by_cases e:v=n
  ·subst e;obtain⟨k,hk,rfl⟩:=s7 hx;obtain⟨n1,n2⟩:=g4 k hk (by rw[ae rfl];omega);exact⟨n1,λz=>by have:=n2 z;omega⟩
  obtain⟨n1,n2⟩:=((g3 v hv a b).2 e).2 x hx;exact⟨n1,λz=>by have:=n2 z;omega⟩
 have yz:∀v,0<=(S.shut n r low).part v↔0<=S.part v\/(v∈S.stack/\S.num n<=S.num v):=λv=>by
  rw[tZ];by_cases q:v∈S.stack/\S.num n<=S.num v
  ·rw[ae q];simp[q]
  rw[ab q];simp[q]
 have VN:∀v,0<=(S.shut n r low).part v->∀x∈g.getD v [],0<=(S.shut n r low).part x.toNat:=λv hv x hx=>by
  rw[yz] at hv⊢;rcases hv with hv|⟨hv,a⟩
  ·exact .inl<|h.cls v hv x hx
  obtain⟨n1,n2⟩:=hE v hv a x hx;rcases Int.lt_or_le (S.part x.toNat) 0 with q|q
  ·exact .inr ⟨(h.stk _).2 ⟨n1,q⟩,n2 q⟩
  exact .inl q
 have zby:∀m v,S.num v<=m->v∈S.stack->S.num n<=S.num v->To g v n:=by
  intro m
  induction m with
  |zero=>intro v a hv b;have:=((h.stk v).1 hv).1;omega
  |succ m ih =>
   intro v a hv b;by_cases e:v=n
   ·subst e;exact mN g v
   obtain⟨⟨w,w1,w2,w3⟩,_⟩:=(g3 v hv b<|by have:=h.cnt v;omega).2 e;have hw:0<=(S.shut n r low).part w:=DX (s:=λv=>0<=(S.shut n r low).part v) VN w3<|(yz v).2 (.inr ⟨hv,b⟩);rw[yz] at hw;have hw:w∈S.stack/\S.num n<=S.num w:=by
    rcases hw with q|q
    ·have:=((h.stk w).1 w1).2;omega
    exact q
   exact m5 w3<|ih w (by omega) w1 hw.2
 have za:∀v,v∈S.stack->S.num n<=S.num v->To g n v/\To g v n:=λv hv a=>⟨(g3 v hv a<|by have:=h.cnt v;omega).1,zby _ v (aT _) hv a⟩;have hold:∀u v,0<=S.part u->v∈S.stack->¬To g u v:=λu v hu hv q=>by
  have:=DX (s:=λv=>0<=S.part v) h.cls q hu;have:=((h.stk v).1 hv).2;omega
 refine⟨λv=>?_,?_,h.cnt,h.node,λv hv=>?_,VN,λu v hu hv=>?_,?_,?_,h.seen,?_,h.Ee⟩
 ·show v∈S.stack.filter _↔S.num v≠0/\(S.shut n r low).part v<0;rw[rP,ja,tZ];constructor
  ·rintro⟨a,b⟩;rw[ab λq=>by omega];exact(h.stk v).1 a
  rintro⟨a,b⟩;by_cases q:v∈S.stack/\S.num n<=S.num v
  ·rw[ae q] at b;omega
  rw[ab q] at b;have:=(h.stk v).2 ⟨a,b⟩;exact⟨this,by
   rcases dY (S.num v)<|S.num n with z|z
   ·exact z
   exact absurd ⟨this,z⟩ q⟩
 ·exact h.srt.filter _
 ·show(S.shut n r low).part v<((S.dA+1:Nat):Int)/\S.num v≠0;rw[tZ];by_cases q:v∈S.stack/\S.num n<=S.num v
  ·rw[ae q];exact⟨by omega,((h.stk v).1 q.1).1⟩
  rw[ab q];rw[yz] at hv;obtain⟨a,b⟩:=h.par v<|hv.resolve_right q;exact⟨by omega,b⟩
 ·rw[yz] at hu hv;rw[tZ,tZ];by_cases qu:u∈S.stack/\S.num n<=S.num u<;>by_cases qv:v∈S.stack/\S.num n<=S.num v
  ·rw[ae qu,ae qv];obtain⟨a1,a2⟩:=za u qu.1 qu.2;obtain⟨b1,b2⟩:=za v qv.1 qv.2;exact⟨λ_=>⟨m5 a2 b1,m5 b2 a1⟩,λ_=>rfl⟩
  ·rw[ae qu,ab qv];have lH:=hv.resolve_right qv;have:=(h.par v lH).1;exact⟨λe=>by omega,λe=>absurd e.2<|hold v u lH qu.1⟩
  ·rw[ab qu,ae qv];have uS:=hu.resolve_right qu;have:=(h.par u uS).1;exact⟨λe=>by omega,λe=>absurd e.1<|hold u v uS qv.1⟩
  rw[ab qu,ab qv];exact h.same u v (hu.resolve_right qu)<|hv.resolve_right qv
 ·show nv g (S.shut n r low) (S.count+1) true r;have Jn:∀v,v∈(S.shut n r low).stack↔v∈S.stack/\S.num v<S.num n:=λv=>by
   show v∈S.stack.filter _↔_;rw[rP,ja]
  have h9:nv g (S.shut n r low) (S.num n) false r:=nv.wS (S:=S) (S':=S.shut n r low) (λx hx=>⟨hx,λq=>by
   have q':¬(0<=(S.shut n r low).part x):=(by omega);rw[yz] at q';exact⟨by
    rcases Int.lt_or_le (S.part x) 0 with z|z
    ·exact z
    exact absurd (.inl z) q',rfl⟩⟩) r (λv hv q=>⟨((Jn v).1 hv).1,rfl⟩) (λv hv q=>⟨(Jn v).2 ⟨hv,q⟩,rfl,A3 v q⟩) g9
  match r,g8,h9 with
  |[],_,h9 =>
   intro v hv;have:=h9 v hv;have:=((Jn v).1 hv).2;have:S.num n<=S.num v:=h9 v hv;omega
  |(p,j)::r,g8,h9 =>
   obtain⟨f1,f2,f3,f4,f5,f6,f7,f8,f9⟩:=h9;refine⟨f1,?_,λv hv a b=>?_,λk hk ht=>?_,f5,f6,λq=>(by cases q),f8,f9⟩
   ·have:S.num p<S.num n:=f2;show S.num p<S.count+1;have:=h.cnt n;omega
   ·exact f3 v hv a ((Jn v).1 hv).2
   rw[ae rfl] at ht;rcases dY (k+1) j with q|q
   ·exact f4 k hk<|by rw[ab<|by decide];exact q
   have:k=j-1:=by omega
   subst this;rw[g8.2.2];refine⟨qz.1,λz=>?_⟩;have:=(yz n).2 (.inr ⟨g1,aT _⟩);omega
 ·have:=h.size;have h1:=PM (p:=λv=>decide (S.num v<S.num n)) g1 (by simp);show S.dA+1+(S.stack.filter λv=>decide (S.num v<S.num n)).length<=S.count;omega
 have:=h.deep;rw[hp] at this;simp only[bH] at this;show r.length+dH (λv=>decide (S.num v≠0)) g.length<=g.length;omega
theorem TjI.zero(g:aj):TjI g ⟨λ_=>0,λ_=>0,λ_=>-1,[],[],0,0⟩ where
 stk v:=by simp
 srt:=by simp
 cnt _:=aT _
 node v h:=absurd rfl h
 par v h:=by have h:(0:Int)<=-1:=h;omega
 cls v h:=by have h:(0:Int)<=-1:=h;omega
 same u v h:=by have h:(0:Int)<=-1:=h;omega
 seg:=λv hv=>by cases hv
 size:=by simp
 seen:=by
  show dH (λv=>decide ((0:Nat)≠0)) g.length+0=g.length;have:∀n,dH (λ_=>decide ((0:Nat)≠0)) n=n:=λn=>by
   induction n with
   |zero=>rfl
   |succ n ih=>unfold dH at ih⊢;simp only[j4,ih];simp
  rw[this];rfl
 deep:=by
  show 0+dH (λv=>decide ((0:Nat)≠0)) g.length<=g.length;have:=yj (λv=>decide ((0:Nat)≠0)) g.length;omega
 Ee u v _ h:=absurd rfl h
theorem TjI.empty(h:TjI g S)(hp:S.path=[]):S.stack=[]:=by
 have hs:=h.seg;rw[hp] at hs
 cases e:S.stack with
 |nil=>rfl
 |cons v r =>
  have:=hs v (by rw[e];simp);have:=h.cnt v;omega
theorem TjI.done(h:TjI g S)(hp:S.path=[])(hv:S.num v≠0):0<=S.part v:=by
 rcases Int.lt_or_le (S.part v) 0 with q|q
 ·have:=(h.stk v).2 ⟨hv,q⟩;rw[h.empty hp] at this;cases this
 exact q
def qK(g:aj):List (Nat×Nat)->Nat
 |[]=>0
 |(p,i)::r=>(g.getD p []).length-i+1+qK g r
def TJ.fuel(g:aj)(S:TJ):Nat:=j4 (λv=>if S.num v=0 then (g.getD v []).length+2 else 0) g.length+qK g S.path
theorem zsC(hv:v<g.length)(h0:S.num v=0)(path:List<|Nat×Nat):TJ.fuel g (S.open v path)+1+qK g S.path=TJ.fuel g S+qK g path:=by
 have:=Il (f:=λw=>if S.num w=0 then (g.getD w []).length+2 else 0) (f':=λw=>if up S.num v (S.count+1) w=0 then (g.getD w []).length+2 else 0) g.length hv λj _ bT=>by rw[kL bT]
 unfold TJ.fuel;show j4 (λw=>if up S.num v (S.count+1) w=0 then (g.getD w []).length+2 else 0) g.length+((g.getD v []).length-0+1+qK g path)+1+qK g S.path=_;rw[nU,ae h0,ab<|by omega] at this;omega
def vC(p:ay):Nat->Nat->Nat
 |i,0=>i
 |i,d+1=>if p i=true then i else vC p (i+1) d
theorem PL(p:ay):∀(d i:Nat),i<=vC p i d/\vC p i d<=i+d/\(∀j,i<=j->j<vC p i d->p j=false)/\(vC p i d<i+d->p (vC p i d))
 |0,i=>⟨aT _,aT _,λj h1 h2=>by simp only[vC] at h2;omega,λh=>by simp[vC] at h⟩
 |d+1,i=>by
  simp only[vC];split
  ·rename_i h;exact⟨aT _,by omega,λj h1 h2=>by omega,λ_=>h⟩
  rename_i h;obtain⟨h1,h2,h3,h4⟩:=PL p d<|i+1;refine⟨by omega,by omega,λj g1 g2=>?_,λg=>h4<|by omega⟩;by_cases e:j=i
  ·subst e;simpa using h
  exact h3 j (by omega) g2
def fst(p:ay)(e i:Nat):Nat:=vC p i<|e-i
variable{e:Nat}
theorem IE{p:ay}(h:i<=e):i<=fst p e i/\fst p e i<=e/\(∀j,i<=j->j<fst p e i->p j=false)/\(fst p e i<e->p (fst p e i)):=by
 obtain⟨h1,h2,h3,h4⟩:=PL p (e-i) i;exact⟨h1,by unfold fst;omega,h3,λg=>h4<|by unfold fst at g;omega⟩
theorem fst_eq{p:ay}(h1:i<=t)(h2:t<=e)(h3:∀j,i<=j->j<t->p j=false)(h4:t<e->p t):fst p e i=t:=by
 obtain⟨g1,g2,g3,g4⟩:=IE (p:=p) (e:=e) (i:=i) (by omega);rcases yR (fst p e i) t with q|q|q
 ·have:=h3 _ g1 q;rw[g4<|by omega] at this;cases this
 ·exact q
 have:=g3 t h1 q;rw[h4<|by omega] at this;cases this
theorem Yj(hp:S.path=(p,i)::r)(hi:i<(g.getD p []).length)(hv:v<g.length)(h0:S.num v=0):TJ.fuel g (S.open v<|(p,i+1)::r)+2=TJ.fuel g S:=by
 have:=zsC hv h0<|(p,i+1)::r;rw[hp] at this;simp only[qK] at this;omega
theorem zr6{x:Nat}(hp:S.path=(p,i)::r)(hi:i<(g.getD p []).length):TJ.fuel g (S.skip p i r x)+1=TJ.fuel g S:=by
 unfold TJ.fuel;rw[hp];show _+((g.getD p []).length-(i+1)+1+qK g r)+1=_+((g.getD p []).length-i+1+qK g r);show j4 (λv=>if S.num v=0 then _ else 0) _+_+1=_;omega
theorem zrE{j:Nat}(hp:S.path=(n,i)::(p,j)::r):TJ.fuel g (S.back n p j r)<TJ.fuel g S:=by
 unfold TJ.fuel;rw[hp];show j4 (λv=>if S.num v=0 then _ else 0) _+((g.getD p []).length-j+1+qK g r)<_+((g.getD n []).length-i+1+((g.getD p []).length-j+1+qK g r));omega
variable{low:Nat->Nat}
theorem VV(hp:S.path=(n,i)::r):TJ.fuel g (S.shut n r low)<TJ.fuel g S:=by
 unfold TJ.fuel;rw[hp];show j4 (λv=>if S.num v=0 then _ else 0) _+qK g r<_+((g.getD n []).length-i+1+qK g r);omega
def hasB(same:Nat->Nat->Bool)(k:Nat):Bool:=(List.range k).any λb=>same b k
def kl(same:Nat->Nat->Bool):Nat->Nat
 |0=>0
 |k+1=>kl same k+if hasB same k=true then 0 else 1
def oZ(same:Nat->Nat->Bool)(k:Nat):Nat:=kl same<|fst (λb=>same b k) k 0
structure Eqv(same:Nat->Nat->Bool)(n:Nat):Prop where
 refl:∀a,a<n->same a a=true
 symm:∀a b,a<n->b<n->same a b->same b a=true
 trans:∀a b c,a<n->b<n->c<n->same a b->same b c->same a c=true
theorem KU(same:Nat->Nat->Bool):∀k,kl same k<=k
 |0=>aT _
 |k+1=>by simp only[kl];have:=KU same k;split<;>omega
variable{same:Nat->Nat->Bool}
theorem Pd(h:Eqv same n)(hk:k<n)(hb:b<k)(hs:same b k)(hf:∀c,c<b->same c k=false):oZ same k=kl same b/\oZ same b=kl same b:=by
 constructor
 ·unfold oZ;rw[fst_eq (i:=0) (t:=b) (jr _) (by omega) (λj _ hj=>hf j hj) λ_=>hs]
 unfold oZ;rw[fst_eq (i:=0) (t:=b) (jr _) (aT _) (λj _ hj=>?_) λz=>by omega];rw[FJ];intro q;have:=h.trans j b k (by omega) (by omega) hk q hs;rw[hf j hj] at this;cases this
theorem OJ(hf:∀c,c<k->same c k=false):oZ same k=kl same k/\hasB same k=false:=by
 constructor
 ·unfold oZ;rw[fst_eq (i:=0) (t:=k) (jr _) (aT _) (λj _ hj=>hf j hj) λz=>by omega]
 unfold hasB;rw[pd];intro b hb;rw[hf b<|fX.1 hb];decide
theorem Ks(h:Eqv same n)(hk:k<n)(hb:b<k)(hs:same b k):oZ same k=oZ same b/\hasB same k:=by
 refine⟨?_,kJ.2 ⟨b,fX.2 hb,hs⟩⟩;obtain⟨g1,g2,g3,g4⟩:=IE (p:=λb=>same b k) (e:=k) (i:=0)<|jr _;have ck:fst (λb=>same b k) k 0<k:=by
  rcases dY (fst (λb=>same b k) k 0) k with q|q
  ·exact q
  have:=g3 b (jr _) (by omega);simp only[hs] at this;cases this
 have hc:=g4 ck;generalize fst (λb=>same b k) k 0=c at *;have hcb:c<=b:=by
  rcases dY b c with q|q
  ·have:=g3 b (jr _) q;simp only[hs] at this;cases this
  exact q
 have e1:=(Pd h hk ck hc λd hd=>g3 d (jr _) hd);rw[e1.1];by_cases e:c=b
 ·subst e;rw[e1.2]
 refine(Pd h (k:=b) (by omega) (show c<b by omega) (h.trans c k b (by omega) hk (by omega) hc<|h.symm b k (by omega) hk hs) λd hd=>?_).1.symm;rw[FJ];intro q;have:=h.trans d b k (by omega) (by omega) hk q hs;have z:=g3 d (jr _) hd;simp only[this] at z;cases z
theorem SV(h:Eqv same n)(hk:k<n):oZ same k<n:=by
 unfold oZ;have:=(IE (p:=λb=>same b k) (e:=k) (i:=0)<|jr _).2.1;have:=KU same<|fst (λb=>same b k) k 0;omega
theorem zwJ(h:Eqv same n)(ha:a<n)(hb:b<n):oZ same a=oZ same b↔same a b:=by
 have mono:∀i j,i<=j->kl same i<=kl same j:=λi j rn=>by
  obtain⟨d,rfl⟩:=Nat.exists_eq_add_of_le rn;clear rn
  induction d with
  |zero=>exact aT _
  |succ d ih=>exact iv ih<|by rw[<-DN];simp only[kl];omega
 have first:∀k,k<n->∃c,c<=k/\same c k/\(∀d,d<c->same d c=false)/\oZ same k=kl same c:=λk hk=>by
  obtain⟨g1,g2,g3,g4⟩:=IE (p:=λb=>same b k) (e:=k) (i:=0)<|jr _;refine⟨fst (λb=>same b k) k 0,g2,?_,λd hd=>?_,rfl⟩
  ·rcases dY (fst (λb=>same b k) k 0) k with q|q
   ·exact g4 q
   rw[show fst (λb=>same b k) k 0=k by omega];exact h.refl k hk
  rw[FJ];intro q;rcases dY (fst (λb=>same b k) k 0) k with z|z
  ·have:=h.trans d _ k (by omega) (by omega) hk q<|g4 z;have y:=g3 d (jr _) hd;simp only[this] at y;cases y
  have e:fst (λb=>same b k) k 0=k:=(by omega);have y:=g3 d (jr _) hd;rw[e] at q;simp only[q] at y;cases y
 constructor
 ·intro e;obtain⟨c,c1,c2,c3,c4⟩:=first a ha
  obtain⟨d,d1,d2,d3,d4⟩:=first b hb
  have ecd:c=d:=by
   rcases yR c d with q|q|q
   ·have h1:=mono (c+1) d q;simp only[kl,(OJ c3).2] at h1;simp at h1;omega
   ·exact q
   have h1:=mono (d+1) c q;simp only[kl,(OJ d3).2] at h1;simp at h1;omega
  subst ecd;exact h.trans a c b ha (by omega) hb (h.symm c a (by omega) ha c2) d2
 intro e;rcases yR a b with q|q|q
 ·exact(Ks h hb q e).1.symm
 ·rw[q]
 exact(Ks h ha q<|h.symm a b ha hb e).1
noncomputable def re(g:aj)(a b:Nat):Bool:=nE g [(a:Int)] b&&nE g [(b:Int)] a
theorem mP:re g a b↔To g a b/\To g b a:=by
 unfold re;rw[fY,ry,ry]
theorem Nc(g:aj)(n:Nat):Eqv (re g) n where
 refl a _:=mP.2 ⟨mN g a,mN g a⟩
 symm a b _ _ h:=mP.2 (mP.1 h).symm
 trans a b c _ _ _ h k:=mP.2 ⟨m5 (mP.1 h).1 (mP.1 k).1,m5 (mP.1 k).2 (mP.1 h).2⟩
def zm(g:aj)(c:Nat):Prop:=∃x,x∈g.getD c []/\To g x.toNat c
def Fw(g:aj)(sets:List ay)(v:Nat):Prop:=∃c,To g v c/\zm g c/\∀S,S∈sets->∃d,S d/\To g c d/\To g d c
open Classical in
noncomputable def fwB(g:aj)(sets:List ay)(v:Nat):Bool:=decide (Fw g sets v)
variable{sets:List ay}
theorem yQ:fwB g sets v↔Fw g sets v:=by unfold fwB;simp
theorem KB{b:Bool}(h:b↔Fw g sets v):b=fwB g sets v:=by
 rw[kb,h,yQ]
theorem Fw.back(h:Fw g sets v)(k:To g u v):Fw g sets u:=by
 obtain⟨c,h1,h2,h3⟩:=h;exact⟨c,m5 k h1,h2,h3⟩
theorem Hs{d:Nat}(h:zm g c)(h1:To g c d)(h2:To g d c):zm g d:=by
 obtain⟨x,hx,k⟩:=h
 -- the first going of a way from d to c,or d is c
 have key:∀{a b:Nat},To g a b->a=b\/∃y,y∈g.getD a []/\To g y.toNat b:=by
  intro a b q;unfold To at q
  induction q with
  |base m=>simp only[cB] at m;subst m;left;simp
  |step q m ih =>
   rcases ih with e|⟨y,y1,y2⟩
   ·subst e;exact .inr ⟨_,m,mN g _⟩
   exact .inr ⟨y,y1,.step y2 m⟩
 rcases key h2 with e|⟨y,y1,y2⟩
 ·subst e;exact⟨x,hx,k⟩
 exact⟨y,y1,m5 y2 h1⟩
inductive Hit(g:aj)(z S:ay):Nat->Prop
 |one {i:Nat} {x:Int} (h:z i=true) (k:x∈g.getD i []) (hz:z x.toNat=true) (hs:S x.toNat=true):Hit g z S i
 |more {i:Nat} {x:Int} (h:z i=true) (k:x∈g.getD i []) (hz:z x.toNat=true) (hs:Hit g z S x.toNat):Hit g z S i
variable{z S:ay}
theorem Hit.here(h:Hit g z S i):z i:=by cases h<;>assumption
open Classical in
theorem VG(h:To g u v)(hz:∀w,To g w v->z w)(k:Hit g z S v):Hit g z S u:=by
 unfold To at h;generalize hw:v=w at h
 induction h generalizing v with
 |base m=>simp only[cB] at m;subst m;subst hw;simpa using k
 |step q m ih=>subst hw;exact ih (λw hw=>hz w (.step hw m)) (.more (hz _<|rM m) m k.here k) rfl
theorem zrw{d:Nat}(h:zm g c)(hs:S d)(h1:To g c d)(h2:To g d c)(hz:∀w,To g w c->z w):Hit g z S c:=by
 have ji:∀w,To g w d->z w:=λw hw=>hz w<|m5 hw h2
 -- the last going into d on a way round
 have key:∀{a b:Nat},To g a b->a=b\/∃w y,To g a w/\y∈g.getD w []/\y.toNat=b:=by
  intro a b q;unfold To at q
  cases q with
  |base m=>simp only[cB] at m;subst m;left;simp
  |step q m=>exact .inr ⟨_,_,q,m,rfl⟩
 obtain⟨y,y1,y2⟩:=Hs h h1 h2
 have fin:∀w x,To g c w->x∈g.getD w []->x.toNat=d->Hit g z S c:=λw x q m e =>
  VG q (λu hu=>ji u<|e▸gW.step hu m) (.one (ji w<|e▸rM m) m (by rw[e];exact ji d<|mN g d)<|by rw[e];exact hs)
 rcases key<|m5 (rM y1) y2 with e|⟨w,x,w1,w2,w3⟩
 ·rcases key y2 with e2|⟨w,x,w1,w2,w3⟩
  ·exact fin d y h1 y1 e2
  exact fin w x (m5 h1<|m5 (rM y1) w1) w2 w3
 exact fin w x (m5 h1 w1) w2 w3
theorem LL(hz:∀v,Fw g sets v->z v)(hS:S∈sets)(h:Fw g sets v):Hit g z S v:=by
 obtain⟨c,h1,h2,h3⟩:=h;obtain⟨d,d1,d2,d3⟩:=h3 S hS;have hc:Fw g sets c:=⟨c,mN g c,h2,h3⟩;exact VG h1 (λw hw=>hz w<|hc.back hw)<|zrw h2 d1 d2 d3 λw hw=>hz w<|hc.back hw
def gi(g:aj)(z:ay):aj:=(List.range g.length).map λv=>if z v=true then (g.getD v []).filter λx=>z x.toNat else []
@[simp] theorem CM(g:aj)(z:ay):(gi g z).length=g.length:=by simp[gi]
theorem BG:x∈(gi g z).getD v []↔x∈g.getD v []/\z v/\z x.toNat:=by
 by_cases h:v<g.length
 ·rw[aE,aJ<|by simpa using h];simp only[gi,D0,List.getElem_range,nR];split
  ·rename_i q;simp[rP,q]
  rename_i q;simp[q]
 have e1:(gi g z).getD v []=[]:=by rw[aE,cY<|by simpa using h];rfl
 have e2:g.getD v []=[]:=by rw[aE,cY<|by omega];rfl
 rw[e1,e2];simp
theorem Hy(h:To (gi g z) u v):To g u v:=by
 unfold To at h
 induction h with
 |base m=>simp only[cB] at m;subst m;simpa using mN g u
 |step q m ih=>exact .step ih (BG.1 m).1
theorem FB(bp:∀v x,x∈g.getD v []->x.toNat<g.length)(hu:u<g.length)(h:To g u v):v<g.length:=DX (s:=λv=>v<g.length) (λv _ x hx=>bp v x hx) h hu
theorem sink{g:aj}(bp:∀v x,x∈g.getD v []->x.toNat<g.length):∀(m v:Nat),v<g.length->g.length-dH (nE g [(v:Int)]) g.length<=m->∃c,To g v c/\∀d,To g c d->To g d c
 |0,v,hv,h=>by
  have h1:=oS (s:=λ_=>false) (s':=nE g [(v:Int)]) (n:=g.length) hv (λ_ _ q=>by cases q) rfl (ry.2<|mN g v);have h2:=yj (λ_=>false) g.length;omega
 |m+1,v,hv,h=>by
  by_cases q:∀d,To g v d->To g d v
  ·exact⟨v,mN g v,q⟩
  obtain⟨d,hd⟩:=Classical.not_forall.1 q;obtain⟨d1,d2⟩:=Classical.not_imp.1 hd;have ck:=oS (s:=nE g [(d:Int)]) (s':=nE g [(v:Int)]) (n:=g.length) hv (λj _ q=>ry.2<|m5 d1<|ry.1 q) (by
   rw[FJ];exact λq=>d2<|ry.1 q) (ry.2<|mN g v)
  have:=yj (nE g [(d:Int)]) g.length;obtain⟨c,c1,c2⟩:=sink bp m d (FB bp hv d1) (by omega);exact⟨c,m5 d1 c1,c2⟩
theorem L2(bp:∀v x,x∈g.getD v []->x.toNat<g.length)(hz:∀v,z v->v<g.length)(h:∀v,z v->∀S,S∈sets->Hit g z S v)(bT:sets≠[])(hv:z v):Fw g sets v:=by
 have zO:∀v x,x∈(gi g z).getD v []->x.toNat<(gi g z).length:=λv x hx=>by rw[CM];exact bp v x (BG.1 hx).1
 obtain⟨c,c1,c2⟩:=sink zO _ v (by rw[CM];exact hz v hv)<|aT _;have zc:z c=true:=DX (s:=λv=>z v=true) (λv _ x hx=>(BG.1 hx).2.2) c1 hv;have key:∀S i,Hit g z S i->∃x d,x∈(gi g z).getD i []/\To (gi g z) x.toNat d/\S d=true:=λS i q=>by
  induction q with
  |one h k hz hs=>exact⟨_,_,BG.2 ⟨k,h,hz⟩,mN _ _,hs⟩
  |more h k hz _ ih =>
   obtain⟨x,d,i1,i2,i3⟩:=ih;exact⟨_,d,BG.2 ⟨k,h,hz⟩,m5 (rM i1) i2,i3⟩
 refine⟨c,Hy c1,?_,λS hS=>?_⟩
 ·obtain⟨S,hS⟩:=List.exists_mem_of_ne_nil _ bT;obtain⟨x,d,i1,i2,i3⟩:=key S c<|h c zc S hS;exact⟨x,(BG.1 i1).1,Hy<|c2 _<|rM i1⟩
 obtain⟨x,d,i1,i2,i3⟩:=key S c<|h c zc S hS;have hd:=m5 (rM i1) i2;exact⟨d,i3,Hy hd,Hy<|c2 d hd⟩
variable{g':aj}{h:Nat->Nat}
theorem GD(he:∀v x,x∈g.getD v []->∃y,y∈g'.getD (h v) []/\y.toNat=h x.toNat)(k:To g u v):To g' (h u)<|h v:=by
 unfold To at k
 induction k with
 |base m=>simp only[cB] at m;subst m;simpa using mN g'<|h u
 |step q m ih =>
  obtain⟨y,y1,y2⟩:=he _ _ m;rw[<-y2];exact .step ih y1
theorem zzB(he:∀v x,x∈g.getD v []->∃y,y∈g'.getD (h v) []/\y.toNat=h x.toNat)(k:Fw g (sets.map λS v=>S<|h v) v):Fw g' sets<|h v:=by
 obtain⟨c,h1,⟨x,x1,x2⟩,h3⟩:=k;obtain⟨y,y1,y2⟩:=he _ _ x1;refine⟨h c,GD he h1,⟨y,y1,by rw[y2];exact GD he x2⟩,λS hS=>?_⟩;obtain⟨d,d1,d2,d3⟩:=h3 _<|dq.2 ⟨S,hS,rfl⟩;exact⟨h d,d1,GD he d2,GD he d3⟩
theorem zvp{z z' S:ay}(hl:∀v,v<g.length->∀y,y∈g'.getD (h v) []->∃x,x∈g.getD v []/\h x.toNat=y.toNat)(bp:∀v x,x∈g.getD v []->x.toNat<g.length)
  (hz:∀v,v<g.length->z' (h v)->z v) {w:Nat} (k:Hit g' z' S w):∀u,u<g.length->h u=w->Hit g z (λv=>S<|h v) u:=by
 induction k with
 |one a k ji hs =>
  intro u hu e;subst e;obtain⟨x,x1,x2⟩:=hl u hu _ k;exact .one (hz u hu a) x1 (hz _ (bp _ _ x1)<|by rw[x2];exact ji)<|by rw[x2];exact hs
 |more a k ji hs ih =>
  intro u hu e;subst e;obtain⟨x,x1,x2⟩:=hl u hu _ k;exact .more (hz u hu a) x1 (hz _ (bp _ _ x1)<|by rw[x2];exact ji)<|ih _ (bp _ _ x1) x2
theorem U1:Fw g [] v↔Fw g [λ_=>true] v:=by
 constructor
 ·rintro⟨c,h1,h2,_⟩;exact⟨c,h1,h2,λS hS=>by rw[cB] at hS;subst hS;exact⟨c,rfl,mN _ _,mN _ _⟩⟩
 rintro⟨c,h1,h2,_⟩;exact⟨c,h1,h2,λS hS=>by cases hS⟩
theorem zww(hl:∀v,v<g.length->∀y,y∈g'.getD (h v) []->∃x,x∈g.getD v []/\h x.toNat=y.toNat)(bp:∀v x,x∈g.getD v []->x.toNat<g.length)(hv:v<g.length)(k:Fw g' sets<|h v) :
  Fw g (sets.map λS v=>S<|h v) v:=by
 have main:∀sets:List ay,sets≠[]->Fw g' sets (h v)->Fw g (sets.map λS v=>S<|h v) v:=λsets bT k=>by
  refine L2 (z:=λu=>decide (u<g.length)&&fwB g' sets (h u)) bp (λu hu=>by simp at hu;exact hu.1) (λu hu S hS=>?_) (by simpa using bT) (by simp[hv,yQ,k]);simp only[fY,ja] at hu;obtain⟨S',lv,rfl⟩:=dq.1 hS;have hh:=LL (z:=fwB g' sets) (λv q=>yQ.2 q) lv<|yQ.1 hu.2;exact zvp hl bp (λu hu q=>by simp[hu,q]) hh u hu.1 rfl
 by_cases bT:sets=[]
 ·subst bT;rw[gm,U1];exact main [λ_=>true] zs<|U1.1 k
 exact main sets bT k
structure bS where
 start:ah
 next:aj
 jq:ah
 mi:ah
 fair:aj
def bS.cells(A:bS):bh:=[aO A.start,bY A.next,ix A.jq,ix A.mi,bY A.fair]
def lX(A:bS):D:=.agg A.cells
variable(A:bS)
@[simp] theorem F3:an A.cells:=by simp[bS.cells,an,cG,mj,vT]
@[simp] theorem Db:Pure<|lX A:=by simp[lX,Pure,F3]
def Lg:bS:=⟨[],[],[],[],[]⟩
structure bS.Fits(A:bS):Prop where
 start:A.start.length<=17592186043904
 next:A.next.length<=17592186043904
 jq:A.jq.length<=17592186043904
 mi:A.mi.length<=17592186043904
 fair:A.fair.length<=17592186043904
 xU:∀l∈A.next,l.length<=17592186043904
 xR:∀l∈A.fair,l.length<=17592186043904
def bS.aS(A:bS):Int :=
 if 2048<A.next.length\/80<A.fair.length then 2
 else if A.jq.length≠A.next.length\/A.mi.length≠A.next.length\/bx A.start A.next.length=false then 1
 else if (A.next.any λl=>!(bx l A.next.length))=true then 1
 else if (A.fair.any λl=>!(bx l A.next.length))=true then 1
 else 0
theorem wo(h:A.aS=0):A.jq.length=A.next.length/\A.mi.length=A.next.length/\A.next.length<=2048/\A.fair.length<=80/\bx A.start A.next.length/\(∀l∈A.next,bx l A.next.length)/\∀l∈A.fair,bx l A.next.length:=by
 unfold bS.aS at h;split at h
 ·exact absurd h zc
 split at h
 ·exact absurd h zc
 split at h
 ·exact absurd h zc
 split at h
 ·exact absurd h zc
 rename_i h1 h2 h3 h4;have El:=not_or.1 h2;have zyc:=not_or.1 El.2;refine⟨zo,zo,zo,zo,by simpa using zyc.2,λl hl=>?_,λl hl=>?_⟩
 ·rw[oL,pd] at h3;simpa using h3 l hl
 rw[oL,pd] at h4;simpa using h4 l hl
def yx(A:bS)(s:Nat)(x:Int):Bool:=jv .and .u64 x (A.jq.getD s 0)==A.jq.getD s 0&&jv .and .u64 x (A.mi.getD s 0)==0
theorem Mg(a:BitVec 64):IntKind.wrap .u64 (a.toNat:Int)=(a.toNat:Int):=by
 have:=a.isLt;simp only[IntKind.wrap,IntKind.signed,IntKind.bits];simp;omega
theorem ZK{m:Int}(hm:0<=m/\m<18446744073709551616):(jv .and .u64 x m==m)=(jv .andNot .u64 m x==0):=by
 show(IntKind.wrap .u64 (((BitVec.ofInt 64 x) &&& (BitVec.ofInt 64 m)).toNat:Int)==m)=(IntKind.wrap .u64 (((BitVec.ofInt 64 m) &&& ~~~(BitVec.ofInt 64 x)).toNat:Int)==0);rw[Mg,Mg];have e:m=((BitVec.ofInt 64 m).toNat:Int):=by
  rw[BitVec.toNat_ofInt];omega
 generalize BitVec.ofInt 64 x=a;rw[kb,gG,gG];generalize hb:BitVec.ofInt 64 m=b at e;constructor
 ·intro h;rw[e] at h;have h:a &&& b=b:=BitVec.eq_of_toNat_eq zo;have:b &&& ~~~a=0#64:=by
   rw[<-h]
   ext i hi
   simp;intro h1 _;exact h1
  rw[this];rfl
 intro h;have h:b &&& ~~~a=0#64:=BitVec.eq_of_toNat_eq (by simpa using h);have:a &&& b=b:=by
  ext i hi
  have:=bJ (λz:BitVec 64=>z[i]) h;simp at this;cases q:b[i]
  ·simp[q]
  simp[q,this q]
 rw[this];omega
theorem zrx(x m:Int):jv .and .u64 m x=jv .and .u64 x m:=by
 show IntKind.wrap .u64 (((BitVec.ofInt 64 m) &&& (BitVec.ofInt 64 x)).toNat:Int)=IntKind.wrap .u64 (((BitVec.ofInt 64 x) &&& (BitVec.ofInt 64 m)).toNat:Int);rw[BitVec.and_comm]
variable{z:Nat}
theorem zy{l:ah}(hz:z=k)(h:k<l.length):(l.map λn=>[D.sc (.int .u64 n)])[z]? = some [.sc (.int .u64<|l.getD k 0)]:=by
 subst hz;rw[cU,aJ h,aE,aJ h];rfl
theorem zwT(hm:A.jq.length=A.next.length)(hn:A.mi.length=A.next.length)(s:Nat)(hs:s<A.next.length)(x:Int):ar ai 281 [lX A,aa s,.sc (.int .u64 x)]<|aD<|yx A s x:=by
 refine bK fZ ?_;have e:yx A s x=(jv .and .u64 x (A.jq.getD s 0)==A.jq.getD s 0&&jv .and .u64 x (A.mi.getD s 0)==0):=rfl;unfold lX bS.cells ix;refine sR ?_;refine sL (zy (k:=s) zo zo) ?_;refine sL (zy (k:=s) zo zo) ?_;cases r:(jv .and .u64 x (A.jq.getD s 0)==A.jq.getD s 0)
 ·rw[r,pt] at e;rw[e];refine sW ?_;exact .refl _
 rw[r,kP] at e;rw[e];refine sW ?_;refine sL (zy (k:=s) zo zo) ?_;exact .refl _
theorem T2(hm:A.jq.length=A.next.length)(hn:A.mi.length=A.next.length)(hM:sT A.jq)(s:Nat)(hs:s<A.next.length)(x:Int):ar ai 82 [lX A,aa s,.sc (.int .u64 x)]<|aD<|yx A s x:=by
 refine bK fZ ?_;have e:yx A s x=(jv .andNot .u64 (A.jq.getD s 0) x==0&&jv .and .u64 (A.mi.getD s 0) x==0):=by
  rw[<-ZK (hM _<|dP zo),zrx x<|A.mi.getD s 0];rfl
 unfold lX bS.cells ix;refine sR ?_;refine sL (zy (k:=s) zo zo) ?_;cases r:(jv .andNot .u64 (A.jq.getD s 0) x==0)
 ·rw[r,pt] at e;rw[e];refine sW ?_;exact .refl _
 rw[r,kP] at e;rw[e];refine sW ?_;refine sL (zy (k:=s) zo zo) ?_;exact .refl _
theorem zwz(x:Int)(n:Nat):ar ai 280 [aa x,.aB [aa n]]<|aD<|decide (x<0)||decide (x>=(n:Int)):=by
 refine bK fZ ?_;refine sRS (λh=>?_) λh=>?_
 ·exact cd zs
 exact cd zs
theorem Ku(hl:l.length<=9223372036854775807)(n:Nat):ar ai 215 [aO l,aa n] (.sc (.bool !(bx l n))):=by
 refine bL ?_;refine sN (mC (λn=>aa n) (λa=>by simp[Pure]) l hl (λx=>decide (x<0)||decide (x>=(n:Int))) 280 [.aB [aa n]] (by simp[an,Pure]) λa _=>zwz a n) ?_;rw[KY];exact .refl _
theorem zqZ(hl:l.length<=9223372036854775807)(n:Nat):ar ai 216 [aO l,.aB [aa n]] (.sc (.bool !(bx l n))):=by
 refine bL ?_;refine sC (Ku l hl n) ?_;exact .refl _
theorem zss(hl:l.length<=9223372036854775807)(n:Nat):ar ai 217 [aO l,.aB [aa n]] (.sc (.bool !(bx l n))):=by
 refine bL ?_;refine sC (Ku l hl n) ?_;exact .refl _
theorem YZ(hA:A.Fits):ar ai 131 [lX A]<|aa A.aS:=by
 have b1:=hA.start;have b2:=hA.next;have b3:=hA.jq;have b4:=hA.fair;have b5:=hA.mi;refine bL ?_;rw[aK];have fin:∀{H:aF} {z:Int},z=A.aS->Deep H (aa z) (aa A.aS):=λh=>h▸.refl _;refine sS (λh1=>?_) λh1=>?_
 ·exact fin<|by unfold bS.aS;rw[ae<|sO]
 rw[aK];refine sS (λh2=>?_) λh2=>?_
 ·exact fin<|by unfold bS.aS;rw[ae<|sO]
 have c1:¬(2048<A.next.length\/80<A.fair.length):=sO;rw[aK];refine sS (λh3=>?_) λh3=>?_
 ·exact fin<|by unfold bS.aS;rw[ab c1,ae<|sO]
 rw[aK];refine sS (λKT=>?_) λKT=>?_
 ·exact fin<|by unfold bS.aS;rw[ab c1,ae<|sO]
 refine sC (Ku A.start zo A.next.length) ?_;refine sS (λh4=>?_) λh4=>?_
 ·exact fin<|by unfold bS.aS;rw[ab c1,ae (.inr (.inr<|by simpa using h4))]
 have c2:¬(A.jq.length≠A.next.length\/A.mi.length≠A.next.length\/bx A.start A.next.length=false):=by
  rintro(q|q|q)
  ·exact sO
  ·exact sO
  rw[q] at h4;cases h4
 refine sN (Kn aO cG A.next zo (λl=>!(bx l A.next.length)) 216 [.aB [aa A.next.length]] (by simp[an,Pure]) λa ha=>zqZ a (by have:=hA.xU a ha;omega) _) ?_;refine sS (λg2=>?_) λg2=>?_
 ·exact fin<|by unfold bS.aS;rw[ab c1,ab c2,ae g2]
 have c3:¬(A.next.any λl=>!(bx l A.next.length))=true:=by rw[g2];simp
 refine sN (Kn aO cG A.fair zo (λl=>!(bx l A.next.length)) 217 [.aB [aa A.next.length]] (by simp[an,Pure]) λa ha=>zss a (by have:=hA.xR a ha;omega) _) ?_;refine sS (λg3=>?_) λg3=>?_
 ·exact fin<|by unfold bS.aS;rw[ab c1,ab c2,ab c3,ae g3]
 exact fin<|by unfold bS.aS;rw[ab c1,ab c2,ab c3,ab<|by rw[g3];simp]
def gn(f:Nat->Nat):Nat->Int:=λi=>(f i:Int)
def jb(g:aj)(num low:Nat->Nat)(part:Nat->Int)(Z:ah)(h aw count dA:Nat):aF :=
 [.vec true 0 1<|aA<|gl g.length<|gn num,.vec true 0 1<|aA<|gl g.length<|gn low,.vec true 0 1<|aA<|gl g.length part,.row true [bY g,.own 0 0 0 g.length,.own 1 0 0 g.length,.own 2 0 0 g.length,.own 4 aw 0 h,aa count,aa dA],.vec true aw 1<|aA Z]
variable{Z:ah}{h count:Nat}
theorem O3{num:Nat->Nat}{part:Nat->Int}{aw dA:Nat}:∀o∈jb g num low part Z h aw count dA,o.under 5:=by
 intro o ho;simp only[jb,dZ,rH,or_false] at ho;rcases ho with rfl|rfl|rfl|rfl|rfl<;>simp[ao.under,au,aq,bw _<|mj g]
theorem Hv(f:Nat->Nat)(k v:Nat):fN (gn f) k (v:Int)=gn (up f k v):=by
 funext i;unfold fN gn up;split<;>rfl
theorem Iq:List.drop 0 (List.take h<|aA Z)++List.drop 0 (List.take 1 [[aa x]])=aA (Z.take h++[x]):=by simp[aA,List.map_take]
theorem Qt(g:aj)(hn:g.length<=1000000000)(num low:Nat->Nat)(part:Nat->Int)(Z:ah)(h aw count dA:Nat)(hh:h<=Z.length)(hh':h<=1000000000)(hc:count<=1000000000)(v:Nat)(hv:v<g.length) :
  cp ai 282 [.loc 3 0,aa v] (jb g num low part Z h aw count dA) (.aI []) (jb g (up num v<|count+1) (up low v<|count+1) part (Z.take h++[(v:Int)]) (h+1) (aw+1) (count+1) dA):=by
 refine iV fZ zs (by simp[jb]) ?_ (by simp[aq,au]) O3;unfold jb;refine sR ?_;refine sIB ?_;refine⟨_,cD v zo hv,?_⟩;refine bE ?_;refine⟨_,cD v zo hv,?_⟩;refine sWJ ?_;refine⟨?_,zs⟩;rw[show(count:Int)+1=((count+1:Nat):Int) from rfl,kV (k:=v) zo,kV (k:=v) zo,Hv,Hv,Iq];rfl
def yy(part:Nat->Int)(st:List Nat)(dA:Nat):Nat->Int:=λv=>if v∈st then (dA:Int) else part v
theorem ztG(part:Nat->Int)(dA:Nat):yy part [] dA=part:=by funext v;simp[yy]
theorem Tj(part:Nat->Int)(st:List Nat)(dA k:Nat):fN (yy part st dA) k (dA:Int)=yy part (st++[k]) dA:=by
 funext i;unfold fN yy;by_cases e:i=k
 ·subst e;simp
 simp[e]
theorem Y'(g:aj)(hn:g.length<=1000000000)(num low:Nat->Nat)(part:Nat->Int)(Z:ah)(pre post:List Nat)(n:Nat)(aw count dA:Nat)(hh:(pre++n::post).length<=Z.length)(hh':(pre++n::post).length<=1000000000)(hg:dA<=1000000000)
  (hZ:∀j,j<(pre++n::post).length->Z.getD ((pre++n::post).length-1-j) 0=(((pre++n::post).getD j 0:Nat):Int)) (cE:∀v∈pre++n::post,v<g.length) (hp:n ∉ pre) :
  cp ai 283 [.loc 3 0,aa n] (jb g num low part Z (pre++n::post).length aw count dA) (.aI []) (jb g num low (yy part (pre++[n]) dA) Z post.length aw count<|dA+1):=by
 refine iV fZ zs (by simp[jb]) ?_ (by simp[aq,au]) O3
 (apply uK;focus (repeat' constructor))
 generalize pH:pre++n::post=st at *
 refine cJ [0,1] (λ_:Nat=>[]) (λj=>jb g num low (yy part (st.take j) dA) Z (st.length-j) aw count dA)
  (λj=>j<=pre.length) (λj=>pre.length-j) 0 ?_
 refine sW ?_;refine⟨zo,by exact sK,by rw[r7,ztG];rfl,?_⟩;rintro j hj;have hlen:st.length=pre.length+post.length+1:=by rw[<-pH];simp;omega
 have hkz:=hZ j zo;have sl:st.getD j 0∈st:=by rw[aE,aJ zo];exact ib _
 have sj:=cE _ sl;have PK:st.take (j+1)=st.take j++[st.getD j 0]:=by
  rw[lI,aJ zo,aE,aJ zo];rfl
 have G0:st.getD j 0=n↔j=pre.length:=by
  rw[<-pH];constructor
  ·intro e;rcases dY j pre.length with q|q
   ·exfalso;rw[aE,fv q,aJ q] at e;exact hp<|e▸ib q
   omega
  intro e;subst e;rw[aE,gJ<|aT _,rm];rfl
 generalize hk:st.getD j 0=k at *;unfold jb;refine c6 ?_;refine sIB ?_;refine⟨_,cA (l:=Z) (k:=st.length-1-j) zo zo,?_⟩;rw[hkz];refine bb ?_;refine⟨zo,zo,zo,?_⟩;refine bE ?_;refine⟨_,cD k zo sj,?_⟩;refine sWS (λq=>?_) λq=>?_
 ·have q:k=n:=sO;have q':=G0.1 q;refine sI ?_;have qJ:st.take (j+1)=pre++[n]:=by
   rw[<-pH,q',show pre++n::post=(pre++[n])++post by simp,List.take_left' zs]
  refine⟨?_,zs⟩;rw[kV (k:=k) zo,Tj,<-PK,qJ,show 0+((st.length-j-0:Nat)-1:Int).toNat=post.length by omega];rfl
 have q:k≠n:=sO;have q':=λz=>q<|G0.2 z;refine⟨j+1,zo,zd,aL (by exact sK) ?_⟩;rw[kV (k:=k) zo,Tj,<-PK,show 0+((st.length-j-0:Nat)-1:Int).toNat=st.length-(j+1) by omega]
structure TR where
 S:TJ
 Z:ah
 aw:Nat
structure ZOK(st:List Nat)(Z:ah):Prop where
 len:st.length<=Z.length
 at_:∀j,j<st.length->Z.getD (st.length-1-j) 0=((st.getD j 0:Nat):Int)
theorem ZOK.push{st:List Nat}(h:ZOK st Z)(v:Nat):ZOK (v::st) (Z.take st.length++[(v:Int)]) where
 len:=by have:=h.len;simp;omega
 at_ j hj:=by
  have hl:=h.len;simp only[bH] at hj⊢
  cases j with
  |zero =>
   rw[aE,gJ<|by simp;omega];rw[show st.length+1-1-0-(Z.take st.length).length=0 by simp;omega];rfl
  |succ j =>
   have:=h.at_ j zo;rw[xj,<-this,aE,aE,fv<|by simp;omega,y9,ae zo,show st.length+1-1-(j+1)=st.length-1-j by omega]
theorem ZOK.drop{pre post:List Nat}(h:ZOK (pre++post) Z):ZOK post Z where
 len:=by have:=h.len;simp at this;omega
 at_ j hj:=by
  have:=h.at_ (pre.length+j) (by simp;omega);rw[aE (l:=pre++post),gJ zo,Cz,<-aE,cq,show pre.length+post.length-1-(pre.length+j)=post.length-1-j by omega] at this;exact this
structure TRI(g:aj)(R:TR):Prop where
 tj:TjI g R.S
 zok:ZOK R.S.stack R.Z
def TR.open(R:TR)(v:Nat)(path:List<|Nat×Nat):TR:=⟨R.S.open v path,R.Z.take R.S.stack.length++[(v:Int)],R.aw+1⟩
def stepT(g:aj)(R:TR):TR :=
 match R.S.path with
 |[]=>R
 |(p,i)::r =>
  if i<(g.getD p []).length then
   if R.S.num ((g.getD p []).getD i 0).toNat=0 then R.open ((g.getD p []).getD i 0).toNat<|(p,i+1)::r
   else ⟨R.S.skip p i r ((g.getD p []).getD i 0).toNat,R.Z,R.aw⟩
  else match r with
   |[]=>⟨R.S.shut p [] R.S.low,R.Z,R.aw⟩
   |(q,j)::r'=>if R.S.low p=R.S.num p then ⟨R.S.shut p ((q,j)::r')<|up R.S.low q<|min (R.S.low q)<|R.S.low p,R.Z,R.aw⟩ else ⟨R.S.back p q j r',R.Z,R.aw⟩
def runT(g:aj):Nat->TR->TR
 |0,R=>R
 |k+1,R=>if R.S.path=[] then R else runT g k<|stepT g R
variable{R:TR}
theorem ztU(h:R.S.path=[]):∀k,runT g k R=R
 |0=>rfl
 |k+1=>by simp only[runT,ae h]
variable{S:TJ}
theorem TjI.split(h:TjI g S)(hn:n∈S.stack):∃pre post,S.stack=pre++n::post/\n ∉ pre/\(∀v,v∈pre++[n]↔v∈S.stack/\S.num n<=S.num v)/\S.stack.filter (λv=>decide (S.num v<S.num n))=post:=by
 obtain⟨pre,post,e⟩:=List.append_of_mem hn;have hs:=h.srt;rw[e,List.pairwise_append] at hs;obtain⟨s1,s2,s3⟩:=hs;rw[List.pairwise_cons] at s2;have p1:∀v∈pre,S.num n<S.num v:=λv hv=>s3 v hv n zs;have p2:∀v∈post,S.num v<S.num n:=λv hv=>s2.1 v hv;refine⟨pre,post,e,λq=>by have:=p1 n q;omega,λv=>?_,?_⟩
 ·rw[e];simp only[dt,dZ,rH,or_false];constructor
  ·rintro(q|q)
   ·exact⟨.inl q,Nat.le_of_lt<|p1 v q⟩
   subst q;exact⟨.inr (.inl rfl),aT _⟩
  rintro⟨q|q|q,k⟩
  ·exact .inl q
  ·exact .inr q
  have:=p2 v q;omega
 rw[e,Fh,BD,ab zs];have f1:pre.filter (λv=>decide (S.num v<S.num n))=[]:=List.filter_eq_nil_iff.2 λv hv=>by have:=p1 v hv;simp;omega
 have f2:post.filter (λv=>decide (S.num v<S.num n))=post:=List.filter_eq_self.2 λv hv=>by simpa using p2 v hv
 rw[f1,f2];rfl
theorem TjI.VD(h:TjI g S)(hp:S.path=[(p,i)]):S.low p=S.num p:=by
 have qF:=h.seg;rw[hp] at qF;obtain⟨g1,g2,g3,g4,g5,⟨w,w1,w2,w3⟩,g7,g8,g9⟩:=qF;have:=g9 w w1;omega
theorem TRI.shut{g:aj}{R:TR}(h:TRI g R){n i:Nat}{r:List<|Nat×Nat}(hp:R.S.path=(n,i)::r)(hi:(g.getD n []).length<=i)(hl:R.S.low n=R.S.num n){low:Nat->Nat}(A3:∀v,R.S.num v<R.S.num n->low v=R.S.low v):TRI g ⟨R.S.shut n r low,R.Z,R.aw⟩:=by
 refine⟨h.tj.shut hp hi hl A3,?_⟩;have hn:n∈R.S.stack:=by have:=h.tj.seg;rw[hp] at this;exact this.1
 obtain⟨pre,post,e,e1,e2,e3⟩:=h.tj.split hn;show ZOK (R.S.stack.filter _) R.Z;rw[e3];have:=h.zok;rw[e,show pre++n::post=(pre++[n])++post by simp] at this;exact this.drop
theorem Q7(bp:∀v x,x∈g.getD v []->x.toNat<g.length)(h:TRI g R)(hp:R.S.path≠[]):TRI g (stepT g R)/\TJ.fuel g (stepT g R).S<TJ.fuel g R.S/\∀x,R.S.num x≠0->(stepT g R).S.num x≠0:=by
 unfold stepT
 cases e:R.S.path with
 |nil=>exact absurd e hp
 |cons q r =>
  obtain⟨p,i⟩:=q;dsimp only;by_cases hi:i<(g.getD p []).length
  ·rw[ae hi];have hv:=bp p _<|dP hi;by_cases h0:R.S.num ((g.getD p []).getD i 0).toNat=0
   ·rw[ae h0];refine⟨⟨h.tj.push e hi hv h0,h.zok.push _⟩,by have:=Yj e hi hv h0;show TJ.fuel g (R.S.open _ _)<_;omega,λx hx=>?_⟩;show up R.S.num _ _ x≠0;rw[kL λq=>hx<|by rw[q];exact h0];exact hx
   rw[ab h0];exact⟨⟨h.tj.skip e hi h0,h.zok⟩,by have:=zr6 (x:=((g.getD p []).getD i 0).toNat) e hi;show TJ.fuel g (R.S.skip _ _ _ _)<_;omega,λx hx=>hx⟩
  rw[ab hi]
  cases r with
  |nil =>
   exact⟨h.shut e zo (h.tj.VD e) λ_ _=>rfl,VV e,λx hx=>hx⟩
  |cons q r =>
   obtain⟨q,j⟩:=q;dsimp only;by_cases hl:R.S.low p=R.S.num p
   ·rw[ae hl];have qF:=h.tj.seg;rw[e] at qF;obtain⟨g1,g2,g3,g4,g5,g6,g7,g8,f1,f2,f3,f4,f5,f6,f7,f8,f9⟩:=qF;refine⟨h.shut e zo hl λv _=>?_,VV e,λx hx=>hx⟩;by_cases ev:v=q
    ·subst ev;rw[nU];omega
    rw[kL ev]
   rw[ab hl];exact⟨⟨h.tj.back e zo hl,h.zok⟩,zrE e,λx hx=>hx⟩
theorem TF{g:aj}(bp:∀v x,x∈g.getD v []->x.toNat<g.length):∀(k:Nat) {R:TR},TRI g R->TJ.fuel g R.S<=k->TRI g (runT g k R)/\(runT g k R).S.path=[]/\∀x,R.S.num x≠0->(runT g k R).S.num x≠0
 |0,R,h,hk=>by
  have hp:R.S.path=[]:=by
   cases e:R.S.path with
   |nil=>rfl
   |cons q r=>obtain⟨p,i⟩:=q;unfold TJ.fuel at hk;rw[e] at hk;simp only[qK] at hk;omega
  exact⟨h,hp,λx hx=>hx⟩
 |k+1,R,h,hk=>by
  simp only[runT];by_cases hp:R.S.path=[]
  ·rw[ae hp];exact⟨h,hp,λx hx=>hx⟩
  rw[ab hp];obtain⟨a,b,c⟩:=Q7 bp h hp;obtain⟨a',b',c'⟩:=TF bp k a zo;exact⟨a',b',λx hx=>c' x<|c x hx⟩
theorem TRI.root(h:TRI g R)(hp:R.S.path=[])(hv:v<g.length)(h0:R.S.num v=0):TRI g<|R.open v []:=by
 refine⟨h.tj.opened hv h0 (jr _) ?_ trivial,h.zok.push v⟩;have:=h.tj.seg;rw[hp] at this;exact this
def xy(g:aj)(R:TR)(v:Nat):TR:=runT g (TJ.fuel g (R.open v []).S)<|R.open v []
def jo(g:aj):Nat->TR
 |0=>⟨⟨λ_=>0,λ_=>0,λ_=>-1,[],[],0,0⟩,[],0⟩
 |k+1=>if (jo g k).S.num k=0 then xy g (jo g k) k else jo g k
theorem zsW(bp:∀v x,x∈g.getD v []->x.toNat<g.length)(h:TRI g R)(hp:R.S.path=[])(hv:v<g.length)(h0:R.S.num v=0) :
  TRI g (xy g R v)/\(xy g R v).S.path=[]/\(xy g R v).S.num v≠0/\∀x,R.S.num x≠0->(xy g R v).S.num x≠0:=by
 obtain⟨a,b,c⟩:=TF bp _ (h.root hp hv h0)<|aT _;refine⟨a,b,c v ?_,λx hx=>c x ?_⟩
 ·show up R.S.num v (R.S.count+1) v≠0;rw[nU];omega
 show up R.S.num v (R.S.count+1) x≠0;by_cases e:x=v
 ·subst e;rw[nU];omega
 rw[kL e];exact hx
theorem Ge{g:aj}(bp:∀v x,x∈g.getD v []->x.toNat<g.length):∀k,k<=g.length->TRI g (jo g k)/\(jo g k).S.path=[]/\∀j,j<k->(jo g k).S.num j≠0
 |0,_=>⟨⟨TjI.zero g,⟨aT _,λj hj=>by cases hj⟩⟩,rfl,λj hj=>by cases hj⟩
 |k+1,hk=>by
  obtain⟨a,b,c⟩:=Ge bp k zo;simp only[jo];by_cases h0:(jo g k).S.num k=0
  ·rw[ae h0];obtain⟨a',b',c',d'⟩:=zsW bp a b (show k<g.length by omega) h0;refine⟨a',b',λj hj=>?_⟩;by_cases e:j=k
   ·subst e;exact c'
   exact d' j<|c j zo
  rw[ab h0];refine⟨a,b,λj hj=>?_⟩;by_cases e:j=k
  ·subst e;exact h0
  exact c j zo
theorem XK(bp:∀v x,x∈g.getD v []->x.toNat<g.length):(∀i,i<g.length->0<=(jo g g.length).S.part i/\(jo g g.length).S.part i<((jo g g.length).S.dA:Int)) /\
  (∀i j,i<g.length->j<g.length->((jo g g.length).S.part i=(jo g g.length).S.part j↔re g i j))/\(jo g g.length).S.dA<=g.length:=by
 obtain⟨a,b,c⟩:=Ge bp g.length<|aT _;have hd:=λi (hi:i<g.length)=>a.tj.done b<|c i hi;refine⟨λi hi=>⟨hd i hi,(a.tj.par i<|hd i hi).1⟩,λi j hi hj=>?_,?_⟩
 ·rw[a.tj.same i j (hd i hi)<|hd j hj,mP]
 have h1:=a.tj.size;have h2:=a.tj.seen;omega
def pz(l:List<|Nat×Nat):fE:=l.map λq=>[aa q.1,aa q.2]
variable(l:List<|Nat×Nat)
@[simp] theorem zw8:fc<|pz l:=db _ (λl=>by simp[an,Pure]) l
@[simp] theorem zzO:bg m (pz l)↔True:=⟨λ_=>trivial,λ_=>aV _<|zw8 l⟩
variable{l:List<|Nat×Nat}
theorem NV(hz:z=k)(h:k<l.length):(pz l)[z]? = some [.sc (.int .i64 (l.getD k (0,0)).1),.sc (.int .i64 (l.getD k (0,0)).2)]:=by
 subst hz;rw[aE,aJ h];simp[pz,h]
theorem zzM(hz:z=k):(pz l).set z [aa a,aa b]=pz (l.set k (a,b)):=by
 subst hz;simp[pz,List.map_set]
theorem zzQ{Z:List<|Nat×Nat}:List.drop 0 (List.take h<|pz Z)++List.drop 0 (List.take 1 [[aa a,aa 0]])=pz (Z.take h++[(a,0)]):=by simp[pz,List.map_take]
structure POK(pa:List<|Nat×Nat)(PZ:List<|Nat×Nat):Prop where
 len:pa.length<=PZ.length
 eq:PZ.take pa.length=pa.reverse
variable{PZ:List<|Nat×Nat}
theorem POK.top{q:Nat×Nat}(h:POK (q::r) PZ):PZ.getD r.length (0,0)=q:=by
 have h1:=h.len;have h2:=h.eq;simp only[bH,List.reverse_cons] at h1 h2;have h3:(PZ.take<|r.length+1).getD r.length (0,0)=(r.reverse++[q]).getD r.length (0,0):=by rw[h2]
 rw[aE,aE,y9,ae zo,gJ zs] at h3;rw[aE,h3];simp
theorem POK.set{q q':Nat×Nat}{r PZ:List<|Nat×Nat}(h:POK (q::r) PZ):POK (q'::r) (PZ.set r.length q') where
 len:=by have:=h.len;simpa using this
 eq:=by
  have h1:=h.len;have h2:=h.eq;simp only[bH,List.reverse_cons] at h1 h2⊢;rw[List.take_set,h2,List.set_append_right _ _ zs];simp
theorem POK.push(h:POK r PZ)(q:Nat×Nat):POK (q::r) (PZ.take r.length++[q]) where
 len:=by have:=h.len;simp;omega
 eq:=by
  have h1:=h.len;rw[jd<|by simp;omega,h.eq];simp
theorem POK.pop{q:Nat×Nat}(h:POK (q::r) PZ):POK r PZ where
 len:=by have:=h.len;simp at this;omega
 eq:=by
  have h2:=h.eq;simp only[bH,List.reverse_cons] at h2;have h3:(PZ.take<|r.length+1).take r.length=(r.reverse++[q]).take r.length:=(by rw[h2]);rw[List.take_take,sq zo,List.take_left' zs] at h3;exact h3
def rV(g:aj)(R:TR):aF:=jb g R.S.num R.S.low R.S.part R.Z R.S.stack.length R.aw R.S.count R.S.dA
theorem RC{g:aj}{num low:Nat->Nat}{part:Nat->Int}{Z:ah}{h aw count dA:Nat}(X:aF) :
  []++((jb g num low part Z h aw count dA).map (ao.aQ λi=>([]:aF).length+i)++X)=jb g num low part Z h aw count dA++X:=by
 have e:(λi=>([]:aF).length+i)=λi=>0+i:=rfl;have hg:=λρ=>iT (ρ:=ρ) _<|mj g;have h1:=λρ l=>kQ (ρ:=ρ) _<|db (λn:Int=>[aa n]) (λl=>by simp[an,Pure]) l;simp only[jb,fi,gm,ao.aQ,bP,hg,aA,h1,lW,ov];simp only[D.aQ,lZ,bU]
theorem Zh{num:Nat->Nat}{part:Nat->Int}{aw dA:Nat}:fo 5<|jb g num low part Z h aw count dA:=by
 simp[jb,fo,ao.under,au,aq,bw _<|mj g]
theorem Mq{g:aj}{f:FuncId}{v:Int}{num low T8 PA:Nat->Nat}{part Ve:Nat->Int}{Z Z':ah}{h aw count dA h' cf QR Qn:Nat}
  (hA:cp ai f [.loc 3 0,aa v] (jb g num low part Z h aw count dA) (.aI [])<|jb g T8 PA Ve Z' h' cf QR Qn) (X:aF) :
  cp ai f [.loc 3 0,aa v] (jb g num low part Z h aw count dA++X) (.aI []) (jb g T8 PA Ve Z' h' cf QR Qn++X) :=
 r9 hA [] X (by simp[jb]) (by simp[jb,au,aq]) Zh (by simp[bP,D.aQ]) (by simp[D.aQ,bP]) (RC X) (RC X)
theorem TRI.bounds(h:TRI g R)(hn:g.length<=1000000000):R.S.stack.length<=1000000000/\R.S.count<=1000000000/\R.S.dA<=1000000000/\R.S.path.length<=1000000000:=by
 have h1:=h.tj.size;have h2:=h.tj.seen;have h3:=h.tj.deep;omega
theorem PE(hn:g.length<=1000000000)(hI:TRI g R)(hp:p∈R.S.stack)(low:Nat->Nat)(path:List<|Nat×Nat)(X:aF) :
  cp ai 283 [.loc 3 0,aa p] (jb g R.S.num low R.S.part R.Z R.S.stack.length R.aw R.S.count R.S.dA++X) (.aI []) (rV g ⟨R.S.shut p path low,R.Z,R.aw⟩++X):=by
 have hb:=hI.bounds hn;obtain⟨pre,post,e,e1,e2,e3⟩:=hI.tj.split hp;have cE:∀v∈pre++p::post,v<g.length:=λv hv=>hI.tj.node v ((hI.tj.stk v).1<|e▸hv).1;have hl:=hI.zok.len;have ha:=hI.zok.at_;rw[e] at hl ha hb;have hC:=Y' g hn R.S.num low R.S.part R.Z pre post p R.aw R.S.count R.S.dA hl hb.1 hb.2.2.1 ha cE e1;have ep:yy R.S.part (pre++[p]) R.S.dA=(R.S.shut p path low).part:=by
  funext v;show(if v∈pre++[p] then _ else _)=if v∈R.S.stack/\R.S.num p<=R.S.num v then _ else _
  by_cases q:v∈pre++[p]
  ·rw[ae q,ae<|(e2 v).1 q]
  rw[ab q,ab λz=>q<|(e2 v).2 z]
 have es:(R.S.shut p path low).stack=post:=e3;have:=Mq hC X;rw[ep,<-e,<-es] at this;exact this
theorem zvs(g:aj)(hn:g.length<=1000000000)(iI:∀l∈g,bx l g.length)(hF:jH g)(R:TR)(hR:TRI g R)(hp:R.S.path=[])(v:Nat)(hv:v<g.length)(h0:R.S.num v=0) :
  cp ai 219 [.loc 3 0,aa v] (rV g R) (.aI []) (rV g<|xy g R v):=by
 have dF:=λk=>gY iI k;have bp:∀v x,x∈g.getD v []->x.toNat<g.length:=λv x hx=>by have:=cZ (dF v) hx;omega
 have hb:=hR.bounds hn;have hB:=Mq (Qt g hn R.S.num R.S.low R.S.part R.Z R.S.stack.length R.aw R.S.count R.S.dA hR.zok.len hb.1 hb.2.1 v hv) [.vec true 0 2 (pz [(v,0)])];refine iV fZ zs (by simp[rV,jb]) ?_ (by simp[aq,au]) O3;have QZ:=hR.root hp hv h0;have eF:xy g R v=runT g (TJ.fuel g (R.open v []).S) (R.open v []):=rfl;generalize xy g R v=Fin at *;have eO:rV g (R.open v [])=jb g (up R.S.num v (R.S.count+1)) (up R.S.low v (R.S.count+1)) R.S.part (R.Z.take R.S.stack.length++[(v:Int)]) (R.S.stack.length+1) (R.aw+1) (R.S.count+1) R.S.dA:=rfl;rw[<-eO] at hB;clear eO;have ep:(R.open v []).S.path=[(v,0)]:=rfl;generalize R.open v []=R0 at *;unfold rV jb at hB⊢;refine sR ?_;refine sA hB ?_
 refine cJ [0] (λ((R,PZ,pver,k):TR×List (Nat×Nat)×Nat×Nat)=>[(4,.own 5 pver 0 R.S.path.length)]) (λ(R,PZ,pver,k)=>rV g R++[.vec true pver 2<|pz PZ])
  (λ(R,PZ,pver,k)=>TRI g R/\POK R.S.path PZ/\TJ.fuel g R.S<=k/\runT g k R=Fin) (λ(R,PZ,pver,k)=>TJ.fuel g R.S) (R0,[(v,0)],0,TJ.fuel g R0.S) ?_
 refine sW ?_;refine⟨⟨QZ,by rw[ep];exact⟨zs,rfl⟩,aT _,eF.symm⟩,⟨by rw[ep];rfl,by exact sK⟩,rfl,?_⟩;clear hB QZ ep eF;rintro⟨R,PZ,pver,k⟩ ⟨hI,ET,hk,E2⟩;have hb:=hI.bounds hn
 cases ep:R.S.path with
 |nil =>
  rw[ztU ep] at E2;subst E2;have JR:R.S.path.length=0:=(by rw[ep];rfl);unfold rV jb;refine c6 ?_;rw[JR];refine sW ?_;show(5:Nat)<=6;omega
 |cons q r =>
  obtain⟨p,i⟩:=q;have cE:=hI.tj.seg;rw[ep] at cE ET;have rR:=cE.1;have qJ:=hI.tj.node p ((hI.tj.stk p).1 rR).1;have Ob:=Q7 bp hI (by rw[ep];simp);obtain⟨k',rfl⟩:∃k',k=k'+1:=⟨k-1,by have:=Ob.2.1;omega⟩;have Cn:runT g k' (stepT g R)=Fin:=(by rw[<-E2];simp only[runT];rw[ab<|by rw[ep];simp]);have ck:=Ob.2.1;have mb:=Ob.1;have zAR:=ET.top;have CB:=ET.len;rw[ep] at hb;simp only[bH] at hb CB;have AD:=hF.at p;have JR:R.S.path.length=r.length+1:=(by rw[ep];rfl);generalize lv:stepT g R=R' at *;unfold rV jb bY;refine c6 ?_;rw[JR];refine sS (λq0=>?_) λq0=>?_
  ·have gb:(pz PZ)[r.length]? = some [aa p,aa i]:=(by rw[NV rfl zo,zAR]);refine sIB ?_;rw[show 0+(((r.length+1-0:Nat):Int)-1).toNat=r.length by omega];refine⟨_,gb,?_⟩;refine sW ?_;refine⟨_,gb,?_⟩;refine sW ?_;refine sL (iL (k:=p) zo qJ) ?_;rw[aK];refine sS (λhi=>?_) λhi=>?_
   ·have hi:i<(g.getD p []).length:=sO;have hx:=cZ (dF p)<|dP hi;refine⟨_,gb,?_⟩;refine sW ?_;refine sL (iL (k:=p) zo qJ) ?_;refine⟨_,gb,?_⟩;refine sW ?_;refine sL (cA (l:=g.getD p []) (k:=i) zo hi) ?_;refine⟨_,gb,?_⟩;refine bb ?_;refine⟨_,gb,?_⟩;refine sW ?_;rw[show(i:Int)+1=((i+1:Nat):Int) from rfl,zzM (k:=r.length) rfl];have I6:=ET.set (q':=(p,i+1));have hSl:(PZ.set r.length (p,i+1)).length=PZ.length:=zs;have j6:stepT g R=if R.S.num ((g.getD p []).getD i 0).toNat=0 then R.open ((g.getD p []).getD i 0).toNat<|(p,i+1)::r else ⟨R.S.skip p i r ((g.getD p []).getD i 0).toNat,R.Z,R.aw⟩:=by
     unfold stepT;rw[ep];simp only[ae hi]
    have mq:∀k,k=i->(g.getD p []).getD k 0=(g.getD p []).getD i 0:=λk e=>by rw[e]
    generalize (g.getD p []).getD i 0=x at *;obtain⟨to,rfl⟩:∃to:Nat,x=to:=⟨x.toNat,zo⟩;rw[bQ] at j6;have Iv:to<g.length:=zo;refine sB ?_;refine⟨_,cD to zo Iv,?_⟩;refine sW ?_;rw[show gn R.S.num to=(R.S.num to:Int) from rfl];refine sS (λh1=>?_) λh1=>?_
    ·have h1:R.S.num to=0:=sO;rw[ae h1,lv] at j6;subst j6;have hB:=Mq (Qt g hn R.S.num R.S.low R.S.part R.Z R.S.stack.length R.aw R.S.count R.S.dA hI.zok.len hb.1 hb.2.1 to Iv) [.vec true pver 2<|pz<|PZ.set r.length (p,i+1)];unfold jb bY at hB;refine sA hB ?_;refine sJ ?_;refine⟨(R.open to<|(p,i+1)::r,(PZ.set r.length (p,i+1)).take (r.length+1)++[(to,0)],pver+1,k'),⟨mb,I6.push (to,0),zo,Cn⟩,zd,?_⟩;refine aR 6 zs rfl sQ (sU ?_);exact aZ zzQ
    have h1:R.S.num to≠0:=sO;rw[ab h1,lv] at j6;subst j6;have hcn:=hI.tj.cnt to;have kT:=hI.tj.cnt p;refine sB ?_;refine⟨_,cD to zo Iv,?_⟩;refine sWS (λh2=>?_) λh2=>?_
    ·have h2:R.S.part to<0:=sO;have RO:(pz<|PZ.set r.length (p,i+1))[r.length]? = some [aa p,aa ((i+1:Nat):Int)]:=by
      rw[NV rfl zo,I6.top]
     refine⟨_,RO,?_⟩;refine sW ?_;refine⟨_,RO,?_⟩;refine bE ?_;refine⟨_,cD p zo qJ,?_⟩;refine bE ?_;refine⟨_,cD to zo Iv,?_⟩;refine bE ?_;refine⟨_,cD p zo qJ,?_⟩;refine sW ?_;have el:(R.S.skip p i r to).low=up R.S.low p (min (R.S.low p)<|R.S.num to):=ae h2;refine⟨(⟨R.S.skip p i r to,R.Z,R.aw⟩,PZ.set r.length (p,i+1),pver,k'),⟨mb,I6,zo,Cn⟩,zd,aL (by exact sK) ?_⟩;dsimp only;rw[el,show min (gn R.S.low p) (gn R.S.num to)=((min (R.S.low p) (R.S.num to):Nat):Int) by unfold gn;omega,kV (k:=p) zo,Hv];rfl
    have h2:¬R.S.part to<0:=sO;have el:(R.S.skip p i r to).low=R.S.low:=ab h2;refine⟨(⟨R.S.skip p i r to,R.Z,R.aw⟩,PZ.set r.length (p,i+1),pver,k'),⟨mb,I6,zo,Cn⟩,zd,aL (by exact sK) ?_⟩;dsimp only;rw[el];rfl
   have hi:(g.getD p []).length≤i:=by have:¬i<(g.getD p []).length:=sO
                                      omega
   refine⟨_,gb,?_⟩;refine bb ?_;refine⟨zo,zo,zo,?_⟩;refine sW ?_;rw[show 0+(((r.length+1-0:Nat):Int)-1).toNat=r.length by omega];have II:=ET.pop;have jh:=hI.tj.cnt p;have rq:R.S.low p<=R.S.num p:=cE.2.2.2.2.1
   cases r with
   |nil =>
    have j6:stepT g R=⟨R.S.shut p [] R.S.low,R.Z,R.aw⟩:=by
     unfold stepT;rw[ep];simp only[ab<|Nat.not_lt.2 hi]
    rw[lv] at j6;refine bE ?_;refine⟨_,cD p zo qJ,?_⟩;refine bE ?_;refine⟨_,cD p zo qJ,?_⟩;refine sW ?_;rw[show gn R.S.low p=(R.S.low p:Int) from rfl,show gn R.S.num p=(R.S.num p:Int) from rfl];have LM:=hI.tj.VD ep;refine sS (λh3=>?_) λh3=>?_
    ·have hC:=PE hn hI rR R.S.low [] [.vec true pver 2<|pz PZ];unfold rV jb bY at hC;refine sA hC ?_;subst j6;refine⟨(⟨R.S.shut p [] R.S.low,R.Z,R.aw⟩,PZ,pver,k'),⟨mb,II,zo,Cn⟩,zd,aL (by exact sK) rfl⟩
    exfalso;exact sO
   |cons q r =>
    obtain⟨q,j⟩:=q;have Pz:=cE.2.2.2.2.2.2.2.2;have hqs:=Pz.1;have V8:=hI.tj.node q ((hI.tj.stk q).1 hqs).1;have bT:p≠q:=λe=>by
     have:=Pz.2.1;rw[e] at this;omega
    have j6:stepT g R=if R.S.low p=R.S.num p then ⟨R.S.shut p ((q,j)::r)<|up R.S.low q<|min (R.S.low q)<|R.S.low p,R.Z,R.aw⟩ else ⟨R.S.back p q j r,R.Z,R.aw⟩:=by
     unfold stepT;rw[ep];simp only[ab<|Nat.not_lt.2 hi]
    rw[lv] at j6;have zBt:(pz PZ)[r.length]? = some [aa q,aa j]:=(by rw[NV rfl (by simp at CB;omega),II.top]);rw[bH] at CB hb;rw[bH];refine sS (λq5=>?_) λq5=>?_
    ·refine sIB ?_;rw[show 0+(((r.length+1-(0+0):Nat):Int)-1).toNat=r.length by omega];refine⟨_,zBt,?_⟩;refine bE ?_;refine⟨_,cD q zo V8,?_⟩;refine bE ?_;refine⟨_,cD p zo qJ,?_⟩;refine bE ?_;refine⟨_,cD q zo V8,?_⟩;refine sW ?_;rw[show min (gn R.S.low q) (gn R.S.low p)=((min (R.S.low q) (R.S.low p):Nat):Int) by unfold gn;omega,kV (k:=q) zo,Hv];refine sB ?_;refine⟨_,cD p zo qJ,?_⟩;refine bE ?_;refine⟨_,cD p zo qJ,?_⟩;refine sW ?_;rw[show gn (up R.S.low q<|min (R.S.low q)<|R.S.low p) p=(R.S.low p:Int) by unfold gn;rw[kL bT],show gn R.S.num p=(R.S.num p:Int) from rfl];refine sS (λh3=>?_) λh3=>?_
     ·have h3:R.S.low p=R.S.num p:=sO;rw[ae h3] at j6;have hC:=PE hn hI rR (up R.S.low q<|min (R.S.low q)<|R.S.low p) ((q,j)::r) [.vec true pver 2<|pz PZ];unfold rV jb bY at hC;refine sA hC ?_;subst j6;refine⟨(⟨R.S.shut p ((q,j)::r)<|up R.S.low q<|min (R.S.low q)<|R.S.low p,R.Z,R.aw⟩,PZ,pver,k'),⟨mb,II,zo,Cn⟩,zd,aL (by exact sK) rfl⟩
     have h3:R.S.low p≠R.S.num p:=sO;rw[ab h3] at j6;subst j6;refine⟨(⟨R.S.back p q j r,R.Z,R.aw⟩,PZ,pver,k'),⟨mb,II,zo,Cn⟩,zd,aL (by exact sK) rfl⟩
    exfalso;exact sO
  exfalso;exact sO
noncomputable def bG(g:aj):Nat->Int:=gn<|oZ<|re g
noncomputable def mZ(g:aj):ah:=gl g.length<|bG g
def Ea(same:Nat->Nat->Bool)(part:Nat->Int)(name:Nat->Int)(k:Nat):Prop:=∀i:Nat,(∃b,b<k/\part b=(i:Int)/\name i=(oZ same b:Int)+1)\/((∀b,b<k->part b≠(i:Int))/\name i=0)
theorem zsR{part:Nat->Int}{name:Nat->Int}(hk:k<n)(h:Ea same part name k)(hp:∀i,i<n->0<=part i)(hs:∀i j,i<n->j<n->(part i=part j↔same i j))(h0:name (part k).toNat=0) :
  oZ same k=kl same k/\kl same (k+1)=kl same k+1/\Ea same part (fN name (part k).toNat<|(kl same k:Int)+1) (k+1):=by
 have tL:=hp k hk;have da:∀c,c<k->same c k=false:=λc hc=>by
  rw[FJ];intro q;have e:=(hs c k zo hk).2 q;rcases h (part k).toNat with⟨b,b1,b2,b3⟩|⟨b1,b2⟩
  ·omega
  exact b1 c hc zo
 obtain⟨e1,e2⟩:=OJ da;refine⟨e1,by simp[kl,e2],λi=>?_⟩;unfold fN;by_cases e:i=(part k).toNat
 ·left;refine⟨k,zo,zo,by rw[ae e,e1]⟩
 rw[ab e];rcases h i with⟨b,b1,b2,b3⟩|⟨b1,b2⟩
 ·exact .inl ⟨b,zo,b2,b3⟩
 refine .inr ⟨λb hb q=>?_,b2⟩;by_cases eb:b=k
 ·subst eb;omega
 exact b1 b zo q
theorem zsi{part:Nat->Int}{name:Nat->Int}(he:Eqv same n)(hk:k<n)(h:Ea same part name k)(hp:∀i,i<n->0<=part i)(hs:∀i j,i<n->j<n->(part i=part j↔same i j))(h0:name (part k).toNat≠0) :
  name (part k).toNat=(oZ same k:Int)+1/\kl same (k+1)=kl same k/\Ea same part name (k+1):=by
 have tL:=hp k hk;rcases h (part k).toNat with⟨b,b1,b2,b3⟩|⟨b1,b2⟩
 ·obtain⟨e1,e2⟩:=Ks he hk b1<|(hs b k zo hk).1 zo;refine⟨by rw[b3,e1],by simp[kl,e2],λi=>?_⟩;rcases h i with⟨c,c1,c2,c3⟩|⟨c1,c2⟩
  ·exact .inl ⟨c,zo,c2,c3⟩
  refine .inr ⟨λc hc q=>?_,c2⟩;by_cases ec:c=k
  ·subst ec;have:i=(part c).toNat:=zo;subst this;exact h0 c2
  exact c1 c zo q
 exact absurd b2 h0
theorem Q0(g:aj)(hn:g.length<=1000000000)(iI:∀l∈g,bx l g.length)(hF:jH g):ar ai 133 [bY g]<|aO<|mZ g:=by
 have dF:=λk=>gY iI k;have bp:∀v x,x∈g.getD v []->x.toNat<g.length:=λv x hx=>by have:=cZ (dF v) hx;omega
 refine bK fZ ?_;have hV:=λk (hk:k<g.length) h0=>zvs g hn iI hF (jo g k) (Ge bp k zo).1 (Ge bp k zo).2.1 k hk h0;have wh:=λk hk=>Ge bp k hk;have e00:∀k,List.replicate k (List.map D.sc [Value.int .i64 0])=aA (gl k λ_=>0):=zT;unfold bY;refine sR ?_;rw[aK];refine⟨zo,zo,zo,?_⟩;rw[bQ];refine sW ?_;refine⟨zo,zo,zo,?_⟩;rw[bQ];refine sW ?_;refine⟨zo,zo,zo,?_⟩;rw[bQ];refine sW ?_;refine bt [3,4,22] (λk:Nat=>[(23,aa k)]) (λk=>[(2,.vec true 0 1<|aA<|gl g.length λi=>if i<k then -1 else 0)]) (λk=>k<=g.length) (λk=>g.length-k) 0 ?_;refine sW ?_;refine⟨zo,by exact sK,by rw[e00];simp;rfl,?_⟩;rintro k hk;refine br (λq0=>?_) λq0=>?_
 ·have q0:k<g.length:=sO;refine sB ?_;refine⟨_,cD k zo q0,?_⟩;refine bb ?_;refine⟨k+1,zo,zd,aL (by exact sK) ?_⟩;rw[kV (k:=k) zo,vt (g':=λi=>if i<k+1 then -1 else 0) λi _=>by
   show fN (λi=>if i<k then -1 else 0) k (-1) i=if i<k+1 then -1 else 0
   unfold fN;by_cases e:i=k
   ·subst e;simp
   by_cases e2:i<k
   ·rw[ab e,ae<|show i<k+1 by omega];exact ae e2
   rw[ab e,ab<|show ¬i<k+1 by omega];exact ab e2]
  rfl
 have q0:k=g.length:=by have:¬k<g.length:=sO
                        omega
 subst q0;rw[vt (g':=λ_=>-1) λi hi=>ae hi];refine b8 (iq 3 4 1 zs rfl rfl) ?_;have e0:List.replicate g.length (List.map D.sc [Value.int .i64 0])=aA (gl g.length (gn λ_=>0)):=zT _;rw[e0];refine cJ [3,4,33] (λk:Nat=>[(34,aa k)]) (λk=>rV g (jo g k)) (λk=>k<=g.length) (λk=>g.length-k) 0 ?_;refine eC ?_;rintro k hk;obtain⟨s1,s2,s3⟩:=wh k hk;unfold rV jb bY at hV⊢;refine br (λq0=>?_) λq0=>?_
 ·have q0:k<g.length:=sO;have hVk:=hV k q0;refine sB ?_;refine⟨_,cD k zo q0,?_⟩;refine sW ?_;rw[show gn (jo g k).S.num k=((jo g k).S.num k:Int) from rfl];refine sS (λh0=>?_) λh0=>?_
  ·have h0:(jo g k).S.num k=0:=sO;refine sA (hVk h0) ?_;refine sI ?_;refine⟨k+1,zo,zd,aL (by exact sK) ?_⟩;dsimp only;rw[show jo g (k+1)=xy g (jo g k) k from ae h0]
  have h0:¬(jo g k).S.num k=0:=sO;refine sI ?_;refine⟨k+1,zo,zd,aL (by exact sK) ?_⟩;dsimp only;rw[show jo g (k+1)=jo g k from ab h0]
 have q0:k=g.length:=by have:¬k<g.length:=sO
                        omega
 subst q0;obtain⟨f1,f2,f3⟩:=XK bp;clear hV wh s1 s2 s3 e0;generalize (jo g g.length).S.num=num at *;generalize (jo g g.length).S.low=low at *;generalize (jo g g.length).S.part=part at *;generalize (jo g g.length).S.dA=dA at *;generalize (jo g g.length).S.count=count at *;generalize (jo g g.length).S.stack.length=h at *;generalize (jo g g.length).aw=aw at *;generalize (jo g g.length).Z=Z at *;refine⟨zo,zo,zo,?_⟩;rw[bQ];refine sW ?_;refine⟨zo,zo,zo,?_⟩;rw[bQ];refine sW ?_;have e0:∀k,List.replicate k (List.map D.sc [Value.int .i64 0])=aA (gl k λ_=>0):=zT;rw[e0,e0];have hq:=Nc g g.length;have hp:=λi hi=>(f1 i hi).1
 refine bt [4,7,9,56] (λ((k,name):Nat×(Nat->Int))=>[(8,aa ((kl (re g) k:Nat):Int)),(57,aa k)]) (λ(k,name)=>[(5,.vec true 0 1<|aA<|gl dA name),(6,.vec true 0 1<|aA<|gl g.length λi=>if i<k then bG g i else 0)])
  (λ(k,name)=>k<=g.length/\Ea (re g) part name k) (λ(k,name)=>g.length-k) (0,λ_=>0) ?_
 refine sW ?_;refine⟨⟨zo,λi=>.inr ⟨λb hb=>zo,rfl⟩⟩,by exact sK,by simp;rfl,?_⟩;rintro⟨k,name⟩ ⟨hk,hN⟩;have hpc:=KU (re g) k;refine br (λq0=>?_) λq0=>?_
 ·have q0:k<g.length:=sO;have BN:=f1 k q0;have o7:=zsR q0 hN hp f2;have hold:=zsi hq q0 hN hp f2;obtain⟨pk,D'⟩:∃pk:Nat,part k=pk:=⟨(part k).toNat,zo⟩;rw[D'] at BN o7 hold;rw[bQ] at o7 hold;refine sB ?_;refine⟨_,cD k zo q0,?_⟩;rw[D'];refine bE ?_;refine⟨_,cD pk zo zo,?_⟩;refine sW ?_;have Cr:∀v,v=bG g k->aA (gl g.length<|fN (λi=>if i<k then bG g i else 0) k v)=aA (gl g.length λi=>if i<k+1 then bG g i else 0):=λv hv=>by
   rw[vt λi _=>?_];show fN (λi=>if i<k then bG g i else 0) k v i=if i<k+1 then bG g i else 0
   unfold fN;by_cases e:i=k
   ·subst e;rw[ae rfl,ae zo,hv]
   by_cases e2:i<k
   ·rw[ab e,ae<|show i<k+1 by omega];exact ae e2
   rw[ab e,ab<|show ¬i<k+1 by omega];exact ab e2
  refine sS (λh0=>?_) λh0=>?_
  ·have h0:name pk=0:=sO;obtain⟨n1,n2,n3⟩:=o7 h0;refine sIB ?_;refine⟨_,cD k zo q0,?_⟩;rw[D'];refine bE ?_;refine⟨_,cD pk zo zo,?_⟩;refine sW ?_;rw[kV (k:=pk) zo];refine sB ?_;refine⟨_,cD k zo q0,?_⟩;rw[D'];refine bE ?_;refine⟨_,cD pk zo zo,?_⟩;refine sW ?_;rw[kB];refine sIB ?_;refine⟨_,cD k zo q0,?_⟩;refine bb ?_;have e8:aa (((kl (re g) k:Nat):Int)+1)=aa ((kl (re g) (k+1):Nat):Int):=(by rw[n2];rfl);refine⟨(k+1,fN name pk<|(kl (re g) k:Int)+1),⟨zo,n3⟩,zd,aL ⟨e8,by exact sK⟩ ?_⟩;dsimp only;rw[kV (k:=k) zo,Cr _<|by unfold bG gn;rw[n1];omega];rfl
  have h0:¬name pk=0:=sO;obtain⟨n1,n2,n3⟩:=hold h0;refine sB ?_;refine⟨_,cD k zo q0,?_⟩;rw[D'];refine bE ?_;refine⟨_,cD pk zo zo,?_⟩;refine sW ?_;have jh:=SV hq q0;rw[n1];refine sIB ?_;refine⟨_,cD k zo q0,?_⟩;refine bb ?_;have e8:aa ((kl (re g) k:Nat):Int)=aa ((kl (re g) (k+1):Nat):Int):=(by rw[n2]);refine⟨(k+1,name),⟨zo,n3⟩,zd,aL ⟨e8,by exact sK⟩ ?_⟩;dsimp only;rw[kV (k:=k) zo,Cr _<|by unfold bG gn;omega];rfl
 have q0:k=g.length:=by have:¬k<g.length:=sO
                        omega
 subst q0;rw[vt (g':=bG g) λi hi=>ae hi];exact AL rfl
def fR(l:ah):Nat->Bool:=λv=>l.contains (v:Int)
noncomputable def yl(g:aj)(n:Nat):Bool:=(g.getD n []).any λx=>bG g x.toNat==bG g n
noncomputable def okT(g:aj)(k i:Nat):Bool:=(List.range k).any λn=>bG g n==(i:Int)&&yl g n
noncomputable def nP(g:aj)(l:ah)(i:Nat):Bool:=l.any λx=>bG g x.toNat==(i:Int)
noncomputable def Aq(g:aj)(F:aj)(i:Nat):Bool:=okT g g.length i&&F.all λl=>nP g l i
theorem parts_eq(ha:a<g.length)(hb:b<g.length):bG g a=bG g b↔re g a b:=by
 rw[<-zwJ (Nc g g.length) ha hb];unfold bG gn;omega
theorem vf(ha:a<g.length):0<=bG g a/\bG g a<(g.length:Int):=by
 have:=SV (Nc g g.length) ha;unfold bG gn;omega
theorem EU(bp:∀v x,x∈g.getD v []->x.toNat<g.length)(hn:n<g.length):yl g n↔zm g n:=by
 unfold yl;rw[kJ];constructor
 ·rintro⟨x,hx,e⟩;rw[gG,parts_eq (bp n x hx) hn,mP] at e;exact⟨x,hx,e.1⟩
 rintro⟨x,hx,e⟩;exact⟨x,hx,by rw[gG,parts_eq (bp n x hx) hn,mP];exact⟨e,rM hx⟩⟩
variable{F:aj}
theorem Og(bp:∀v x,x∈g.getD v []->x.toNat<g.length)(hF:∀l∈F,bx l g.length)(he:e<g.length)(hi:bG g e=(i:Int)) :
  Aq g F i=true↔zm g e/\∀S,S∈F.map fR->∃d,S d/\To g e d/\To g d e:=by
 unfold Aq;rw[fY,ki];have h1:okT g g.length i=true↔zm g e:=by
  unfold okT;rw[kJ];constructor
  ·rintro⟨n,hn,q⟩;have hn:=fX.1 hn;rw[fY,gG,<-hi,parts_eq hn he,mP,EU bp hn] at q;exact Hs q.2 q.1.1 q.1.2
  intro q;exact⟨e,fX.2 he,by rw[fY,gG];exact⟨hi,(EU bp he).2 q⟩⟩
 rw[h1];refine and_congr_right λ_=>?_;constructor
 ·intro h S hS;obtain⟨l,hl,rfl⟩:=dq.1 hS;have:=h l hl;unfold nP at this;rw[kJ] at this;obtain⟨x,hx,q⟩:=this;have Jx:=cZ (hF l hl) hx;rw[gG,<-hi,parts_eq zo he,mP] at q;refine⟨x.toNat,?_,q.2,q.1⟩;unfold fR;rw[po,ui Jx.1];exact hx
 intro h l hl;obtain⟨d,d1,d2,d3⟩:=h (fR l)<|dq.2 ⟨l,hl,rfl⟩;unfold fR at d1;rw[po] at d1;have Jx:=cZ (hF l hl) d1;unfold nP;rw[kJ];refine⟨(d:Int),d1,?_⟩;rw[bQ,gG,<-hi,parts_eq zo he,mP];exact⟨d3,d2⟩
theorem zsG(bp:∀l∈g,bx l g.length)(hF:∀l∈F,bx l g.length){ends:ah}(he:∀x,x∈ends↔0<=x/\x<(g.length:Int)/\Aq g F (bG g x.toNat).toNat)(hv:v<g.length) :
  nE (fV g g.length) ends v=fwB g (F.map fR) v:=by
 have dF:=λk=>gY bp k;have E5:∀v x,x∈g.getD v []->x.toNat<g.length:=λv x hx=>by have:=cZ (dF v) hx;omega
 have UL:∀v x,x∈g.getD v []->0<=x/\x.toNat<g.length:=λv x hx=>by have:=cZ (dF v) hx;omega
 refine KB ?_;rw[ry,zys λx hx=>((he x).1 hx).1];constructor
 ·rintro⟨x,hx,h⟩;obtain⟨a1,a2,a3⟩:=(he x).1 hx;obtain⟨e,rfl⟩:∃e:Nat,x=e:=⟨x.toNat,zo⟩;rw[bQ] at a3;have FI:e<g.length:=zo;have hp:=vf FI;exact⟨e,zvK UL h,(Og E5 hF FI zo).1 a3⟩
 rintro⟨c,h1,h2⟩;have gw:=FB E5 hv h1;have hp:=vf gw;exact⟨(c:Int),(he _).2 ⟨zo,zo,by rw[bQ];exact(Og E5 hF gw zo).2 h2⟩,ztx UL hv h1⟩
theorem Tg(g:aj)(k i:Nat):okT g (k+1) i=(okT g k i||(bG g k==(i:Int)&&yl g k)):=by
 unfold okT;rw[qy,wW];simp
theorem zsk{l:ah}(h:k<l.length):nP g (l.take<|k+1) i=(nP g (l.take k) i||bG g (l.getD k 0).toNat==(i:Int)):=by
 unfold nP;rw[lI,aJ h,wW,aE,aJ h];simp
theorem Tf{p:α->Bool}{l:List α}(h:k<l.length)(d:α):(l.take<|k+1).all p=((l.take k).all p&&p (l.getD k d)):=by
 rw[lI,aJ h,List.all_append,aE,aJ h];simp
theorem nV{f f':ay}{b:Bool}(hz:z=i)(h:∀v,v<n->f' v=if v=i then b else f v):(bV n f).set z [aD b]=bV n f':=by
 subst hz;rw[pI];exact jS λv hv=>(h v hv).symm
theorem zwn(g:aj)(x:Int)(hx:0<=x/\x<(g.length:Int))(n:Nat)(hn:n<g.length):ar ai 291 [aa x,.aB [aO<|mZ g],.aB [aa n]]<|aD<|bG g x.toNat==bG g n:=by
 refine bK fZ ?_;unfold mZ aO;refine sR ?_;refine sL (cD x.toNat zo zo) ?_;refine sL (cD n zo hn) ?_;exact .refl _
theorem zvr(g:aj)(hn:g.length<=1000000)(iI:∀l∈g,bx l g.length)(hF:jH g)(F:aj)(C8:jH F)(hFi:∀l∈F,bx l g.length):ar ai 255 [bY g,aO<|mZ g,bY F]<|bD g.length<|Aq g F:=by
 have dF:=λk=>gY iI k;have zBj:=λk=>gY hFi k;have yB:=C8.len;refine bK fZ ?_;have hc:=λk (hk:k<g.length)=>mC (λn=>aa n) (λa=>by simp[Pure]) (g.getD k []) (by have:=hF.at k;omega) (λx=>bG g x.toNat==bG g k) 291 [.aB [aO<|mZ g],.aB [aa k]] (by simp[an,Pure,cG]) λa ha=>zwn g a (cZ (dF k) ha) k hk;unfold bY;refine sR ?_;rw[aK];refine⟨zo,zo,zo,?_⟩;rw[bQ,show List.map D.sc [Value.bool false]=[aD false] from rfl,lS];refine sW ?_;rw[aK];refine bt [0,2,4,7,19,20] (λk:Nat=>[(21,aa k)]) (λk=>[(1,.vec true 0 1<|bV g.length<|okT g k)]) (λk=>k<=g.length) (λk=>g.length-k) 0 ?_;refine eC ?_;rintro k hk;refine br (λq0=>?_) λq0=>?_
 ·have q0:k<g.length:=sO;have hp:=vf q0;have e1:=Tg g k;refine sL (iL (k:=k) zo q0) ?_;refine sN (hc k q0) ?_;rw[show((g.getD k []).any λx=>bG g x.toNat==bG g k)=yl g k from rfl];cases r:yl g k
  ·refine bb ?_;refine⟨k+1,zo,zd,?_⟩;refine aR 2 zs rfl sQ (sU ?_);exact aZ<|jS λi _=>by rw[e1,r,Bool.and_false,vV]
  refine sW ?_;refine sL (cD k zo q0) ?_;refine sB ?_;refine⟨_,bj (bG g k).toNat zo zo,?_⟩;refine bb ?_;refine⟨k+1,zo,zd,?_⟩;rw[nV (i:=(bG g k).toNat) (f':=okT g<|k+1) zo λv _=>by
   rw[e1,r,Cw];by_cases e:v=(bG g k).toNat
   ·rw[ae e,show(bG g k==(v:Int))=true by rw[gG];omega,Bool.or_true]
   rw[ab e,show(bG g k==(v:Int))=false by rw[beq_eq_false_iff_ne];omega,vV]]
  exact aR 2 zs rfl sQ sQ
 have q0:k=g.length:=by have:¬k<g.length:=sO
                        omega
 subst q0;clear hc;rw[aK];refine bt [0,4,7,36,37] (λk:Nat=>[(38,aa k)]) (λk=>[(1,.vec true 0 1<|bV g.length λi=>okT g g.length i&&(F.take k).all λl=>nP g l i)]) (λk=>k<=F.length) (λk=>F.length-k) 0 ?_;refine sW ?_;refine⟨zo,by exact sK,by simp only[r7,List.all_nil,Cw];rfl,?_⟩;rintro k hk;refine br (λq0=>?_) λq0=>?_
 ·have q0:k<F.length:=sO;have hFk:=C8.at k;refine sL (iL (g:=F) (k:=k) zo q0) ?_;rw[aK];refine⟨zo,zo,zo,?_⟩;rw[bQ,show List.map D.sc [Value.bool false]=[aD false] from rfl,lS];refine sW ?_;rw[aK];have hlr:=λj (hj:j<(F.getD k []).length)=>cZ (zBj k)<|dP hj;have eall:=λi=>Tf (p:=λl=>nP g l i) q0 [];generalize hle:F.getD k []=l at *;refine bt [0,4,7,12,36,37,38,45,46] (λj:Nat=>[(47,aa j)]) (λj=>[(2,.vec true 0 1<|bV g.length<|nP g<|l.take j)]) (λj=>j<=l.length) (λj=>l.length-j) 0 ?_;refine eC ?_;rintro j hj;refine br (λq1=>?_) λq1=>?_
  ·have q1:j<l.length:=sO;have hx:=hlr j q1;have e1:=λi=>zsk (g:=g) (i:=i) q1;refine sL (cA (l:=l) (k:=j) zo q1) ?_;generalize l.getD j 0=x at *;have hp:=vf (g:=g) (a:=x.toNat) zo;refine sL (cD x.toNat zo zo) ?_;refine sB ?_;refine⟨_,bj (bG g x.toNat).toNat zo zo,?_⟩;refine bb ?_;refine⟨j+1,zo,zd,aL (by exact sK) ?_⟩;rw[nV (i:=(bG g x.toNat).toNat) (f':=nP g<|l.take<|j+1) zo λv _=>by
    rw[e1];by_cases e:v=(bG g x.toNat).toNat
    ·rw[ae e,show(bG g x.toNat==(v:Int))=true by rw[gG];omega,Bool.or_true]
    rw[ab e,show(bG g x.toNat==(v:Int))=false by rw[beq_eq_false_iff_ne];omega,vV]]
   rfl
  have q1:j=l.length:=by have:¬j<l.length:=sO
                         omega
  subst q1;rw[eZ];generalize hA:(λi=>okT g g.length i&&(F.take k).all λl=>nP g l i)=A at *;have eA:∀i,(okT g g.length i&&(F.take<|k+1).all λl=>nP g l i)=(A i&&nP g l i):=λi=>by rw[eall,<-hA,Bool.and_assoc]
  refine bt [0,4,7,12,36,37,38,59] (λi:Nat=>[(60,aa i)]) (λi=>[(1,.vec true 0 1<|bV g.length λv=>if v<i then A v&&nP g l v else A v)]) (λi=>i<=g.length) (λi=>g.length-i) 0 ?_;refine eC ?_;rintro i hi;refine br (λq2=>?_) λq2=>?_
  ·have q2:i<g.length:=sO;have eat:(if i<i then A i&&nP g l i else A i)=A i:=ab zo;have eput:∀b,b=(A i&&nP g l i)->∀v,v<g.length->(if v<i+1 then A v&&nP g l v else A v)=if v=i then b else if v<i then A v&&nP g l v else A v:=λb hb v _=>by
    by_cases e:v=i
    ·subst e;rw[ae zo,ae rfl,hb]
    rw[ab e];by_cases e2:v<i
    ·rw[ae e2,ae zo]
    rw[ab e2,ab zo]
   refine sB ?_;refine⟨_,bj i zo q2,?_⟩;rw[eat];cases r:A i
   ·refine bE ?_;refine⟨_,bj i zo q2,?_⟩;refine bb ?_;refine⟨i+1,zo,zd,aL (by exact sK) ?_⟩;rw[nV (i:=i) zo<|eput false<|by rw[r];rfl];rfl
   refine bE ?_;refine⟨_,bj i zo q2,?_⟩;refine bE ?_;refine⟨_,bj i zo q2,?_⟩;refine bb ?_;refine⟨i+1,zo,zd,aL (by exact sK) ?_⟩;rw[nV (i:=i) zo<|eput (nP g l i)<|by rw[r];rfl];rfl
  have q2:i=g.length:=by have:¬i<g.length:=sO
                         omega
  subst q2;refine sI ?_;refine⟨k+1,zo,zd,?_⟩;dsimp only;refine aR 2 zs rfl sQ (sU ?_);exact aZ<|jS λi hi=>by rw[ae hi,eA]
 have q0:k=F.length:=by have:¬k<F.length:=sO
                        omega
 subst q0;rw[eZ];exact s5 rfl

structure bc where
 start:ah
 next:aj
 label:ah
 fair:aj
def bc.cells(W:bc):bh:=[aO W.start,bY W.next,ix W.label,bY W.fair]
def gu(W:bc):D:=.agg W.cells
variable(W:bc)
@[simp] theorem vj:an W.cells:=by simp[bc.cells,an,cG,mj,vT]
@[simp] theorem MV:Pure<|gu W:=by simp[gu,Pure,vj]
structure bc.Fits(W:bc):Prop where
 start:W.start.length<=17592186043904
 next:W.next.length<=17592186043904
 label:W.label.length<=17592186043904
 fair:W.fair.length<=17592186043904
 xU:∀l∈W.next,l.length<=17592186043904
 xR:∀l∈W.fair,l.length<=17592186043904
def bc.aS(W:bc):Int :=
 if 600<W.next.length\/80<W.fair.length then 2
 else if W.label.length≠W.next.length\/bx W.start W.next.length=false then 1
 else if (W.next.any λl=>l.isEmpty||!(bx l W.next.length))=true then 1
 else if (W.fair.any λl=>!(bx l W.next.length))=true then 1
 else 0
theorem XG(x:Int)(n:Nat):ar ai 206 [aa x,.aB [aa n]]<|aD<|decide (x<0)||decide (x>=(n:Int)):=by
 refine bK fZ ?_;refine sRS (λh=>?_) λh=>?_
 ·exact cd zs
 exact cd zs
variable(l:ah)
theorem Lm(hl:l.length<=9223372036854775807)(n:Nat):ar ai 119 [aO l,aa n] (.sc (.bool !(bx l n))):=by
 refine bL ?_;refine sN (mC (λn=>aa n) (λa=>by simp[Pure]) l hl (λx=>decide (x<0)||decide (x>=(n:Int))) 206 [.aB [aa n]] (by simp[an,Pure]) λa _=>XG a n) ?_;rw[KY];exact .refl _
theorem zru(hl:l.length<=9223372036854775807)(n:Nat):ar ai 121 [aO l,.aB [aa n]] (.sc (.bool !(bx l n))):=by
 refine bL ?_;refine sC (Lm l hl n) ?_;exact .refl _
theorem Jg(hW:W.Fits):ar ai 44 [gu W]<|aa W.aS:=by
 have b1:=hW.start;have b2:=hW.next;have b3:=hW.label;have b4:=hW.fair;refine bL ?_;rw[aK];have fin:∀{H:aF} {z:Int},z=W.aS->Deep H (aa z) (aa W.aS):=λh=>h▸.refl _;refine sS (λh1=>?_) λh1=>?_
 ·exact fin<|by unfold bc.aS;rw[ae<|sO]
 rw[aK];refine sS (λh2=>?_) λh2=>?_
 ·exact fin<|by unfold bc.aS;rw[ae<|sO]
 have c1:¬(600<W.next.length\/80<W.fair.length):=sO;rw[aK];refine sS (λh3=>?_) λh3=>?_
 ·exact fin<|by unfold bc.aS;rw[ab c1,ae<|sO]
 refine sC (Lm W.start zo W.next.length) ?_;refine sS (λh4=>?_) λh4=>?_
 ·exact fin<|by unfold bc.aS;rw[ab c1,ae (.inr<|by simpa using h4)]
 have c2:¬(W.label.length≠W.next.length\/bx W.start W.next.length=false):=by
  rintro(q|q)
  ·exact sO
  rw[q] at h4;cases h4
 refine bt [1,3,29,30] (λk:Nat=>[(31,aa k)]) (λ_=>[]) (λk=>k<=W.next.length/\∀j (hj:j<k) (hl:j<W.next.length),(W.next[j].isEmpty||!(bx W.next[j] W.next.length))=false) (λk=>W.next.length-k) 0 ?_;refine sW ?_;refine⟨⟨zo,λj hj=>zo⟩,by exact sK,rfl,?_⟩;rintro k ⟨hk,bR⟩;refine br (λg=>?_) λg=>?_
 ·have al:k<W.next.length:=sO;refine sL (OX (k:=k) zo al) ?_;rw[aK];have bk:=hW.xU _<|ib al;refine sS (λg1=>?_) λg1=>?_
  ·have e1:(W.next[k]).isEmpty:=(by rw[List.isEmpty_iff_length_eq_zero];exact sO);exact fin<|by unfold bc.aS;rw[ab c1,ab c2,ae<|LO al<|by rw[e1];rfl]
  have e1:(W.next[k]).isEmpty=false:=(by rw[<-oL,List.isEmpty_iff_length_eq_zero];exact sO);refine sC (Lm W.next[k] zo W.next.length) ?_;refine sS (λg2=>?_) λg2=>?_
  ·exact fin<|by unfold bc.aS;rw[ab c1,ab c2,ae<|LO al<|by rw[g2,e1];rfl]
  refine sI ?_;refine⟨k+1,⟨zo,λj hj hl=>?_⟩,zd,aL (by exact sK) rfl⟩;by_cases e:j=k
  ·subst e;rw[e1,g2];rfl
  exact bR j zo hl
 have al:¬k<W.next.length:=sO;have c3:¬(W.next.any λl=>l.isEmpty||!(bx l W.next.length))=true:=by rw[Lp λj hj=>bR j zo hj];simp
 refine sN (Kn aO cG W.fair zo (λl=>!(bx l W.next.length)) 121 [.aB [aa W.next.length]] (by simp[an,Pure]) λa ha=>zru a (by have:=hW.xR a ha;omega) _) ?_;refine sS (λg3=>?_) λg3=>?_
 ·exact fin<|by unfold bc.aS;rw[ab c1,ab c2,ab c3,ae g3]
 exact fin<|by unfold bc.aS;rw[ab c1,ab c2,ab c3,ab<|by rw[g3];simp]
theorem qj(h:W.aS=0):W.label.length=W.next.length/\W.next.length<=600/\W.fair.length<=80/\bx W.start W.next.length/\(∀l∈W.next,l.length≠0/\bx l W.next.length)/\∀l∈W.fair,bx l W.next.length:=by
 unfold bc.aS at h;split at h
 ·exact absurd h zc
 split at h
 ·exact absurd h zc
 split at h
 ·exact absurd h zc
 split at h
 ·exact absurd h zc
 rename_i h1 h2 h3 h4;refine⟨zo,zo,zo,?_,λl hl=>?_,λl hl=>?_⟩
 ·have:=not_or.1 h2;simpa using this.2
 ·rw[oL,pd] at h3;have:=h3 l hl;simp only[qX,B9,not_or,Bool.not_eq_false,List.isEmpty_iff_length_eq_zero] at this;exact this
 rw[oL,pd] at h4;simpa using h4 l hl
def ic(N:Nat)(T:Nat->ah)(k:Nat)(c:ah):aj:=(List.range N).map λi=>if i<k then T i else if i=k then c else []
@[simp] theorem Rm(N:Nat)(T:Nat->ah)(k:Nat)(c:ah):(ic N T k c).length=N:=by simp[ic]
variable{N:Nat}{c:ah}{T:Nat->ah}
theorem zvq(h:i<N):(ic N T k c).getD i []=if i<k then T i else if i=k then c else []:=by
 rw[aE,aJ<|by simpa using h];simp[ic]
theorem WG(h:k<N):(ic N T k c).getD k []=c:=by
 rw[zvq h,ab zo,ae rfl]
theorem P2{c':ah}(h:k<N):(ic N T k c).set k c'=ic N T k c':=by
 refine qC λi=>?_;rw[vo];by_cases e:k=i
 ·subst e;rw[ae rfl,ae<|by simpa using h,aJ<|by simpa using h];simp[ic]
 rw[ab e];by_cases hi:i<N
 ·rw[aJ<|by simpa using hi,aJ<|by simpa using hi];simp only[ic,D0,List.getElem_range]
  congr 1
  by_cases q:i<k
  ·rw[ae q,ae q]
  rw[ab q,ab q,ab λz=>e z.symm,ab λz=>e z.symm]
 rw[cY<|by simp;omega,cY<|by simp;omega]
theorem WY:ic N T k (T k)=ic N T (k+1) []:=by
 unfold ic;refine qY λi _=>?_;by_cases q:i<k
 ·rw[ae q,ae zo]
 rw[ab q];by_cases e:i=k
 ·subst e;rw[ae rfl,ae zo]
 rw[ab e,ab zo];split<;>rfl
variable(N:Nat)
theorem Xa(T:Nat->ah):ic N T 0 []=List.replicate N []:=by
 refine qC λi=>?_;by_cases h:i<N
 ·rw[aJ<|by simpa using h,aJ<|by simpa using h];simp[ic]
 rw[cY<|by simp;omega,cY<|by simp;omega]
theorem UH(T:Nat->ah)(c:ah):ic N T N c=(List.range N).map T:=by
 unfold ic;exact qY λi hi=>ae<|fX.1 hi
theorem Pt(bp:∀l∈g,bx l g.length)(z:ay):∀l∈gi g z,bx l (gi g z).length:=by
 intro l hl;obtain⟨v,hv,rfl⟩:=dq.1 hl;rw[CM];split
 ·exact kG λx hx=>cZ (gY bp v) (rP.1 hx).1
 rfl
theorem Pe(hF:jH g)(z:ay):jH<|gi g z:=by
 refine⟨by rw[CM];exact hF.len,λl hl=>?_⟩;obtain⟨v,hv,rfl⟩:=dq.1 hl;have:=hF.at v;split
 ·exact iv (Aw _ _) this
 simp
theorem zsL(hg:ph g=0):ph (fV g g.length)=0/\jH (fV g g.length)/\tm (fV g g.length) (λ_=>false)<=g.length*g.length:=by
 obtain⟨hn,bp⟩:=AE.1 hg;have E5:∀v x,x∈g.getD v []->x.toNat<g.length:=λv x hx=>by have:=cZ (gY bp v) hx;omega
 have hr:∀l∈fV g g.length,∃m,l=(fV g g.length).getD m []:=λl hl=>by
  obtain⟨m,hm,rfl⟩:=jN.1 hl;exact⟨m,by rw[aE,aJ hm];rfl⟩
 refine⟨AE.2 ⟨by rw[tJ];exact hn,λl hl=>?_⟩,⟨by rw[tJ];omega,λl hl=>?_⟩,?_⟩
 ·obtain⟨m,rfl⟩:=hr l hl;rw[tJ];refine kG λx hx=>?_;obtain⟨k,hk,rfl,_⟩:=(C1 E5<|aT _).1 hx;omega
 ·obtain⟨m,rfl⟩:=hr l hl;have:=C4 g g.length m;omega
 have key:∀n,j4 (λv=>if false=true then 0 else ((fV g g.length).getD v []).length) n<=n*g.length:=λn=>by
  induction n with
  |zero=>simp[j4]
  |succ n ih =>
   simp only[j4] at ih⊢;have:=C4 g g.length n;rw[jw,Nat.one_mul];simp only[xA,if_false] at ih⊢;omega
 have:=key (fV g g.length).length;rw[tJ] at this;unfold tm;rw[tJ];exact this
theorem Xm(g:aj)(hg:ph g=0)(hF:jH g):ar ai 105 [bY g] (.aI [bY<|fV g g.length,aa 0]):=by
 refine bL ?_;refine sC (P3 g hF) ?_;refine sS (λh1=>?_) λh1=>?_
 ·exfalso;exact sO
 refine sC (zso g hg hF) ?_;exact .refl _
theorem TO{L:aj}(hn:n=L.length):D.aM 1 (((L.map λl=>[aO l]).take n).drop 0)=bY L:=by
 subst hn;unfold bY;rw[cx zs]
@[simp] theorem zx5:aq m (ix l)↔True:=⟨λ_=>trivial,λ_=>bw _<|vT l⟩
def dE(g:aj)(z:ay)(v k:Nat):ah:=if z v=true then ((g.getD v []).take k).filter λx=>z x.toNat else []
theorem Xu{z:ay}(h:k<(g.getD v []).length):dE g z v (k+1)=if z v=true/\z ((g.getD v []).getD k 0).toNat=true then dE g z v k++[(g.getD v []).getD k 0] else dE g z v k:=by
 unfold dE;generalize g.getD v []=L at h⊢;cases hz:z v
 ·simp
 rw[ae rfl,ae rfl,lI,aJ h,Fh,aE,aJ h];simp only[Bj,nR,true_and,BD,List.filter_nil];split<;>simp
variable(g:aj)
theorem RJ(z:ay)(v k:Nat):(dE g z v k).length<=k:=by
 unfold dE;split
 ·exact iv (Aw _ _)<|by simp;omega
 simp
theorem Qk(z:ay):(List.range g.length).map (λv=>dE g z v (g.getD v []).length)=gi g z:=by
 unfold gi dE;exact qY λv _=>by rw[eZ]
def jj(fx:ay)(k:Nat):ah:=((List.range k).filter fx).map λn:Nat=>(n:Int)
variable(fx:ay)
theorem HP(k:Nat):jj fx (k+1)=if fx k=true then jj fx k++[(k:Int)] else jj fx k:=by
 unfold jj;rw[qy,Fh,nZ];simp only[BD,List.filter_nil];split<;>simp
theorem JH(k:Nat):(jj fx k).length<=k:=by
 unfold jj;rw[aK];exact iv (Aw _ _) zs
theorem uV{fx:ay}:x∈jj fx k↔0<=x/\x<(k:Int)/\fx x.toNat:=by
 unfold jj;rw[dq];constructor
 ·rintro⟨n,hn,rfl⟩;obtain⟨h1,h2⟩:=rP.1 hn;have:=fX.1 h1;exact⟨zo,zo,by rw[bQ];exact h2⟩
 rintro⟨h1,h2,h3⟩;exact⟨x.toNat,rP.2 ⟨fX.2 zo,h3⟩,zo⟩
def zzw:PC:=SO [Bi 33 .lss 32 31] (.seq (CX 33 2) (.seq (.block 3<|SO [Ia 34 1 30 32,Lo 35 34,qm 9 35]<|SO [qm 36 1,qm 37 6,Ia 38 1 36 37,Lo 39 38,qm 40 39,GT 41 40 (.move 1),GT 42 40 (.move 9),GT 43 40 (.gZ 1 41 42),GT 44 40 (.cg 43),Pk 45 40 44 cF]<|If 45<|OP [qm 46 5,qm 47 6,qm 48 5,qm 49 6,Ia 50 1 48 49,Lo 51 50,qm 52 9,Bs 53 1 1 [52],Ap 54 1 8 51 53,Ia 55 1 46 47,So 1 55 54])<|OP [Bi 56 .add 32 K1,qm 32 56]))
def zzA:PC:=SO [Bi 26 .lss 25 24] (.seq (CX 26 0) (.seq (.block 1<|SO [qm 27 25,Ia 28 1 23 25,Lo 29 28,qm 6 27,qm 7 29]<|SO [qm 30 7,Ln 31 30,Mv 32 K0]<|BL 2 zzw)<|OP [Bi 57 .add 25 K1,qm 25 57]))
def Zx:PC:=SO [Bi 68 .lss 67 66] (.seq (CX 68 4) (.seq (.block 5<|SO [qm 69 67,qm 13 69]<|SO [qm 70 1,qm 71 13,Ia 72 1 70 71,Lo 73 72,qm 74 73,GT 75 74 (.move 11),GT 76 74 (.move 10),GT 77 74 (.move 13),GT 78 74 (.gZ 1 76 77),GT 79 74 (.cg 78),GT 80 74 (.gZ 1 75 79),GT 81 74 (.cg 80),Pk 82 74 81 cF]<|If 82<|OP [qm 83 12,qm 84 13,Bs 85 1 1 [84],Ap 86 1 8 83 85,qm 12 86])<|OP [Bi 87 .add 67 K1,qm 67 87]))
def c176:PC:=SO [Bx 2 0,Mv 4 cN]<|SO [Fa 18 1 2,Lo 19 18,Ln 20 19,q 21 (.sM 1 24 [vN] 20 20),qm 5 21] (.seq (SO [Fa 22 1 2,Lo 23 22,Ln 24 23,Mv 25 K0] (.stop<|BL 0 zzA))<|SO [qm 58 5,Ca 59 133 [58],qm 10 59]<|SO [qm 60 5,qm 61 10,Fa 62 3 2,Lo 63 62,Ca 64 255 [60,61,63],qm 11 64]<|SO [Mv 12 cN] (.seq (SO [qm 65 5,Ln 66 65,Mv 67 K0]<|BL 4 Zx)<|SO [qm 89 5,Ca 90 105 [89],qm 88 90,Xt 91 0 88,Xt 92 1 88,qm 14 91,qm 15 92]<|SO [qm 94 14,qm 95 12,Ca 96 167 [94,95],qm 93 96,Xt 97 0 93,Xt 98 1 93,qm 16 97,qm 17 98]<|SO [qm 99 16,qm 4 99] .ret))
theorem TE(hW:W.Fits)(hc:W.aS=0)(z:ay):ar ai 176 [gu W,bD W.next.length z]<|bD W.next.length<|fwB (gi W.next z)<|W.fair.map fR:=by
 obtain⟨_,qs,vy,_,iD,iY⟩:=qj W hc;have iI:∀l∈W.next,bx l W.next.length:=λl hl=>(iD l hl).2;have uc:jH W.next:=⟨hW.next,hW.xU⟩;have C8:jH W.fair:=⟨hW.fair,hW.xR⟩;have dF:=λk=>gY iI k;refine bK (fJ 100 [.tmp 4] c176 Tryz.func176) ?_;unfold gu;refine sR ?_;rw[aK];refine⟨zo,zo,zo,?_⟩;rw[bQ];refine sW ?_;rw[aK];refine px (λ_:Unit=>[(1,bD W.next.length z),(2,.loc 0 0),(5,.own 1 0 0 W.next.length)]) (λ_=>[.row true W.cells,.vec true 0 1<|(gi W.next z).map λl=>[aO l]]) (λ_=>True) ?_ ?_
 ·refine sR ?_;refine b8 (Bp 1 1 W.next.length 0 zs rfl) ?_;refine cJ [1,2,5,23,24] (λk:Nat=>[(25,aa k)]) (λk=>.row true W.cells::.vec true 0 1 (jZ 2<|ic W.next.length (λv=>dE W.next z v (W.next.getD v []).length) k [])::fO 1 l6 (ic W.next.length (λv=>dE W.next z v (W.next.getD v []).length) k [])) (λk=>k<=W.next.length) (λk=>W.next.length-k) 0 ?_;refine sW ?_;refine⟨zo,by exact sK,?_,?_⟩
  ·rw[Xa];show _::_::_=_::_::_;rw[A9 1 _ l6];exact bJ (λx=>ao.row true W.cells::ao.vec true 0 1 x::_)<|Bn (α:=Int) 2 _
  rintro k hk;refine br (λq0=>?_) λq0=>?_
  ·have q0:k<W.next.length:=sO;have AD:=uc.at k;refine sL (iL (g:=W.next) (k:=k) zo q0) ?_;rw[aK]
   refine cJ [1,2,5,6,23,24,25,30,31] (λj:Nat=>[(32,aa j)]) (λj=>.row true W.cells::.vec true 0 1 (jZ 2<|ic W.next.length (λv=>dE W.next z v (W.next.getD v []).length) k<|dE W.next z k j)::fO 1 l6 (ic W.next.length (λv=>dE W.next z v (W.next.getD v []).length) k<|dE W.next z k j))
    (λj=>j<=(W.next.getD k []).length) (λj=>(W.next.getD k []).length-j) 0 ?_
   refine sW ?_;refine⟨zo,by exact sK,by rw[show dE W.next z k 0=[] by unfold dE;split<;>simp],?_⟩;rintro j hj;refine br (λq1=>?_) λq1=>?_
   ·have q1:j<(W.next.getD k []).length:=sO;have eS:=Xu (z:=z) q1;have hx:=cZ (dF k)<|dP q1;have uT:=RJ W.next z k j;refine sL (cA (l:=W.next.getD k []) (k:=j) zo q1) ?_;refine sL (bj k zo q0) ?_;generalize (W.next.getD k []).getD j 0=x at *;have same:(z k=true/\z x.toNat->False)->dE W.next z k (j+1)=dE W.next z k j:=λh=>by rw[eS,ab h]
    cases zk:z k
    ·refine bb ?_;refine⟨j+1,zo,zd,aL (by exact sK) ?_⟩;dsimp only;rw[same λq=>by rw[zk] at q;cases q.1]
    refine sW ?_;refine sL (bj x.toNat zo zo) ?_;cases zx:z x.toNat
    ·refine bb ?_;refine⟨j+1,zo,zd,aL (by exact sK) ?_⟩;dsimp only;rw[same λq=>by rw[zx] at q;cases q.2]
    rw[ae ⟨zk,zx⟩] at eS;refine bE ?_;refine⟨_,mh (i:=k) zo<|by simp;omega,?_⟩;refine sW ?_;have lJ:(ic W.next.length (λv=>dE W.next z v (W.next.getD v []).length) k<|dE W.next z k j).set k (dE W.next z k j++[x])=ic W.next.length (λv=>dE W.next z v (W.next.getD v []).length) k (dE W.next z k<|j+1):=(by rw[P2 q0,<-eS]);have hlen:(ic W.next.length (λv=>dE W.next z v (W.next.getD v []).length) k<|dE W.next z k j).length=W.next.length:=Rm ..;have NL:(ic W.next.length (λv=>dE W.next z v (W.next.getD v []).length) k<|dE W.next z k j).getD k []=dE W.next z k j:=WG q0;generalize ic W.next.length (λv=>dE W.next z v (W.next.getD v []).length) k (dE W.next z k j)=R at *;refine yq ?_;refine sW ?_
    (repeat (first|(refine gL 0 rfl ?_;((conv=>whnf);repeat(refine⟨rfl,?_⟩;conv=>whnf)))|(refine gN 0 rfl ?_;((conv=>whnf);repeat(refine⟨rfl,?_⟩;conv=>whnf)))|(refine gL 1 rfl ?_;((conv=>whnf);repeat(refine⟨rfl,?_⟩;conv=>whnf)))|(refine gN 1 rfl ?_;((conv=>whnf);repeat(refine⟨rfl,?_⟩;conv=>whnf)))))
    refine wN zo ?_;refine sW ?_;rw[NL];refine⟨by unfold je;simp only[lL,gA,bH,bU];omega,?_⟩;refine sW ?_;refine yp (dE W.next z k j++[x]) zo ?_ ?_
    ·exact x9
    refine bE ?_;refine⟨_,mh (i:=k) zo zo,?_⟩;refine bb ?_;refine⟨j+1,zo,zd,?_⟩;dsimp only;rw[lJ];refine aR (W.next.length+2) zs zs (by exact sQ) ⟨⟨rfl,.refl _,bu _<|vj W⟩,⟨rfl,rfl,rfl,aZ ?_,xz<|by simp;omega⟩,wL GN⟩;exact(xr zo zo (dE W.next z k j++[x]) zs).trans (by rw[lJ])
   have q1:j=(W.next.getD k []).length:=by have:¬j<(W.next.getD k []).length:=sO
                                           omega
   subst q1;rw[show ic W.next.length (λv=>dE W.next z v (W.next.getD v []).length) k (dE W.next z k (W.next.getD k []).length)=ic W.next.length (λv=>dE W.next z v (W.next.getD v []).length) (k+1) [] from WY];refine sI ?_;exact⟨k+1,zo,zd,aL (by exact sK) rfl⟩
  have q0:k=W.next.length:=by have:¬k<W.next.length:=sO
                              omega
  subst q0;rw[UH,Qk];refine⟨(),trivial,aR 2 zs rfl (by exact sQ) ⟨⟨rfl,.refl _,bu _<|vj W⟩,⟨rfl,rfl,rfl,CP (c:=l6) (λi hi=>by simp[nK]) λi hi=>?_,aV _<|tV _⟩,BW _⟩⟩;show(fO 1 l6<|gi W.next z)[i]? = _;exact xv hi
 intro _ _;have g1:=Pt iI z;have g2:=Pe uc z;have hl:=CM W.next z;have g3:ph (gi W.next z)=0:=AE.2 ⟨zo,g1⟩;obtain⟨t1,t2,t3⟩:=zsL g3;have wh:=Q0 (gi W.next z) zo g1 g2;have Wy:=zvr (gi W.next z) zo g1 g2 W.fair C8 (λl iS=>by rw[hl];exact iY l iS);have SP:=Xm (gi W.next z) g3 g2;have jh:=λk (hk:k<(gi W.next z).length)=>vf hk;obtain⟨fx,xL⟩:∃fx:Nat->Bool,fx=λv=>z v&&Aq (gi W.next z) W.fair (bG (gi W.next z) v).toNat:=⟨_,rfl⟩;have S6:∀v,v<(gi W.next z).length->nE (fV (gi W.next z) (gi W.next z).length) (jj fx W.next.length) v=fwB (gi W.next z) (W.fair.map fR) v:=λv hv=>zsG g1 (λl iS=>by rw[hl];exact iY l iS) (λx=>by
  rw[uV,hl,xL];refine and_congr_right λ_=>and_congr_right λhx=>?_;show(z x.toNat&&Aq _ _ _)=true↔_;rw[fY];refine⟨λq=>q.2,λq=>⟨?_,q⟩⟩;have lj:x.toNat<(gi W.next z).length:=(by have:=hx;omega);have hp:=jh _ lj;obtain⟨⟨y,y1,_⟩,_⟩:=(Og (λv x hx=>by have:=cZ (gY g1 v) hx;omega) (λl iS=>by rw[hl];exact iY l iS) lj zo).1 q;exact(BG.1 y1).2.1) hv
 have N7:=O8 _ t1 t2 (jj fx W.next.length) (by rw[tJ,hl];exact kG λx hx=>⟨(uV.1 hx).1,(uV.1 hx).2.1⟩) (by have:=JH fx W.next.length;have:=Ak (show(gi W.next z).length<=600 by omega) (show(gi W.next z).length<=600 by omega);omega);rw[tJ,QQ λi hi=>S6 i hi] at N7;have cut:=TO (L:=gi W.next z) hl.symm;rw[<-cut] at wh Wy SP;clear S6 g1 g2 g3 t1 t2 t3;refine sW ?_;refine sE (Ax (pre:=[]) (post:=[]) wh (cG _) trivial trivial (tV _) rfl) ?_;refine sE (Ax (pre:=[]) (post:=[_,_]) Wy (jk _ _) trivial ⟨cG _,mj _,trivial⟩ (tV _) rfl) ?_;refine b8 (fL 12 1 zs rfl) ?_;refine bt [1,5,10,11,66] (λ((k,c):Nat×Nat)=>[(12,.own 2 c 0 c),(67,aa k)]) (λ(k,c)=>[(2,.vec true c 1<|aA<|jj fx k)]) (λ(k,c)=>k<=W.next.length/\c=(jj fx k).length) (λ(k,c)=>W.next.length-k) (0,0) ?_;refine sW ?_;refine⟨⟨zo,rfl⟩,by exact sK,rfl,?_⟩;rintro⟨k,c⟩ ⟨hk,gh⟩;have gw:=JH fx k;have eS:=HP fx k;refine br (λq0=>?_) λq0=>?_
 ·have q0:k<W.next.length:=sO;have hp:=jh k zo;have egk:fx k=(z k&&Aq (gi W.next z) W.fair (bG (gi W.next z) k).toNat):=(by rw[xL]);refine sL (bj k zo q0) ?_;cases zk:z k
  ·rw[zk,pt] at egk;rw[egk,ab zc] at eS;refine bb ?_;refine⟨(k+1,c),⟨zo,by rw[eS];exact gh⟩,zd,aL (by exact sK) ?_⟩;dsimp only;rw[eS];rfl
  rw[zk,kP] at egk;refine sW ?_;refine sL (cD k zo zo) ?_;refine sL (bj (bG (gi W.next z) k).toNat zo zo) ?_;rw[<-egk];cases gk:fx k
  ·rw[gk,ab zc] at eS;refine bb ?_;refine⟨(k+1,c),⟨zo,by rw[eS];exact gh⟩,zd,aL (by exact sK) ?_⟩;dsimp only;rw[eS];rfl
  rw[gk,ae rfl] at eS;refine lh ?_;refine⟨(k+1,c+1),⟨zo,by rw[eS,cq,<-gh];rfl⟩,zd,?_⟩;dsimp only;rw[eS];refine aR 3 zs rfl sQ (sU ?_);exact aZ<|by rw[gh,Iq,eZ]
 have q0:k=W.next.length:=by have:¬k<W.next.length:=sO
                             omega
 subst q0;refine sE (Ax (pre:=[]) (post:=[]) SP (by simp[Pure,an,mj]) trivial trivial (tV _) rfl) ?_;rw[show aO (jj fx W.next.length)=D.aM 1 (List.drop 0<|List.take c<|aA<|jj fx W.next.length) from by rw[cx<|by simp[aA];omega];rfl] at N7;refine sE (Ax (pre:=[_]) (post:=[]) N7 (by simp[Pure,an,jk]) ⟨mj _,trivial⟩ trivial (db _ (λl=>by simp[an,Pure]) _) rfl) ?_;rw[hl];exact .refl _
section
open Go.RowKit Go.ChangeShapes Go.WideShapes Go.ChangeAt
end
section
open Go.RowKit Go.ChangeShapes Go.WideShapes Go.ChangeAt
end
section
noncomputable def pU(g:aj)(S:ay)(k i:Nat):Bool:=(List.range k).any λv=>bG g v==(i:Int)&&S v
noncomputable def pj(g:aj)(sets:List ay)(i:Nat):Bool:=okT g g.length i&&sets.all λS=>pU g S g.length i
theorem zrd(S:ay)(k i:Nat):pU g S (k+1) i=(pU g S k i||(bG g k==(i:Int)&&S k)):=by
 unfold pU;rw[qy,wW];simp
theorem Yy{g:aj}(bp:∀v x,x∈g.getD v []->x.toNat<g.length)(sets:List ay):(∃i,i<g.length/\pj g sets i)↔∃v,v<g.length/\Fw g sets v:=by
 constructor
 ·rintro⟨i,hi,h⟩;unfold pj at h;rw[fY,ki] at h;obtain⟨h1,h2⟩:=h;unfold okT at h1;rw[kJ] at h1;obtain⟨n,hn,q⟩:=h1;have hn:=fX.1 hn;rw[fY,gG] at q;refine⟨n,hn,n,mN g n,(EU bp hn).1 q.2,λS hS=>?_⟩;have:=h2 S hS;unfold pU at this;rw[kJ] at this;obtain⟨d,hd,r⟩:=this;have hd:=fX.1 hd;rw[fY,gG,<-q.1,parts_eq hd hn,mP] at r;exact⟨d,r.2,r.1.2,r.1.1⟩
 rintro⟨v,hv,c,h1,h2,h3⟩;have hc:=FB bp hv h1;have hp:=vf hc;refine⟨(bG g c).toNat,zo,?_⟩;unfold pj;rw[fY,ki];have e:((bG g c).toNat:Int)=bG g c:=zo;refine⟨?_,λS hS=>?_⟩
 ·unfold okT;rw[kJ];exact⟨c,fX.2 hc,by rw[fY,gG,e];exact⟨rfl,(EU bp hc).2 h2⟩⟩
 obtain⟨d,d1,d2,d3⟩:=h3 S hS;have hd:=FB bp hc d2;unfold pU;rw[kJ];exact⟨d,fX.2 hd,by rw[fY,gG,e,parts_eq hd hc,mP];exact⟨⟨d3,d2⟩,d1⟩⟩
end
section
end
section
end
section
end
section
end
section
end
section
theorem FN:∀(n m:Nat) (h:Nat->Nat),(∀i,i<m->h i<n)->(∀i j,i<m->j<m->h i=h j->i=j)->m<=n
 |0,m,h,h1,_=>by
  rcases xp m with e|e
  ·omega
  have:=h1 0 e;omega
 |n+1,m,h,h1,h2=>by
  by_cases q:∃i,i<m/\h i=n
  ·obtain⟨i0,q1,q2⟩:=q;have:=FN n (m-1) (λi=>h<|if i=i0 then m-1 else i) (λi hi=>by
    split
    ·rename_i e;have a1:=h1 (m-1) zo;have a2:h (m-1)≠n:=λe2=>by have:=h2 (m-1) i0 zo q1 (by rw[e2,q2]);omega
     omega
    ·rename_i e;have a1:=h1 i zo;have a2:h i≠n:=λe2=>e<|h2 i i0 zo q1 (by rw[e2,q2]);omega) (λi j hi hj e=>by
    have:=h2 _ _ (by split<;>omega) (by split<;>omega) e;split at this<;>split at this<;>omega)
   omega
  have:=FN n m h (λi hi=>by have:=h1 i hi;have:h i≠n:=λe=>q ⟨i,hi,e⟩;omega) h2;omega
end
section
end
def pb(a b:Int):bh:=[aa a,aa b]
def rA(l:List Pr):fE:=l.map λo=>pb o.1 o.2
def yr(l:List Pr):D:=.aM 2<|rA l
variable(l:List Pr)
@[simp] theorem HX:(rA l).length=l.length:=by simp[rA]
@[simp] theorem KA:fc<|rA l:=db _ (λl=>by simp[pb,an,Pure]) l
@[simp] theorem JV:Pure<|yr l:=by simp only[yr,Pure];exact KA l
@[simp] theorem zvY:bg m (rA l)↔True:=⟨λ_=>trivial,λ_=>aV _<|KA l⟩
@[simp] theorem zwx:aq m (yr l)↔True:=⟨λ_=>trivial,λ_=>bw _<|JV l⟩
variable{l:List Pr}
theorem IH(hz:z=k)(h:k<l.length):(rA l)[z]? = some (pb (l.getD k (0,0)).1 (l.getD k (0,0)).2):=by
 subst hz;unfold rA;rw[cU,aJ h,aE,aJ h];rfl
def gr(L:aj):fE:=L.map λl=>[aO l]
@[simp] theorem zyN(L:aj):(gr L).length=L.length:=by simp[gr]
@[simp] theorem mX(L:aj):fc<|gr L:=db _ (λl=>by simp[an,cG]) L
@[simp] theorem ztr(l:aj):bg m (gr l)↔True:=⟨λ_=>trivial,λ_=>aV _<|mX l⟩
theorem zm5{L:aj}{c:Nat}{l:ah}(h:c=L.length):List.drop 0 (List.take c<|gr L)++[[aO l]]=gr (L++[l]):=by
 subst h;rw[cx zs];simp[gr]
theorem kv(l:ah)(x:Int):List.drop 0 (List.take l.length<|aA l)++List.drop 0 (List.take 1 [[aa x]])=aA (l++[x]):=by
 rw[cx<|by simp[aA]];simp[aA]
theorem X9(L:List Pr)(p:Pr):List.drop 0 (List.take L.length<|rA L)++List.drop 0 (List.take 1 [[aa p.1,aa p.2]])=rA (L++[p]):=by
 rw[cx zs];simp[rA,pb]
theorem YW {P : Program} {k e : TypeId} {f0 f1 : Field} (fT : 0 < P.types.size) (hk : P.keyType k = true) (hu : P.underlying k = some (.struct #[f0, f1])) (h0 : f0.type = e) (h1 : f1.type = e) (o0 : f0.offset = 0) (o1 : f1.offset = 1) (n0 : (f0.name != "_") = true) (n1 : (f1.name != "_") = true) (he : P.underlying e = some (.int .i64)) (A5 : P.cellsOf e = 1) (ow : P.cellsOf k = 2) (a b : Int) (ha : (Lit.int .i64 a).wf = true) (hb : (Lit.int .i64 b).wf = true) :
  ∃l,keyOf P k (.agg #[.int .i64 a,.int .i64 b])=some l:=by
 obtain⟨d,hd⟩:∃d,P.types.size=d+1:=⟨P.types.size-1,zo⟩;unfold keyOf;rw[hu];simp only[hk,Value.formed,hu,ow,kP];rw[ae zs,hd];show ∃l,(P.keyLits (d+1+1) k [.int .i64 a,.int .i64 b]).map _=some l;rw[Program.keyLits.eq_def];simp only[hu];rw[ae ⟨by simp[ow],by simp[n0,n1]⟩];simp[List.mapM_cons,h0,h1,o0,o1,A5,Program.keyLits,he,ha,hb]
def we(p:Pr):aP:=.agg #[.int .i64 p.1,.int .i64 p.2]
variable{p:Pr}
theorem Qp{q:Pr}(h:we p=we q):p=q:=by
 unfold we at h;have h:=(Value.agg.injEq _ _).mp h;have h:=bJ Array.toList h;simp at h;exact Prod.ext h.1 h.2
noncomputable def vw(L:List Pr):Nat->aP->Option aP
 |0=>λ_=>none
 |k+1=>pO (vw L k) (we<|L.getD k (0,0)) (.int .i64 k)
noncomputable def fP(L:List Pr):aP->Option aP:=vw L L.length
theorem Pg{L:List Pr}{m:Pr}:∀k,k<=L.length->vw (L++[m]) k=vw L k
 |0,_=>rfl
 |k+1,h=>by
  simp only[vw];rw[Pg k zo,aE,fv zo,<-aE]
theorem XH(L:List Pr)(m:Pr):fP (L++[m])=pO (fP L) (we m) (.int .i64 L.length):=by
 unfold fP;rw[cq,jA];simp only[vw];rw[Pg _<|aT _,aE,gJ<|aT _,rm];rfl
theorem Jh(h:k<l.length):l.getD k (0,0)∈l:=by
 rw[aE,aJ h];simp
theorem UJ{L:List Pr}{m:Pr}(hm:¬m∈L):∀k,k<=L.length->vw L k (we m)=none
 |0,_=>rfl
 |k+1,h=>by
  simp only[vw,pO];rw[ab ?_,UJ hm k zo];intro e;exact hm<|Qp e▸Jh zo
theorem Pp{L:List Pr}{m:Pr}(hn:L.Nodup){i:Nat}(hi:i<L.length)(hm:L.getD i (0,0)=m):∀k,i<k->k<=L.length->vw L k (we m)=some (.int .i64 i)
 |0,h,_=>zo
 |k+1,h,hk=>by
  simp only[vw,pO];by_cases e:i=k
  ·subst e;rw[hm,ae rfl]
  rw[ab ?_,Pp hn hi hm k zo zo];intro q;have:=Qp q;rw[<-hm,aE,aE,aJ hi,aJ zo] at this;exact tG.1 hn i k hi zo zo this
variable{m:Pr}
theorem zsj(h:m∈L):gF L m<L.length/\L.getD (gF L m) (0,0)=m:=by
 have h1:=Dw h;refine⟨h1,?_⟩;unfold gF at h1⊢;rw[aE,aJ h1,List.getElem_idxOf h1];rfl
theorem RN(hn:L.Nodup)(h:m∈L):fP L (we m)=some (.int .i64<|gF L m):=by
 obtain⟨h1,h2⟩:=zsj h;exact Pp hn h1 h2 _ h1<|aT _
theorem ZS(h:¬m∈L):fP L (we m)=none:=UJ h _<|aT _
def WfP(p:Pr):Prop:=(Lit.int .i64 p.1).wf=true/\(Lit.int .i64 p.2).wf=true
theorem zyS(h:0<=p.1/\p.1<=1000000000/\0<=p.2/\p.2<=1000000000):WfP p:=by
 have h1:IntKind.min .i64=-9223372036854775808:=zc;have h2:IntKind.max .i64=9223372036854775807:=zc;constructor
 ·simp only[Lit.wf,fY,ja];omega
 simp only[Lit.wf,fY,ja];omega
def uN:D:=ax
@[simp] theorem zzd{m:Nat}:aq m uN↔True:=⟨λ_=>trivial,λ_=>trivial⟩
def iM:Nat->Bool:=λ_=>true
def noT:Nat->Bool:=λ_=>false
def rj(n:Nat)(F:List ay):D:=.aM 1<|F.map λS=>[bD n S]
@[simp] theorem F5(n:Nat)(F:List ay):Pure<|rj n F:=by simp only[rj,Pure];exact db _ (λS=>by simp[an,jk]) F
variable{F:List ay}
theorem IC(hz:z=k)(h:k<F.length):(F.map λS=>[bD n S])[z]? = some [bD n<|F.getD k noT]:=by
 subst hz;rw[cU,aJ h,aE,aJ h];rfl
theorem zyo(v:Nat):fwB g [] v=fwB g [iM] v:=by
 rw[kb,yQ,yQ];constructor
 ·rintro⟨c,h1,h2,h3⟩;exact⟨c,h1,h2,λS hS=>by rw[cB] at hS;subst hS;exact⟨c,rfl,mN g c,mN g c⟩⟩
 rintro⟨c,h1,h2,h3⟩;exact⟨c,h1,h2,λS hS=>by cases hS⟩
theorem VE{g:aj}(h:Fw g F v):v<g.length:=by
 obtain⟨c,h1,⟨x,hx,_⟩,_⟩:=h;have lt:∀{a:Nat} {y:Int},y∈g.getD a []->a<g.length:=λ{a y} hy=>by
  rcases dY a g.length with q|q
  ·exact q
  rw[aE,cY q] at hy;simp at hy
 have key:∀{a b:Nat},To g a b->a=b\/a<g.length:=by
  intro a b q;unfold To at q
  induction q with
  |base m=>simp only[cB] at m;subst m;left;simp
  |step q m ih =>
   rcases ih with e|e
   ·subst e;exact .inr<|lt m
   exact .inr e
 rcases key h1 with e|e
 ·subst e;exact lt hx
 exact e
def cz(z:ay)(n:Nat):Nat:=dH (λi=>!z i) n
variable{z z':ay}
theorem Hk(h:∀v,z' v->z v):cz z' n<=cz z n:=DF λj _ q=>by
 cases e:z' j with
 |false=>rfl
 |true=>rw[h j e] at q;cases q
theorem QH(hi:i<n)(h:∀v,z' v->z v)(h1:z i)(h2:z' i=false):cz z' n<cz z n:=by
 refine oS hi (λj _ q=>?_) (by simp[h1])<|by simp[h2]
 cases e:z' j with
 |false=>rfl
 |true=>simp[h j e] at q
structure uU(g:aj)(z S bF:ay):Prop where
 sound:∀v,bF v->Hit g z S v
def pT(g:aj)(z S bF:ay)(i k:Nat):Prop:=z i=true->∀j,j<k->j<(g.getD i []).length->z ((g.getD i []).getD j 0).toNat->(S ((g.getD i []).getD j 0).toNat=true\/bF ((g.getD i []).getD j 0).toNat)->bF i=true
theorem Tz{g:aj}{S bF:ay}(h:uU g z S bF)(hz:∀v,z v->v<g.length)(hc:∀i,i<g.length->pT g z S bF i (g.getD i []).length)(v:Nat):bF v↔Hit g z S v:=by
 refine⟨h.sound v,λq=>?_⟩
 induction q with
 |one h k ji hs =>
  obtain⟨j,hj,rfl⟩:=s7 k;exact hc _ (hz _ h) h j hj hj ji (.inl hs)
 |more h k ji _ ih =>
  obtain⟨j,hj,rfl⟩:=s7 k;exact hc _ (hz _ h) h j hj hj ji (.inr ih)
theorem ztL(hn:g.length<=1000000)(iI:∀l∈g,bx l g.length)(hF:jH g)(F:List ay)(rG:F.length<=1000000)(bT:F≠[]):ar ai 87 [bY g,rj g.length F]<|bD g.length<|fwB g F:=by
 have dF:=λk=>gY iI k;have bp:∀v x,x∈g.getD v []->x.toNat<g.length:=λv x hx=>by have:=cZ (dF v) hx;omega
 refine bK fZ ?_;unfold bY rj;refine sR ?_;rw[aK];refine⟨zo,zo,zo,?_⟩;rw[bQ,show List.map D.sc [Value.bool false]=[aD false] from rfl,lS];refine sW ?_;refine bt [0,1,5] (λk:Nat=>[(6,aa k)]) (λk=>[(0,.vec true 0 1<|bV g.length λi=>decide (i<k))]) (λk=>k<=g.length) (λk=>g.length-k) 0 ?_;refine sW ?_;refine⟨zo,by exact sK,by simp;rfl,?_⟩;rintro k hk;refine br (λq0=>?_) λq0=>?_
 ·have q0:k<g.length:=sO;refine sB ?_;refine⟨_,bj k zo q0,?_⟩;refine bb ?_;refine⟨k+1,zo,zd,aL (by exact sK) ?_⟩;rw[show 0+((k:Nat):Int).toNat=k by omega,pI,jS (g':=λi=>decide (i<k+1)) λi _=>by
   show(if i=k then true else decide (i<k))=_;by_cases e:i=k
   ·rw[ae e];simp;omega
   rw[ab e,kb];simp;omega]
  rfl
 have q0:k=g.length:=by have:¬k<g.length:=sO
                        omega
 subst q0;rw[aK];refine sS (λq1=>?_) λq1=>?_
 ·exact absurd (List.eq_nil_of_length_eq_zero<|sO) bT
 refine bt [0,1,5] (λ((m,z):Bool×ay)=>[(7,aD m)]) (λ(m,z)=>[(0,.vec true 0 1<|bV g.length z)])
  (λ(m,z)=>(∀v,Fw g F v->z v)/\(∀v,z v->v<g.length)/\(m=false->∀v,z v->∀S,S∈F->Hit g z S v)) (λ(m,z)=>if m=true then 1+cz z g.length else 0) (true,λi=>decide (i<g.length)) ?_
 refine sW ?_;refine⟨⟨λv hv=>by simpa using VE hv,λv hv=>by simpa using hv,λq=>by cases q⟩,by exact sK,rfl,?_⟩;rintro⟨m,z0⟩ ⟨Aa,F8,pH⟩;refine c6 ?_;cases m
 ·refine sW ?_;rw[jS (g':=fwB g F) λi hi=>KB ⟨λq=>L2 bp F8 (pH rfl) bT q,Aa i⟩];exact s5 rfl
 refine sW ?_
 refine bt [0,1,5] (λ((m,k,z):Bool×Nat×ay)=>[(7,aD m),(8,aa k)]) (λ(m,k,z)=>[(0,.vec true 0 1<|bV g.length z)])
  (λ(m,k,z)=>k<=F.length/\(∀v,Fw g F v->z v)/\(∀v,z v->z0 v)/\(m=true->cz z g.length<cz z0 g.length)/\(m=false->(∀v,z v=z0 v)/\∀j,j<k->∀v,z v->Hit g z (F.getD j noT) v)) (λ(m,k,z)=>F.length-k) (false,0,z0) ?_
 refine sW ?_;refine⟨⟨zo,Aa,λv h=>h,λq=>(by cases q),λ_=>⟨λv=>rfl,λj hj=>zo⟩⟩,by exact sK,rfl,?_⟩;clear pH;rintro⟨m,k,z⟩ ⟨hk,w7,x6,pe,m8⟩;have xt:∀v,z v=true->v<g.length:=λv hv=>F8 v<|x6 v hv;refine c6 ?_;rw[aK];refine sS (λq0=>?_) λq0=>?_
 ·have q0:k<F.length:=sO;have hS:F.getD k noT∈F:=(by rw[aE,aJ q0];exact ib q0);have LQ:=λz (hz:z=k)=>IC (n:=g.length) (F:=F) hz q0;generalize w9:F.getD k noT=S at *;rw[aK];refine⟨zo,zo,zo,?_⟩;rw[bQ,show List.map D.sc [Value.bool false]=[aD false] from rfl,lS];refine sW ?_
  refine bt [0,1,5,7,8,9] (λ((r,bF):Bool×ay)=>[(10,aD r)]) (λ(r,bF)=>[(1,.vec true 0 1<|bV g.length bF)])
   (λ(r,bF)=>uU g z S bF/\(r=false->∀i,i<g.length->pT g z S bF i (g.getD i []).length)) (λ(r,bF)=>if r=true then 1+dH bF g.length else 0) (true,noT) ?_
  refine sW ?_;refine⟨⟨⟨λv hv=>by cases hv⟩,λq=>by cases q⟩,by exact sK,rfl,?_⟩;rintro⟨r,fj⟩ ⟨zS,Gc⟩;refine c6 ?_;cases r
  ·have Fo:=Tz zS xt<|Gc rfl;refine sW ?_
   refine bt [0,1,5,8,9] (λ((m,i):Bool×Nat)=>[(7,aD m),(14,aa i)]) (λ(m,i)=>[(0,.vec true 0 1<|bV g.length λv=>if v<i then z v&&fj v else z v)])
    (λ(m',i)=>i<=g.length/\(m'=true->m\/∃v,v<i/\z v/\fj v=false)/\(m'=false->m=false/\∀v,v<i->z v->fj v)) (λ(m,i)=>g.length-i) (m,0) ?_
   refine sW ?_;refine⟨⟨zo,λq=>.inl q,λq=>⟨q,λv hv=>zo⟩⟩,by exact sK,by simp;rfl,?_⟩;rintro⟨m',i⟩ ⟨hi,h1,h2⟩;refine sW ?_
   ((apply uK;focus (repeat' constructor));((conv=>whnf);repeat(refine⟨rfl,?_⟩;conv=>whnf)))
   rw[aK];refine sS (λq1=>?_) λq1=>?_
   ·have q1:i<g.length:=sO;have eat:(if i<i then z i&&fj i else z i)=z i:=ab zo;have eset:bV g.length (λv=>if v=i then (z i&&fj i) else (if v<i then z v&&fj v else z v))=bV g.length (λv=>if v<i+1 then z v&&fj v else z v):=jS λv _=>by
     by_cases e:v=i
     ·subst e;rw[ae rfl,ae zo]
     rw[ab e];by_cases e2:v<i
     ·rw[ae e2,ae zo]
     rw[ab e2,ab zo]
    cases zi:z i
    ·rw[zi,pt] at eset;have g1:m'=true->m=true\/∃v,v<i+1/\z v=true/\fj v=false:=λq=>by
      rcases h1 q with h|⟨v,v1,v2,v3⟩
      ·exact .inl h
      exact .inr ⟨v,zo,v2,v3⟩
     have g2:m'=false->m=false/\∀v,v<i+1->z v->fj v:=λq=>by
      refine⟨(h2 q).1,λv hv uf=>?_⟩;by_cases e:v=i
      ·subst e;rw[zi] at uf;cases uf
      exact(h2 q).2 v zo uf
     cases m'
     ·refine sW ?_
      (refine⟨zo,(by first|omega|(simp;done)|(simp;omega)|(simp only[ll];omega)),?_⟩;((conv=>whnf);repeat(refine⟨rfl,?_⟩;conv=>whnf)))
      refine⟨_,bj i zo q1,?_⟩;rw[eat,zi];refine sW ?_;refine bE ?_;refine⟨_,bj i zo q1,?_⟩;rw[eat,zi];refine sW ?_;refine bE ?_;refine⟨_,bj i zo q1,?_⟩;rw[eat,zi];refine bE ?_;refine⟨_,bj i zo q1,?_⟩;refine bb ?_;refine⟨(false,i+1),⟨zo,g1,g2⟩,zd,aL (by exact sK) ?_⟩;rw[show 0+((i:Nat):Int).toNat=i by omega,pI,eset];rfl
     refine sW ?_;refine bE ?_;refine⟨_,bj i zo q1,?_⟩;rw[eat,zi];refine bE ?_;refine⟨_,bj i zo q1,?_⟩;refine bb ?_;refine⟨(true,i+1),⟨zo,g1,g2⟩,zd,aL (by exact sK) ?_⟩;rw[show 0+((i:Nat):Int).toNat=i by omega,pI,eset];rfl
    cases aW:fj i
    ·rw[zi,aW,kP] at eset;have g1:true=true->m=true\/∃v,v<i+1/\z v=true/\fj v=false:=λ_=>.inr ⟨i,zo,zi,aW⟩;cases m'
     ·refine bE ?_;refine⟨_,bj i zo q1,?_⟩;rw[eat,zi];refine sW ?_;refine bE ?_;refine⟨_,bj i zo q1,?_⟩;rw[eat,zi];refine bE ?_;refine⟨_,bj i zo q1,?_⟩;rw[aW];refine sW ?_;refine bE ?_;refine⟨_,bj i zo q1,?_⟩;rw[eat,zi];refine bE ?_;refine⟨_,bj i zo q1,?_⟩;rw[aW];refine bE ?_;refine⟨_,bj i zo q1,?_⟩;refine bb ?_;refine⟨(true,i+1),⟨zo,g1,λq=>by cases q⟩,zd,aL (by exact sK) ?_⟩;rw[show 0+((i:Nat):Int).toNat=i by omega,pI,eset];rfl
     refine sW ?_;refine bE ?_;refine⟨_,bj i zo q1,?_⟩;rw[eat,zi];refine bE ?_;refine⟨_,bj i zo q1,?_⟩;rw[aW];refine bE ?_;refine⟨_,bj i zo q1,?_⟩;refine bb ?_;refine⟨(true,i+1),⟨zo,g1,λq=>by cases q⟩,zd,aL (by exact sK) ?_⟩;rw[show 0+((i:Nat):Int).toNat=i by omega,pI,eset];rfl
    rw[zi,aW,kP] at eset;have g1:m'=true->m=true\/∃v,v<i+1/\z v=true/\fj v=false:=λq=>by
     rcases h1 q with h|⟨v,v1,v2,v3⟩
     ·exact .inl h
     exact .inr ⟨v,zo,v2,v3⟩
    have g2:m'=false->m=false/\∀v,v<i+1->z v->fj v:=λq=>by
     refine⟨(h2 q).1,λv hv uf=>?_⟩;by_cases e:v=i
     ·subst e;exact aW
     exact(h2 q).2 v zo uf
    cases m'
    ·refine bE ?_;refine⟨_,bj i zo q1,?_⟩;rw[eat,zi];refine sW ?_;refine bE ?_;refine⟨_,bj i zo q1,?_⟩;rw[eat,zi];refine bE ?_;refine⟨_,bj i zo q1,?_⟩;rw[aW];refine sW ?_;refine bE ?_;refine⟨_,bj i zo q1,?_⟩;rw[eat,zi];refine bE ?_;refine⟨_,bj i zo q1,?_⟩;rw[aW];refine bE ?_;refine⟨_,bj i zo q1,?_⟩;refine bb ?_;refine⟨(false,i+1),⟨zo,g1,g2⟩,zd,aL (by exact sK) ?_⟩;rw[show 0+((i:Nat):Int).toNat=i by omega,pI,eset];rfl
    refine sW ?_;refine bE ?_;refine⟨_,bj i zo q1,?_⟩;rw[eat,zi];refine bE ?_;refine⟨_,bj i zo q1,?_⟩;rw[aW];refine bE ?_;refine⟨_,bj i zo q1,?_⟩;refine bb ?_;refine⟨(true,i+1),⟨zo,g1,g2⟩,zd,aL (by exact sK) ?_⟩;rw[show 0+((i:Nat):Int).toNat=i by omega,pI,eset];rfl
   have q1:i=g.length:=by have:¬i<g.length:=sO
                          omega
   subst q1;have pR:∀v,(z v&&fj v)->z v:=λv hv=>by rw[fY] at hv;exact hv.1
   rw[jS (g':=λv=>z v&&fj v) λv hv=>ae hv];refine sI ?_;refine⟨(m',k+1,λv=>z v&&fj v),⟨zo,λv hv=>?_,λv hv=>x6 v<|pR v hv,λq=>?_,λq=>?_⟩,zd,?_⟩
   ·show(z v&&fj v)=true;rw[w7 v hv,(Fo v).2<|LL w7 hS hv];rfl
   ·rcases h1 q with h|⟨v,v1,v2,v3⟩
    ·exact Nat.lt_of_le_of_lt (Hk pR)<|pe h
    exact vh (QH v1 pR v2<|by show(z v&&fj v)=false;rw[v3,Bool.and_false])<|Hk x6
   ·obtain⟨a1,a2⟩:=h2 q;obtain⟨b1,b2⟩:=m8 a1;have ez:(λv=>z v&&fj v)=z:=by
     funext v
     cases hv:z v with
     |false=>rfl
     |true=>show fj v=true;exact a2 v (xt v hv) hv
    rw[ez];refine⟨b1,λj hj v hv=>?_⟩;by_cases e:j=k
    ·subst e;rw[w9];exact(Fo v).1 (a2 v (xt v hv) hv)
    exact b2 j zo v hv
   exact aR 1 zs rfl sQ sQ
  refine sW ?_
  refine bt [0,1,5,7,8,9] (λ((r,i,bF):Bool×Nat×ay)=>[(10,aD r),(11,aa i)]) (λ(r,i,bF)=>[(1,.vec true 0 1<|bV g.length bF)])
   (λ(r,i,bF)=>i<=g.length/\uU g z S bF/\(∀v,fj v->bF v)/\(r=true->dH bF g.length<dH fj g.length)/\(r=false->∀b,b<i->pT g z S bF b (g.getD b []).length)) (λ(r,i,bF)=>g.length-i) (false,0,fj) ?_
  refine sW ?_;refine⟨⟨zo,zS,λv h=>h,λq=>(by cases q),λ_ b hb=>zo⟩,by exact sK,rfl,?_⟩;rintro⟨r,i,bF⟩ ⟨hi,hH,iK,mf,rz⟩;refine c6 ?_;rw[aK];refine sS (λq1=>?_) λq1=>?_
  ·have q1:i<g.length:=sO;have AD:=hF.at i
   refine bt [0,1,5,7,8,9,11] (λ((r,j,bF):Bool×Nat×ay)=>[(10,aD r),(12,aa j)]) (λ(r,j,bF)=>[(1,.vec true 0 1<|bV g.length bF)])
    (λ(r,j,bF)=>j<=(g.getD i []).length/\uU g z S bF/\(∀v,fj v->bF v)/\(r=true->dH bF g.length<dH fj g.length)/\(r=false->(∀b,b<i->pT g z S bF b (g.getD b []).length)/\pT g z S bF i j)) (λ(r,j,bF)=>(g.getD i []).length-j) (r,0,bF) ?_
   refine sW ?_;refine⟨⟨zo,hH,iK,mf,λq=>⟨rz q,λ_ j hj=>zo⟩⟩,by exact sK,rfl,?_⟩;clear hH iK mf rz zS Gc pe m8 w7 Aa;rintro⟨r,j,bF⟩ ⟨hj,hH,iK,mf,rz⟩;have out:(j=(g.getD i []).length\/z i=false\/bF i)->r=false->∀b,b<i+1->pT g z S bF b (g.getD b []).length:=λh q b hb=>by
    obtain⟨c1,c2⟩:=rz q;by_cases e:b=i
    ·subst e;rcases h with h|h|h
     ·rw[<-h];exact c2
     ·intro ji;rw[h] at ji;cases ji
     exact λ_ _ _ _ _ _=>h
    exact c1 b zo
   refine c6 ?_;refine sL (iL (k:=i) zo q1) ?_;rw[aK];refine sS (λq2=>?_) λq2=>?_
   ·have q2:j<(g.getD i []).length:=sO;refine sB ?_;refine⟨_,bj i zo q1,?_⟩;cases zi:z i
    ·refine sW ?_;have w6h:j=(g.getD i []).length\/z i=false\/bF i=true:=.inr (.inl zi);refine sI ?_;exact⟨(r,i+1,bF),⟨zo,hH,iK,mf,out w6h⟩,zd,aL (by exact sK) rfl⟩
    refine bE ?_;refine⟨_,bj i zo q1,?_⟩;cases aW:bF i
    ·refine sW ?_;have hx:=cZ (dF i)<|dP q2;have m3:=dP q2;refine sL (iL (k:=i) zo q1) ?_;refine sL (cA (l:=g.getD i []) (k:=j) zo q2) ?_;have skip:(z ((g.getD i []).getD j 0).toNat=true->S ((g.getD i []).getD j 0).toNat=false/\bF ((g.getD i []).getD j 0).toNat=false)->r=false->(∀b,b<i->pT g z S bF b (g.getD b []).length)/\pT g z S bF i (j+1):=λh q=>by
      obtain⟨c1,c2⟩:=rz q;refine⟨c1,λji j' jf uI DY A6=>?_⟩;by_cases e:j'=j
      ·subst e;obtain⟨d1,d2⟩:=h DY;rw[d1,d2] at A6;simp at A6
      exact c2 ji j' zo uI DY A6
     have ue:=λ(h:z ((g.getD i []).getD j 0).toNat) (hs:S ((g.getD i []).getD j 0).toNat)=>Hit.one (g:=g) (S:=S) zi m3 h hs;have Ej:=λ(h:z ((g.getD i []).getD j 0).toNat) (hs:bF ((g.getD i []).getD j 0).toNat)=>Hit.more (g:=g) (S:=S) zi m3 h<|hH.sound _ hs;generalize (g.getD i []).getD j 0=x at *;obtain⟨to,rfl⟩:∃to:Nat,x=to:=⟨x.toNat,zo⟩;rw[bQ] at skip ue Ej;have j6:to<g.length:=zo;have ck:=oS (s:=bF) (s':=mark bF i) q1 (λv _ hv=>gg hv) aW<|lq _ _;have hle:=DF (n:=g.length) λv _ hv=>iK v hv;refine sB ?_;refine⟨_,bj to zo j6,?_⟩;cases zt:z to
     ·refine bb ?_;exact⟨(r,j+1,bF),⟨zo,hH,iK,mf,skip λq=>by rw[zt] at q;cases q⟩,zd,aL (by exact sK) rfl⟩
     refine sW ?_;refine sL (LQ _ zo) ?_;refine⟨zo,_,bj to zo j6,?_⟩;cases st:S to
     ·refine bE ?_;refine⟨_,bj to zo j6,?_⟩;cases ht:bF to
      ·refine bb ?_;exact⟨(r,j+1,bF),⟨zo,hH,iK,mf,skip λ_=>⟨st,ht⟩⟩,zd,aL (by exact sK) rfl⟩
      have BF:uU g z S<|mark bF i:=⟨λv hv=>by
       rcases oE.1 hv with rfl|hv
       ·exact Ej zt ht
       exact hH.sound v hv⟩
      refine bE ?_;refine⟨_,bj i zo q1,?_⟩;refine bb ?_;refine⟨(true,j+1,mark bF i),⟨zo,BF,λv hv=>gg<|iK v hv,λ_=>zo,λq=>by cases q⟩,zd,aL (by exact sK) ?_⟩;rw[qE (v:=i) zo];rfl
     have BF:uU g z S<|mark bF i:=⟨λv hv=>by
      rcases oE.1 hv with rfl|hv
      ·exact ue zt st
      exact hH.sound v hv⟩
     refine bE ?_;refine⟨_,bj i zo q1,?_⟩;refine bb ?_;refine⟨(true,j+1,mark bF i),⟨zo,BF,λv hv=>gg<|iK v hv,λ_=>zo,λq=>by cases q⟩,zd,aL (by exact sK) ?_⟩;rw[qE (v:=i) zo];rfl
    refine sW ?_;have w6h:j=(g.getD i []).length\/z i=false\/bF i=true:=.inr (.inr aW);refine sI ?_;exact⟨(r,i+1,bF),⟨zo,hH,iK,mf,out w6h⟩,zd,aL (by exact sK) rfl⟩
   have q2:j=(g.getD i []).length:=by have:¬j<(g.getD i []).length:=sO
                                      omega
   have w6h:j=(g.getD i []).length\/z i=false\/bF i:=.inl q2;refine bb ?_;exact⟨(r,i+1,bF),⟨zo,hH,iK,mf,out w6h⟩,zd,aL (by exact sK) rfl⟩
  have q1:i=g.length:=by have:¬i<g.length:=sO
                         omega
  subst q1;refine⟨(r,bF),⟨hH,rz⟩,?_,aL (by exact sK) rfl⟩;dsimp only;cases r
  ·simp;omega
  have:=mf rfl;simp;omega
 have q0:k=F.length:=by have:¬k<F.length:=sO
                        omega
 subst q0;refine⟨(m,z),⟨w7,xt,λq v hv S hS=>?_⟩,?_,aL (by exact sK) rfl⟩
 ·obtain⟨j,hj,rfl⟩:=jN.1 hS;have:=(m8 q).2 j hj v hv;rw[aE,aJ hj] at this;exact this
 dsimp only;cases m
 ·simp;omega
 have:=pe rfl;simp;omega
def zzD:PC:=.seq (SO [qm 18 6,qm 19 5,Ln 20 19,Bi 21 .lss 18 20]<|CX 21 0) (.seq (.block 1<|OP [qm 24 5,qm 25 6,Ia 26 1 24 25,So 1 26 cT])<|OP [qm 22 6,Bi 23 .add 22 K1,qm 6 23])
def zy3:PC:=.seq (SO [qm 50 12,qm 51 0,qm 52 11,Ia 53 1 51 52,Lo 54 53,Ln 55 54,Bi 56 .lss 50 55,qm 57 56,GT 58 57 (.move 5),GT 59 57 (.move 11),GT 60 57 (.gZ 1 58 59),GT 61 57 (.cg 60),Pk 62 57 61 cF,qm 63 62,GT 64 63 (.move 9),GT 65 63 (.move 11),GT 66 63 (.gZ 1 64 65),GT 67 63 (.cg 66),GT 68 63 (.un .not 67),Pk 69 63 68 cF]<|CX 69 10) (.seq (.block 11<|SO [qm 72 0,qm 73 11,Ia 74 1 72 73,Lo 75 74,qm 76 12,Ia 77 1 75 76,Lo 78 77,qm 13 78]<|SO [qm 79 5,qm 80 13,Ia 81 1 79 80,Lo 82 81,qm 83 82,GT 84 83 (.move 1),GT 85 83 (.move 8),GT 86 83 (.gZ 1 84 85),GT 87 83 (.cg 86),GT 88 83 (.move 13),GT 89 83 (.gZ 1 87 88),GT 90 83 (.cg 89),GT 91 83 (.move 90),GF 92 91 (.move 9),GF 93 91 (.move 13),GF 94 91 (.gZ 1 92 93),GF 95 91 (.cg 94),GT 96 83 (.pick 91 cT 95),Pk 97 83 96 cF]<|If 97<|SO [qm 98 9,qm 99 11,Ia 100 1 98 99,So 1 100 cT]<|OP [Mv 10 cT])<|OP [qm 70 12,Bi 71 .add 70 K1,qm 12 71])
def ZT:PC:=.seq (SO [qm 44 11,qm 45 0,Ln 46 45,Bi 47 .lss 44 46]<|CX 47 8) (.seq (.block 9<|SO [Mv 12 K0]<|BL 10 zy3)<|OP [qm 48 11,Bi 49 .add 48 K1,qm 11 49])
def ZZ:PC:=.seq (SO [qm 43 10]<|CX 43 6) (.block 7<|SO [Mv 10 cF]<|SO [Mv 11 K0]<|BL 8 ZT)
def zzE:PC:=.seq (SO [qm 101 14,qm 102 0,Ln 103 102,Bi 104 .lss 101 103]<|CX 104 12) (.seq (.block 13 (.seq (.ops [qm 107 7,qw 108 107 1,⟨some 109,.move 5,some (108,false),3⟩,⟨some 110,.move 14,some (108,false),3⟩,⟨some 111,.gZ 1 109 110,some (108,false),15⟩,⟨some 112,.cg 111,some (108,false),31⟩,⟨some 113,.move 5,some (108,false),3⟩,⟨some 114,.move 14,some (108,false),3⟩,⟨some 115,.gZ 1 113 114,some (108,false),195⟩,⟨some 116,.cg 115,some (108,false),451⟩,⟨some 117,.move 116,some (108,false),963⟩,⟨some 118,.move 9,some (117,true),1987⟩,⟨some 119,.move 14,some (117,true),1987⟩,⟨some 120,.gZ 1 118 119,some (117,true),8131⟩,⟨some 121,.cg 120,some (117,true),16323⟩,⟨some 122,.pick 117 121 cF,some (108,false),32707⟩,⟨some 123,.eqb true 112 122,some (108,false),65535⟩,qd 124 (.pick 108 cT 123) 131071,qw 7 124 262143] true)<|OP [qm 125 5,qm 126 14,qm 127 5,qm 128 14,Ia 129 1 127 128,Lo 130 129,qm 131 130,GT 132 131 (.move 9),GT 133 131 (.move 14),GT 134 131 (.gZ 1 132 133),GT 135 131 (.cg 134),Pk 136 131 135 cF,Ia 137 1 125 126,So 1 137 136]))<|OP [qm 105 14,Bi 106 .add 105 K1,qm 14 106])
def zzr:PC:=.seq (SO [qm 34 8,qm 35 1,Ln 36 35,Bi 37 .lss 34 36]<|CX 37 4) (.seq (.block 5<|SO [qm 40 0,Ln 41 40,q 42 (.sM 1 1 [vF] 41 41),qm 9 42] (.seq (SO [Mv 10 cT]<|BL 6 ZZ)<|SO [Mv 14 K0]<|BL 12 zzE))<|OP [qm 38 8,Bi 39 .add 38 K1,qm 8 39])
def zzx:PC:=.seq (SO [qm 33 7]<|CX 33 2) (.block 3<|SO [Mv 7 cF]<|SO [Mv 8 K0]<|BL 4 zzr)
def c87z:PC:=SO [Mv 4 cN]<|SO [qm 15 0,Ln 16 15,q 17 (.sM 1 1 [vF] 16 16),qm 5 17] (.seq (SO [Mv 6 K0]<|BL 0 zzD) (.seq (SO [qm 27 1,Ln 28 27,Bi 29 .eql 28 K0]<|If 29 (.stop<|OP [qm 30 5,Ap 31 1 1 cN 30,Bs 32 1 1 [31],qm 1 32])) (.seq (SO [Mv 7 cT]<|BL 2 zzx)<|SO [qm 138 5,qm 4 138] .ret)))
theorem zr7(hn:g.length<=1000000)(iI:∀l∈g,bx l g.length)(hF:jH g) :ar ai 87 [bY g,rj g.length []]<|bD g.length<|fwB g []:=by
 have dF:=λk=>gY iI k;have bp:∀v x,x∈g.getD v []->x.toNat<g.length:=λv x hx=>by have:=cZ (dF v) hx;omega
 refine bK (fJ 139 [.tmp 4] c87z Tryz.func87) ?_;unfold bY rj;refine sR ?_;rw[aK];refine⟨zo,zo,zo,?_⟩;rw[bQ,show List.map D.sc [Value.bool false]=[aD false] from rfl,lS];refine sW ?_;refine bt [0,1,5] (λk:Nat=>[(6,aa k)]) (λk=>[(0,.vec true 0 1<|bV g.length λi=>decide (i<k))]) (λk=>k<=g.length) (λk=>g.length-k) 0 ?_;refine sW ?_;refine⟨zo,by exact sK,by simp;rfl,?_⟩;rintro k hk;refine br (λq0=>?_) λq0=>?_
 ·have q0:k<g.length:=sO;refine sB ?_;refine⟨_,bj k zo q0,?_⟩;refine bb ?_;refine⟨k+1,zo,zd,aL (by exact sK) ?_⟩;rw[show 0+((k:Nat):Int).toNat=k by omega,pI,jS (g':=λi=>decide (i<k+1)) λi _=>by
   show(if i=k then true else decide (i<k))=_;by_cases e:i=k
   ·rw[ae e];simp;omega
   rw[ab e,kb];simp;omega]
  rfl
 have q0:k=g.length:=by have:¬k<g.length:=sO
                        omega
 subst q0;obtain⟨F,EX⟩:∃F:List ay,F=[iM]:=⟨_,rfl⟩;have bT:F≠[]:=by rw[EX];simp
 have rG:F.length<=1000000:=by rw[EX];simp
 rw[show bD g.length (fwB g [])=bD g.length (fwB g F) from QQ λi _=>by rw[EX];exact zyo g i];refine sW ?_;refine px (λ_:Unit=>[(0,.aM 1<|g.map λl=>[aO l]),(1,.aM 1<|F.map λS=>[bD g.length S]),(5,.own 0 0 0 g.length)]) (λ_=>[.vec true 0 1<|bV g.length λi=>decide (i<g.length)]) (λ_=>True) ?_ ?_
 ·refine sR ?_;refine⟨by unfold je;simp;omega,?_⟩;refine sW ?_;refine⟨(),trivial,?_⟩;refine aR 1 zs rfl ?_ ?_
  ·refine⟨.refl _,bw _<|mj g,?_,bw _<|F5 _ _,.refl _,Nat.zero_lt_one,trivial⟩;rw[EX];refine .own _ _ _ _ _ _ _ _ rfl rfl (.cons _ _ _ _ (.cons _ _ _ _ (.own _ _ _ _ _ _ _ _ rfl rfl (aZ ?_)) (.refl _)) (.refl _));rw[Fy,fQ,jd<|aT _];exact jS λi hi=>by simp[hi,iM]
  refine sW ?_;exact sQ
 intro _ _;refine sR ?_;clear EX
 refine bt [0,1,5] (λ((m,z):Bool×ay)=>[(7,aD m)]) (λ(m,z)=>[(0,.vec true 0 1<|bV g.length z)])
  (λ(m,z)=>(∀v,Fw g F v->z v)/\(∀v,z v->v<g.length)/\(m=false->∀v,z v->∀S,S∈F->Hit g z S v)) (λ(m,z)=>if m=true then 1+cz z g.length else 0) (true,λi=>decide (i<g.length)) ?_
 refine sW ?_;refine⟨⟨λv hv=>by simpa using VE hv,λv hv=>by simpa using hv,λq=>by cases q⟩,by exact sK,rfl,?_⟩;rintro⟨m,z0⟩ ⟨Aa,F8,pH⟩;refine c6 ?_;cases m
 ·refine sW ?_;rw[jS (g':=fwB g F) λi hi=>KB ⟨λq=>L2 bp F8 (pH rfl) bT q,Aa i⟩];exact s5 rfl
 refine sW ?_
 refine bt [0,1,5] (λ((m,k,z):Bool×Nat×ay)=>[(7,aD m),(8,aa k)]) (λ(m,k,z)=>[(0,.vec true 0 1<|bV g.length z)])
  (λ(m,k,z)=>k<=F.length/\(∀v,Fw g F v->z v)/\(∀v,z v->z0 v)/\(m=true->cz z g.length<cz z0 g.length)/\(m=false->(∀v,z v=z0 v)/\∀j,j<k->∀v,z v->Hit g z (F.getD j noT) v)) (λ(m,k,z)=>F.length-k) (false,0,z0) ?_
 refine sW ?_;refine⟨⟨zo,Aa,λv h=>h,λq=>(by cases q),λ_=>⟨λv=>rfl,λj hj=>zo⟩⟩,by exact sK,rfl,?_⟩;clear pH;rintro⟨m,k,z⟩ ⟨hk,w7,x6,pe,m8⟩;have xt:∀v,z v=true->v<g.length:=λv hv=>F8 v<|x6 v hv;refine c6 ?_;rw[aK];refine sS (λq0=>?_) λq0=>?_
 ·have q0:k<F.length:=sO;have hS:F.getD k noT∈F:=(by rw[aE,aJ q0];exact ib q0);have LQ:=λz (hz:z=k)=>IC (n:=g.length) (F:=F) hz q0;generalize w9:F.getD k noT=S at *;rw[aK];refine⟨zo,zo,zo,?_⟩;rw[bQ,show List.map D.sc [Value.bool false]=[aD false] from rfl,lS];refine sW ?_
  refine bt [0,1,5,7,8,9] (λ((r,bF):Bool×ay)=>[(10,aD r)]) (λ(r,bF)=>[(1,.vec true 0 1<|bV g.length bF)])
   (λ(r,bF)=>uU g z S bF/\(r=false->∀i,i<g.length->pT g z S bF i (g.getD i []).length)) (λ(r,bF)=>if r=true then 1+dH bF g.length else 0) (true,noT) ?_
  refine sW ?_;refine⟨⟨⟨λv hv=>by cases hv⟩,λq=>by cases q⟩,by exact sK,rfl,?_⟩;rintro⟨r,fj⟩ ⟨zS,Gc⟩;refine c6 ?_;cases r
  ·have Fo:=Tz zS xt<|Gc rfl;refine sW ?_
   refine bt [0,1,5,8,9] (λ((m,i):Bool×Nat)=>[(7,aD m),(14,aa i)]) (λ(m,i)=>[(0,.vec true 0 1<|bV g.length λv=>if v<i then z v&&fj v else z v)])
    (λ(m',i)=>i<=g.length/\(m'=true->m\/∃v,v<i/\z v/\fj v=false)/\(m'=false->m=false/\∀v,v<i->z v->fj v)) (λ(m,i)=>g.length-i) (m,0) ?_
   refine sW ?_;refine⟨⟨zo,λq=>.inl q,λq=>⟨q,λv hv=>zo⟩⟩,by exact sK,by simp;rfl,?_⟩;rintro⟨m',i⟩ ⟨hi,h1,h2⟩;refine sW ?_
   ((apply uK;focus (repeat' constructor));((conv=>whnf);repeat(refine⟨rfl,?_⟩;conv=>whnf)))
   rw[aK];refine sS (λq1=>?_) λq1=>?_
   ·have q1:i<g.length:=sO;have eat:(if i<i then z i&&fj i else z i)=z i:=ab zo;have eset:bV g.length (λv=>if v=i then (z i&&fj i) else (if v<i then z v&&fj v else z v))=bV g.length (λv=>if v<i+1 then z v&&fj v else z v):=jS λv _=>by
     by_cases e:v=i
     ·subst e;rw[ae rfl,ae zo]
     rw[ab e];by_cases e2:v<i
     ·rw[ae e2,ae zo]
     rw[ab e2,ab zo]
    cases zi:z i
    ·rw[zi,pt] at eset;have g1:m'=true->m=true\/∃v,v<i+1/\z v=true/\fj v=false:=λq=>by
      rcases h1 q with h|⟨v,v1,v2,v3⟩
      ·exact .inl h
      exact .inr ⟨v,zo,v2,v3⟩
     have g2:m'=false->m=false/\∀v,v<i+1->z v->fj v:=λq=>by
      refine⟨(h2 q).1,λv hv uf=>?_⟩;by_cases e:v=i
      ·subst e;rw[zi] at uf;cases uf
      exact(h2 q).2 v zo uf
     cases m'
     ·refine sW ?_
      (refine⟨zo,(by first|omega|(simp;done)|(simp;omega)|(simp only[ll];omega)),?_⟩;((conv=>whnf);repeat(refine⟨rfl,?_⟩;conv=>whnf)))
      refine⟨_,bj i zo q1,?_⟩;rw[eat,zi];refine sW ?_;refine bE ?_;refine⟨_,bj i zo q1,?_⟩;rw[eat,zi];refine sW ?_;refine bE ?_;refine⟨_,bj i zo q1,?_⟩;rw[eat,zi];refine bE ?_;refine⟨_,bj i zo q1,?_⟩;refine bb ?_;refine⟨(false,i+1),⟨zo,g1,g2⟩,zd,aL (by exact sK) ?_⟩;rw[show 0+((i:Nat):Int).toNat=i by omega,pI,eset];rfl
     refine sW ?_;refine bE ?_;refine⟨_,bj i zo q1,?_⟩;rw[eat,zi];refine bE ?_;refine⟨_,bj i zo q1,?_⟩;refine bb ?_;refine⟨(true,i+1),⟨zo,g1,g2⟩,zd,aL (by exact sK) ?_⟩;rw[show 0+((i:Nat):Int).toNat=i by omega,pI,eset];rfl
    cases aW:fj i
    ·rw[zi,aW,kP] at eset;have g1:true=true->m=true\/∃v,v<i+1/\z v=true/\fj v=false:=λ_=>.inr ⟨i,zo,zi,aW⟩;cases m'
     ·refine bE ?_;refine⟨_,bj i zo q1,?_⟩;rw[eat,zi];refine sW ?_;refine bE ?_;refine⟨_,bj i zo q1,?_⟩;rw[eat,zi];refine bE ?_;refine⟨_,bj i zo q1,?_⟩;rw[aW];refine sW ?_;refine bE ?_;refine⟨_,bj i zo q1,?_⟩;rw[eat,zi];refine bE ?_;refine⟨_,bj i zo q1,?_⟩;rw[aW];refine bE ?_;refine⟨_,bj i zo q1,?_⟩;refine bb ?_;refine⟨(true,i+1),⟨zo,g1,λq=>by cases q⟩,zd,aL (by exact sK) ?_⟩;rw[show 0+((i:Nat):Int).toNat=i by omega,pI,eset];rfl
     refine sW ?_;refine bE ?_;refine⟨_,bj i zo q1,?_⟩;rw[eat,zi];refine bE ?_;refine⟨_,bj i zo q1,?_⟩;rw[aW];refine bE ?_;refine⟨_,bj i zo q1,?_⟩;refine bb ?_;refine⟨(true,i+1),⟨zo,g1,λq=>by cases q⟩,zd,aL (by exact sK) ?_⟩;rw[show 0+((i:Nat):Int).toNat=i by omega,pI,eset];rfl
    rw[zi,aW,kP] at eset;have g1:m'=true->m=true\/∃v,v<i+1/\z v=true/\fj v=false:=λq=>by
     rcases h1 q with h|⟨v,v1,v2,v3⟩
     ·exact .inl h
     exact .inr ⟨v,zo,v2,v3⟩
    have g2:m'=false->m=false/\∀v,v<i+1->z v->fj v:=λq=>by
     refine⟨(h2 q).1,λv hv uf=>?_⟩;by_cases e:v=i
     ·subst e;exact aW
     exact(h2 q).2 v zo uf
    cases m'
    ·refine bE ?_;refine⟨_,bj i zo q1,?_⟩;rw[eat,zi];refine sW ?_;refine bE ?_;refine⟨_,bj i zo q1,?_⟩;rw[eat,zi];refine bE ?_;refine⟨_,bj i zo q1,?_⟩;rw[aW];refine sW ?_;refine bE ?_;refine⟨_,bj i zo q1,?_⟩;rw[eat,zi];refine bE ?_;refine⟨_,bj i zo q1,?_⟩;rw[aW];refine bE ?_;refine⟨_,bj i zo q1,?_⟩;refine bb ?_;refine⟨(false,i+1),⟨zo,g1,g2⟩,zd,aL (by exact sK) ?_⟩;rw[show 0+((i:Nat):Int).toNat=i by omega,pI,eset];rfl
    refine sW ?_;refine bE ?_;refine⟨_,bj i zo q1,?_⟩;rw[eat,zi];refine bE ?_;refine⟨_,bj i zo q1,?_⟩;rw[aW];refine bE ?_;refine⟨_,bj i zo q1,?_⟩;refine bb ?_;refine⟨(true,i+1),⟨zo,g1,g2⟩,zd,aL (by exact sK) ?_⟩;rw[show 0+((i:Nat):Int).toNat=i by omega,pI,eset];rfl
   have q1:i=g.length:=by have:¬i<g.length:=sO
                          omega
   subst q1;have pR:∀v,(z v&&fj v)->z v:=λv hv=>by rw[fY] at hv;exact hv.1
   rw[jS (g':=λv=>z v&&fj v) λv hv=>ae hv];refine sI ?_;refine⟨(m',k+1,λv=>z v&&fj v),⟨zo,λv hv=>?_,λv hv=>x6 v<|pR v hv,λq=>?_,λq=>?_⟩,zd,?_⟩
   ·show(z v&&fj v)=true;rw[w7 v hv,(Fo v).2<|LL w7 hS hv];rfl
   ·rcases h1 q with h|⟨v,v1,v2,v3⟩
    ·exact Nat.lt_of_le_of_lt (Hk pR)<|pe h
    exact vh (QH v1 pR v2<|by show(z v&&fj v)=false;rw[v3,Bool.and_false])<|Hk x6
   ·obtain⟨a1,a2⟩:=h2 q;obtain⟨b1,b2⟩:=m8 a1;have ez:(λv=>z v&&fj v)=z:=by
     funext v
     cases hv:z v with
     |false=>rfl
     |true=>show fj v=true;exact a2 v (xt v hv) hv
    rw[ez];refine⟨b1,λj hj v hv=>?_⟩;by_cases e:j=k
    ·subst e;rw[w9];exact(Fo v).1 (a2 v (xt v hv) hv)
    exact b2 j zo v hv
   exact aR 1 zs rfl sQ sQ
  refine sW ?_
  refine bt [0,1,5,7,8,9] (λ((r,i,bF):Bool×Nat×ay)=>[(10,aD r),(11,aa i)]) (λ(r,i,bF)=>[(1,.vec true 0 1<|bV g.length bF)])
   (λ(r,i,bF)=>i<=g.length/\uU g z S bF/\(∀v,fj v->bF v)/\(r=true->dH bF g.length<dH fj g.length)/\(r=false->∀b,b<i->pT g z S bF b (g.getD b []).length)) (λ(r,i,bF)=>g.length-i) (false,0,fj) ?_
  refine sW ?_;refine⟨⟨zo,zS,λv h=>h,λq=>(by cases q),λ_ b hb=>zo⟩,by exact sK,rfl,?_⟩;rintro⟨r,i,bF⟩ ⟨hi,hH,iK,mf,rz⟩;refine c6 ?_;rw[aK];refine sS (λq1=>?_) λq1=>?_
  ·have q1:i<g.length:=sO;have AD:=hF.at i
   refine bt [0,1,5,7,8,9,11] (λ((r,j,bF):Bool×Nat×ay)=>[(10,aD r),(12,aa j)]) (λ(r,j,bF)=>[(1,.vec true 0 1<|bV g.length bF)])
    (λ(r,j,bF)=>j<=(g.getD i []).length/\uU g z S bF/\(∀v,fj v->bF v)/\(r=true->dH bF g.length<dH fj g.length)/\(r=false->(∀b,b<i->pT g z S bF b (g.getD b []).length)/\pT g z S bF i j)) (λ(r,j,bF)=>(g.getD i []).length-j) (r,0,bF) ?_
   refine sW ?_;refine⟨⟨zo,hH,iK,mf,λq=>⟨rz q,λ_ j hj=>zo⟩⟩,by exact sK,rfl,?_⟩;clear hH iK mf rz zS Gc pe m8 w7 Aa;rintro⟨r,j,bF⟩ ⟨hj,hH,iK,mf,rz⟩;have out:(j=(g.getD i []).length\/z i=false\/bF i)->r=false->∀b,b<i+1->pT g z S bF b (g.getD b []).length:=λh q b hb=>by
    obtain⟨c1,c2⟩:=rz q;by_cases e:b=i
    ·subst e;rcases h with h|h|h
     ·rw[<-h];exact c2
     ·intro ji;rw[h] at ji;cases ji
     exact λ_ _ _ _ _ _=>h
    exact c1 b zo
   refine c6 ?_;refine sL (iL (k:=i) zo q1) ?_;rw[aK];refine sS (λq2=>?_) λq2=>?_
   ·have q2:j<(g.getD i []).length:=sO;refine sB ?_;refine⟨_,bj i zo q1,?_⟩;cases zi:z i
    ·refine sW ?_;have w6h:j=(g.getD i []).length\/z i=false\/bF i=true:=.inr (.inl zi);refine sI ?_;exact⟨(r,i+1,bF),⟨zo,hH,iK,mf,out w6h⟩,zd,aL (by exact sK) rfl⟩
    refine bE ?_;refine⟨_,bj i zo q1,?_⟩;cases aW:bF i
    ·refine sW ?_;have hx:=cZ (dF i)<|dP q2;have m3:=dP q2;refine sL (iL (k:=i) zo q1) ?_;refine sL (cA (l:=g.getD i []) (k:=j) zo q2) ?_;have skip:(z ((g.getD i []).getD j 0).toNat=true->S ((g.getD i []).getD j 0).toNat=false/\bF ((g.getD i []).getD j 0).toNat=false)->r=false->(∀b,b<i->pT g z S bF b (g.getD b []).length)/\pT g z S bF i (j+1):=λh q=>by
      obtain⟨c1,c2⟩:=rz q;refine⟨c1,λji j' jf uI DY A6=>?_⟩;by_cases e:j'=j
      ·subst e;obtain⟨d1,d2⟩:=h DY;rw[d1,d2] at A6;simp at A6
      exact c2 ji j' zo uI DY A6
     have ue:=λ(h:z ((g.getD i []).getD j 0).toNat) (hs:S ((g.getD i []).getD j 0).toNat)=>Hit.one (g:=g) (S:=S) zi m3 h hs;have Ej:=λ(h:z ((g.getD i []).getD j 0).toNat) (hs:bF ((g.getD i []).getD j 0).toNat)=>Hit.more (g:=g) (S:=S) zi m3 h<|hH.sound _ hs;generalize (g.getD i []).getD j 0=x at *;obtain⟨to,rfl⟩:∃to:Nat,x=to:=⟨x.toNat,zo⟩;rw[bQ] at skip ue Ej;have j6:to<g.length:=zo;have ck:=oS (s:=bF) (s':=mark bF i) q1 (λv _ hv=>gg hv) aW<|lq _ _;have hle:=DF (n:=g.length) λv _ hv=>iK v hv;refine sB ?_;refine⟨_,bj to zo j6,?_⟩;cases zt:z to
     ·refine bb ?_;exact⟨(r,j+1,bF),⟨zo,hH,iK,mf,skip λq=>by rw[zt] at q;cases q⟩,zd,aL (by exact sK) rfl⟩
     refine sW ?_;refine sL (LQ _ zo) ?_;refine⟨zo,_,bj to zo j6,?_⟩;cases st:S to
     ·refine bE ?_;refine⟨_,bj to zo j6,?_⟩;cases ht:bF to
      ·refine bb ?_;exact⟨(r,j+1,bF),⟨zo,hH,iK,mf,skip λ_=>⟨st,ht⟩⟩,zd,aL (by exact sK) rfl⟩
      have BF:uU g z S<|mark bF i:=⟨λv hv=>by
       rcases oE.1 hv with rfl|hv
       ·exact Ej zt ht
       exact hH.sound v hv⟩
      refine bE ?_;refine⟨_,bj i zo q1,?_⟩;refine bb ?_;refine⟨(true,j+1,mark bF i),⟨zo,BF,λv hv=>gg<|iK v hv,λ_=>zo,λq=>by cases q⟩,zd,aL (by exact sK) ?_⟩;rw[qE (v:=i) zo];rfl
     have BF:uU g z S<|mark bF i:=⟨λv hv=>by
      rcases oE.1 hv with rfl|hv
      ·exact ue zt st
      exact hH.sound v hv⟩
     refine bE ?_;refine⟨_,bj i zo q1,?_⟩;refine bb ?_;refine⟨(true,j+1,mark bF i),⟨zo,BF,λv hv=>gg<|iK v hv,λ_=>zo,λq=>by cases q⟩,zd,aL (by exact sK) ?_⟩;rw[qE (v:=i) zo];rfl
    refine sW ?_;have w6h:j=(g.getD i []).length\/z i=false\/bF i=true:=.inr (.inr aW);refine sI ?_;exact⟨(r,i+1,bF),⟨zo,hH,iK,mf,out w6h⟩,zd,aL (by exact sK) rfl⟩
   have q2:j=(g.getD i []).length:=by have:¬j<(g.getD i []).length:=sO
                                      omega
   have w6h:j=(g.getD i []).length\/z i=false\/bF i:=.inl q2;refine bb ?_;exact⟨(r,i+1,bF),⟨zo,hH,iK,mf,out w6h⟩,zd,aL (by exact sK) rfl⟩
  have q1:i=g.length:=by have:¬i<g.length:=sO
                         omega
  subst q1;refine⟨(r,bF),⟨hH,rz⟩,?_,aL (by exact sK) rfl⟩;dsimp only;cases r
  ·simp;omega
  have:=mf rfl;simp;omega
 have q0:k=F.length:=by have:¬k<F.length:=sO
                        omega
 subst q0;refine⟨(m,z),⟨w7,xt,λq v hv S hS=>?_⟩,?_,aL (by exact sK) rfl⟩
 ·obtain⟨j,hj,rfl⟩:=jN.1 hS;have:=(m8 q).2 j hj v hv;rw[aE,aJ hj] at this;exact this
 dsimp only;cases m
 ·simp;omega
 have:=pe rfl;simp;omega
end Go.Proofs.YtolilnhippapaaaGreat
