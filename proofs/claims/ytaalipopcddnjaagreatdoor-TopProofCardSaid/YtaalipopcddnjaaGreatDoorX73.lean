/-
  Parts of a proof, joined. No statement is proved here.
-/
import Derived.Test.YtaalipopcddnjaaGreatDoorX71
import Derived.Test.YtaalipopcddnjaaGreatDoorX72
import Derived.ChangeKeysEq
import Derived.Test.YtaalipopcddnjaaGreatDoorProg
import Derived.WalkKit
import Derived.DeepKeys4
import Derived.Test.YtaalipopcddnjaaGreatDoorX70
namespace Go.Proofs.YtaalipopcddnjaaGreatDoor
set_option linter.unusedSimpArgs false
set_option linter.unusedVariables false
set_option maxRecDepth 100000
set_option linter.unusedSectionVars false
open Go.RowKit
def nq(x n:Int):Bool:=(BitVec.ofInt 64 x).getLsbD n.toNat
def nB(w:Nat->Int)(k n:Int)(h:List<|Nat->Prop)(i:Nat):Prop :=
 if k=1 then True else if k=2 then False else if k=3 then nq (w i) n=true else if k=4 then ¬h.getD 0 (λ_=>False) i
 else if k=5 then h.getD 0 (λ_=>False) i/\h.getD 1 (λ_=>False) i else if k=6 then h.getD 0 (λ_=>False) i\/h.getD 1 (λ_=>False) i
 else if k=7 then h.getD 0 (λ_=>False)<|i+1
 else if k=8 then ∃j,i<=j/\h.getD 1 (λ_=>False) j/\∀m,i<=m->m<j->h.getD 0 (λ_=>False) m
 else if k=9 then ∀j,i<=j->h.getD 1 (λ_=>False) j\/∃m,i<=m/\m<j/\h.getD 0 (λ_=>False) m
 else if k=10 then ∃j,i<=j/\h.getD 0 (λ_=>False) j else if k=11 then ∀j,i<=j->h.getD 0 (λ_=>False) j else False
mutual
def bh(w:Nat->Int):Tree->Nat->Prop
 | .node k n ks=>nB w k n<|El w ks
def El(w:Nat->Int):List Tree->List (Nat->Prop)
 |[]=>[]
 |t::r=>bh w t::El w r
end
theorem SE(w:Nat->Int):∀l,El w l=l.map (bh w)
 |[]=>by rw[El];rfl
 |t::r=>by rw[El,SE w r,dR]
variable(w:Nat->Int)
theorem pf(t:Tree)(i:Nat):bh w t i↔nB w t.kind t.num (t.kids.map<|bh w) i:=by
 cases t;rw[bh,SE];rfl
variable{t:Tree}
theorem rJ{j:Nat}(h:j<t.width):(t.kids.map<|bh w).getD j (λ_=>False)=bh w (t.aD j):=by
 rw[ay,cy,kid_get? h];rfl
section
variable{w:Nat->Int}{t:Tree}{i:Nat}
theorem Il(h:t.kind=1):bh w t i:=by rw[pf,nB,ae h];trivial
theorem HF(h:t.kind=2):¬bh w t i:=by rw[pf,nB,h];simp
theorem Cz(h:t.kind=3):bh w t i↔nq (w i) t.num:=by rw[pf,nB,h];simp
theorem BQ(h:t.kind=4)(hw:t.width=1):bh w t i↔¬bh w (t.aD 0) i:=by rw[pf,nB,h,rJ w zo];simp
theorem I7(h:t.kind=5)(hw:t.width=2):bh w t i↔bh w (t.aD 0) i/\bh w (t.aD 1) i:=by rw[pf,nB,h,rJ w zo,rJ w zo];simp
theorem DF(h:t.kind=6)(hw:t.width=2):bh w t i↔bh w (t.aD 0) i\/bh w (t.aD 1) i:=by rw[pf,nB,h,rJ w zo,rJ w zo];simp
theorem Hj(h:t.kind=7)(hw:t.width=1):bh w t i↔bh w (t.aD 0) (i+1):=by rw[pf,nB,h,rJ w zo];simp
theorem yJ(h:t.kind=8)(hw:t.width=2):bh w t i↔∃j,i<=j/\bh w (t.aD 1) j/\∀m,i<=m->m<j->bh w (t.aD 0) m:=by rw[pf,nB,h,rJ w zo,rJ w zo];simp
theorem Dk(h:t.kind=9)(hw:t.width=2):bh w t i↔∀j,i<=j->bh w (t.aD 1) j\/∃m,i<=m/\m<j/\bh w (t.aD 0) m:=by rw[pf,nB,h,rJ w zo,rJ w zo];simp
theorem I9(h:t.kind=10)(hw:t.width=1):bh w t i↔∃j,i<=j/\bh w (t.aD 0) j:=by rw[pf,nB,h,rJ w zo];simp
theorem My(h:t.kind=11)(hw:t.width=1):bh w t i↔∀j,i<=j->bh w (t.aD 0) j:=by rw[pf,nB,h,rJ w zo];simp
end
variable{i:Nat}
theorem Rq{p q:Nat->Prop}:(∃j,i<=j/\q j/\∀m,i<=m->m<j->p m)↔q i\/(p i/\∃j,i+1<=j/\q j/\∀m,i+1<=m->m<j->p m):=by
 constructor
 ·rintro⟨j,h1,h2,h3⟩;by_cases e:j=i
  ·subst e;exact .inl h2
  exact .inr ⟨h3 i (aI _) zo,j,zo,h2,λm a b=>h3 m zo b⟩
 rintro(h|⟨h,j,h1,h2,h3⟩)
 ·exact⟨i,aI _,h,λm a b=>zo⟩
 exact⟨j,zo,h2,λm a b=>by by_cases e:m=i;subst e;exact h;exact h3 m zo b⟩
theorem N0{p q:Nat->Prop}:(∀j,i<=j->q j\/∃m,i<=m/\m<j/\p m)↔q i/\(p i\/∀j,i+1<=j->q j\/∃m,i+1<=m/\m<j/\p m):=by
 constructor
 ·intro h;refine⟨(h i<|aI _).resolve_right λ⟨m,a,b,_⟩=>zo,?_⟩;by_cases hp:p i
  ·exact .inl hp
  refine .inr λj hj=>(h j zo).imp_right λ⟨m,a,b,c⟩=>⟨m,?_,b,c⟩;by_cases e:m=i
  ·subst e;exact absurd c hp
  omega
 rintro⟨h1,h2⟩ j hj;by_cases e:j=i
 ·subst e;exact .inl h1
 rcases h2 with h|h
 ·exact .inr ⟨i,aI _,zo,h⟩
 exact(h j zo).imp_right λ⟨m,a,b,c⟩=>⟨m,zo,b,c⟩
theorem P9(k:Int)(a b:Tree)(i:Nat):bh w (bE k a b) i↔nB w k 0 [bh w a,bh w b] i:=by rw[pf];rfl
theorem Un:∀t:Tree,t.wf bD->∀i,bh w (da t) i↔bh w t i:=by
 intro t
 induction t using Tree.ind with
 |h t ih =>
  intro hw i;have rV:=qN ((gK _ _).1 hw).1;have hk:=λj hj=>ih j hj<|gy hw hj;rw[Gc t λh=>r7 hw zo];by_cases gD:t.kind=10
  ·have M9:t.width=1:=zo;rw[ae gD,P9,I9 gD M9];simp only[nB];simp[hk 0 zo,Il (w:=w) (t:=bd 1 0) rfl]
  rw[aa gD];by_cases j6:t.kind=11
  ·have M9:t.width=1:=zo;rw[ae j6,P9,My j6 M9];simp only[nB];simp[hk 0 zo,HF (w:=w) (t:=bd 2 0) rfl]
  rw[aa j6,pf,pf w t];show nB w t.kind t.num ((t.kids.map da).map<|bh w) i↔_;rw[List.map_map];have:t.kids.map (bh w∘da)=t.kids.map (bh w):=by
   refine uy λu hu=>?_;obtain⟨j,hj,rfl⟩:=kn.1 hu;rw[<-Tree.nP hj];exact funext λi=>propext<|hk j hj i
  rw[this]
theorem M5(A:af)(s:Nat)(is:Bool)(m:Nat)(hA:∀x∈A,0<=x/\x<=63):∀k,k<=A.length->((BitVec.ofInt 64<|fY A s is k).getLsbD m=true↔∃i,i<k/\s.testBit i=is/\(A.getD i 0).toNat=m)
 |0,_=>by simp[fY]
 |k+1,hk=>by
  have ih:=M5 A s is m hA k zo;have hx:=hA (A.getD k 0) (by rw[ay,aG<|show k<A.length by omega];simp);have hor:∀a b:Int,(BitVec.ofInt 64<|gF .or .u64 a b)=BitVec.ofInt 64 a ||| BitVec.ofInt 64 b:=λa b=>by
   show BitVec.ofInt 64 (IntKind.wrap .u64 ((BitVec.ofInt 64 a ||| BitVec.ofInt 64 b).toNat:Int))=_;rw[Cn];generalize BitVec.ofInt 64 a ||| BitVec.ofInt 64 b=y
   have:=y.isLt;apply BitVec.eq_of_toNat_eq;rw[BitVec.toNat_ofInt];omega
  have zO:(BitVec.ofInt 64<|2^(A.getD k 0).toNat).getLsbD m↔(A.getD k 0).toNat=m:=by
   have e:BitVec.ofInt 64 (2^(A.getD k 0).toNat)=BitVec.ofNat 64 (2^(A.getD k 0).toNat):=by
    rw[<-BitVec.ofInt_natCast,Int.natCast_pow];rfl
   rw[e,BitVec.getLsbD_ofNat,Nat.testBit_two_pow,dL,c6,c6];omega
  rw[fY];by_cases q:s.testBit k=is
  ·rw[ae<|by simpa using q,hor,BitVec.getLsbD_or,jh,ih,zO];constructor
   ·rintro(⟨i,a,b,c⟩|h)
    ·exact⟨i,zo,b,c⟩
    exact⟨k,zo,q,h⟩
   rintro⟨i,a,b,c⟩;by_cases e:i=k
   ·subst e;exact .inr c
   exact .inl ⟨i,zo,b,c⟩
  rw[aa<|by simpa using q,ih];constructor
  ·rintro⟨i,a,b,c⟩;exact⟨i,zo,b,c⟩
  rintro⟨i,a,b,c⟩;by_cases e:i=k
  ·subst e;exact absurd b q
  exact⟨i,zo,b,c⟩
variable{A:af}{P:List Tree}
theorem Rs(hA:∀x∈A,0<=x/\x<=63)(f:Tree){s:Nat}(hs:s<2^(A.length+P.length))(x:Int) :
  uO (iL A P f) s x=true↔∀i,i<A.length->nq x (A.getD i 0)=s.testBit i:=by
 have e1:(iL A P f).kq.getD s 0=fY A s true A.length:=by
  show((List.range _).map λs=>fY A s true A.length).getD s 0=_;rw[ay,cy,pN hs];rfl
 have e2:(iL A P f).lC.getD s 0=fY A s false A.length:=by
  show((List.range _).map λs=>fY A s false A.length).getD s 0=_;rw[ay,cy,pN hs];rfl
 have hT:=λm=>M5 A s true m hA A.length<|aI _;have hF:=λm=>M5 A s false m hA A.length<|aI _;have hr:=Wo A s true A.length;unfold uO;rw[e1,e2,ztf hr];rw[dL,gC,gC];have k1:gF .andNot .u64 (fY A s true A.length) x=0↔∀m,(BitVec.ofInt 64<|fY A s true A.length).getLsbD m=true->(BitVec.ofInt 64 x).getLsbD m=true:=by
  show IntKind.wrap .u64 ((BitVec.ofInt 64 (fY A s true A.length) &&& ~~~(BitVec.ofInt 64 x)).toNat:Int)=0↔_;rw[Cn];constructor
  ·intro h m hm;have h0:BitVec.ofInt 64 (fY A s true A.length) &&& ~~~(BitVec.ofInt 64 x)=0#64:=BitVec.eq_of_toNat_eq (by simpa using h);have:=bK (λz:BitVec 64=>z.getLsbD m) h0;have bF:=BitVec.lt_of_getLsbD hm;simp[hm,bF] at this;exact this
  intro h;have h0:BitVec.ofInt 64 (fY A s true A.length) &&& ~~~(BitVec.ofInt 64 x)=0#64:=by
   apply BitVec.eq_of_getLsbD_eq;intro m hm;have:=h m;simp[hm];exact this
  rw[h0];rfl
 have k2:gF .and .u64 x (fY A s false A.length)=0↔∀m,(BitVec.ofInt 64<|fY A s false A.length).getLsbD m->(BitVec.ofInt 64 x).getLsbD m=false:=by
  show IntKind.wrap .u64 ((BitVec.ofInt 64 x &&& BitVec.ofInt 64 (fY A s false A.length)).toNat:Int)=0↔_;rw[Cn];constructor
  ·intro h m hm;have h0:BitVec.ofInt 64 x &&& BitVec.ofInt 64 (fY A s false A.length)=0#64:=BitVec.eq_of_toNat_eq (by simpa using h);have:=bK (λz:BitVec 64=>z.getLsbD m) h0;simp[hm] at this;exact this
  intro h;have h0:BitVec.ofInt 64 x &&& BitVec.ofInt 64 (fY A s false A.length)=0#64:=by
   apply BitVec.eq_of_getLsbD_eq;intro m hm;rw[BitVec.getLsbD_and];cases q:(BitVec.ofInt 64<|fY A s false A.length).getLsbD m
   ·simp
   rw[h m q];simp
  rw[h0];rfl
 rw[k1,k2];constructor
 ·rintro⟨h1,h2⟩ i hi;unfold nq;cases q:s.testBit i
  ·exact h2 _<|(hF _).2 ⟨i,hi,q,rfl⟩
  exact h1 _<|(hT _).2 ⟨i,hi,q,rfl⟩
 intro h;refine⟨λm hm=>?_,λm hm=>?_⟩
 ·obtain⟨i,hi,q,rfl⟩:=(hT m).1 hm;exact(h i hi).trans q
 obtain⟨i,hi,q,rfl⟩:=(hF m).1 hm;exact(h i hi).trans q
section
variable{c:Tree->Bool}{t:Tree}
theorem hol1(h:t.kind=1):dC c t:=by rw[vJ,oL,h];simp
theorem hol2(h:t.kind=2):dC c t=false:=by rw[vJ,oL,h];simp
theorem Hb(h:t.kind=3\/t.kind=7):dC c t=c t:=by rw[vJ,oL];rcases h with h|h<;>rw[h]<;>simp
theorem hol4(h:t.kind=4)(hw:t.width=1):dC c t=!(dC c<|t.aD 0):=by rw[vJ,oL,h,tM c zo];simp
theorem hol5(h:t.kind=5)(hw:t.width=2):dC c t=(dC c (t.aD 0)&&dC c (t.aD 1)):=by rw[vJ,oL,h,tM c zo,tM c zo];simp
theorem hol6(h:t.kind=6)(hw:t.width=2):dC c t=(dC c (t.aD 0)||dC c (t.aD 1)):=by rw[vJ,oL,h,tM c zo,tM c zo];simp
theorem hol8(h:t.kind=8)(hw:t.width=2):dC c t=(dC c (t.aD 1)||(dC c (t.aD 0)&&c t)):=by rw[vJ,oL,h,tM c zo,tM c zo];simp
theorem hol9(h:t.kind=9)(hw:t.width=2):dC c t=(dC c (t.aD 1)&&(dC c (t.aD 0)||c t)):=by rw[vJ,oL,h,tM c zo,tM c zo];simp
end
variable{k:Nat}{x:Int}
theorem xe{p:aq}:x∈jD p k↔∃s:Nat,s<k/\p s/\x=(s:Int):=by
 unfold jD;simp only[cU,nG,eW];constructor
 ·rintro⟨s,⟨h1,h2⟩,rfl⟩;exact⟨s,h1,h2,rfl⟩
 rintro⟨s,h1,h2,rfl⟩;exact⟨s,⟨h1,h2⟩,rfl⟩
variable{g:Tree}
theorem Rk(P:List Tree)(h:g.num∈A)(h3:g.kind=3):∃k,k<A.length/\A.getD k 0=g.num/\∀s,ff A P s g=s.testBit k:=by
 obtain⟨k,hk,e⟩:=Rj h;obtain⟨k',e',au,e2,_⟩:=C6 (p:=λa=>g.num==a) (l:=A) zo;have:k'=k:=zo;subst this;refine⟨k',hk,?_,λs=>?_⟩
 ·rw[ay,aG hk];exact(beq_iff_eq.1 e2).symm
 unfold ff EU;rw[ae h3,e];rfl
theorem RJ(A:af)(h:g∈P)(h3:g.kind≠3):∃k,k<P.length/\P.getD k default=g/\∀s,ff A P s g=s.testBit (A.length+k):=by
 obtain⟨k,hk,e⟩:=Xd h;obtain⟨k',e',au,e2,_⟩:=C6 (p:=eqT g) (l:=P) zo;have:k'=k:=zo;subst this;refine⟨k',hk,?_,λs=>?_⟩
 ·rw[ay,aG hk];exact(G9.1 e2).symm
 unfold ff EU;rw[aa h3,e];rfl
structure EJ(A:af)(P:List Tree)(w:Nat->Int)(r:Nat->Nat):Prop where
 Ev:∀i k,k<A.length->nq (w i) (A.getD k 0)=(r i).testBit k
 p':∀i p,p<P.length->hK A P (r<|i+1) p=(r i).testBit (A.length+p)
 fair:∀g∈P,g.kind≠7->∀i,∃j,i<=j/\mr A P g (r j)=true
variable{r:Nat->Nat}
theorem EJ.OG{w:Nat->Int}(h:EJ A P w r)(hg:g∈P)(h3:g.kind≠3)(i:Nat):ff A P (r i) g=dC (ff A P<|r<|i+1) (lD g):=by
 obtain⟨k,hk,e,hc⟩:=RJ A hg h3;rw[hc,<-h.p' i k hk];unfold hK;rw[e]
theorem Yb{w:Nat->Int}(h:EJ A P w r):∀t:Tree,t.wf jO->Told A P t->∀i,dC (ff A P<|r i) t↔bh w t i:=by
 intro t
 induction t using Tree.ind with
 |h t ih =>
  intro hw hT;have hk:=B6 hw;have EN:∀j,j<t.width->(t.aD j).wf jO:=λj hj=>((gK _ _).1 hw).2 _<|Be hj;have ihk:=λj hj=>ih j hj (EN j hj)<|hT.aD hj;rcases hk with⟨hk|hk|hk,gu⟩|⟨hk|hk,gu⟩|⟨hk|hk|hk|hk,gu⟩
  ·intro i;rw[hol1 hk];exact⟨λ_=>Il hk,λ_=>rfl⟩
  ·intro i;rw[hol2 hk];exact⟨λh=>(by cases h),λq=>absurd q<|HF hk⟩
  ·intro i;rw[Hb (.inl hk),Cz hk];obtain⟨k,k1,k2,k3⟩:=Rk P (hT.atom hk) hk;rw[k3,<-h.Ev i k k1,k2]
  ·intro i;rw[hol4 hk gu,BQ hk gu,<-ihk 0 zo i];cases dC (ff A P<|r i) (t.aD 0)<;>simp
  ·intro i;rw[Hb (.inr hk),Hj hk gu,h.OG (hT.part (.inl hk)) zo,<-ihk 0 zo (i+1),lD,ae hk]
  ·intro i;rw[hol5 hk gu,I7 hk gu,dL,ihk 0 zo,ihk 1 zo]
  ·intro i;rw[hol6 hk gu,DF hk gu,jh,ihk 0 zo,ihk 1 zo]
  ·have hP:=hT.part (.inr (.inl hk));have hs:∀i,dC (ff A P<|r i) t↔bh w (t.aD 1) i\/(bh w (t.aD 0) i/\dC (ff A P<|r<|i+1) t):=λi=>by
    rw[hol8 hk gu,jh,dL,ihk 0 zo,ihk 1 zo,h.OG hP zo,lD,aa zo]
   intro i;rw[yJ hk gu];constructor
   ·intro q;obtain⟨j,hj,hf⟩:=h.fair t hP zo i;unfold mr at hf;rw[ae hk,jh,oG,ihk 1 zo] at hf;obtain⟨d,rfl⟩:=u6 hj;clear hj
    induction d generalizing i with
    |zero =>
     rcases hf with hf|hf
     ·rw[kN] at hf;rw[hf] at q;cases q
     exact⟨i,aI _,hf,λm a b=>zo⟩
    |succ d ihd =>
     rcases (hs i).1 q with k|⟨k1,k2⟩
     ·exact⟨i,aI _,k,λm a b=>zo⟩
     exact Rq.2 (.inr ⟨k1,ihd (i+1) k2<|by rw[show i+1+d=i+(d+1) by omega];exact hf⟩)
   rintro⟨j,hj,q1,q2⟩;obtain⟨d,rfl⟩:=u6 hj;clear hj
   induction d generalizing i with
   |zero=>exact(hs i).2 (.inl q1)
   |succ d ihd=>exact(hs i).2 (.inr ⟨q2 i (aI _) zo,ihd (i+1) (by rw[show i+1+d=i+(d+1) by omega];exact q1) λm a b=>q2 m zo zo⟩)
  have hP:=hT.part (.inr (.inr hk));have hs:∀i,dC (ff A P<|r i) t↔bh w (t.aD 1) i/\(bh w (t.aD 0) i\/dC (ff A P<|r<|i+1) t):=λi=>by
   rw[hol9 hk gu,dL,jh,ihk 0 zo,ihk 1 zo,h.OG hP zo,lD,aa zo]
  intro i;rw[Dk hk gu];constructor
  ·intro q j hj;obtain⟨d,rfl⟩:=u6 hj;clear hj
   induction d generalizing i with
   |zero=>exact .inl ((hs i).1 q).1
   |succ d ihd =>
    rcases ((hs i).1 q).2 with k|k
    ·exact .inr ⟨i,aI _,zo,k⟩
    rcases ihd (i+1) k with a|⟨m,a,b,e⟩
    ·rw[show i+1+d=i+(d+1) by omega] at a;exact .inl a
    exact .inr ⟨m,zo,zo,e⟩
  intro q;obtain⟨j,hj,hf⟩:=h.fair t hP zo i;unfold mr at hf;rw[aa zo,jh,oG,th,ne_eq,ihk 1 zo] at hf;obtain⟨d,rfl⟩:=u6 hj;clear hj
  induction d generalizing i with
  |zero =>
   rcases hf with hf|hf
   ·exact hf
   exact absurd (N0.1 q).1 hf
  |succ d ihd =>
   obtain⟨k1,k2⟩:=N0.1 q;refine(hs i).2 ⟨k1,k2.imp_right λk=>?_⟩;exact ihd (i+1) k<|by rw[show i+1+d=i+(d+1) by omega];exact hf
open Classical in
noncomputable def FF(A:af)(P:List Tree)(w:Nat->Int)(i k:Nat):Bool:=if k<A.length then nq (w i)<|A.getD k 0 else decide (bh w (lD<|P.getD (k-A.length) default)<|i+1)
noncomputable def rI(A:af)(P:List Tree)(w:Nat->Int)(i:Nat):Nat:=oN (FF A P w i)<|A.length+P.length
theorem Ov(hg:g∈P)(h3:g.kind≠3)(i:Nat):ff A P (rI A P w i) g↔bh w (lD g) (i+1):=by
 obtain⟨k,hk,e,hc⟩:=RJ A hg h3;rw[hc];unfold rI;rw[zR _ _ _ zo];unfold FF;rw[aa zo,vI,e];simp only[c6]
theorem Gz:∀t:Tree,t.wf jO->Told A P t->∀i,dC (ff A P<|rI A P w i) t↔bh w t i:=by
 intro t
 induction t using Tree.ind with
 |h t ih =>
  intro hw hT i;have hk:=B6 hw;have EN:∀j,j<t.width->(t.aD j).wf jO:=λj hj=>((gK _ _).1 hw).2 _<|Be hj;have ihk:=λj hj=>ih j hj (EN j hj)<|hT.aD hj;rcases hk with⟨hk|hk|hk,gu⟩|⟨hk|hk,gu⟩|⟨hk|hk|hk|hk,gu⟩
  ·rw[hol1 hk];exact⟨λ_=>Il hk,λ_=>rfl⟩
  ·rw[hol2 hk];exact⟨λh=>(by cases h),λq=>absurd q<|HF hk⟩
  ·rw[Hb (.inl hk),Cz hk];obtain⟨k,k1,k2,k3⟩:=Rk P (hT.atom hk) hk;rw[k3];unfold rI;rw[zR _ _ _ zo];unfold FF;rw[ae k1,k2]
  ·rw[hol4 hk gu,BQ hk gu,<-ihk 0 zo i];cases dC (ff A P<|rI A P w i) (t.aD 0)<;>simp
  ·rw[Hb (.inr hk),Hj hk gu,Ov w (hT.part (.inl hk)) zo,lD,ae hk]
  ·rw[hol5 hk gu,I7 hk gu,dL,ihk 0 zo,ihk 1 zo]
  ·rw[hol6 hk gu,DF hk gu,jh,ihk 0 zo,ihk 1 zo]
  ·rw[hol8 hk gu,jh,dL,ihk 0 zo,ihk 1 zo,Ov w (hT.part (.inr (.inl hk))) zo,lD,aa zo,yJ hk gu,yJ hk gu];exact Rq.symm
  rw[hol9 hk gu,dL,jh,ihk 0 zo,ihk 1 zo,Ov w (hT.part (.inr (.inr hk))) zo,lD,aa zo,Dk hk gu,Dk hk gu];exact N0.symm
theorem Yx(hI:w8 A P)(w:Nat->Int):EJ A P w (rI A P w) where
 Ev i k hk:=by
  unfold rI;rw[zR _ _ _ zo];unfold FF;rw[ae hk]
 p' i p hp:=by
  have hg:P.getD p default∈P:=(by rw[ay,aG hp];simp);obtain⟨hw,hk⟩:=hI.wf _ hg;have hT:=hI.told _ hg;have hb:(lD<|P.getD p default).wf jO/\Told A P (lD<|P.getD p default):=by
   unfold lD;split
   ·have h1:0<(P.getD p default).width:=(by have:=B6 hw;omega);exact⟨((gK _ _).1 hw).2 _<|Be h1,hT.aD h1⟩
   exact⟨hw,hT⟩
  rw[kj];unfold hK;rw[Gz w _ hb.1 hb.2];unfold rI;rw[zR _ _ _ zo];unfold FF;rw[aa zo,vI];simp only[c6]
 fair g hg h7 i:=by
  obtain⟨hw,hk⟩:=hI.wf _ hg;have hT:=hI.told _ hg;have EN:∀j,j<g.width->(g.aD j).wf jO:=λj hj=>((gK _ _).1 hw).2 _<|Be hj;have gu:g.width=2:=(by have:=B6 hw;omega);have h1:=λj=>Gz (A:=A) (P:=P) w (g.aD 1) (EN 1 zo) (hT.aD zo) j;have h0:=λj=>Gz (A:=A) (P:=P) w g hw hT j;unfold mr;by_cases q:bh w g i
  ·rcases hk with hk|hk|hk
   ·exact absurd hk h7
   ·obtain⟨j,j1,j2,_⟩:=(yJ hk gu).1 q;exact⟨j,j1,by rw[ae hk,jh];exact .inr<|(h1 j).2 j2⟩
   exact⟨i,aI _,by rw[aa zo,jh];exact .inl<|(h0 i).2 q⟩
  rcases hk with hk|hk|hk
  ·exact absurd hk h7
  ·refine⟨i,aI _,?_⟩;rw[ae hk,jh,oG,th,ne_eq,h0];exact .inl q
  rw[Dk hk gu] at q;obtain⟨j,hj⟩:=Classical.not_forall.1 q;obtain⟨j1,j2⟩:=Classical.not_imp.1 hj;refine⟨j,j1,?_⟩;rw[aa zo,jh,oG,th,ne_eq,h1];exact .inr λk=>j2 (.inl k)
theorem W9(hI:w8 A P){f:Tree}(hw:f.wf jO)(hT:Told A P f)(w:Nat->Int) :
  (∃r:Nat->Int,r 0∈(iL A P f).start/\(∀i,r (i+1)∈(iL A P f).next.getD (r i).toNat [])/\(∀i,uO (iL A P f) (r i).toNat<|w i)/\∀l∈(iL A P f).fair,∀i,∃j,i<=j/\r j∈l)↔bh w f 0:=by
 have dV:∀s,s<2^(A.length+P.length)->(iL A P f).next.getD s []=tX A P (A.length+P.length) s:=λs hs=>by
  show((List.range _).map<|tX A P<|A.length+P.length).getD s []=_;rw[ay,cy,pN hs];rfl
 constructor
 ·rintro⟨r,h1,h2,h3,h4⟩;have hr:∀i,∃s:Nat,s<2^(A.length+P.length)/\r i=(s:Int):=by
   intro i
   induction i with
   |zero =>
    obtain⟨s,a,b,e⟩:=xe.1 h1;exact⟨s,a,e⟩
   |succ i ih =>
    obtain⟨s,a,e⟩:=ih;have:=h2 i;rw[e,bS,dV s a] at this;obtain⟨s',a',_,e'⟩:=xe.1 this;exact⟨s',a',e'⟩
  have bF:∀i,(r i).toNat<2^(A.length+P.length):=λi=>by obtain⟨s,a,e⟩:=hr i;omega
  have hN:EJ A P w λi=>(r i).toNat:=by
   refine⟨λi k hk=>(Rs hI.atoms f (bF i)<|w i).1 (h3 i) k hk,λi p hp=>?_,λg hg h7 i=>?_⟩
   ·have:=h2 i;rw[dV _<|bF i] at this;obtain⟨s',a',b',e'⟩:=xe.1 this;rw[Sj A P _ _<|bF i,kv] at b';have:=b' p<|eW.2 hp;rw[gC] at this;show hK A P (r<|i+1).toNat p=_;rw[e',bS,this]
   have hl:xG A P (A.length+P.length) g∈(iL A P f).fair:=by
    show _∈((P.take P.length).filter λg=>g.kind != 7).map (xG A P<|A.length+P.length);rw[gz];exact cU.2 ⟨g,nG.2 ⟨hg,by simpa using h7⟩,rfl⟩
   obtain⟨j,j1,j2⟩:=h4 _ hl i;obtain⟨s,a,b,e⟩:=xe.1 j2;exact⟨j,j1,by show mr A P g (r j).toNat=true;rw[e,bS];exact b⟩
  refine(Yb hN f hw hT 0).1 ?_;obtain⟨s,a,b,e⟩:=xe.1 h1;show dC (ff A P (r 0).toNat) f=true;rw[e,bS];exact b
 intro h;have hN:=Yx hI w;have bF:∀i,rI A P w i<2^(A.length+P.length):=λi=>BY _ _;refine⟨λi=>(rI A P w i:Int),?_,λi=>?_,λi=>?_,λl hl i=>?_⟩
 ·exact xe.2 ⟨_,bF 0,(Gz w f hw hT 0).2 h,rfl⟩
 ·show _∈(iL A P f).next.getD ((rI A P w i:Nat):Int).toNat [];rw[bS,dV _<|bF i];refine xe.2 ⟨_,bF<|i+1,?_,rfl⟩;rw[Sj A P _ _<|bF i,kv];intro p hp;rw[gC];exact hN.p' i p<|eW.1 hp
 ·show uO _ ((rI A P w i:Nat):Int).toNat _=true;rw[bS];exact(Rs hI.atoms f (bF i)<|w i).2 λk hk=>hN.Ev i k hk
 obtain⟨g,hg,rfl⟩:=cU.1<|show l∈((P.take P.length).filter λg=>g.kind != 7).map (xG A P<|A.length+P.length) from hl;rw[gz,nG] at hg;obtain⟨j,j1,j2⟩:=hN.fair g hg.1 (by simpa using hg.2) i;exact⟨j,j1,xe.2 ⟨_,bF j,j2,rfl⟩⟩
open Classical in
noncomputable def eK(W:ba)(A:bZ):Bool:=decide (∃v,v<(bH W A).2.length/\Fw (bH W A).2 (gh W A (bH W A).1) v)
variable{A:bZ}{W:ba}
theorem zxn(hb:mD W A):∃s l,oh W A (bH W A).1 (bH W A).2 (fA W A).2=.aJ [.agg [aL s,aL l],aF<|eK W A,ab 0]/\(eK W A=false->s=[]/\l=[]):=by
 obtain⟨hN,hg⟩:=ti hb;have hp:=zCx (F:=gh W A (bH W A).1) hN.inG;have hA:eK W A↔∃v,v<(bH W A).2.length/\Fw (bH W A).2 (gh W A (bH W A).1) v:=by unfold eK;simp only[c6]
 rw[<-hA] at hp;unfold oh;by_cases h:pE (bH W A).2 (gh W A (bH W A).1)<0
 ·rw[ae h];have:eK W A=false:=by
   cases e:eK W A
   ·rfl
   exact absurd h<|hp.2 e
  exact⟨[],[],by rw[this],λ_=>⟨rfl,rfl⟩⟩
 rw[aa h,hp.1 h];exact⟨_,_,rfl,λq=>by cases q⟩
def Seg(g:ak):Nat->List Nat->Nat->Prop
 |u,[],v=>u=v
 |u,x::l,v=>(∃y∈g.getD u [],y.toNat=x)/\Seg g x l v
theorem Gs{g:ak}:∀{l m:List Nat} {u v z:Nat},Seg g u l v->Seg g v m z->Seg g u (l++m) z
 |[],m,u,v,z,h,k=>by cases h;exact k
 |x::l,m,u,v,z,h,k=>⟨h.1,Gs h.2 k⟩
variable{g:ak}{v:Nat}
theorem IL{u:Nat}(h:To g u v):∃l,Seg g u l v:=by
 unfold To at h
 induction h with
 |base m=>simp only[cM] at m;subst m;exact⟨[],by simp[Seg]⟩
 |step q m ih =>
  obtain⟨l,hl⟩:=ih;exact⟨l++[_],Gs hl ⟨⟨_,m,rfl⟩,rfl⟩⟩
theorem Lk{g:ak}:∀{l:List Nat} {u v:Nat},Seg g u l v->u≠v->v∈l
 |[],u,v,h,hn=>absurd h hn
 |x::l,u,v,h,hn=>by
  by_cases e:x=v
  ·subst e;simp
  exact EH _<|Lk h.2 e
def JG(g:ak)(π:Nat->Nat):Prop:=∀i,∃y∈g.getD (π i) [],y.toNat=π (i+1)
variable{sets:List aq}{c:Nat}
theorem zu5(hn:xJ g c)(h:∀S∈sets,∃d,S d/\To g c d/\To g d c) :
  ∃l,l≠[]/\Seg g c l c/\∀S∈sets,∃d∈l,S d:=by
 induction sets with
 |nil =>
  obtain⟨x,hx,k⟩:=hn;obtain⟨l,hl⟩:=IL k;exact⟨x.toNat::l,zs,⟨⟨x,hx,rfl⟩,hl⟩,λS hS=>by cases hS⟩
 |cons S r ih =>
  obtain⟨l,l1,l2,l3⟩:=ih λS hS=>h S<|EH _ hS;obtain⟨d,d1,d2,d3⟩:=h S zs;obtain⟨a,ha⟩:=IL d2;obtain⟨b,hb⟩:=IL d3;refine⟨l++(a++b),by simp[l1],Gs l2<|Gs ha hb,λS' mI=>?_⟩;rcases dD.1 mI with rfl|mI
  ·by_cases e:c=d
   ·subst e;refine⟨c,?_,d1⟩
    cases l with
    |nil=>exact absurd rfl l1
    |cons x l =>
     -- the last of a way round is its beginning
     have:∀{l:List Nat} {x v:Nat},Seg g x l v->v∈x::l:=λ{l x v} q=>by
      by_cases e:x=v
      ·subst e;simp
      exact EH _<|Lk q e
     exact xU _<|this l2.2
   exact⟨d,by simp[Lk ha e],d1⟩
  obtain⟨d,q1,q2⟩:=l3 S' mI;exact⟨d,by simp[q1],q2⟩
def goS(l:List Nat):Nat×List Nat->Nat×List Nat
 |(_,x::r)=>(x,r)
 |(_,[])=>match l with
  |x::r=>(x,r)
  |[]=>(0,[])
def goN(l:List Nat)(s:Nat×List Nat):Nat->Nat×List Nat
 |0=>s
 |i+1=>goS l<|goN l s i
theorem BX(l:List Nat)(s:Nat×List Nat)(i:Nat):∀j,goN l s (i+j)=goN l (goN l s i) j
 |0=>rfl
 |j+1=>by show goS l (goN l s<|i+j)=_;rw[BX l s i j];rfl
theorem R4(l:List Nat):∀(r:List Nat) (u:Nat),(goN l (u,r) r.length).2=[]
 |[],u=>rfl
 |x::r,u=>by
  have:goN l (u,x::r) (r.length+1)=goN l (x,r) r.length:=by rw[Nat.add_comm,BX];rfl
  rw[cj,this];exact R4 l r x
theorem Ph(l:List Nat):∀(r:List Nat) (u d:Nat),d∈r->∃j,(goN l (u,r) j).1=d
 |x::r,u,d,h=>by
  rcases dD.1 h with rfl|h
  ·exact⟨1,rfl⟩
  obtain⟨j,hj⟩:=Ph l r x d h;exact⟨1+j,by rw[BX];exact hj⟩
theorem R1{g:ak}{c:Nat}{l:List Nat}(b7:l≠[])(hl:Seg g c l c){s:Nat×List Nat}(h:Seg g s.1 s.2 c):∀i,Seg g (goN l s i).1 (goN l s i).2 c
 |0=>h
 |i+1=>by
  have ih:=R1 b7 hl h i;show Seg g (goS l<|goN l s i).1 (goS l<|goN l s i).2 c;generalize goN l s i=t at ih;obtain⟨u,r⟩:=t
  cases r with
  |cons x r=>exact ih.2
  |nil =>
   cases l with
   |nil=>exact absurd rfl b7
   |cons x l=>exact hl.2
theorem zBI(h:Fw g sets v):∃π:Nat->Nat,π 0=v/\JG g π/\∀S∈sets,∀i,∃j,i<=j/\S (π j):=by
 obtain⟨c,h1,h2,h3⟩:=h;obtain⟨l0,Hh⟩:=IL h1;obtain⟨l,l1,l2,l3⟩:=zu5 h2 h3;have hS:=R1 l1 l2 (s:=(v,l0)) Hh;refine⟨λi=>(goN l (v,l0) i).1,rfl,λi=>?_,λS Lu i=>?_⟩
 ·have hi:=hS i;show ∃y∈g.getD (goN l (v,l0) i).1 [],y.toNat=(goS l<|goN l (v,l0) i).1;generalize goN l (v,l0) i=t at hi;obtain⟨u,r⟩:=t
  cases r with
  |cons x r=>exact hi.1
  |nil =>
   have e:u=c:=hi;subst e
   cases l with
   |nil=>exact absurd rfl l1
   |cons x l=>exact l2.1
 obtain⟨d,d1,d2⟩:=l3 S Lu
 -- to the end of what is left,then round once
 have e1:=R4 l (goN l (v,l0) i).2 (goN l (v,l0) i).1
 cases l with
 |nil=>exact absurd rfl l1
 |cons x l =>
  have key:∀t:Nat×List Nat,t.2=[]->∃j,(goN (x::l) t j).1=d:=λt ht=>by
   rcases dD.1 d1 with e|e
   ·refine⟨1,?_⟩;obtain⟨u,r⟩:=t;cases ht;exact e.symm
   obtain⟨j,hj⟩:=Ph (x::l) l x d e;refine⟨1+j,?_⟩;rw[BX];obtain⟨u,r⟩:=t;cases ht;exact hj
  obtain⟨j,hj⟩:=key _ e1;refine⟨i+((goN (x::l) (v,l0) i).2.length+j),zo,?_⟩;show S (goN (x::l) (v,l0)<|i+((goN (x::l) (v,l0) i).2.length+j)).1=true;rw[BX,BX];rw[hj];exact d2
variable{n:Nat}
theorem again(f:Nat->Nat)(h:∀i,f i<n):∃c,∀i,∃j,i<=j/\f j=c:=by
 induction n generalizing f with
 |zero=>exact absurd (h 0) zo
 |succ n ih =>
  by_cases q:∀i,∃j,i<=j/\f j=n
  ·exact⟨n,q⟩
  obtain⟨i0,hi⟩:=Classical.not_forall.1 q;have cJ:∀j,i0<=j->f j≠n:=λj hj e=>hi ⟨j,hj,e⟩;obtain⟨c,hc⟩:=ih (λi=>f<|i0+i) λi=>by have:=h<|i0+i;have:=cJ (i0+i) zo;omega
  refine⟨c,λi=>?_⟩;obtain⟨j,j1,j2⟩:=hc i;exact⟨i0+j,zo,j2⟩
theorem TV{g:ak}{π:Nat->Nat}(h:JG g π)(i:Nat):∀d,To g (π i) (π<|i+d)
 |0=>tO g _
 |d+1=>by
  obtain⟨y,hy,e⟩:=h<|i+d;refine rH (TV h i d) ?_;rw[<-nT,<-e];exact y6 hy
variable{π:Nat->Nat}
theorem zCl(bF:∀i,π i<n)(h:JG g π)(hS:∀S∈sets,∀i,∃j,i<=j/\S (π j)):Fw g sets<|π 0:=by
 obtain⟨c,hc⟩:=again π bF;have hto:∀{i j},i<=j->To g (π i) (π j):=λ{i j} mR=>by
  obtain⟨d,rfl⟩:=u6 mR;exact TV h i d
 obtain⟨i0,_,e0⟩:=hc 0;have Fp:∀j,i0<=j->To g c (π j):=λj hj=>e0▸hto hj;have qT:∀j,To g (π j) c:=λj=>by
  obtain⟨k,k1,k2⟩:=hc j;exact k2▸hto k1
 refine⟨c,qT 0,?_,λS Lu=>?_⟩
 ·obtain⟨y,hy,e⟩:=h i0;exact⟨y,e0▸hy,by rw[e];exact qT _⟩
 obtain⟨j,j1,j2⟩:=hS S Lu i0;exact⟨_,j2,Fp j j1,qT j⟩
variable{l:af}
theorem Dz{k:af}{p:Pr}:p∈iP W A l k↔p.1∈l/\p.2∈k/\xo W A p:=by
 obtain⟨x,y⟩:=p;unfold iP rq;simp only[D1,cU,nG];constructor
 ·rintro⟨a,ha,b,⟨hb,hf⟩,e⟩;cases e;exact⟨ha,hb,hf⟩
 rintro⟨h1,h2,h3⟩;exact⟨x,h1,y,⟨h2,h3⟩,rfl⟩
theorem Jc:kK l v↔(v:Int)∈l:=by unfold kK;exact nb ..
theorem Px(L:List Pr):gh W A L=(W.fair.map λl v=>kK l (L.getD v (0,0)).1.toNat)++A.fair.map λl v=>kK l (L.getD v (0,0)).2.toNat:=by
 unfold gh kU;rw[gz,gz];rfl
theorem Re{L:List Pr}(hg:∀p∈L,jJ W A p)(bF:∀i,π i<L.length)(h0:L.getD (π 0) (0,0)∈iP W A W.start A.start)(DK:∀i,L.getD (π<|i+1) (0,0)∈nxE W A (L.getD (π i) (0,0)))
  (p2:∀S∈gh W A L,∀i,∃j,i<=j/\S (π j)):((L.getD (π 0) (0,0)).1∈W.start/\∀i,(L.getD (π<|i+1) (0,0)).1∈W.next.getD (L.getD (π i) (0,0)).1.toNat []) /\
  ((L.getD (π 0) (0,0)).2∈A.start/\∀i,(L.getD (π<|i+1) (0,0)).2∈A.next.getD (L.getD (π i) (0,0)).2.toNat [])/\(∀i,uO A (L.getD (π i) (0,0)).2.toNat<|W.label.getD (L.getD (π i) (0,0)).1.toNat 0) /\
  (∀l∈W.fair,∀i,∃j,i<=j/\(L.getD (π j) (0,0)).1∈l)/\∀l∈A.fair,∀i,∃j,i<=j/\(L.getD (π j) (0,0)).2∈l:=by
 rw[Px] at p2;have ER:=λi=>hg _<|n6<|bF i;have b8:=Dz.1 h0;have iZ:=λi=>Dz.1<|DK i;refine⟨⟨b8.1,λi=>(iZ i).1⟩,⟨b8.2.1,λi=>(iZ i).2.1⟩,λi=>?_,λl hl i=>?_,λl hl i=>?_⟩
 ·cases i with
  |zero=>exact b8.2.2
  |succ i=>exact(iZ i).2.2
 ·obtain⟨j,j1,j2⟩:=p2 _ (xU _<|cU.2 ⟨l,hl,rfl⟩) i;refine⟨j,j1,?_⟩;have:=Jc.1 j2;have hp:=(ER j).1.1;rwa [w7 hp] at this
 obtain⟨j,j1,j2⟩:=p2 _ (wI _<|cU.2 ⟨l,hl,rfl⟩) i;refine⟨j,j1,?_⟩;have:=Jc.1 j2;have hp:=(ER j).2.1;rwa [w7 hp] at this
theorem zsZ(hb:mD W A):eK W A↔∃s r:Nat->Int,(s 0∈W.start/\∀i,s (i+1)∈W.next.getD (s i).toNat [])/\(r 0∈A.start/\∀i,r (i+1)∈A.next.getD (r i).toNat [])/\(∀i,uO A (r i).toNat<|W.label.getD (s i).toNat 0) /\
  (∀l∈W.fair,∀i,∃j,i<=j/\s j∈l)/\∀l∈A.fair,∀i,∃j,i<=j/\r j∈l:=by
 obtain⟨hN,hg⟩:=ti hb;have hA:eK W A↔∃v,v<(bH W A).2.length/\Fw (bH W A).2 (gh W A (bH W A).1) v:=by unfold eK;simp only[c6]
 rw[hA];have nE:=Px (W:=W) (A:=A) (bH W A).1;generalize hFE:bH W A=FE at *;obtain⟨L,G⟩:=FE;dsimp only at *;constructor
 ·rintro⟨v,hv,hF⟩;have lS:v<L.length:=(by have:=hN.len;omega);obtain⟨p,hp,hT⟩:=hN.come v lS;obtain⟨π,p0,p1,p2⟩:=zBI<|hF.back hT;have bF:∀i,π i<L.length:=by
   intro i
   cases i with
   |zero=>rw[p0];exact xb<|hN.st p hp
   |succ i =>
    obtain⟨y,hy,e⟩:=p1 i;obtain⟨_,q,_,_,rfl,k⟩:=hN.Ef hy;rw[<-e,bS];exact k
  have h0:L.getD (π 0) (0,0)=p:=(by rw[p0];exact so<|hN.st p hp);have DK:∀i,L.getD (π<|i+1) (0,0)∈nxE W A (L.getD (π i) (0,0)):=λi=>by
   obtain⟨y,hy,e⟩:=p1 i;obtain⟨_,q,q1,q2,rfl,k⟩:=hN.Ef hy;rw[<-e,bS,so q2];exact q1
  exact⟨λi=>(L.getD (π i) (0,0)).1,λi=>(L.getD (π i) (0,0)).2,Re hg bF (h0▸hp) DK p2⟩
 rw[nE];rintro⟨s,r,⟨s0,s1⟩,⟨r0,r1⟩,hf,hsW,hsA⟩;have jL:∀i,(s i,r i)∈L:=by
  intro i
  induction i with
  |zero=>exact hN.st _<|Dz.2 ⟨s0,r0,hf 0⟩
  |succ i ih =>
   have hl:=xb ih;refine hN.cl _ hl _ ?_;rw[so ih];exact Dz.2 ⟨s1 i,r1 i,hf<|i+1⟩
 have Kx:=λi=>xb<|jL i;refine⟨fq L (s 0,r 0),by have:=Kx 0;have:=hN.len;omega,?_⟩;refine zCl (n:=L.length) (π:=λi=>fq L (s i,r i)) Kx (λi=>?_) λS hS i=>?_
 ·have hm:(s<|i+1,r<|i+1)∈nxE W A (s i,r i):=Dz.2 ⟨s1 i,r1 i,hf<|i+1⟩;refine⟨(fq L (s<|i+1,r<|i+1):Int),?_,bS _⟩;show _∈G.getD (fq L (s i,r i)) [];rw[hN.row _<|Kx i,so<|jL i];exact cU.2 ⟨_,hm,rfl⟩
 rcases de.1 hS with hS|hS
 ·obtain⟨l,hl,rfl⟩:=cU.1 hS;obtain⟨j,j1,j2⟩:=hsW l hl i;refine⟨j,j1,?_⟩;show kK l (L.getD (fq L (s j,r j)) (0,0)).1.toNat=true;rw[so<|jL j,Jc,w7 (hg _<|jL j).1.1];exact j2
 obtain⟨l,hl,rfl⟩:=cU.1 hS;obtain⟨j,j1,j2⟩:=hsA l hl i;refine⟨j,j1,?_⟩;show kK l (L.getD (fq L (s j,r j)) (0,0)).2.toNat=true;rw[so<|jL j,Jc,w7 (hg _<|jL j).2.1];exact j2
def dH(a b:aM):Bool:=a.toList==b.toList
variable(a:aM)
theorem Qe(a b:aM):dH a b=dH b a:=by
 unfold dH;exact BEq.comm
@[simp] theorem zC8:dH a a=true:=by simp[dH]
theorem NT:dH a ⟨#[]⟩=true↔a.size=0:=by
 unfold dH;rw[gC,ByteArray.toList_eq,ByteArray.toList_eq];show a.data.toList=[]↔a.data.size=0;rw[List.eq_nil_iff_length_eq_zero,Array.length_toList]
theorem gS(l:Array UInt8):(⟨l⟩:aM).size=l.size:=rfl
def yx:aM:=⟨#[116,114,117,101]⟩
def zT:aM:=⟨#[102,97,108,115,101]⟩
def yc:aM:=⟨#[115,105,108,101,110,116]⟩
def yH(s:aM)(i:Nat):Bool:=match s[i]? with
 |some b=>decide (97<=b.toNat)&&decide (b.toNat<=122)
 |none=>true
def CM(s:aM):Bool:=(List.range s.size).all<|yH s
variable{s:aM}
theorem zsq(h:∀i,i<s.size->yH s i):CM s:=by
 unfold CM;rw[kv];exact λi hi=>h i<|eW.1 hi
theorem Wl(hi:i<s.size)(h:yH s i=false):CM s=false:=by
 unfold CM;rw[List.all_eq_false];exact⟨i,eW.2 hi,by simp[h]⟩
def ic(s:aM):Bool:=!(dH s ⟨#[]⟩)&&decide (s.size<=8)&&!(dH s yx)&&!(dH s zT)&&!(dH s yc)&&CM s
def rO(names:List aM)(n:Nat)(s:aM):Bool:=(List.range n).any λi=>dH (names.getD i ⟨#[]⟩) s
theorem zuv{names:List aM}(hi:i<n)(h:dH (names.getD i ⟨#[]⟩) s):rO names n s:=by
 unfold rO;rw[iR];exact⟨i,eW.2 hi,h⟩
def nm(names:List aM)(n:Int):aM :=
 if n=63 then yc
 else if (names.length:Int)<=n then ⟨#[]⟩
 else if ic (names.getD n.toNat ⟨#[]⟩)=false then ⟨#[]⟩
 else if rO names n.toNat (names.getD n.toNat ⟨#[]⟩)=true then ⟨#[]⟩
 else names.getD n.toNat ⟨#[]⟩
variable(names:List aM)
theorem Va(n:Int):(nm names n).size<=8:=by
 unfold nm;split
 ·decide
 split
 ·decide
 split
 ·decide
 split
 ·decide
 rename_i h _;have:ic<|names.getD n.toNat ⟨#[]⟩:=by simpa using h
 unfold ic at this;simp only[dL,c6] at this;exact this.1.1.1.1.2
def nC(b:Bool)(s:aM):aM:=if b then s else ⟨#[40]⟩++s++⟨#[41]⟩
theorem xp(b:Bool)(s:aM):(nC b s).size<=s.size+2:=by
 unfold nC;split
 ·omega
 simp only[gY];have:(⟨#[40]⟩:aM).size=1:=rfl;have:(⟨#[41]⟩:aM).size=1:=rfl;omega
def wv(k i c:Int):Bool:=if c=5 then k==6||(k==5&&i==0) else if c=6 then k==6&&i==0 else if c=8\/c=9 then k==c&&i==1 else true
def Iq(k i c:Int):Bool:=if c=5 then k==6||(k==5&&i==0) else if c=6 then k==6&&i==0 else true
def ri(k i c:Int):Bool:=if k=10\/k=14 then true else Iq k i c
def uS(names:List aM)(k n:Int)(a b:aM):aM :=
 if k=1 then yx else if k=2 then zT else if k=3 then nm names n
 else if k=4 then ⟨#[33]⟩++a else if k=7 then ⟨#[88,32]⟩++a else if k=10 then ⟨#[70,32]⟩++a else if k=11 then ⟨#[71,32]⟩++a
 else if k=5 then a++⟨#[32,38,32]⟩++b else if k=6 then a++⟨#[32,47,32]⟩++b else if k=8 then a++⟨#[32,85,32]⟩++b else a++⟨#[32,82,32]⟩++b
def vf(names:List aM)(k n:Int)(a b:aM):aM :=
 if k=1 then yx else if k=2 then zT else if k=3 then nm names n
 else if k=5 then a++⟨#[32,38,32]⟩++b else if k=6 then a++⟨#[32,47,32]⟩++b
 else if k=10 then ⟨#[69,32,91]⟩++a++⟨#[32,85,32]⟩++b++⟨#[93]⟩ else if k=14 then ⟨#[65,32,91]⟩++a++⟨#[32,85,32]⟩++b++⟨#[93]⟩
 else if k=4 then ⟨#[33]⟩++a else if k=7 then ⟨#[69,88,32]⟩++a else if k=8 then ⟨#[69,70,32]⟩++a else if k=9 then ⟨#[69,71,32]⟩++a
 else if k=11 then ⟨#[65,88,32]⟩++a else if k=12 then ⟨#[65,70,32]⟩++a else ⟨#[65,71,32]⟩++a
theorem QR{p:Prop} [Decidable p] {a b:aM} (h:p->a.size<=n) (k:¬p->b.size<=n):(if p then a else b).size<=n:=by
 split
 ·exact h ‹_›
 exact k ‹_›
theorem I1(k n:Int)(ks:List Tree):(Tree.node k n ks).kind=k:=rfl
theorem Cm(k n:Int)(ks:List Tree):(Tree.node k n ks).kids=ks:=rfl
theorem zpc(k n:Int)(a b:aM):(uS names k n a b).size<=a.size+b.size+8:=by
 have:=Va names n;unfold uS yx zT;generalize nm names n=z at this⊢;repeat' (refine QR (λ_=>?_) (λ_=>?_))
 all_goals ((try simp only[gY]);(try simp only[gS,gZ,cj,dE]);omega)
theorem zp2(k n:Int)(a b:aM):(vf names k n a b).size<=a.size+b.size+8:=by
 have:=Va names n;unfold vf yx zT;generalize nm names n=z at this⊢;repeat' (refine QR (λ_=>?_) (λ_=>?_))
 all_goals ((try simp only[gY]);(try simp only[gS,gZ,cj,dE]);omega)
mutual
def kx(names:List aM):Tree->aM
 | .node k n ks=>uS names k n ((oc names k 0 ks).getD 0 ⟨#[]⟩)<|(oc names k 0 ks).getD 1 ⟨#[]⟩
def oc(names:List aM)(k i:Int):List Tree->List aM
 |[]=>[]
 |t::r=>nC (wv k i t.kind) (kx names t)::oc names k (i+1) r
end
def m6(names:List aM)(t:Tree)(j:Nat):aM:=nC (wv t.kind j (t.aD j).kind)<|kx names<|t.aD j
theorem Gp(names:List aM)(k:Int):∀(ks:List Tree) (i:Int) (j:Nat),j<ks.length->(oc names k i ks).getD j ⟨#[]⟩=nC (wv k (i+j) (ks.getD j default).kind) (kx names<|ks.getD j default)
 |[],_,_,h=>by simp at h
 |t::r,i,0,_=>by simp[oc]
 |t::r,i,j+1,h=>by
  have:=Gp names k r (i+1) j (by simpa using h);simp only[oc,wz];rw[this,show i+1+(j:Int)=i+((j+1:Nat):Int) by omega]
theorem HU(names:List aM)(k:Int):∀(ks:List Tree) (i:Int) (j:Nat),ks.length<=j->(oc names k i ks).getD j ⟨#[]⟩=⟨#[]⟩
 |[],_,_,_=>by simp[oc]
 |t::r,i,0,h=>by simp at h
 |t::r,i,j+1,h=>by
  simp only[oc,wz];exact HU names k r (i+1) j<|by simpa using h
theorem Gg(t:Tree):kx names t=uS names t.kind t.num ((oc names t.kind 0 t.kids).getD 0 ⟨#[]⟩) ((oc names t.kind 0 t.kids).getD 1 ⟨#[]⟩):=by
 cases t;simp only[kx];rfl
theorem zBw(h:t.width=0):kx names t=uS names t.kind t.num ⟨#[]⟩ ⟨#[]⟩:=by
 rw[Gg,HU _ _ _ _ _ (by unfold Tree.width at h;omega),HU _ _ _ _ _<|by unfold Tree.width at h;omega]
theorem zBP(h:t.width=1):kx names t=uS names t.kind t.num (m6 names t 0) ⟨#[]⟩:=by
 rw[Gg,Gp _ _ _ _ _ (by unfold Tree.width at h;omega),HU _ _ _ _ _<|by unfold Tree.width at h;omega];simp[m6,Tree.aD]
theorem zB8(h:t.width=2):kx names t=uS names t.kind t.num (m6 names t 0) (m6 names t 1):=by
 rw[Gg,Gp _ _ _ _ _ (by unfold Tree.width at h;omega),Gp _ _ _ _ _<|by unfold Tree.width at h;omega];simp[m6,Tree.aD]
theorem zr9(t:Tree):(kx names t).size<=12*t.size:=by
 induction t using Tree.ind with
 |h t ih =>
  rw[Gg];have hj:=zpc names t.kind t.num ((oc names t.kind 0 t.kids).getD 0 ⟨#[]⟩)<|(oc names t.kind 0 t.kids).getD 1 ⟨#[]⟩;refine ia hj ?_;have e0:(⟨#[]⟩:aM).size=0:=rfl;obtain⟨k,n,ks⟩:=t
  match ks with
  |[]=>simp only[Cm,oc,List.getD_nil,e0,Tree.size];omega
  |[a] =>
   have h0:=ih 0 (by simp[Tree.width,Tree.kids]);have w0:=xp (wv k 0 a.kind) (kx names a);simp only[Cm,I1,oc,Jh,wz,List.getD_nil,e0,Tree.size,Tree.ma,Tree.aD] at h0⊢;omega
  |a::b::r =>
   have h0:=ih 0 (by simp[Tree.width,Tree.kids]);have h1:=ih 1 (by simp[Tree.width,Tree.kids]);have w0:=xp (wv k 0 a.kind) (kx names a);have w1:=xp (wv k (0+1) b.kind) (kx names b);simp only[Cm,I1,oc,Jh,wz,Tree.size,Tree.ma,Tree.aD] at h0 h1⊢;omega
mutual
def ja(names:List aM):Tree->aM
 | .node k n ks=>vf names k n ((nO names k 0 ks).getD 0 ⟨#[]⟩)<|(nO names k 0 ks).getD 1 ⟨#[]⟩
def nO(names:List aM)(k i:Int):List Tree->List aM
 |[]=>[]
 |t::r=>nC (ri k i t.kind) (ja names t)::nO names k (i+1) r
end
def mG(names:List aM)(t:Tree)(j:Nat):aM:=nC (ri t.kind j (t.aD j).kind)<|ja names<|t.aD j
theorem I8(names:List aM)(k:Int):∀(ks:List Tree) (i:Int) (j:Nat),j<ks.length->(nO names k i ks).getD j ⟨#[]⟩=nC (ri k (i+j) (ks.getD j default).kind) (ja names<|ks.getD j default)
 |[],_,_,h=>by simp at h
 |t::r,i,0,_=>by simp[nO]
 |t::r,i,j+1,h=>by
  have:=I8 names k r (i+1) j (by simpa using h);simp only[nO,wz];rw[this,show i+1+(j:Int)=i+((j+1:Nat):Int) by omega]
theorem Gr(names:List aM)(k:Int):∀(ks:List Tree) (i:Int) (j:Nat),ks.length<=j->(nO names k i ks).getD j ⟨#[]⟩=⟨#[]⟩
 |[],_,_,_=>by simp[nO]
 |t::r,i,0,h=>by simp at h
 |t::r,i,j+1,h=>by
  simp only[nO,wz];exact Gr names k r (i+1) j<|by simpa using h
theorem HG(t:Tree):ja names t=vf names t.kind t.num ((nO names t.kind 0 t.kids).getD 0 ⟨#[]⟩) ((nO names t.kind 0 t.kids).getD 1 ⟨#[]⟩):=by
 cases t;simp only[ja];rfl
theorem zCs(h:t.width=0):ja names t=vf names t.kind t.num ⟨#[]⟩ ⟨#[]⟩:=by
 rw[HG,Gr _ _ _ _ _ (by unfold Tree.width at h;omega),Gr _ _ _ _ _<|by unfold Tree.width at h;omega]
theorem zBO(h:t.width=1):ja names t=vf names t.kind t.num (mG names t 0) ⟨#[]⟩:=by
 rw[HG,I8 _ _ _ _ _ (by unfold Tree.width at h;omega),Gr _ _ _ _ _<|by unfold Tree.width at h;omega];simp[mG,Tree.aD]
theorem zCC(h:t.width=2):ja names t=vf names t.kind t.num (mG names t 0) (mG names t 1):=by
 rw[HG,I8 _ _ _ _ _ (by unfold Tree.width at h;omega),I8 _ _ _ _ _<|by unfold Tree.width at h;omega];simp[mG,Tree.aD]
theorem ztX(t:Tree):(ja names t).size<=12*t.size:=by
 induction t using Tree.ind with
 |h t ih =>
  rw[HG];have hj:=zp2 names t.kind t.num ((nO names t.kind 0 t.kids).getD 0 ⟨#[]⟩)<|(nO names t.kind 0 t.kids).getD 1 ⟨#[]⟩;refine ia hj ?_;have e0:(⟨#[]⟩:aM).size=0:=rfl;obtain⟨k,n,ks⟩:=t
  match ks with
  |[]=>simp only[Cm,nO,List.getD_nil,e0,Tree.size];omega
  |[a] =>
   have h0:=ih 0 (by simp[Tree.width,Tree.kids]);have w0:=xp (ri k 0 a.kind) (ja names a);simp only[Cm,I1,nO,Jh,wz,List.getD_nil,e0,Tree.size,Tree.ma,Tree.aD] at h0⊢;omega
  |a::b::r =>
   have h0:=ih 0 (by simp[Tree.width,Tree.kids]);have h1:=ih 1 (by simp[Tree.width,Tree.kids]);have w0:=xp (ri k 0 a.kind) (ja names a);have w1:=xp (ri k (0+1) b.kind) (ja names b);simp only[Cm,I1,nO,Jh,wz,Tree.size,Tree.ma,Tree.aD] at h0 h1⊢;omega
def qg(names:List aM)(k n:Int):Bool:=k != 3||!(dH (nm names n) ⟨#[]⟩)
mutual
def dK(names:List aM):Tree->Bool
 | .node k n ks=>qg names k n&&Df names ks
def Df(names:List aM):List Tree->Bool
 |[]=>true
 |t::r=>dK names t&&Df names r
end
theorem Tt(names:List aM):∀ks,Df names ks=ks.all (dK names)
 |[]=>by simp only[Df,List.all_nil]
 |t::r=>by simp only[Df,List.all_cons,Tt names r]
theorem Mu(t:Tree):dK names t=(qg names t.kind t.num&&t.kids.all (dK names)):=by
 cases t;simp only[dK,Tt];rfl
theorem zCG(h:t.width=1):t.kids=[t.aD 0]:=by
 unfold Tree.width at h;unfold Tree.aD
 match e:t.kids,h with
 |[a],_=>rfl
theorem zB2(h:t.width=2):t.kids=[t.aD 0,t.aD 1]:=by
 unfold Tree.width at h;unfold Tree.aD
 match e:t.kids,h with
 |[a,b],_=>rfl
theorem RN(h:t.width=0):dK names t=qg names t.kind t.num:=by
 rw[Mu,nh.1 h];simp
theorem QF(h:t.width=1)(hk:t.kind≠3):dK names t=dK names (t.aD 0):=by
 rw[Mu,zCG h];simp[hk,qg]
theorem R7(h:t.width=2)(hk:t.kind≠3):dK names t=(dK names (t.aD 0)&&dK names (t.aD 1)):=by
 rw[Mu,zB2 h];simp[hk,qg]
def dG(l:List aM):D:=.a8 1<|l.map λs=>[.sc (.string s)]
@[simp] theorem oJ(l:List aM):Pure<|dG l:=by
 simp only[dG,Pure];exact cO _ (λs=>by simp[ao,Pure]) l
def pF(l:List aM):Prop:=l.length<=9223372036854775807/\∀s∈l,s.size<=9223372036854775807
variable{l:List aM}
theorem uE(h:k<l.length):(l.map λs=>[D.sc (.string s)])[k]? = some [.sc (.string<|l.getD k ⟨#[]⟩)]:=by
 rw[cy,aG h,ay,aG h];rfl
theorem pF.at(h:pF l)(hk:k<l.length):(l.getD k ⟨#[]⟩).size<=9223372036854775807:=by
 rw[ay,aG hk];exact h.2 _<|ig _
theorem zyk(h:k<s.size):∃b,s[k]? = some b:=⟨s[k],by simp[getElem?_pos,h]⟩
def zDI:PC:=SO [Bi 26 .lss 25 24] (.seq (CX 26 0) (.seq (.block 1<|SO [qm 27 25,qm 3 27]<|SO [qm 28 0,qm 29 3,q 30 (.E2 28 29),q 31 (.bin .lss 30 (.const (.int .u8 97))),qm 32 31,GF 33 32 (.move 0),GF 34 32 (.move 3),GF 35 32 (.E2 33 34),GF 36 32 (.bin .gtr 35 (.const (.int .u8 122))),Pk 37 32 cT 36]<|If 37<|SO [Mv 2 cF] .ret)<|OP [Bi 38 .add 25 K1,qm 25 38]))
def c47:PC:=SO [Mv 2 cF] (.seq (SO [qm 4 0,Bi 5 .eql 4<|cS #[],qm 6 5,GF 7 6 (.move 0),GF 8 6 (.vK 7),GF 9 6 (.bin .gtr 8 K8),Pk 10 6 cT 9,qm 11 10,GF 12 11 (.move 0),GF 13 11 (.bin .eql 12<|cS #[116,114,117,101]),Pk 14 11 cT 13,qm 15 14,GF 16 15 (.move 0),GF 17 15 (.bin .eql 16<|cS #[102,97,108,115,101]),Pk 18 15 cT 17,qm 19 18,GF 20 19 (.move 0),GF 21 19 (.bin .eql 20<|cS #[115,105,108,101,110,116]),Pk 22 19 cT 21]<|If 22<|SO [Mv 2 cF] .ret) (.seq (SO [qm 23 0,q 24 (.vK 23),Mv 25 K0]<|BL 0 zDI)<|SO [Mv 2 cT] .ret))
theorem zw(s:aM)(hs:s.size<=9223372036854775807):ar aj 47 [.sc (.string s)]<|aF<|ic s:=by
 refine bz (fJ 39 [.tmp 2] c47 Tryz.func47) ?_;refine sRS (λh1=>?_) λh1=>?_
 ·exact bL<|bK (λb=>aF b)<|by have:dH s ⟨#[]⟩=true:=h1;simp[ic,this]
 refine sS (λh2=>?_) λh2=>?_
 ·exact bL (congrArg (λb=>D.sc (.bool b)) (by have:¬s.size≤8:=sO
                                              simp[ic,this]))
 refine sS (λh3=>?_) λh3=>?_
 ·exact bL<|bK (λb=>aF b)<|by have:dH s yx=true:=h3;simp[ic,this]
 refine sS (λh4=>?_) λh4=>?_
 ·exact bL<|bK (λb=>aF b)<|by have:dH s zT=true:=h4;simp[ic,this]
 refine sS (λh5=>?_) λh5=>?_
 ·exact bL<|bK (λb=>aF b)<|by have:dH s yc=true:=h5;simp[ic,this]
 have hn:ic s=CM s:=by
  have g1:dH s ⟨#[]⟩=false:=h1;have g2:s.size<=8:=sO;have g3:dH s yx=false:=h3;have g4:dH s zT=false:=h4;have g5:dH s yc=false:=h5;simp[ic,g1,g2,g3,g4,g5]
 rw[hn];clear hn h1 h2 h3 h4 h5
 refine yA (λk:Nat=>[(0,.sc (.string s)),(24,ab s.size),(25,ab k)]) (λ_=>[])
  (λk=>k<=s.size/\∀j,j<k->yH s j=true) (λk=>s.size-k) 0 ⟨zo,λj h=>zo⟩ (Az ⟨rfl,rfl,rfl,trivial⟩) ?_
 rintro k ⟨hk,dg⟩;refine sRS (λh1=>?_) λh1=>?_
 ·have au:k<s.size:=sO;obtain⟨b,hb⟩:=zyk au;refine⟨zo,b,hb,?_⟩;refine sWS (λh2=>?_) λh2=>?_
  ·exact bL<|bK (λb=>aF b) (Wl au<|by simp only[yH,hb];simp only[c6] at h2;simp;omega).symm
  refine⟨zo,b,hb,?_⟩;refine sWS (λh3=>?_) λh3=>?_
  ·exact bL<|bK (λb=>aF b) (Wl au<|by simp only[yH,hb];simp only[c6] at h3;simp;omega).symm
  refine .inl ⟨by unfold dW;rw[fU];omega,?_⟩;refine sW ?_;refine⟨k+1,⟨zo,λj hj=>?_⟩,zd,Az ⟨rfl,rfl,rfl,trivial⟩⟩;by_cases e:j=k
  ·subst e;simp only[yH,hb];simp only[wA] at h2 h3;simp;omega
  exact dg j zo
 have au:¬k<s.size:=sO;exact bL<|bK (λb=>aF b) (zsq λi hi=>dg i zo).symm
theorem KS(l:List aM)(s:aM)(hl:l.length<=9223372036854775807):ar aj 177 [dG l,.sc (.string s)]<|ab<|match l.findIdx? (dH s) with|some i=>(i:Int)|none=>-1:=by
 refine bz fZ ?_;unfold dG;refine sR ?_;rw[aS]
 refine yA (λk:Nat=>[(0,dG l),(1,.sc (.string s)),(7,ab l.length),(8,ab k)]) (λ_=>[]) (λk=>k<=l.length/\∀j (h:j<k) (h2:j<l.length),dH s l[j]=false) (λk=>l.length-k) 0 ⟨zo,λ_ h=>zo⟩
  (Az ⟨rfl,rfl,rfl,rfl,trivial⟩) ?_
 rintro k ⟨hk,cJ⟩;unfold dG;refine sRS (λh=>?_) λh=>?_
 ·have au:k<l.length:=sO;refine sL (uE au) ?_;have hg:l.getD k ⟨#[]⟩=l[k]:=(by rw[ay,aG au];rfl);refine sS (λh2=>?_) λh2=>?_
  ·have:l.findIdx? (dH s)=some k:=by
    rw[IY];exact⟨zo,by rw[<-hg];exact h2,λj hj=>by simp[cJ j hj zo]⟩
   rw[this];exact Deep.refl _
  refine .inl ⟨by unfold dW;rw[fU];omega,?_⟩;refine sW ?_;refine⟨k+1,⟨zo,λj hj hl=>?_⟩,zd,Az ⟨rfl,rfl,rfl,rfl,trivial⟩⟩;by_cases e:j=k
  ·subst e;rw[<-hg];exact h2
  exact cJ j zo hl
 have:l.findIdx? (dH s)=none:=by
  have au:¬k<l.length:=sO;rw[List.findIdx?_eq_none_iff];intro x hx;obtain⟨j,hj,rfl⟩:=kn.1 hx;simp[cJ j zo hj]
 rw[this];exact Deep.refl _
theorem Mf(hn:n<l.length):((match l.findIdx? (dH<|l.getD n ⟨#[]⟩) with|some i=>(i:Int)|none=>-1):Int)≠(n:Int)↔rO l n (l.getD n ⟨#[]⟩):=by
 have hg:∀j (h:j<l.length),l.getD j ⟨#[]⟩=l[j]:=λj h=>by rw[ay,aG h];rfl
 cases h:l.findIdx?<|dH<|l.getD n ⟨#[]⟩ with
 |none =>
  rw[List.findIdx?_eq_none_iff] at h;have:=h l[n]<|ig _;rw[hg n hn] at this;simp at this
 |some i =>
  rw[IY] at h;obtain⟨h1,h2,h3⟩:=h;constructor
  ·intro b7;have b7:(i:Int)≠n:=b7;have:i<n:=by
    rcases ue i n with q|q|q
    ·exact q
    ·omega
    have:=h3 n q;rw[hg n hn] at this;simp at this
   exact zuv this<|by rw[Qe,hg i h1];exact h2
  intro hd;show(i:Int)≠n;unfold rO at hd;rw[iR] at hd;obtain⟨j,hj,hd⟩:=hd;rw[eW] at hj;rintro e;have:=h3 j zo;rw[<-hg j zo,Qe,hd] at this;simp at this
def c228:PC:=SO [Mv 4<|cS #[]] (.seq (SO [qm 5 0,Bi 6 .eql 5<|cI 63]<|If 6<|SO [Mv 4<|cS #[115,105,108,101,110,116]] .ret) (.seq (SO [qm 7 0,qm 8 1,Ln 9 8,Bi 10 .geq 7 9,qm 11 10,GF 12 11 (.move 1),GF 13 11 (.move 0),GF 14 11 (.lg 1 12 13),GF 15 11 (.fu 14),GF 16 11 (.call 47 [15]),GF 17 11 (.un .not 16),Pk 18 11 cT 17,qm 19 18,GF 20 19 (.move 1),GF 21 19 (.move 1),GF 22 19 (.move 0),GF 23 19 (.lg 1 21 22),GF 24 19 (.fu 23),GF 25 19 (.call 177 [20,24]),GF 26 19 (.move 0),GF 27 19 (.bin .neq 25 26),Pk 28 19 cT 27]<|If 28<|SO [Mv 4<|cS #[]] .ret)<|SO [qm 29 1,qm 30 0,Ia 31 1 29 30,Lo 32 31,qm 4 32] .ret))
theorem zww(hs:pF names)(n:Int)(hn:0<=n):ar aj 228 [ab n,dG names] (.sc (.string<|nm names n)):=by
 refine bz (fJ 33 [.tmp 4] c228 Tryz.func228) ?_;unfold dG;refine sR ?_;have eq:∀{s:aM},s=nm names n->Deep [] (D.sc (.string s)) (.sc (.string<|nm names n)):=λh=>h▸.refl _;refine sS (λh1=>?_) λh1=>?_
 ·exact eq<|by simp only[gC] at h1;simp[nm,h1,yc]
 have h1:n≠63:=sO;rw[aS];refine sS (λh2=>?_) λh2=>?_
 ·exact eq (by have:(names.length:Int)≤n:=sO
               simp[nm,h1,this])
 have h2:¬(names.length:Int)<=n:=sO;have hk:n.toNat<names.length:=zo;refine⟨hn,_,uE hk,?_⟩;refine sW ?_;refine sC (zw _<|hs.at hk) ?_;refine sS (λh3=>?_) λh3=>?_
 ·exact eq (by have:ic (names.getD n.toNat ⟨#[]⟩)=false:=by simpa using h3
               unfold nm;rw[aa h1,aa h2,ae this])
 have h3:¬ic (names.getD n.toNat ⟨#[]⟩)=false:=by simpa using h3
 refine⟨hn,_,uE hk,?_⟩;refine sW ?_;refine sC (KS names _ hs.1) ?_;have hd:=Mf hk;rw[show(n.toNat:Int)=n by omega] at hd;refine sS (λh4=>?_) λh4=>?_
 ·exact eq (by have:rO names n.toNat<|names.getD n.toNat ⟨#[]⟩:=hd.1 (by simpa using h4)
               unfold nm;rw[aa h1,aa h2,aa h3,ae this])
 refine⟨hn,_,uE hk,?_⟩;refine sW ?_
 exact eq (by have:¬rO names n.toNat (names.getD n.toNat ⟨#[]⟩):=λh=>hd.2 h (by simpa using h4)
              unfold nm;rw[aa h1,aa h2,aa h3,aa this])
structure ah where
 nodes:List<|aM×Int
 aP:List<|Int×Int
namespace ah
def name(P:ah)(i:Nat):aM:=(P.nodes.getD i (⟨#[]⟩,0)).1
def kind(P:ah)(i:Nat):Int:=(P.nodes.getD i (⟨#[]⟩,0)).2
def src(P:ah)(i:Nat):Int:=(P.aP.getD i (0,0)).1
def dst(P:ah)(i:Nat):Int:=(P.aP.getD i (0,0)).2
def vo(P:ah)(i:Nat):Int :=
 if ic (P.name i)=false\/P.kind i<1\/7<P.kind i then 1
 else if (List.range i).any (λk=>dH (P.name k)<|P.name i)=true then 4 else 0
def xQ(f:Nat->Int):Nat->Int
 |0=>0
 |n+1=>if xQ f n≠0 then xQ f n else f n
theorem Jv{f:Nat->Int}:∀{n:Nat},xQ f n=0↔∀i,i<n->f i=0
 |0=>⟨λ_ i h=>zo,λ_=>rfl⟩
 |n+1=>by
  simp only[xQ];constructor
  ·intro h;split at h
   ·exact absurd h<|by assumption
   rename_i q;have q:=Classical.not_not.1 q;intro i hi;by_cases e:i=n
   ·subst e;exact h
   exact Jv.1 q i zo
  intro h;have:xQ f n=0:=Jv.2 λi hi=>h i zo;rw[aa<|by simp[this]];exact h n zo
theorem Qo{f:Nat->Int}{k:Nat}:∀{n:Nat},k<n->(∀i,i<k->f i=0)->f k≠0->xQ f n=f k
 |0,h,_,_=>zo
 |n+1,h,h1,h2=>by
  simp only[xQ];by_cases e:k=n
  ·subst e;rw[aa<|by simp[Jv.2 h1]]
  rw[Qo (n:=n) zo h1 h2,ae h2]
def wg(P:ah):Int:=xQ P.vo P.nodes.length
def pick(p:aq):Nat->af
 |0=>[]
 |n+1=>if p n then pick p n++[(n:Int)] else pick p n
theorem BW{p:aq}{x:Int}:∀{n:Nat},x∈pick p n↔∃i,i<n/\p i/\x=(i:Int)
 |0=>by simp[pick]
 |n+1=>by
  simp only[pick];split
  ·rename_i h;rw[de,BW,cM];constructor
   ·rintro(⟨i,h1,h2,h3⟩|h1)
    ·exact⟨i,zo,h2,h3⟩
    exact⟨n,zo,h,h1⟩
   rintro⟨i,h1,h2,h3⟩;by_cases e:i=n
   ·subst e;exact .inr h3
   exact .inl ⟨i,zo,h2,h3⟩
  rename_i h;rw[BW];constructor
  ·rintro⟨i,h1,h2,h3⟩;exact⟨i,zo,h2,h3⟩
  rintro⟨i,h1,h2,h3⟩;refine⟨i,?_,h2,h3⟩;by_cases e:i=n
  ·subst e;exact absurd h2 h
  omega
theorem OC(p:aq):∀n,(pick p n).length<=n
 |0=>by simp[pick]
 |n+1=>by simp only[pick];have:=OC p n;split<;>simp<;>omega
def cq(P:ah)(v:Int):af:=pick (λi=>P.dst i==v) P.aP.length
def gB(P:ah)(v:Int):af:=pick (λi=>P.src i==v) P.aP.length
variable(P:ah)
theorem Er(v:Int):(P.cq v).length<=P.aP.length:=OC _ _
theorem EK(v:Int):(P.gB v).length<=P.aP.length:=OC _ _
def pn(P:ah)(i:Nat):Bool:=decide (0<=P.src i)&&decide (P.src i<P.nodes.length)&&decide (0<=P.dst i)&&decide (P.dst i<P.nodes.length)
def nF(P:ah):Nat->Int
 |0=>0
 |n+1=>if P.kind n=1 then P.nF n+1 else P.nF n
def rX(P:ah):Nat->Int
 |0=>-1
 |n+1=>if P.kind n=1 then (n:Int) else P.rX n
theorem Xm(P:ah):∀n,0<=P.nF n/\P.nF n<=n
 |0=>by simp[nF]
 |n+1=>by simp only[nF];have:=Xm P n;split<;>omega
theorem SN(P:ah):∀n,0<P.nF n->0<=P.rX n/\P.rX n<n
 |0,h=>by simp[nF] at h
 |n+1,h=>by
  simp only[nF,rX] at h⊢;split
  ·omega
  rename_i e;rw[aa e] at h;have:=SN P n h;omega
def HX(k i o:Int):Bool :=
 if k=1 then i==0&&o==1
 else if k=2\/k=3 then decide (i>0)&&o==0
 else if k=4 then decide (i>0)&&o==1
 else if k=7 then decide (o<=4)&&(decide (i>0)&&decide (o>0))
 else if k=5\/k=6 then decide (i>0)&&decide (o>0)
 else false
def tw(P:ah)(i:Nat):Bool:=HX (P.kind i) (P.cq i).length (P.gB i).length
def graph(P:ah):Nat->ak
 |0=>List.replicate P.nodes.length []
 |k+1=>(P.graph k).set (P.src k).toNat<|(P.graph k).getD (P.src k).toNat []++[P.dst k]
theorem zX(P:ah):∀k,(P.graph k).length=P.nodes.length
 |0=>by simp[graph]
 |k+1=>by simp only[graph,yS];exact zX P k
theorem TQ{α:Type}{L:List α}{j:Nat}{d l:α}(h:i<L.length):(L.set i l).getD j d=if j=i then l else L.getD j d:=by
 rw[ay,wG];by_cases e:i=j
 ·subst e;simp[h]
 rw[aa e,aa λq=>e q.symm,ay]
theorem zh{P:ah}:P.pn i↔0<=P.src i/\P.src i<P.nodes.length/\0<=P.dst i/\P.dst i<P.nodes.length:=by
 unfold pn;simp only[dL,c6];omega
theorem Uq{P:ah}{u:Nat}{x:Int}:∀{k:Nat},(∀i,i<k->P.pn i)->(x∈(P.graph k).getD u []↔∃i,i<k/\P.src i=u/\P.dst i=x)
 |0,_=>by
  simp only[graph];rw[ay,sy];constructor
  ·intro h;split at h<;>simp at h
  rintro⟨i,h,_⟩;omega
 |k+1,hf=>by
  have ih:=Uq (P:=P) (u:=u) (x:=x) (k:=k) λi hi=>hf i zo;have hk:=zh.1<|hf k zo;simp only[graph];rw[TQ<|by rw[zX];omega];split
  ·rename_i e;subst e;rw[de,ih,cM];constructor
   ·rintro(⟨i,h1,h2,h3⟩|h)
    ·exact⟨i,zo,h2,h3⟩
    exact⟨k,zo,zo,h.symm⟩
   rintro⟨i,h1,h2,h3⟩;by_cases e:i=k
   ·subst e;exact .inr h3.symm
   exact .inl ⟨i,zo,h2,h3⟩
  rename_i e;rw[ih];constructor
  ·rintro⟨i,h1,h2,h3⟩;exact⟨i,zo,h2,h3⟩
  rintro⟨i,h1,h2,h3⟩;refine⟨i,?_,h2,h3⟩;by_cases q:i=k
  ·subst q;omega
  omega
theorem Ee(P:ah):∀(k u:Nat),(P.graph k).getD u []=(P.graph k).getD u []/\((P.graph k).getD u []).length<=k
 |0,u=>⟨rfl,by
  simp only[graph];rw[ay,sy];split<;>simp⟩
 |k+1,u=>⟨rfl,by
  have h1:=(Ee P k u).2;have h2:=(Ee P k (P.src k).toNat).2;simp only[graph];by_cases q:(P.src k).toNat<(P.graph k).length
  ·rw[TQ q];split
   ·rw[cL,jt];omega
   omega
  rw[List.set_eq_of_length_le zo];omega⟩
def HA(P:ah)(v:Nat):Prop:=fx (P.graph P.aP.length) [P.rX P.nodes.length] v
open Classical in
noncomputable def aV(P:ah):Int :=
 if 20<P.nodes.length\/30<P.aP.length then 2
 else if P.wg≠0 then P.wg
 else if ¬∀i,i<P.aP.length->P.pn i=true then 1
 else if P.nF P.nodes.length≠1 then 1
 else if ¬∀i,i<P.nodes.length->P.tw i=true then 1
 else if ¬∀v,v<P.nodes.length->P.HA v then 6
 else 0
end ah
section
def gf(x:aM×Int):aZ:=[.sc (.string x.1),ab x.2]
def kg(x:Int×Int):aZ:=[ab x.1,ab x.2]
def ah.cells(P:ah):aZ:=[.a8 2<|P.nodes.map gf,.a8 2<|P.aP.map kg]
def cH(P:ah):D:=.agg P.cells
@[simp] theorem tq(x:aM×Int):ao<|gf x:=by simp[gf,ao,Pure]
variable(x:Int×Int)
@[simp] theorem Bz:ao<|kg x:=by simp[kg,ao,Pure]
variable(P:ah)
@[simp] theorem UM:ao P.cells:=by simp[ah.cells,ao,Pure,tq,Bz]
@[simp] theorem Jk:Pure<|cH P:=by simp[cH,Pure,UM]
variable{m:Nat}
@[simp] theorem zAT:aK m P.cells↔True:=⟨λ_=>trivial,λ_=>cu _<|UM P⟩
@[simp] theorem zAW(x:aM×Int):aK m (gf x)↔True:=⟨λ_=>trivial,λ_=>cu _<|tq x⟩
@[simp] theorem zAq:aK m (kg x)↔True:=⟨λ_=>trivial,λ_=>cu _<|Bz x⟩
theorem xr{z:Nat}(hz:z=k)(h:k<P.nodes.length):(P.nodes.map gf)[z]? = some [.sc (.string<|P.name k),ab<|P.kind k]:=by
 subst hz;rw[cy,aG h];unfold ah.name ah.kind;rw[ay,aG h];rfl
theorem Ae{z:Nat}(hz:z=k)(h:k<P.aP.length):(P.aP.map kg)[z]? = some [ab<|P.src k,ab<|P.dst k]:=by
 subst hz;rw[cy,aG h];unfold ah.src ah.dst;rw[ay,aG h];rfl
structure ah.Fits(P:ah):Prop where
 nodes:P.nodes.length<=9223372036854775807
 aP:P.aP.length<=9223372036854775807
 name:∀x∈P.nodes,x.1.size<=9223372036854775807
theorem ah.Fits.at{P:ah}(h:P.Fits)(hi:i<P.nodes.length):(P.name i).size<=9223372036854775807:=by
 unfold ah.name;rw[ay,aG hi];exact h.name _<|ig hi
variable{l:af}
theorem tS{x:Int}(h:c=l.length):List.drop 0 (List.take c<|aE l)++[[ab x]]=aE (l++[x]):=by
 subst h;rw[dt<|by simp[aE]];simp[aE]
theorem AV{H:aB}{id:Nat}{q:Bool}(hn:n=l.length)(h:H[id]? = some (.vec q v 1<|aE l)):Deep H (.own id v 0 n)<|aL l:=by
 subst hn;exact .own _ _ _ _ _ _ _ _ h<|by rw[dt<|by simp[aE]];exact fW _
theorem W5(hP:P.Fits)(hf:P.aP.length<=1000)(v:Int):ar aj 161 [cH P,ab v]<|aL<|P.cq v:=by
 have b:=hP.aP;refine bV ?_;rw[aS];refine dk (iF 5 1 zs rfl) ?_;refine bT [1,9,10] (λ((k,c,l):Nat×Nat×af)=>[(5,.own 1 c 0 c),(11,ab k)]) (λ(k,c,l)=>[(1,.vec true c 1<|aE l)]) (λ(k,c,l)=>k<=P.aP.length/\c=l.length/\c<=k/\l=ah.pick (λi=>P.dst i==v) k) (λ(k,c,l)=>P.aP.length-k) (0,0,[]) ?_;refine sW ?_;refine⟨⟨zo,rfl,zo,rfl⟩,by exact sK,rfl,?_⟩;rintro⟨k,c,l⟩ ⟨hk,hc,m8,hl⟩;refine bl (λh=>?_) λh=>?_
 ·have au:k<P.aP.length:=sO;refine sL (Ae P (k:=k) zo au) ?_;refine sS (λh2=>?_) λh2=>?_
  ·refine sJI ?_;refine⟨(k+1,c+1,l++[(k:Int)]),⟨zo,by simp[hc],zo,by rw[hl];simp[ah.pick,h2]⟩,zd,?_⟩;refine br 2 zs rfl sQ (sU ?_);exact bM<|tS hc
  refine sI ?_;refine⟨(k+1,c,l),⟨zo,hc,zo,by rw[hl];simp[ah.pick,h2]⟩,zd,?_⟩;exact br 2 zs rfl sQ sQ
 have au:k=P.aP.length:=by have:¬k<P.aP.length:=sO
                           omega
 subst au;subst hl;exact AV hc rfl
theorem V'(hP:P.Fits)(hf:P.aP.length<=1000)(v:Int):ar aj 162 [cH P,ab v]<|aL<|P.gB v:=by
 have b:=hP.aP;refine bV ?_;rw[aS];refine dk (iF 5 1 zs rfl) ?_;refine bT [1,9,10] (λ((k,c,l):Nat×Nat×af)=>[(5,.own 1 c 0 c),(11,ab k)]) (λ(k,c,l)=>[(1,.vec true c 1<|aE l)]) (λ(k,c,l)=>k<=P.aP.length/\c=l.length/\c<=k/\l=ah.pick (λi=>P.src i==v) k) (λ(k,c,l)=>P.aP.length-k) (0,0,[]) ?_;refine sW ?_;refine⟨⟨zo,rfl,zo,rfl⟩,by exact sK,rfl,?_⟩;rintro⟨k,c,l⟩ ⟨hk,hc,m8,hl⟩;refine bl (λh=>?_) λh=>?_
 ·have au:k<P.aP.length:=sO;refine sL (Ae P (k:=k) zo au) ?_;refine sS (λh2=>?_) λh2=>?_
  ·refine sJI ?_;refine⟨(k+1,c+1,l++[(k:Int)]),⟨zo,by simp[hc],zo,by rw[hl];simp[ah.pick,h2]⟩,zd,?_⟩;refine br 2 zs rfl sQ (sU ?_);exact bM<|tS hc
  refine sI ?_;refine⟨(k+1,c,l),⟨zo,hc,zo,by rw[hl];simp[ah.pick,h2]⟩,zd,?_⟩;exact br 2 zs rfl sQ sQ
 have au:k=P.aP.length:=by have:¬k<P.aP.length:=sO
                           omega
 subst au;subst hl;exact AV hc rfl
theorem znf(k i o:Int):ar aj 160 [ab k,ab i,ab o]<|aF<|ah.HX k i o:=by
 refine bV ?_;repeat' (first|refine sS (λh=>?_) λh=>?_|exact bL<|by unfold ah.HX;simp_all;try omega)
variable(l:List<|aM×Int)
theorem Tn(hl:l.length<=9223372036854775807)(p:aM×Int->Bool)(cl:FuncId)(cap:aZ)(hp:ao cap)(hc:∀a∈l,ar aj cl (.agg (gf a)::cap)<|aF<|p a) :
  ar aj 170 [.a8 2<|l.map gf,.fn (.func cl) [] cap] (ab<|ee p l):=by
 refine fi fZ zs (by simp[ao,Pure,hp,tq]) ?_ (by simp[Pure]);refine sR ?_;rw[aS];have fin:∀{z:Int},z=ee p l->Deep [] (ab z) (ab<|ee p l):=λh=>h▸.refl _;refine bT [0,1,7] (λk:Nat=>[(8,ab k)]) (λ_=>[]) (λk=>k<=l.length/\∀j (hj:j<k) (hl:j<l.length),p l[j]=false) (λk=>l.length-k) 0 ?_;refine sW ?_;refine⟨⟨zo,λj hj=>zo⟩,by exact sK,rfl,?_⟩;rintro k ⟨hk,cJ⟩;refine bl (λh=>?_) λh=>?_
 ·have au:k<l.length:=sO;refine⟨zo,gf l[k],by rw[cy,bS,aG au];rfl,?_⟩;refine sW ?_;refine sC (hc _<|ig au) ?_;refine sS (λh2=>?_) λh2=>?_
  ·exact fin (CC au h2 λj hj=>cJ j hj zo).symm
  refine sI ?_;refine⟨k+1,⟨zo,λj hj hl=>?_⟩,zd,bf (by exact sK) rfl⟩;by_cases e:j=k
  ·subst e;exact h2
  exact cJ j zo hl
 have au:¬k<l.length:=sO;exact fin (BP λj hj=>cJ j zo hj).symm
theorem Zj(hl:l.length<=9223372036854775807)(p:aM×Int->Bool)(cl:FuncId)(cap:aZ)(hp:ao cap)(hc:∀a∈l,ar aj cl (.agg (gf a)::cap)<|aF<|p a) :
  ar aj 219 [.a8 2<|l.map gf,.fn (.func cl) [] cap] (aF<|l.any p):=by
 refine fi fZ zs (by simp[ao,Pure,hp,tq]) ?_ (by simp[Pure]);refine sR ?_;refine sC (Tn l hl p cl cap hp hc) ?_;rw[sm];exact .refl _
theorem Wc(P:ah)(f:aM->Bool):∀i,i<=P.nodes.length->((P.nodes.take i).any λm=>f m.1)=(List.range i).any λk=>f (P.name k)
 |0,_=>rfl
 |i+1,h=>by
  rw[List.take_succ_eq_append_getElem zo,BG,Wc P f i zo,qa,BG]
  congr 1
  simp only[List.any_cons,List.any_nil,uL];unfold ah.name;rw[ay,aG zo];rfl
theorem zm2(m n:aM×Int):ar aj 220 [.agg<|gf m,.aN<|gf n]<|aF<|dH m.1 n.1:=by
 refine bV ?_;exact .refl _
theorem zpU(hP:P.Fits):ar aj 159 [cH P]<|ab P.wg:=by
 have b:=hP.nodes;refine bV ?_;rw[aS];have Ip:∀{H:aB} {z:Int} (k:Nat),k<P.nodes.length->(∀j,j<k->P.vo j=0)->P.vo k=z->z≠0->Deep H (ab z) (ab P.wg):=λk h1 h2 h3 h4=>by
  unfold ah.wg;rw[ah.Qo h1 h2<|by rw[h3];exact h4,h3];exact .refl _
 refine bT [1,6,7] (λk:Nat=>[(8,ab k)]) (λ_=>[]) (λk=>k<=P.nodes.length/\∀j,j<k->P.vo j=0) (λk=>P.nodes.length-k) 0 ?_;refine sW ?_;refine⟨⟨zo,λj hj=>zo⟩,by exact sK,rfl,?_⟩;rintro k ⟨hk,dg⟩;refine bl (λh=>?_) λh=>?_
 ·have au:k<P.nodes.length:=sO;refine sL (xr P (k:=k) zo au) ?_;refine sC (zw (P.name k)<|hP.at au) ?_;refine sS (λh1=>?_) λh1=>?_
  ·exact Ip k au dg (by unfold ah.vo;rw[ae (.inl<|by simpa using h1)]) zc
  have h1:ic<|P.name k:=(by simpa using h1);refine sS (λh2=>?_) λh2=>?_
  ·exact Ip k au dg (by unfold ah.vo;rw[ae (.inr (.inl<|sO))]) zc
  refine sS (λh3=>?_) λh3=>?_
  ·exact Ip k au dg (by unfold ah.vo;rw[ae (.inr (.inr<|sO))]) zc
  have c1:¬(ic (P.name k)=false\/P.kind k<1\/7<P.kind k):=by
   rintro(q|q|q)
   ·rw[h1] at q;cases q
   ·exact sO
   exact sO
  refine⟨zo,zo,by rw[aS];omega,?_⟩;refine sW ?_;rw[ft,bS,<-List.map_take];refine sN (Zj (P.nodes.take k) (by rw[gO];omega) (λm=>dH m.1<|P.name k) 220 [.aN<|gf (P.name k,P.kind k)] (by simp[ao,Pure,tq]) λa _=>zm2 a _) ?_;rw[Wc P (λs=>dH s<|P.name k) k zo];refine sS (λh4=>?_) λh4=>?_
  ·exact Ip k au dg (by unfold ah.vo;rw[aa c1,ae h4]) zc
  refine sI ?_;refine⟨k+1,⟨zo,λj hj=>?_⟩,zd,?_⟩
  ·by_cases e:j=k
   ·subst e;unfold ah.vo;rw[aa c1,aa<|by rw[h4];simp]
   exact dg j zo
  exact br 1 zs rfl sQ sQ
 have au:k=P.nodes.length:=by have:¬k<P.nodes.length:=sO
                              omega
 subst au;have e:P.wg=0:=ah.Jv.2 dg;rw[e];exact .refl _
end
section
def B2(n:Int):aZ:=[ab n]
theorem zot{m:Nat}(n:Int):aK m<|B2 n:=by simp[B2,aK,az]
theorem WN{f:Nat->Nat}{c:Nat}:∀n,(∀j,j<n->f j<=c)->iV f n<=n*c
 |0,_=>by simp[iV]
 |n+1,h=>by
  simp only[iV];have h1:=WN n λj hj=>h j zo;have h2:=h n zo;rw[iJ];omega
theorem zyS{α:Type}{ai:Nat}{c:α->aZ}{L:List<|List α}{T:aB}{a b:an}{K:aB->Prop}{o:an}(l:List α)(h:i<L.length)(ho:o=.vec true l.length ai (l.map c))(k:K<|a::b::(gw ai c (L.set i l)++T)):oI (a::b::(gw ai c L++T)) (i+2) o K:=by
 subst ho;rw[uP];refine⟨by simp;omega,?_⟩;rw[List.set_cons_succ,List.set_cons_succ,List.set_append_left _ _<|by simpa using h,UQ];exact k
variable(P:ah)
theorem zoU(h1:P.nodes.length<=20)(h2:P.aP.length<=30)(hf:∀i,i<P.aP.length->P.pn i) :
  od (P.graph P.aP.length)=0/\kL (P.graph P.aP.length)/\rN (P.graph P.aP.length) (λ_=>false)<=600:=by
 have hl:=P.zX P.aP.length;have row:∀l∈P.graph P.aP.length,∃u,l=(P.graph P.aP.length).getD u []:=λl hl=>by
  obtain⟨u,hu,rfl⟩:=kn.1 hl;exact⟨u,by rw[ay,aG hu];rfl⟩
 refine⟨zv.2 ⟨zo,λl h=>?_⟩,⟨zo,λl h=>?_⟩,?_⟩
 ·obtain⟨u,rfl⟩:=row l h;refine j9 λx hx=>?_;obtain⟨i,q1,_,q3⟩:=(ah.Uq hf).1 hx;have:=ah.zh.1<|hf i q1;rw[hl];omega
 ·obtain⟨u,rfl⟩:=row l h;have:=(P.Ee P.aP.length u).2;omega
 have:=WN (f:=λv=>if false=true then 0 else ((P.graph P.aP.length).getD v []).length) (c:=30) (P.graph P.aP.length).length λj _=>by
  have:=(P.Ee P.aP.length j).2;simp only[yQ,if_false];omega
 unfold rN;refine ia this ?_;rw[hl];omega
theorem zpK{H:aB}{id:Nat}{q:Bool}{L:ak}(h:H[id]? = some (.vec q v 1<|L.map λl=>[aL l]))(hn:n=L.length):Deep H (.own id v 0 n)<|bW L:=by
 subst hn;exact .own _ _ _ _ _ _ _ _ h<|by rw[dt zs];exact fW _
def zDq:PC:=SO [Bi 38 .lss 37 36] (.seq (CX 38 0) (.seq (.block 1<|SO [Ia 39 2 35 37,LA 40 2 39,q 6 (.alloc [v0,v0]),So 2 6 40] (.seq (SO [Fa 41 0 6,Lo 42 41,Bi 43 .lss 42 K0,qm 44 43,GF 45 44 (.gU 0 6),GF 46 44 (.fu 45),GF 47 44 (.move 4),GF 48 44 (.len 47),GF 49 44 (.bin .geq 46 48),Pk 50 44 cT 49,qm 51 50,GF 52 51 (.gU 1 6),GF 53 51 (.fu 52),GF 54 51 (.bin .lss 53 K0),Pk 55 51 cT 54,qm 56 55,GF 57 56 (.gU 1 6),GF 58 56 (.fu 57),GF 59 56 (.move 4),GF 60 56 (.len 59),GF 61 56 (.bin .geq 58 60),Pk 62 56 cT 61]<|If 62<|SO [Mv 2 K1] .ret) (.ops [qm 63 4,Fa 64 0 6,Ld 65 64 2,qm 66 4,Fa 67 0 6,Ld 68 67 16,Ja 69 1 66 68 56,Ld 70 69 120,Fa 71 1 6,Ld 72 71 256,qd 73 (.pX 1 1 [72]) 768,qd 74 (.append 1 8 70 73) 2040,Ja 75 1 63 65 4095,qk (.store 1 75 74) 8191] true)))<|OP [Bi 76 .add 37 K1,qm 37 76]))
def zDZ:PC:=SO [Bi 81 .lss 80 79] (.seq (CX 81 2) (.seq (.block 3<|SO [qm 82 80,Ia 83 2 78 80,LA 84 2 83,q 10 (.alloc [vS,v0]),qm 9 82,So 2 10 84]<|SO [Fa 85 1 10,Lo 86 85,Bi 87 .eql 86 K1]<|If 87<|SO [qm 88 9,qm 7 88]<|OP [qm 89 8,Bi 90 .add 89 K1,qm 8 90])<|OP [Bi 91 .add 80 K1,qm 80 91]))
def zDw:PC:=SO [Bi 98 .lss 97 96] (.seq (CX 98 4) (.seq (.block 5<|SO [qm 99 97,Ia 100 2 95 97,LA 101 2 100,q 12 (.alloc [vS,v0]),qm 11 99,So 2 12 101] (.seq (.ops [Fa 102 1 12,Ld 103 102 1,LA 104 2 1,qm 105 11,Cd 106 161 [104,105] 12,qd 107 (.len 106) 28,LA 108 2 1,qm 109 11,Cd 110 162 [108,109] 220,qd 111 (.len 110) 476,Cd 112 160 [103,107,111] 1023,qd 113 (.un .not 112) 2047] true)<|If 113<|SO [Mv 2 K1] .ret))<|OP [Bi 114 .add 97 K1,qm 97 114]))
def c66:PC:=SO [Bx 1 0,Mv 2 K0] (.seq (SO [Fa 15 0 1,Lo 16 15,Ln 17 16,Bi 18 .gtr 17<|cI 20,qm 19 18,GF 20 19 (.gU 1 1),GF 21 19 (.fu 20),GF 22 19 (.len 21),GF 23 19 (.bin .gtr 22<|cI 30),Pk 24 19 cT 23]<|If 24<|SO [Mv 2 K2] .ret) (.seq (SO [LA 25 2 1,Ca 26 159 [25],qm 3 26]<|SO [qm 27 3,Bi 28 .neq 27 K0]<|If 28<|SO [qm 29 3,qm 2 29] .ret)<|SO [Fa 30 0 1,Lo 31 30,Ln 32 31,q 33 (.wo 1 24 [vN] 32 32),qm 4 33] (.seq (SO [Fa 34 1 1,Lo 35 34,Ln 36 35,Mv 37 K0] (.stop<|BL 0 zDq))<|SO [Mv 7<|cI (-1),Mv 8 K0] (.seq (SO [Fa 77 0 1,Lo 78 77,Ln 79 78,Mv 80 K0]<|BL 2 zDZ) (.seq (SO [qm 92 8,Bi 93 .neq 92 K1]<|If 93<|SO [Mv 2 K1] .ret) (.seq (SO [Fa 94 0 1,Lo 95 94,Ln 96 95,Mv 97 K0]<|BL 4 zDw) (.seq (SO [qm 116 4,qm 117 7,Bs 118 1 1 [117],Ca 119 163 [116,118],qm 115 119,Xt 120 0 115,Xt 121 1 115,qm 13 120,qm 14 121]<|SO [qm 122 13,Ca 123 164 [122,cF]]<|If 123<|SO [Mv 2 K6] .ret)<|SO [Mv 2 K0] .ret)))))))
theorem Le(hP:P.Fits):ar aj 66 [cH P]<|ab P.aV:=by
 have b1:=hP.nodes;have b2:=hP.aP;refine bz (fJ 124 [.tmp 2] c66 Tryz.func66) ?_;refine sR ?_;rw[aS];have fin:∀{H:aB} {z:Int},z=P.aV->Deep H (ab z) (ab P.aV):=λh=>h▸.refl _;refine sS (λh1=>?_) λh1=>?_
 ·exact fin<|by unfold ah.aV;rw[ae (.inl<|sO)]
 rw[aS];refine sS (λh2=>?_) λh2=>?_
 ·exact fin<|by unfold ah.aV;rw[ae (.inr<|sO)]
 have c1:¬(20<P.nodes.length\/30<P.aP.length):=sO;refine sC (zpU P hP) ?_;refine sS (λh3=>?_) λh3=>?_
 ·have h3:P.wg≠0:=sO;exact fin<|by unfold ah.aV;rw[aa c1,ae h3]
 have c2:¬P.wg≠0:=sO;rw[aS];refine⟨zo,zo,zo,?_⟩;rw[bS];refine sW ?_;rw[aS];refine Bo (λ_:Unit=>[(1,.loc 0 0),(4,.own 1 0 0 P.nodes.length)]) (λ_=>[.row true P.cells,.vec true 0 1<|(P.graph P.aP.length).map λl=>[aL l]]) (λ_=>∀i,i<P.aP.length->P.pn i=true) ?_ ?_
 ·refine sR ?_;refine dk (Gb 1 1 P.nodes.length 0 zs rfl) ?_;refine fy [1,4,35,36] (λk:Nat=>[(37,ab k)]) (λk=>.row true P.cells::.vec true 0 1 (lr 2<|P.graph k)::gw 1 B2 (P.graph k)) (λk=>k<=P.aP.length/\∀i,i<k->P.pn i=true) (λk=>P.aP.length-k) 0 ?_;refine sW ?_;refine⟨⟨zo,λi hi=>zo⟩,by exact sK,?_,?_⟩
  ·show _::_::_=_::_::_;rw[GI 1 _ B2];exact bK (λx=>an.row true P.cells::an.vec true 0 1 x::_)<|IX (α:=Int) 2 _
  rintro k ⟨hk,dg⟩;have hgl:=P.zX k;refine bl (λh=>?_) λh=>?_
  ·have au:k<P.aP.length:=sO;refine sL (Ae P (k:=k) zo au) ?_;refine D0 ?_;refine sW ?_
   (repeat (first|(refine kM 0 rfl ?_;((conv=>whnf);repeat(refine⟨rfl,?_⟩;conv=>whnf)))|(refine kP 0 rfl ?_;((conv=>whnf);repeat(refine⟨rfl,?_⟩;conv=>whnf)))|(refine kM 1 rfl ?_;((conv=>whnf);repeat(refine⟨rfl,?_⟩;conv=>whnf)))|(refine kP 1 rfl ?_;((conv=>whnf);repeat(refine⟨rfl,?_⟩;conv=>whnf)))))
   have bad:∀{H:aB},P.pn k=false->Deep H (ab 1) (ab P.aV):=λh=>fin (by
    unfold ah.aV;rw[aa c1,aa c2,ae];intro q;rw[q k au] at h;cases h)
   have nok:¬(0<=P.src k/\P.src k<P.nodes.length/\0<=P.dst k/\P.dst k<P.nodes.length)->P.pn k=false:=λh=>by rw[<-mP,ah.zh];exact h
   refine sS (λh4=>?_) λh4=>?_
   ·exact bad<|nok<|sO
   (repeat (first|(refine kM 0 rfl ?_;((conv=>whnf);repeat(refine⟨rfl,?_⟩;conv=>whnf)))|(refine kP 0 rfl ?_;((conv=>whnf);repeat(refine⟨rfl,?_⟩;conv=>whnf)))|(refine kM 1 rfl ?_;((conv=>whnf);repeat(refine⟨rfl,?_⟩;conv=>whnf)))|(refine kP 1 rfl ?_;((conv=>whnf);repeat(refine⟨rfl,?_⟩;conv=>whnf)))))
   refine sS (λh5=>?_) λh5=>?_
   ·exact bad<|nok<|sO
   (repeat (first|(refine kM 0 rfl ?_;((conv=>whnf);repeat(refine⟨rfl,?_⟩;conv=>whnf)))|(refine kP 0 rfl ?_;((conv=>whnf);repeat(refine⟨rfl,?_⟩;conv=>whnf)))|(refine kM 1 rfl ?_;((conv=>whnf);repeat(refine⟨rfl,?_⟩;conv=>whnf)))|(refine kP 1 rfl ?_;((conv=>whnf);repeat(refine⟨rfl,?_⟩;conv=>whnf)))))
   refine sS (λh6=>?_) λh6=>?_
   ·exact bad<|nok<|sO
   (repeat (first|(refine kM 0 rfl ?_;((conv=>whnf);repeat(refine⟨rfl,?_⟩;conv=>whnf)))|(refine kP 0 rfl ?_;((conv=>whnf);repeat(refine⟨rfl,?_⟩;conv=>whnf)))|(refine kM 1 rfl ?_;((conv=>whnf);repeat(refine⟨rfl,?_⟩;conv=>whnf)))|(refine kP 1 rfl ?_;((conv=>whnf);repeat(refine⟨rfl,?_⟩;conv=>whnf)))))
   refine sS (λh7=>?_) λh7=>?_
   ·exact bad<|nok<|sO
   have aA:P.pn k:=ah.zh.2<|sO;have ho:=ah.zh.1 aA;have dV:=(P.Ee k (P.src k).toNat).2
   (repeat (first|(refine kM 0 rfl ?_;((conv=>whnf);repeat(refine⟨rfl,?_⟩;conv=>whnf)))|(refine kP 0 rfl ?_;((conv=>whnf);repeat(refine⟨rfl,?_⟩;conv=>whnf)))|(refine kM 1 rfl ?_;((conv=>whnf);repeat(refine⟨rfl,?_⟩;conv=>whnf)))|(refine kP 1 rfl ?_;((conv=>whnf);repeat(refine⟨rfl,?_⟩;conv=>whnf)))))
   refine sB ?_;refine⟨_,pH (i:=(P.src k).toNat) zo zo,?_⟩;refine sW ?_
   (repeat (first|(refine kM 0 rfl ?_;((conv=>whnf);repeat(refine⟨rfl,?_⟩;conv=>whnf)))|(refine kP 0 rfl ?_;((conv=>whnf);repeat(refine⟨rfl,?_⟩;conv=>whnf)))|(refine kM 1 rfl ?_;((conv=>whnf);repeat(refine⟨rfl,?_⟩;conv=>whnf)))|(refine kP 1 rfl ?_;((conv=>whnf);repeat(refine⟨rfl,?_⟩;conv=>whnf)))))
   refine zxg ?_;refine sW ?_
   (repeat (first|(refine kM 0 rfl ?_;((conv=>whnf);repeat(refine⟨rfl,?_⟩;conv=>whnf)))|(refine kP 0 rfl ?_;((conv=>whnf);repeat(refine⟨rfl,?_⟩;conv=>whnf)))|(refine kM 1 rfl ?_;((conv=>whnf);repeat(refine⟨rfl,?_⟩;conv=>whnf)))|(refine kP 1 rfl ?_;((conv=>whnf);repeat(refine⟨rfl,?_⟩;conv=>whnf)))))
   refine Dm zo ?_;refine sW ?_;refine⟨by unfold mu;simp only[mi,gO,cj,dE];omega,?_⟩;refine zyS (((P.graph k).getD (P.src k).toNat [])++[P.dst k]) zo ?_ ?_
   ·exact FD
   refine ew ?_;refine⟨_,pH (i:=(P.src k).toNat) zo zo,?_⟩;refine sW ?_;have b7:(P.src k).toNat≠(P.graph k).length:=zo
   (refine zCa (by dsimp only[q,qm,qw,qd,qn,qk];simp[Cr,Bt,tB,YZ,ztm,zsh,zwQ,uI,Zm,b7]) ?_;((conv=>whnf);repeat(refine⟨rfl,?_⟩;conv=>whnf)))
   refine sI ?_;refine⟨k+1,⟨zo,λi hi=>?_⟩,zd,?_⟩
   ·by_cases e:i=k
    ·subst e;exact aA
    exact dg i zo
   refine br (P.nodes.length+2) zs (by simp[hgl,ah.zX]) (by exact sQ) ⟨⟨rfl,.refl _,zs⟩,⟨rfl,rfl,rfl,bM ?_,EA<|by rw[ah.zX];omega⟩,EG zot⟩;exact Ep zo zo _ zs
  have nY:k=P.aP.length:=by have:¬k<P.aP.length:=sO
                            omega
  subst nY;refine⟨(),dg,br 2 zs rfl (by exact sQ) ⟨⟨rfl,.refl _,zs⟩,⟨rfl,rfl,rfl,Ms (c:=B2) (λi hi=>by simp[lF]) λi hi=>?_,by simp[aK]⟩,Of _⟩⟩;show(gw 1 B2<|P.graph P.aP.length)[i]? = _;exact Bn hi
 rintro _ dg;refine sW ?_;rw[aS];have c3:¬¬∀i,i<P.aP.length->P.pn i=true:=λq=>q dg;refine bT [1,4,78,79] (λ((k,s,m):Nat×Int×Int)=>[(7,ab s),(8,ab m),(80,ab k)]) (λ_=>[]) (λ(k,s,m)=>k<=P.nodes.length/\s=P.rX k/\m=P.nF k) (λ(k,s,m)=>P.nodes.length-k) (0,-1,0) ?_;refine sW ?_;refine⟨⟨zo,rfl,rfl⟩,by exact sK,rfl,?_⟩;rintro⟨k,s,m⟩ ⟨hk,hs,hm⟩;refine bl (λh=>?_) λh=>?_
 ·have au:k<P.nodes.length:=sO;have hle:=P.Xm k;refine sL (xr P (k:=k) zo au) ?_;refine sS (λh4=>?_) λh4=>?_
  ·have h4:P.kind k=1:=sO;refine sI ?_;refine sI ?_;refine⟨(k+1,k,m+1),⟨zo,by simp[ah.rX,h4],by simp[ah.nF,h4,hm]⟩,zd,?_⟩;exact br 2 zs rfl sQ sQ
  have h4:P.kind k≠1:=sO;refine sI ?_;refine⟨(k+1,s,m),⟨zo,by simp[ah.rX,h4,hs],by simp[ah.nF,h4,hm]⟩,zd,?_⟩;exact br 2 zs rfl sQ sQ
 have nY:k=P.nodes.length:=by have:¬k<P.nodes.length:=sO
                              omega
 subst hs hm;subst nY;clear h hk;refine sS (λh4=>?_) λh4=>?_
 ·have h4:P.nF P.nodes.length≠1:=sO;exact fin<|by unfold ah.aV;rw[aa c1,aa c2,aa c3,ae h4]
 have h4:P.nF P.nodes.length=1:=sO;have b8:=P.SN P.nodes.length zo;have c4:¬P.nF P.nodes.length≠1:=λq=>q h4;rw[aS];refine bT [1,4,7,95,96] (λk:Nat=>[(97,ab k)]) (λ_=>[]) (λk=>k<=P.nodes.length/\∀i,i<k->P.tw i=true) (λk=>P.nodes.length-k) 0 ?_;refine sW ?_;refine⟨⟨zo,λi hi=>zo⟩,by exact sK,rfl,?_⟩;rintro k ⟨hk,aA⟩;refine bl (λh=>?_) λh=>?_
 ·have au:k<P.nodes.length:=sO;refine sL (xr P (k:=k) zo au) ?_;refine sC (W5 P hP zo k) ?_;refine sC (V' P hP zo k) ?_;rw[aS,aS];refine sC (znf (P.kind k) (P.cq k).length (P.gB k).length) ?_;refine sS (λh5=>?_) λh5=>?_
  ·exact fin (by
    unfold ah.aV;rw[aa c1,aa c2,aa c3,aa c4,ae];intro q;have:=q k au;unfold ah.tw at this;rw[this] at h5;cases h5)
  refine sI ?_;refine⟨k+1,⟨zo,λi hi=>?_⟩,zd,?_⟩
  ·by_cases e:i=k
   ·subst e;unfold ah.tw;simpa using h5
   exact aA i zo
  exact br 2 zs rfl sQ sQ
 have nY:k=P.nodes.length:=by have:¬k<P.nodes.length:=sO
                              omega
 subst nY;have c5:¬¬∀i,i<P.nodes.length->P.tw i:=λq=>q aA;obtain⟨g1,g2,g3⟩:=zoU P zo zo dg;have hlen:=P.zX P.aP.length
 refine .inr (.inr (.inr (.inr (.inr (.inl ⟨rfl,_,_,.cons _ _ _ _ (zpK rfl hlen.symm) (.cons _ _ _ _ (AV (l:=[P.rX P.nodes.length]) rfl rfl) .nil),
  Sq (P.graph P.aP.length) g1 g2 [P.rX P.nodes.length] (j9 λx hx=>by rw[cM] at hx;subst hx;omega) (by simp;omega),?_⟩)))))
 refine sW ?_;refine sC (zf9 _ (rS (P.graph P.aP.length) [P.rX P.nodes.length]) zo false) ?_;rw[hlen];refine sS (λh6=>?_) λh6=>?_
 ·obtain⟨v,q1,q2⟩:=VQ.1 h6;exact fin (by
   unfold ah.aV;rw[aa c1,aa c2,aa c3,aa c4,aa c5,ae];intro q;rw[AO.2<|q v q1] at q2;cases q2)
 exact fin (by
  unfold ah.aV;rw[aa c1,aa c2,aa c3,aa c4,aa c5,aa];intro q;refine q λv hv=>?_;unfold ah.HA;rw[<-AO,<-Bool.not_eq_false];intro q2;rw[VQ.2 ⟨v,hv,q2⟩] at h6;cases h6)
end
section
end
section
noncomputable def ah.lv(P:ah)(n:Int):Int:=if P.aV≠0 then P.aV else if n<0\/(P.nodes.length:Int)<=n then 1 else 0
theorem ky{P:ah}(h:P.aV=0):P.nodes.length<=20/\P.aP.length<=30:=by
 unfold ah.aV at h;split at h
 ·exact absurd h zc
 omega
variable(P:ah)
theorem Uo(hP:P.Fits)(n:Int)(f:FuncId)(l:af)(hl:P.lv n=0->ar aj f [cH P,ab n] (aL l))(hb:P.lv n≠0->l=[]) :
  ar aj 223 [cH P,ab n,.fn (.func f) [] []] (.aJ [aL l,ab<|P.lv n]):=by
 have b1:=hP.nodes;refine bz fZ ?_;have bad:∀{H:aB} {e:Int},e≠0->P.lv n=e->Deep H (.aJ [bC,ab e]) (.aJ [aL l,ab<|P.lv n]):=λh k=>by
  rw[k,hb<|by rw[k];exact h];exact .aJ _ _ (.cons _ _ _ _ (.none _) (.cons _ _ _ _ (.refl _) .nil))
 refine sR ?_;refine sC (Le P hP) ?_;refine sS (λh1=>?_) λh1=>?_
 ·have h1:P.aV≠0:=sO;exact bad h1<|by unfold ah.lv;rw[ae h1]
 have h1:P.aV=0:=sO;refine sS (λh2=>?_) λh2=>?_
 ·exact bad zc<|by unfold ah.lv;rw[aa zo,ae (.inl<|sO)]
 rw[aS];refine sS (λh3=>?_) λh3=>?_
 ·exact bad zc<|by unfold ah.lv;rw[aa zo,ae (.inr<|sO)]
 have e:P.lv n=0:=by unfold ah.lv;rw[aa zo,aa<|sO]
 refine sC (hl e) ?_;rw[e];exact .refl _
noncomputable def ah.xD(P:ah)(n:Int):af:=if P.lv n=0 then P.cq n else []
noncomputable def ah.x7(P:ah)(n:Int):af:=if P.lv n=0 then P.gB n else []
theorem GG(hP:P.Fits)(n:Int):ar aj 165 [cH P,ab n] (.aJ [aL<|P.xD n,ab<|P.lv n]):=by
 refine bV ?_;refine sC (Uo P hP n 161 (P.xD n) (λh=>by
  unfold ah.xD;rw[ae h];refine W5 P hP ?_ n;unfold ah.lv at h;split at h
  ·rename_i q;exact absurd h q
  rename_i q;have:=ky<|Classical.not_not.1 q;omega) (λh=>by unfold ah.xD;rw[aa h])) ?_
 exact .refl _
theorem Xi(hP:P.Fits)(n:Int):ar aj 166 [cH P,ab n] (.aJ [aL<|P.x7 n,ab<|P.lv n]):=by
 refine bV ?_;refine sC (Uo P hP n 162 (P.x7 n) (λh=>by
  unfold ah.x7;rw[ae h];refine V' P hP ?_ n;unfold ah.lv at h;split at h
  ·rename_i q;exact absurd h q
  rename_i q;have:=ky<|Classical.not_not.1 q;omega) (λh=>by unfold ah.x7;rw[aa h])) ?_
 exact .refl _
end
abbrev bQ:=Int×Int×Int
def tR:Nat->Int
 |0=>0
 |k+1=>tR k*2+1
theorem Ib:∀k,tR k+1=2^k
 |0=>rfl
 |k+1=>by have:=Ib k;simp only[tR];rw[Int.pow_succ];omega
theorem Ao(h:k<=n):(2:Int)^k<=2^n:=by
 have:=Dw (n:=2) zc h;have h1:((2^k:Nat):Int)=2^k:=zs;have h2:((2^n:Nat):Int)=2^n:=zs;rw[<-h1,<-h2]
 exact_mod_cast this
theorem BS(k:Nat):(1:Int)<=2^k:=Ao<|b9 k
theorem LY(h:k<=n):0<=tR k/\tR k<=tR n:=by
 have h1:=Ib k;have h2:=Ib n;have h3:=Ao h;have h4:=BS k;omega
def orS(n:Int):Nat->List bQ
 |0=>[]
 |k+1=>orS n k++[(n,-1,(k:Int)+1)]
def xK(n i:Int):Nat->List bQ
 |0=>[]
 |k+1=>xK n i k++[(n,i,2^k)]
theorem U8(n:Int):∀k,(orS n k).length=k
 |0=>rfl
 |k+1=>by simp[orS,U8 n k]
theorem Uz(n i:Int):∀k,(xK n i k).length=k
 |0=>rfl
 |k+1=>by simp[xK,Uz n i k]
namespace ah
def kA(P:ah)(n:Int):Int:=tR (P.gB n).length
def rj(P:ah)(k:Int)(n i:Int):List bQ:=if k=5 then xK n i (P.gB n).length else [(n,i,P.kA n)]
def oE(P:ah)(k:Int)(n:Int):Nat->List bQ
 |0=>[]
 |j+1=>P.oE k n j++P.rj k n ((P.cq n).getD j 0)
def vg(P:ah)(n:Nat):List bQ :=
 if P.kind n=4\/P.kind n=5\/P.kind n=2\/P.kind n=3 then P.oE (P.kind n) n (P.cq n).length
 else if P.kind n=6 then [((n:Int),-1,P.kA n)]
 else if P.kind n=7 then orS n (P.kA n).toNat
 else []
def oT(P:ah):Nat->List bQ
 |0=>[]
 |n+1=>P.oT n++P.vg n
theorem Nu(P:ah)(k n:Int)(ho:(P.gB n).length<=30):∀j,(P.oE k n j).length<=30*j
 |0=>by simp[oE]
 |j+1=>by
  have:=Nu P k n ho j;simp only[oE,rj,cL];split
  ·rw[Uz];omega
  simp;omega
variable{P:ah}
theorem R5(h:P.tw n)(hk:P.kind n=7):(P.kA n).toNat<=15:=by
 unfold tw HX at h;rw[hk] at h;simp only[if_false,if_true,dL,c6,(by decide:¬(7:Int)=1),(by decide:¬((7:Int)=2\/(7:Int)=3)),(by decide:¬(7:Int)=4)] at h;have:=(LY (k:=(P.gB n).length) (n:=4) zo).2;have e:tR 4=15:=rfl;unfold kA;omega
theorem RL(h:P.tw n)(hf:P.aP.length<=30):(P.vg n).length<=900:=by
 have l1:=P.Er n;have l2:=P.EK n;unfold vg;split
 ·have:=P.Nu (P.kind n) n zo (P.cq n).length;omega
 split
 ·simp
 split
 ·rw[U8];have:=R5 h (by assumption);omega
 simp
theorem Qi{P:ah}(hf:P.aP.length<=30):∀n,(∀i,i<n->P.tw i)->(P.oT n).length<=900*n
 |0,_=>by simp[oT]
 |n+1,h=>by
  have:=Qi hf n λi hi=>h i zo;have:=RL (h n zo) hf;simp only[oT,cL];omega
theorem Rp(h:P.aV=0):∀i,i<P.nodes.length->P.tw i:=by
 unfold aV at h;repeat' (split at h)
 all_goals first|(exact absurd h zc)|(exact absurd h<|by assumption)|skip
 all_goals exact Classical.not_not.1<|by assumption
noncomputable def dp(P:ah):Int:=if P.aV≠0 then P.aV else if 60<(P.oT P.nodes.length).length then 2 else 0
noncomputable def aC(P:ah):List bQ:=if P.dp=0 then P.oT P.nodes.length else []
end ah
section
def xn(x:bQ):aZ:=[ab x.1,ab x.2.1,ab x.2.2]
def jA(l:List bQ):fp:=l.map xn
def nv(l:List bQ):D:=.a8 3<|jA l
@[simp] theorem ztp(x:bQ):ao<|xn x:=by simp[xn,ao,Pure]
variable(l:List bQ)
@[simp] theorem WQ:dX<|jA l:=cO _ ztp l
@[simp] theorem F6:Pure<|nv l:=by simp[nv,Pure,WQ]
theorem Br:(jA l).length=l.length:=by simp[jA]
@[simp] theorem zx6{m:Nat}:bN m (jA l)↔True:=⟨λ_=>trivial,λ_=>bP _<|WQ l⟩
variable{l:List bQ}{z:Int}
theorem FI{y:Int}(h:c=l.length):List.drop 0 (List.take c<|jA l)++[[ab x,ab y,ab z]]=jA (l++[(x,y,z)]):=by
 subst h;rw[dt<|by simp[jA]];simp[jA,xn]
theorem YO{r:List bQ}(h:c=l.length):List.drop 0 (List.take c<|jA l)++jA r=jA (l++r):=by
 subst h;rw[dt<|by simp[jA]];simp[jA]
theorem zU{H:aB}{id:Nat}{q:Bool}(hn:n=l.length)(h:H[id]? = some (.vec q v 3<|jA l)):Deep H (.own id v 0 n)<|nv l:=by
 subst hn;exact .own _ _ _ _ _ _ _ _ h<|by rw[dt<|by simp[jA]];exact fW _
theorem UD(hk:z=k)(h:k<=30):(1:Int)*2^min z.toNat IntKind.i64.bits=2^k:=by
 subst hk;show(1:Int)*2^min (k:Int).toNat 64=2^k;rw[Int.one_mul,bS,tJ zo]
theorem Rh(h:k<=30):(1:Int)<=2^k/\(2:Int)^k<=1073741824:=⟨BS k,Ao (n:=30) h⟩
theorem Zg(P:ah)(hP:P.Fits)(h0:P.aV=0)(n:Nat)(hn:n<P.nodes.length):ar aj 67 [cH P,ab n]<|nv<|P.vg n:=by
 obtain⟨tF,pd⟩:=ky h0;have l1:=P.Er n;have l2:=P.EK n;have hE:P.lv n=0:=by unfold ah.lv;rw[aa zo,aa zo]
 have hI:=GG P hP n;have hO:=Xi P hP n;rw[show P.xD n=P.cq n from by unfold ah.xD;rw[ae hE],hE] at hI;rw[show P.x7 n=P.gB n from by unfold ah.x7;rw[ae hE],hE] at hO;have aA:=ah.Rp h0 n hn;refine bV ?_;refine sC hI ?_;refine sC hO ?_;have e2:=Ib (P.gB n).length;have e3:=Rh (k:=(P.gB n).length) zo;have ea:tR (P.gB n).length=P.kA n:=rfl;have ei:∀k,P.oE (P.kind n) n (k+1)=P.oE (P.kind n) n k++P.rj (P.kind n) n ((P.cq n).getD k 0):=λk=>rfl;rw[ea] at e2;refine⟨zo,?_⟩;rw[aS,UD (k:=(P.gB n).length) rfl zo];refine sI ?_;refine sI ?_;rw[<-e2,Int.add_sub_cancel];refine sL (xr P (k:=n) zo hn) ?_
 have eS:P.vg n=if P.kind n=4\/P.kind n=5\/P.kind n=2\/P.kind n=3 then P.oE (P.kind n) n (P.cq n).length
  else if P.kind n=6 then [((n:Int),-1,P.kA n)] else if P.kind n=7 then orS n (P.kA n).toNat else []:=rfl
 refine sS (λh4=>?_) λh4=>?_
 ·have h4:P.kind n=4:=sO;rw[ae zo] at eS;have e5:∀i:Int,P.rj (P.kind n) n i=[((n:Int),i,P.kA n)]:=λi=>by unfold ah.rj;rw[aa zo]
  refine sW ?_;rw[aS];refine dk (iF 10 3 zs rfl) ?_;refine bT [1,9,43,44] (λ((k,c,l):Nat×Nat×List bQ)=>[(10,.own 1 c 0 c),(45,ab k)]) (λ(k,c,l)=>[(1,.vec true c 3<|jA l)]) (λ(k,c,l)=>k<=(P.cq n).length/\c=l.length/\c=k/\l=P.oE (P.kind n) n k) (λ(k,c,l)=>(P.cq n).length-k) (0,0,[]) ?_;refine sW ?_;refine⟨⟨zo,rfl,rfl,rfl⟩,by exact sK,rfl,?_⟩;rintro⟨k,c,l⟩ ⟨hk,hc,m8,hl⟩;refine bl (λh1=>?_) λh1=>?_
  ·have au:k<(P.cq n).length:=sO;refine sL (eY (k:=k) zo au) ?_;refine sJI ?_;refine⟨(k+1,c+1,l++[((n:Int),(P.cq n).getD k 0,P.kA n)]),⟨zo,by simp[hc],zo,by rw[ei,e5,hl]⟩,zd,?_⟩;refine br 2 zs rfl sQ (sU ?_);exact bM<|FI hc
  have au:k=(P.cq n).length:=by have:¬k<(P.cq n).length:=sO
                                omega
  subst au;rw[eS,<-hl];exact zU hc rfl
 have h4:P.kind n≠4:=sO;refine sS (λh2=>?_) λh2=>?_
 ·have h2:P.kind n=2:=sO;rw[ae zo] at eS;have e5:∀i:Int,P.rj (P.kind n) n i=[((n:Int),i,P.kA n)]:=λi=>by unfold ah.rj;rw[aa zo]
  refine sW ?_;rw[aS];refine dk (iF 10 3 zs rfl) ?_;refine bT [1,9,43,44] (λ((k,c,l):Nat×Nat×List bQ)=>[(10,.own 1 c 0 c),(45,ab k)]) (λ(k,c,l)=>[(1,.vec true c 3<|jA l)]) (λ(k,c,l)=>k<=(P.cq n).length/\c=l.length/\c=k/\l=P.oE (P.kind n) n k) (λ(k,c,l)=>(P.cq n).length-k) (0,0,[]) ?_;refine sW ?_;refine⟨⟨zo,rfl,rfl,rfl⟩,by exact sK,rfl,?_⟩;rintro⟨k,c,l⟩ ⟨hk,hc,m8,hl⟩;refine bl (λh1=>?_) λh1=>?_
  ·have au:k<(P.cq n).length:=sO;refine sL (eY (k:=k) zo au) ?_;refine sJI ?_;refine⟨(k+1,c+1,l++[((n:Int),(P.cq n).getD k 0,P.kA n)]),⟨zo,by simp[hc],zo,by rw[ei,e5,hl]⟩,zd,?_⟩;refine br 2 zs rfl sQ (sU ?_);exact bM<|FI hc
  have au:k=(P.cq n).length:=by have:¬k<(P.cq n).length:=sO
                                omega
  subst au;rw[eS,<-hl];exact zU hc rfl
 have h2:P.kind n≠2:=sO;refine sS (λh3=>?_) λh3=>?_
 ·have h3:P.kind n=3:=sO;rw[ae zo] at eS;have e5:∀i:Int,P.rj (P.kind n) n i=[((n:Int),i,P.kA n)]:=λi=>by unfold ah.rj;rw[aa zo]
  refine sW ?_;rw[aS];refine dk (iF 10 3 zs rfl) ?_;refine bT [1,9,43,44] (λ((k,c,l):Nat×Nat×List bQ)=>[(10,.own 1 c 0 c),(45,ab k)]) (λ(k,c,l)=>[(1,.vec true c 3<|jA l)]) (λ(k,c,l)=>k<=(P.cq n).length/\c=l.length/\c=k/\l=P.oE (P.kind n) n k) (λ(k,c,l)=>(P.cq n).length-k) (0,0,[]) ?_;refine sW ?_;refine⟨⟨zo,rfl,rfl,rfl⟩,by exact sK,rfl,?_⟩;rintro⟨k,c,l⟩ ⟨hk,hc,m8,hl⟩;refine bl (λh1=>?_) λh1=>?_
  ·have au:k<(P.cq n).length:=sO;refine sL (eY (k:=k) zo au) ?_;refine sJI ?_;refine⟨(k+1,c+1,l++[((n:Int),(P.cq n).getD k 0,P.kA n)]),⟨zo,by simp[hc],zo,by rw[ei,e5,hl]⟩,zd,?_⟩;refine br 2 zs rfl sQ (sU ?_);exact bM<|FI hc
  have au:k=(P.cq n).length:=by have:¬k<(P.cq n).length:=sO
                                omega
  subst au;rw[eS,<-hl];exact zU hc rfl
 have h3:P.kind n≠3:=sO;refine sS (λh5=>?_) λh5=>?_
 ·have h5:P.kind n=5:=sO;rw[ae zo] at eS;have e5:∀i:Int,P.rj (P.kind n) n i=xK n i (P.gB n).length:=λi=>by unfold ah.rj;rw[ae h5]
  refine sW ?_;rw[aS];refine dk (iF 10 3 zs rfl) ?_;refine bT [1,7,59,60] (λ((k,c,l):Nat×Nat×List bQ)=>[(10,.own 1 c 0 c),(61,ab k)]) (λ(k,c,l)=>[(1,.vec true c 3<|jA l)]) (λ(k,c,l)=>k<=(P.cq n).length/\c=l.length/\l=P.oE (P.kind n) n k) (λ(k,c,l)=>(P.cq n).length-k) (0,0,[]) ?_;refine sW ?_;refine⟨⟨zo,rfl,rfl⟩,by exact sK,rfl,?_⟩;rintro⟨k,c,l⟩ ⟨hk,hc,hl⟩;refine bl (λh1=>?_) λh1=>?_
  ·have au:k<(P.cq n).length:=sO;refine sL (eY (k:=k) zo au) ?_;rw[aS];have b1:=P.Nu (P.kind n) n zo k;have b2:l.length=(P.oE (P.kind n) n k).length:=(by rw[hl]);refine bT [1,7,14,59,60,61,66] (λ((j,c',m):Nat×Nat×List bQ)=>[(10,.own 1 c' 0 c'),(67,ab j)]) (λ(j,c',m)=>[(1,.vec true c' 3<|jA m)]) (λ(j,c',m)=>j<=(P.gB n).length/\c'=m.length/\c'=l.length+j/\m=l++xK n ((P.cq n).getD k 0) j) (λ(j,c',m)=>(P.gB n).length-j) (0,c,l) ?_;refine sW ?_;refine⟨⟨zo,hc,hc,(oR l).symm⟩,by exact sK,rfl,?_⟩;rintro⟨j,c',m⟩ ⟨hj,qZ,hcj,hm⟩;refine bl (λh6=>?_) λh6=>?_
   ·have jC:j<(P.gB n).length:=sO;refine⟨zo,?_⟩;rw[UD (k:=j) rfl zo];have e4:=Rh (k:=j) zo;refine sI ?_;refine sJI ?_;refine⟨(j+1,c'+1,m++[((n:Int),(P.cq n).getD k 0,2^j)]),⟨zo,by simp[qZ],zo,by rw[hm,l8];rfl⟩,zd,?_⟩;refine br 2 zs rfl sQ (sU ?_);exact bM<|FI qZ
   have jC:j=(P.gB n).length:=by have:¬j<(P.gB n).length:=sO
                                 omega
   subst jC;refine sI ?_;refine⟨(k+1,c',m),⟨zo,qZ,by rw[ei,e5,hm,hl]⟩,zd,?_⟩;exact br 2 zs rfl sQ sQ
  have au:k=(P.cq n).length:=by have:¬k<(P.cq n).length:=sO
                                omega
  subst au;rw[eS,<-hl];exact zU hc rfl
 have h5:P.kind n≠5:=sO;rw[aa zo] at eS;refine sS (λh6=>?_) λh6=>?_
 ·have h6:P.kind n=6:=sO;rw[ae h6] at eS;refine sJ ?_;rw[eS];exact zU (l:=[((n:Int),-1,P.kA n)]) rfl rfl
 rw[aa<|sO] at eS;refine sS (λh7=>?_) λh7=>?_
 ·have h7:P.kind n=7:=sO;rw[ae h7] at eS;have b3:=ah.R5 aA h7;have b4:=(LY<|aI (P.gB n).length).1;rw[ea] at b4;refine dk (iF 10 3 zs rfl) ?_;refine bT [1,9] (λ((k,c,l):Nat×Nat×List bQ)=>[(10,.own 1 c 0 c),(16,ab<|(k:Int)+1)]) (λ(k,c,l)=>[(1,.vec true c 3<|jA l)]) (λ(k,c,l)=>k<=(P.kA n).toNat/\c=l.length/\c=k/\l=orS n k) (λ(k,c,l)=>(P.kA n).toNat-k) (0,0,[]) ?_;refine sW ?_;refine⟨⟨zo,rfl,rfl,rfl⟩,by exact sK,rfl,?_⟩;rintro⟨k,c,l⟩ ⟨hk,hc,m8,hl⟩;refine bl (λh1=>?_) λh1=>?_
  ·have au:k<(P.kA n).toNat:=sO;refine sJI ?_;refine⟨(k+1,c+1,l++[((n:Int),-1,(k:Int)+1)]),⟨zo,by simp[hc],zo,by rw[hl];rfl⟩,zd,?_⟩;refine br 2 zs rfl sQ (sU ?_);exact bM<|FI hc
  have au:k=(P.kA n).toNat:=by have:¬k<(P.kA n).toNat:=sO
                               omega
  subst au;rw[eS,<-hl];exact zU hc rfl
 rw[aa<|sO] at eS;rw[eS];exact .none _
end
section
theorem zyt{l:List bQ}{z:Nat}(hz:z=k)(h:k<l.length):(jA l)[z]? = some (xn l[k]):=by
 subst hz;unfold jA;rw[cy,aG h];rfl
theorem vO(P:ah)(hP:P.Fits):ar aj 29 [cH P] (.aJ [nv P.aC,ab P.dp]):=by
 refine bz fZ ?_;have bad:∀{H:aB} {e:Int},e≠0->P.dp=e->Deep H (.aJ [bC,ab e]) (.aJ [nv P.aC,ab P.dp]):=λh k=>by
  have:P.aC=[]:=by unfold ah.aC;rw[aa<|by rw[k];exact h]
  rw[k,this];exact .aJ _ _ (.cons _ _ _ _ (.none _) (.cons _ _ _ _ (.refl _) .nil))
 refine sR ?_;refine sC (Le P hP) ?_;refine sS (λh1=>?_) λh1=>?_
 ·have h1:P.aV≠0:=sO;exact bad h1<|by unfold ah.dp;rw[ae h1]
 have h0:P.aV=0:=sO;obtain⟨tF,pd⟩:=ky h0;have dg:=ah.Rp h0;have e1:P.dp=if 60<(P.oT P.nodes.length).length then 2 else 0:=by unfold ah.dp;rw[aa zo]
 rw[aS];refine dk (iF 5 3 zs rfl) ?_;refine bT [1,14] (λ((k,c,l):Nat×Nat×List bQ)=>[(5,.own 1 k 0 c),(15,ab k)]) (λ(k,c,l)=>[(1,.vec true k 3<|jA l)]) (λ(k,c,l)=>k<=P.nodes.length/\c=l.length/\l=P.oT k) (λ(k,c,l)=>P.nodes.length-k) (0,0,[]) ?_;refine sW ?_;refine⟨⟨zo,rfl,rfl⟩,by exact sK,rfl,?_⟩;rintro⟨k,c,l⟩ ⟨hk,hc,hl⟩;refine bl (λh2=>?_) λh2=>?_
 ·have au:k<P.nodes.length:=sO;have b1:=ah.Qi pd k λi hi=>dg i zo;have b2:=ah.RL (dg k au) pd;have b3:l.length=(P.oT k).length:=(by rw[hl]);refine sC (Zg P hP h0 k au) ?_;refine⟨(by unfold mu;rw[Br];omega),?_⟩;refine bJ ?_;refine⟨(k+1,c+(jA<|P.vg k).length,l++P.vg k),⟨zo,by simp[hc,Br],by rw[hl];rfl⟩,zd,?_⟩;refine br 2 zs rfl sQ (sU ?_);exact bM<|YO hc
 have au:k=P.nodes.length:=by have:¬k<P.nodes.length:=sO
                              omega
 subst au;have b3:l.length=(P.oT P.nodes.length).length:=by rw[hl]
 refine sS (λh3=>?_) λh3=>?_
 ·exact bad zc<|by rw[e1,ae<|sO]
 have e2:P.dp=0:=by rw[e1,aa<|sO]
 have e3:P.aC=l:=by unfold ah.aC;rw[ae e2,hl]
 rw[e2,e3];exact .aJ _ _ (.cons _ _ _ _ (zU hc rfl) (.cons _ _ _ _ (.refl _) .nil))
end
section
end
def jz(x n:Int):Bool:=(x.fdiv<|2^min n.toNat 64).tmod 2==1
theorem FQ{s l:af}(hs:ly s)(hl:ly l)(i:Nat):0<=bw s l i/\bw s l i<18446744073709551616:=by
 have key:∀(q:af) (j:Nat),ly q->0<=q.getD j 0/\q.getD j 0<18446744073709551616:=λq j hq=>by
  rw[ay]
  cases e:q[j]? with
  |none=>simp
  |some x=>exact hq x<|kI e
 unfold bw;split
 ·exact key _ _ hs
 exact key _ _ hl
theorem Fh{y:Int}(h:0<=y)(h':y<18446744073709551616):gF .and .u64 y 1=y.tmod 2:=by
 obtain⟨n,rfl⟩:∃n:Nat,y=n:=⟨y.toNat,zo⟩;have e:(BitVec.ofInt 64 (n:Int) &&& BitVec.ofInt 64 1).toNat=n%2:=by
  rw[BitVec.toNat_and];have e1:(BitVec.ofInt 64 (n:Int)).toNat=n:=(by rw[BitVec.toNat_ofInt];omega);have e2:(BitVec.ofInt 64 1).toNat=1:=zc;rw[e1,e2,Nat.and_one_is_mod]
 show IntKind.u64.wrap ((BitVec.ofInt 64 (n:Int) &&& BitVec.ofInt 64 1).toNat:Int)=_;rw[e,show((n:Int).tmod 2)=((n%2:Nat):Int) from(Int.ofNat_tmod n 2).symm];unfold IntKind.wrap;simp[IntKind.bits,IntKind.signed];omega
theorem Fg(h:0<=x)(h':x<18446744073709551616)(k:Nat):0<=x.fdiv (2^k)/\x.fdiv (2^k)<18446744073709551616:=by
 have hp:(0:Int)<2^k:=Int.pow_pos zc;rw[MI _ zo];exact⟨Int.ediv_nonneg h zo,Int.lt_of_le_of_lt (Int.ediv_le_self _ h) h'⟩
variable(l:af)
theorem XI(s l:af)(hl:1<=l.length)(h1:s.length<=1000)(h2:l.length<=1000)(i:Nat)(hi:(i:Int)<=9223372036854775807):ar aj 84 [kV s l,ab i] (.sc (.int .u64<|bw s l i)):=by
 refine bz fZ ?_;unfold kV rU cY;refine sR ?_;rw[aS];have fin:∀{H:aB} {n:Int},n=bw s l i->Deep H (.sc (.int .u64 n)) (.sc (.int .u64<|bw s l i)):=λh=>h▸.refl _;refine sS (λg2=>?_) λg2=>?_
 ·have g2:i<s.length:=sO;obtain⟨q1,q2⟩:=LV (l:=s) (z:=(i:Int)) i rfl g2;refine⟨q1,_,q2,?_⟩;refine sW ?_;exact fin<|by unfold bw;rw[ae g2]
 have g2:¬i<s.length:=sO;rw[aS];refine .inl ⟨by unfold dW;rw[fU];omega,?_⟩;refine sW ?_;rw[aS];refine⟨zo,?_⟩;rw[show((i:Int)-s.length).tmod l.length=(((i-s.length)%l.length:Nat):Int) by rw[show(i:Int)-s.length=((i-s.length:Nat):Int) by omega,<-Int.ofNat_tmod]];have bF:(i-s.length)%l.length<l.length:=Nat.mod_lt _ zo;generalize hr:(i-s.length)%l.length=r at bF;refine sW ?_;obtain⟨q1,q2⟩:=LV (l:=l) (z:=(r:Int)) r rfl bF;refine⟨q1,_,q2,?_⟩;refine sW ?_;exact fin<|by unfold bw;rw[aa g2,hr]
theorem Wz(s l:af)(hw:mV s l=0)(i:Nat)(hi:i<=1000000):ar aj 71 [kV s l,ab i] (.aJ [.sc (.int .u64<|bw s l i),ab 0]):=by
 have w1:=(yX s l).1 hw;refine bV ?_;refine sC (D3 s l) ?_;refine sS (λh1=>?_) λh1=>?_
 ·exfalso;exact sO
 refine sC (XI s l w1.2 zo zo i zo) ?_;exact .refl _
namespace ah
def nxt(P:ah)(but:Int)(a b:Nat):Prop:=a<P.aP.length/\b<P.aP.length/\P.src b=P.dst a/\P.dst a≠but
inductive Via(P:ah)(but:Int):Nat->Nat->Prop
 |refl (a:Nat):Via P but a a
 |step {a b c:Nat} (h:Via P but a b) (k:P.nxt but b c):Via P but a c
variable{P:ah}{but:Int}{b:Nat}
theorem Via.head{a:Nat}(k:P.nxt but a b)(h:P.Via but b c):P.Via but a c:=by
 induction h with
 |refl=>exact .step (.refl _) k
 |step _ k' ih=>exact .step ih k'
variable{s:aq}
theorem zvb(h0:s b)(h1:∀x y,s y->P.nxt but x y->s x):∀a,P.Via but a b->s a:=by
 intro a h
 induction h with
 |refl=>exact h0
 |step _ k ih=>exact ih<|h1 _ _ h0 k
open Classical in
noncomputable def CK(P:ah)(but:Int)(a b:Nat):Bool:=decide (P.Via but a b)
theorem OU{a:Nat}:P.CK but a b↔P.Via but a b:=by unfold CK;simp
structure rf(P:ah)(but:Int)(flow:Nat)(s:aq)(Q:af):Prop where
 start:s flow=true
 sound:∀i,s i->i<P.aP.length/\P.Via but i flow
 todo:∀x∈Q,0<=x/\x<P.aP.length/\s x.toNat=true
 done:∀i,s i->(i:Int)∈Q\/∀j,P.nxt but j i->s j=true
structure sT(P:ah)(but:Int)(flow:Nat)(s:aq)(Q:af)(x k:Nat):Prop where
 start:s flow=true
 sound:∀i,s i->i<P.aP.length/\P.Via but i flow
 todo:∀x∈Q,0<=x/\x<P.aP.length/\s x.toNat=true
 done:∀i,s i->(i:Int)∈Q\/(∀j,P.nxt but j i->s j)\/(i=x/\∀j,j<k->P.nxt but j i->s j)
 here:s x=true
 go:P.src x≠but
variable{flow:Nat}
theorem rf.begin(h:flow<P.aP.length):P.rf but flow (mark (λ_=>false) flow) [(flow:Int)] where
 start:=qj _ _
 sound i hi:=by
  rcases wM.1 hi with rfl|h'
  ·exact⟨h,.refl _⟩
  cases h'
 todo x hx:=by
  rw[cM] at hx;subst hx;exact⟨zo,zo,by rw[bS];exact qj _ _⟩
 done i hi:=by
  rcases wM.1 hi with rfl|h'
  ·exact .inl zs
  cases h'
variable{Q:af}
theorem rf.stop(h:P.rf but flow s<|x::Q)(hx:P.src x.toNat=but):P.rf but flow s Q where
 start:=h.start
 sound:=h.sound
 todo y hy:=h.todo y<|EH _ hy
 done i hi:=by
  rcases h.done i hi with q|q
  ·rcases dD.1 q with q|q
   ·refine .inr λj hj=>?_;exfalso;subst q;rw[bS] at hx;exact hj.2.2.2<|hj.2.2.1.symm.trans hx
   exact .inl q
  exact .inr q
theorem rf.pop(h:P.rf but flow s<|x::Q)(hx:P.src x.toNat≠but):P.sT but flow s Q x.toNat 0 where
 start:=h.start
 sound:=h.sound
 todo y hy:=h.todo y<|EH _ hy
 done i hi:=by
  rcases h.done i hi with q|q
  ·rcases dD.1 q with q|q
   ·exact .inr (.inr ⟨zo,λj hj=>zo⟩)
   exact .inl q
  exact .inr (.inl q)
 here:=(h.todo x zs).2.2
 go:=hx
theorem sT.skip{x:Nat}(h:P.sT but flow s Q x k)(hk:P.dst k=P.src x->s k):P.sT but flow s Q x (k+1) where
 start:=h.start
 sound:=h.sound
 todo:=h.todo
 done i hi:=by
  rcases h.done i hi with q|q|⟨rfl,q⟩
  ·exact .inl q
  ·exact .inr (.inl q)
  refine .inr (.inr ⟨rfl,λj hj hn=>?_⟩);by_cases e:j=k
  ·subst e;exact hk hn.2.2.1.symm
  exact q j zo hn
 here:=h.here
 go:=h.go
theorem sT.push{x:Nat}(h:P.sT but flow s Q x k)(hk:k<P.aP.length)(hd:P.dst k=P.src x):P.sT but flow (mark s k) (Q++[(k:Int)]) x (k+1) where
 start:=jX h.start
 sound i hi:=by
  rcases wM.1 hi with rfl|h'
  ·have:=h.sound x h.here;exact⟨hk,Via.head ⟨hk,this.1,hd.symm,by rw[hd];exact h.go⟩ this.2⟩
  exact h.sound i h'
 todo y hy:=by
  rcases de.1 hy with q|q
  ·obtain⟨a,b,c⟩:=h.todo y q;exact⟨a,b,jX c⟩
  rw[cM] at q;subst q;exact⟨zo,zo,by rw[bS];exact qj _ _⟩
 done i hi:=by
  rcases wM.1 hi with rfl|h'
  ·exact .inl zs
  rcases h.done i h' with q|q|⟨rfl,q⟩
  ·exact .inl<|xU _ q
  ·exact .inr (.inl λj hj=>jX<|q j hj)
  refine .inr (.inr ⟨rfl,λj hj hn=>?_⟩);by_cases e:j=k
  ·subst e;exact qj _ _
  exact jX<|q j zo hn
 here:=jX h.here
 go:=h.go
theorem sT.fin{P:ah}{but:Int}{flow:Nat}{s:aq}{Q:af}{x:Nat}(h:P.sT but flow s Q x P.aP.length):P.rf but flow s Q where
 start:=h.start
 sound:=h.sound
 todo:=h.todo
 done i hi:=by
  rcases h.done i hi with q|q|⟨rfl,q⟩
  ·exact .inl q
  ·exact .inr q
  exact .inr λj hj=>q j hj.1 hj
theorem rf.fin{P:ah}{but:Int}{flow:Nat}{s:aq}(h:P.rf but flow s [])(i:Nat):s i=P.CK but i flow:=by
 rw[kj,OU];refine⟨λhi=>(h.sound i hi).2,λhi=>zvb h.start (λx y hy hn=>?_) i hi⟩;rcases h.done y hy with q|q
 ·cases q
 exact q x hn
end ah
section
variable{Z:af}{lo hi:Nat}
theorem zqd(h1:lo<hi)(h2:hi<=Z.length):(Z.take hi).drop lo=Z.getD lo 0::(Z.take hi).drop (lo+1):=by
 rw[uu<|by rw[gO];omega,List.getElem_take,ay,aG zo];rfl
theorem zqw{k:Int}:((aE Z).take hi).drop lo++[[ab k]]=aE ((Z.take hi).drop lo++[k]):=by
 simp[aE]
theorem ztO(P:ah)(hP:P.Fits)(hF:P.aP.length<=30)(flow:Nat)(hf:flow<P.aP.length)(aA:∀i,i<P.aP.length->P.pn i)(but:Int) :
  ar aj 255 [cH P,ab flow,ab but] (bI P.aP.length λi=>P.CK but i flow):=by
 refine bV ?_;rw[aS];refine⟨zo,zo,zo,?_⟩;rw[bS,show List.map D.sc [Value.bool false]=[aF false] from rfl,n5];refine ew ?_;refine⟨_,cX flow zo zo,?_⟩;refine sW ?_
 refine bT [2,3,7] (λ((s,Z,lo,hi,aw):aq×af×Nat×Nat×Nat)=>[(8,.own 2 aw lo hi)]) (λ(s,Z,lo,hi,aw)=>[(1,.vec true 0 1<|bU P.aP.length s),(2,.vec true aw 1<|aE Z)])
  (λ(s,Z,lo,hi,aw)=>lo<=hi/\hi<=Z.length/\hi-lo+ir s P.aP.length<=P.aP.length/\P.rf but flow s ((Z.take hi).drop lo)) (λ(s,Z,lo,hi,aw)=>(hi-lo)+ir s P.aP.length) (mark (λ_=>false) flow,[(flow:Int)],0,1,0) ?_
 refine sW ?_;have u1:=GO (s:=λ_=>false) (s':=mark (λ_=>false) flow) hf (λj _ h=>by cases h) rfl (qj _ _);have u2:=J3 (λ_=>false) P.aP.length;refine⟨⟨zo,zs,zo,ah.rf.begin hf⟩,by exact sK,by rw[E8 (v:=flow) zo];rfl,?_⟩;rintro⟨s,Z,lo,hi,aw⟩ ⟨HY,ny,hu,hI⟩;refine bl (λh1=>?_) λh1=>?_
 ·have h1:lo<hi:=sO;rw[zqd h1 ny] at hI;have hx:=hI.todo (Z.getD lo 0) List.mem_cons_self;generalize hX:Z.getD lo 0=x at hx hI;have hfx:=ah.zh.1<|aA x.toNat zo;refine sB ?_;refine⟨_,eY (l:=Z) (k:=lo) zo zo,?_⟩;refine sW ?_;rw[hX];refine sL (Ae P (k:=x.toNat) zo zo) ?_;refine⟨zo,zo,zo,?_⟩;refine sW ?_;rw[show lo+(hi-lo)=hi by omega];refine sS (λh2=>?_) λh2=>?_
  ·have h2:P.src x.toNat=but:=sO;refine⟨(s,Z,lo+1,hi,aw),⟨zo,ny,zo,hI.stop h2⟩,zd,?_⟩;exact bf (by exact sK) rfl
  have h2:P.src x.toNat≠but:=sO;rw[aS]
  refine bT [2,3,7,9,38,39] (λ((t,Z',cv,bu,bY,k):aq×af×Nat×Nat×Nat×Nat)=>[(8,.own 2 bY cv bu),(40,ab k)]) (λ(t,Z',cv,bu,bY,k)=>[(1,.vec true 0 1<|bU P.aP.length t),(2,.vec true bY 1<|aE Z')])
   (λ(t,Z',cv,bu,bY,k)=>k<=P.aP.length/\cv<=bu/\bu<=Z'.length/\bu-cv+ir t P.aP.length<hi-lo+ir s P.aP.length/\P.sT but flow t ((Z'.take bu).drop cv) x.toNat k) (λ(t,Z',cv,bu,bY,k)=>P.aP.length-k) (s,Z,lo+1,hi,aw,0) ?_
  refine sW ?_;refine⟨⟨zo,zo,ny,zo,hI.pop h2⟩,by exact sK,rfl,?_⟩;rintro⟨t,Z',cv,bu,bY,k⟩ ⟨hk,mz,l9,sH,hJ⟩;refine bl (λh3=>?_) λh3=>?_
  ·have au:k<P.aP.length:=sO;refine sL (Ae P (k:=k) zo au) ?_;have skip:(P.dst k=P.src x.toNat->t k)->P.sT but flow t ((Z'.take bu).drop cv) x.toNat (k+1):=hJ.skip;refine sS (λh4=>?_) λh4=>?_
   ·have h4:P.dst k=P.src x.toNat:=sO;refine sB ?_;refine⟨_,cX k zo zo,?_⟩;refine sW ?_;cases ht:t k
    ·refine ew ?_;refine⟨_,cX k zo zo,?_⟩;refine mQ ?_;have u3:=GO (s:=t) (s':=mark t k) au (λj _ h=>jX h) ht<|qj _ _;have hp:=hJ.push au h4;refine⟨(mark t k,(Z'.take bu).drop cv++[(k:Int)],0,bu-cv+1,bY+1,k+1),⟨zo,zo,by simp;omega,zo,by rw[ft,fF<|by simp;omega];exact hp⟩,zd,?_⟩
     (refine br 3 zs rfl ?_ ?_<;>(repeat' (first|exact trivial|exact rfl|exact bR.refl _|exact ck.refl _|exact cg.refl _|refine And.intro ?_ ?_|(simp[az,aK,bN,-List.map_take,-List.map_drop];done))))
     ·exact bM<|E8 zo
     exact bM zqw
    refine bJ ?_;refine⟨(t,Z',cv,bu,bY,k+1),⟨zo,mz,l9,sH,skip λ_=>ht⟩,zd,?_⟩;exact br 3 zs rfl sQ sQ
   have h4:P.dst k≠P.src x.toNat:=sO;refine bJ ?_;refine⟨(t,Z',cv,bu,bY,k+1),⟨zo,mz,l9,sH,skip λe=>absurd e h4⟩,zd,?_⟩;exact br 3 zs rfl sQ sQ
  have au:k=P.aP.length:=by have:¬k<P.aP.length:=sO
                            omega
  subst au;refine⟨(t,Z',cv,bu,bY),⟨mz,l9,zo,hJ.fin⟩,zd,?_⟩;exact bf (by exact sK) rfl
 have h0:hi=lo:=sO;subst h0;rw[FT<|by rw[gO];omega] at hI;rw[iw (g':=λi=>P.CK but i flow) λi _=>hI.fin i];exact zW rfl
end
section
end
def val(M:af)(i:Nat):Int:=M.getD i 0
namespace ah
def jk(P:ah)(n:Int)(a:Nat):Int:=(P.cq n).getD a 0
def vC(P:ah)(n:Int)(a:Nat):Int:=(P.gB n).getD a 0
variable{l:af}{a:Nat}
theorem Al(h:a<l.length):l.getD a 0∈l:=by
 rw[ay,aG h];exact ig h
theorem SZ(h:x∈l):∃k,k<l.length/\l.getD k 0=x:=xd h
variable{P:ah}{n:Int}
theorem DU(h:a<(P.cq n).length):0<=P.jk n a/\P.jk n a<P.aP.length/\P.dst (P.jk n a).toNat=n:=by
 obtain⟨i,h1,h2,h3⟩:=BW.1<|Al h;unfold jk cq;rw[h3];rw[bS];exact⟨zo,zo,by simpa using h2⟩
theorem zu9(h:a<(P.gB n).length):0<=P.vC n a/\P.vC n a<P.aP.length/\P.src (P.vC n a).toNat=n:=by
 obtain⟨i,h1,h2,h3⟩:=BW.1<|Al h;unfold vC gB;rw[h3];rw[bS];exact⟨zo,zo,by simpa using h2⟩
def BD(P:ah)(M:af)(n:Int):Nat->Bool
 |0=>false
 |a+1=>P.BD M n a||decide (0<val M (P.jk n a).toNat)
def eu(P:ah)(M:af)(n:Int):Nat->Bool
 |0=>true
 |a+1=>P.eu M n a&&decide (0<val M (P.jk n a).toNat)
def hold(P:ah)(M:af)(n:Int)(f i:Nat):Prop:=P.Via n i f/\0<val M i/\P.dst i≠n
def GQ(P:ah)(M:af)(n:Int)(a:Nat):Prop:=val M (P.jk n a).toNat<=0/\∃i,i<P.aP.length/\P.hold M n (P.jk n a).toNat i
open Classical in
noncomputable def zQ(P:ah)(M:af)(n:Int):Bool:=P.BD M n (P.cq n).length&&decide (∀a,a<(P.cq n).length->¬P.GQ M n a)
open Classical in
noncomputable def ix(P:ah)(M:af)(s:bQ):Bool :=
 if 0<=s.2.1 then decide (0<val M s.2.1.toNat) else if P.kind s.1.toNat=7 then P.zQ M s.1 else P.eu M s.1 (P.cq s.1).length
variable{M:af}
open Classical in
theorem zmk(ha:a<(P.cq n).length)(h:P.GQ M n a):P.zQ M n=false:=by
 unfold zQ;rw[Bool.and_eq_false_iff];exact .inr<|gx λq=>q a ha h
open Classical in
theorem zqm(h:∀a,a<(P.cq n).length->¬P.GQ M n a):P.zQ M n=P.BD M n (P.cq n).length:=by
 unfold zQ;rw[gb h,yE]
structure D2(P:ah)(s:bQ):Prop where
 node:0<=s.1/\s.1<P.nodes.length
 in_:-1<=s.2.1/\s.2.1<P.aP.length
 kind:s.2.1<0->P.kind s.1.toNat=6\/P.kind s.1.toNat=7
 out:0<=s.2.2/\s.2.2<=1073741824
theorem VP(hf:P.aP.length<=30)(n:Int):0<=P.kA n/\P.kA n<=1073741823:=by
 have l2:=P.EK n;have:=LY (k:=(P.gB n).length) (n:=30) zo;have e30:tR 30=1073741823:=rfl;unfold kA;omega
theorem O3{n:Int}{s:bQ}:∀{k:Nat},s∈orS n k->s.1=n/\s.2.1=-1/\0<=s.2.2/\s.2.2<=k
 |0,h=>by cases h
 |k+1,h=>by
  simp only[orS,de,cM] at h;rcases h with h|h
  ·have:=O3 h;exact⟨this.1,this.2.1,this.2.2.1,zo⟩
  subst h;exact⟨rfl,rfl,zd,zd⟩
theorem Sg{n i:Int}{s:bQ}:∀{k:Nat},s∈xK n i k->s.1=n/\s.2.1=i/\∃j,j<k/\s.2.2=2^j
 |0,h=>by cases h
 |k+1,h=>by
  simp only[xK,de,cM] at h;rcases h with h|h
  ·obtain⟨a,b,j,c,d⟩:=Sg h;exact⟨a,b,j,zo,d⟩
  subst h;exact⟨rfl,rfl,k,zo,rfl⟩
theorem W6{P:ah}{k n:Int}{s:bQ}(hf:P.aP.length<=30):∀{j:Nat},j<=(P.cq n).length->s∈P.oE k n j->s.1=n/\(0<=s.2.1/\s.2.1<P.aP.length)/\0<=s.2.2/\s.2.2<=1073741824
 |0,_,h=>by cases h
 |j+1,hj,h=>by
  simp only[oE,de] at h;rcases h with h|h
  ·exact W6 hf zo h
  have hi:=DU (P:=P) (n:=n) (a:=j) zo;unfold jk at hi;have l2:=P.EK n;have ha:=VP hf n;unfold rj at h;split at h
  ·obtain⟨a,b,i,c,d⟩:=Sg h;have p1:=BS i;have p2:=Ao (k:=i) (n:=30) zo;have p3:(2:Int)^30=1073741824:=zc;exact⟨a,zo,zo⟩
  rw[cM] at h;subst h;exact⟨rfl,⟨hi.1,hi.2.1⟩,ha.1,zd⟩
theorem znA{n:Nat}{s:bQ}(hf:P.aP.length<=30)(hn:n<P.nodes.length)(h:s∈P.vg n):P.D2 s:=by
 have ha:=VP hf n;unfold vg at h;split at h
 ·obtain⟨a,b,c⟩:=W6 hf (aI _) h;exact⟨zo,zo,λq=>zo,c⟩
 split at h
 ·rename_i q;rw[cM] at h;subst h;exact⟨zd,zd,λ_=>.inl<|by rw[bS];exact q,ha.1,zd⟩
 split at h
 ·rename_i q;obtain⟨a,b,c,d⟩:=O3 h;exact⟨zo,zo,λ_=>.inr<|by rw[a,bS];exact q,c,zo⟩
 cases h
theorem Te{P:ah}{s:bQ}(hf:P.aP.length<=30):∀{n:Nat},n<=P.nodes.length->s∈P.oT n->P.D2 s
 |0,_,h=>by cases h
 |n+1,hn,h=>by
  simp only[oT,de] at h;rcases h with h|h
  ·exact Te hf zo h
  exact znA hf zo h
noncomputable def gE(P:ah)(M:af)(l:List bQ):Nat->af
 |0=>[]
 |k+1=>if P.ix M (l.getD k (0,0,0))=true then P.gE M l k++[(k:Int)] else P.gE M l k
theorem Ke(P:ah)(M:af)(l:List bQ):∀k,(P.gE M l k).length<=k
 |0=>by simp[gE]
 |k+1=>by
  have:=Ke P M l k;simp only[gE];split
  ·simp;omega
  omega
theorem UE{P:ah}{M:af}{n:Int}(h:∀i,0<=val M i):∀a,P.eu M n a=!((List.range a).any λj=>val M (P.jk n j).toNat==0)
 |0=>rfl
 |a+1=>by
  rw[eu,UE h a,qa,BG];have h1:decide (0<val M (P.jk n a).toNat)=!(val M (P.jk n a).toNat==0):=by
   have:=h (P.jk n a).toNat;by_cases q:val M (P.jk n a).toNat=0
   ·simp[q]
   rw[gb zo];simp[q]
  simp[h1]
theorem zt3{p:Int->Bool}:l.any p=(List.range l.length).any λj=>p<|l.getD j 0:=by
 rw[kj,iR,iR];constructor
 ·rintro⟨x,hx,hp⟩;obtain⟨k,hk,rfl⟩:=kn.1 hx;refine⟨k,eW.2 hk,?_⟩;rw[ay,aG hk];exact hp
 rintro⟨k,hk,hp⟩;exact⟨_,Al<|eW.1 hk,hp⟩
end ah
section
structure ah.Mark(P:ah)(M:af):Prop where
 len:M.length=P.aP.length
 pos:∀i,0<=val M i
 top:∀i,val M i<=9
theorem H8{M:af}{z:Nat}(hz:z=k)(h:k<M.length):(M.map λn=>[ab n])[z]? = some [ab<|val M k]:=eY hz h
variable{P:ah}
theorem OL(h0:P.aV=0){n:Int}(h1:0<=n)(h2:n<P.nodes.length):P.lv n=0/\P.xD n=P.cq n/\P.x7 n=P.gB n:=by
 have hE:P.lv n=0:=by unfold ah.lv;rw[aa zo,aa zo]
 exact⟨hE,by unfold ah.xD;rw[ae hE],by unfold ah.x7;rw[ae hE]⟩
theorem QH(h:P.aV=0):∀i,i<P.aP.length->P.pn i:=by
 unfold ah.aV at h;repeat' (split at h)
 all_goals first|(exact absurd h zc)|(exact absurd h<|by assumption)|skip
 all_goals exact Classical.not_not.1<|by assumption
variable(P:ah)
theorem YQ(hP:P.Fits)(h0:P.aV=0)(M:af)(hM:P.Mark M)(n:Int)(h1:0<=n)(h2:n<P.nodes.length) :
  ar aj 217 [cH P,aL M,ab n] (aF<|P.zQ M n):=by
 obtain⟨tF,pd⟩:=ky h0;obtain⟨hE,hI,_⟩:=OL h0 h1 h2;have hi:=GG P hP n;rw[hI,hE] at hi;have l1:=P.Er n;have lM:=hM.len;refine bV ?_;refine sC hi ?_;rw[aS];refine bT [1,2,3,20,21] (λa:Nat=>[(9,aF<|P.BD M n a),(22,ab a)]) (λ_=>[]) (λa=>a<=(P.cq n).length/\∀j,j<a->¬P.GQ M n j) (λa=>(P.cq n).length-a) 0 ?_;refine sW ?_;refine⟨⟨zo,λj h=>zo⟩,by exact sK,rfl,?_⟩;rintro a ⟨ha,dg⟩;refine bl (λh3=>?_) λh3=>?_
 ·have nf:a<(P.cq n).length:=sO;have bg:=ah.DU (P:=P) (n:=n) nf;have ep:P.BD M n (a+1)=(P.BD M n a||decide (0<val M (P.jk n a).toNat)):=rfl;refine sL (eY (k:=a) zo nf) ?_;rw[show(P.cq n).getD a 0=P.jk n a from rfl];generalize hx:P.jk n a=x at bg ep;refine sL (H8 (k:=x.toNat) zo zo) ?_;refine sS (λh4=>?_) λh4=>?_
  ·have h4:0<val M x.toNat:=sO;refine bJ ?_;refine⟨a+1,⟨zo,λj hj=>?_⟩,zd,?_⟩
   ·by_cases e:j=a
    ·subst e;exact λq=>by have:=q.1;rw[hx] at this;omega
    exact dg j zo
   rw[gb h4,Bool.or_true] at ep;exact bf ⟨by simp only[ep];rfl,by exact sK⟩ rfl
  have h4:¬0<val M x.toNat:=sO;rw[gx h4,uL] at ep;have hc:=ztO P hP pd x.toNat zo (QH h0) n;rw[show((x.toNat:Nat):Int)=x by omega] at hc;refine sW ?_;refine sC hc ?_;rw[C4];refine bT [1,2,3,9,20,21,22,34,35] (λk:Nat=>[(36,ab k)]) (λ_=>[]) (λk=>k<=P.aP.length/\∀i,i<k->¬P.hold M n x.toNat i) (λk=>P.aP.length-k) 0 ?_;refine sW ?_;refine⟨⟨zo,λj h=>zo⟩,by exact sK,rfl,?_⟩;rintro k ⟨hk,cJ⟩;refine sWR ?_;have next:∀{i:Nat},¬P.hold M n x.toNat k->i<k+1->¬P.hold M n x.toNat i:=λh1 h2=>by
   rename_i i;by_cases e:i=k
   ·subst e;exact h1
   exact cJ i zo
  refine sS (λh5=>?_) λh5=>?_
  ·have au:k<P.aP.length:=sO;refine sL (cX k zo au) ?_;cases hv:P.CK n k x.toNat
   ·refine bJ ?_;refine⟨k+1,⟨zo,λi hi=>next (λq=>by rw[ah.OU.2 q.1] at hv;cases hv) hi⟩,zd,bf (by exact sK) rfl⟩
   refine sW ?_;refine sL (H8 (k:=k) zo zo) ?_;cases hg:decide (val M k>0)
   ·refine bJ ?_;refine⟨k+1,⟨zo,λi hi=>next (λq=>by rw[gb q.2.1] at hg;cases hg) hi⟩,zd,bf (by exact sK) rfl⟩
   refine sW ?_;refine sL (Ae P (k:=k) zo au) ?_;refine sS (λh6=>?_) λh6=>?_
   ·have h6:P.dst k≠n:=sO;rw[ah.zmk nf ⟨by rw[hx];omega,k,au,by rw[hx];exact⟨ah.OU.1 hv,tk hg,h6⟩⟩];exact .refl _
   have h6:P.dst k=n:=sO;refine sI ?_;refine⟨k+1,⟨zo,λi hi=>next (λq=>q.2.2 h6) hi⟩,zd,bf (by exact sK) rfl⟩
  have au:k=P.aP.length:=by have:¬k<P.aP.length:=sO
                            omega
  subst au;refine sI ?_;refine⟨a+1,⟨zo,λj hj=>?_⟩,zd,bf ⟨by simp only[ep];rfl,by exact sK⟩ rfl⟩;by_cases e:j=a
  ·subst e;rintro⟨-,i,q1,q2⟩;rw[hx] at q2;exact cJ i q1 q2
  exact dg j zo
 have nf:a=(P.cq n).length:=by have:¬a<(P.cq n).length:=sO
                               omega
 subst nf;rw[ah.zqm dg];exact .refl _
theorem ziK(M:af)(x:Int)(h1:0<=x)(h2:x<M.length):ar aj 218 [ab x,.aN [aL M]]<|aF<|val M x.toNat==0:=by
 refine bV ?_;refine sL (H8 (k:=x.toNat) zo zo) ?_;exact .refl _
theorem QW(hP:P.Fits)(h0:P.aV=0)(M:af)(hM:P.Mark M)(s:bQ)(hs:P.D2 s) :
  ar aj 157 [cH P,aL M,.agg<|xn s] (aF<|P.ix M s):=by
 obtain⟨tF,pd⟩:=ky h0;have hn:=hs.node;have bg:=hs.in_;obtain⟨hE,hI,_⟩:=OL h0 hn.1 hn.2;have hi:=GG P hP s.1;rw[hI,hE] at hi;have l1:=P.Er s.1;have lM:=hM.len
 have GZ:ar aj 94 [aL<|P.cq s.1,.fn (.func 218) [] [.aN [aL M]]] (aF<|(P.cq s.1).any λx=>val M x.toNat==0) :=
  kY (λn=>ab n) (λ_=>by simp[Pure]) (P.cq s.1) zo (λx=>val M x.toNat==0) 218 [.aN [aL M]] (by simp[ao,Pure,c9]) λa ha=>by
   obtain⟨k,hk,e⟩:=ah.SZ ha;have:=ah.DU (P:=P) (n:=s.1) hk;unfold ah.jk at this;rw[e] at this;exact ziK M _ this.1 zo
 refine bz fZ ?_;have e:P.ix M s=if 0<=s.2.1 then decide (0<val M s.2.1.toNat) else if P.kind s.1.toNat=7 then P.zQ M s.1 else P.eu M s.1 (P.cq s.1).length:=rfl
 refine sRS (λh1=>?_) λh1=>?_
 ·have h1:0<=s.2.1:=sO;rw[ae h1] at e;refine sL (H8 (k:=s.2.1.toNat) zo zo) ?_;rw[e];exact .refl _
 have h1:¬0<=s.2.1:=sO;rw[aa h1] at e;refine sL (xr P (k:=s.1.toNat) zo zo) ?_;refine sS (λh2=>?_) λh2=>?_
 ·have h2:P.kind s.1.toNat=7:=sO;rw[ae h2] at e;refine sC (YQ P hP h0 M hM s.1 hn.1 hn.2) ?_;rw[e];exact .refl _
 have h2:P.kind s.1.toNat≠7:=sO;rw[aa h2] at e;refine sC hi ?_;refine sN GZ ?_;rw[e,ah.UE hM.pos,ah.zt3];exact .refl _
end
section
theorem zCv(M:af):gl M.length (val M)=M:=by
 apply AT
 ·simp
 intro i h1 h2;simp[gl,val,ay,aG h2]
theorem ztW{y:Int}(h:0<=y)(h':y<9223372036854775808):gF .and .i64 y 1=y.tmod 2:=by
 obtain⟨n,rfl⟩:∃n:Nat,y=n:=⟨y.toNat,zo⟩;have e:(BitVec.ofInt 64 (n:Int) &&& BitVec.ofInt 64 1).toNat=n%2:=by
  rw[BitVec.toNat_and];have e1:(BitVec.ofInt 64 (n:Int)).toNat=n:=(by rw[BitVec.toNat_ofInt];omega);have e2:(BitVec.ofInt 64 1).toNat=1:=zc;rw[e1,e2,Nat.and_one_is_mod]
 show IntKind.i64.wrap ((BitVec.ofInt 64 (n:Int) &&& BitVec.ofInt 64 1).toNat:Int)=_;rw[e,show((n:Int).tmod 2)=((n%2:Nat):Int) from(Int.ofNat_tmod n 2).symm,fU];omega
namespace ah
def qz(P:ah)(M:af)(s:bQ)(f:Nat):Bool:=decide (P.dst f=s.1)&&(s.2.1==(f:Int)||decide (s.2.1<0)&&decide (0<val M f))
def tH(P:ah)(M:af)(s:bQ)(f:Nat):Int:=val M f-if P.qz M s f=true then 1 else 0
def mg(P:ah)(s:bQ)(f:Nat):Nat->Int
 |0=>0
 |k+1=>P.mg s f k+if P.vC s.1 k=(f:Int)/\jz s.2.2 k=true then 1 else 0
def rY(P:ah)(M:af)(s:bQ)(f:Nat):Int:=P.tH M s f+P.mg s f (P.gB s.1).length
theorem Nz(P:ah)(s:bQ)(f:Nat):∀k,0<=P.mg s f k/\P.mg s f k<=k
 |0=>by simp[mg]
 |k+1=>by
  have:=Nz P s f k;simp only[mg];split<;>omega
theorem Xy(P:ah)(s:bQ)(f:Nat){j:Nat}:∀{k:Nat},j<=k->P.mg s f j<=P.mg s f k
 |0,h=>by rw[show j=0 by omega];exact Int.le_refl _
 |k+1,h=>by
  by_cases e:j=k+1
  ·rw[e];exact Int.le_refl _
  have:=Xy P s f (j:=j) (k:=k) zo;have h2:P.mg s f k<=P.mg s f (k+1):=by
   simp only[mg];split<;>omega
  omega
variable{P:ah}{M:af}
theorem T2(hM:P.Mark M)(s:bQ)(f:Nat):-1<=P.tH M s f/\P.tH M s f<=9:=by
 have h1:=hM.pos f;have h2:=hM.top f;unfold tH;split<;>omega
open Classical in
noncomputable def lK(P:ah)(M:af)(s:bQ):Int:=if P.kind s.1.toNat=3 then 0 else if ∃f,f<P.aP.length/\9<P.rY M s f then 7 else 0
noncomputable def pt(P:ah)(M:af)(s:bQ):af :=
 if P.kind s.1.toNat=3 then gl P.aP.length λ_=>0 else if P.lK M s=0 then gl P.aP.length<|P.rY M s else []
variable{l:af}{a:Nat}
theorem LZ{r:af}(h:a<l.length):(l++r).getD a 0=l.getD a 0:=by
 rw[ay,ay,dJ h]
theorem ziM:(l++[x]).getD l.length 0=x:=by
 rw[ay,fc<|aI _,mE];rfl
theorem JX{p:aq}:∀{n a b:Nat},a<b->b<(pick p n).length->(pick p n).getD a 0<(pick p n).getD b 0
 |0,_,_,_,h=>by simp[pick] at h
 |n+1,a,b,AL,h=>by
  simp only[pick] at h⊢;split
  ·rename_i hp;rw[ae hp,cL,jt] at h;by_cases e:b=(pick p n).length
   ·subst e;obtain⟨i,g1,g2,g3⟩:=BW.1<|Al (l:=pick p n) (a:=a) AL;rw[LZ AL,g3,ziM];omega
   rw[LZ zo,LZ zo];exact JX AL zo
  rename_i hp;rw[aa hp] at h;exact JX AL h
variable{n:Int}
theorem zzl{b:Nat}(h:a<b)(hb:b<(P.cq n).length):P.jk n a<P.jk n b:=JX h hb
variable{f:Nat}
theorem YK(hf:f<P.aP.length)(h:P.dst f=n):∃a,a<(P.cq n).length/\P.jk n a=f:=xd<|BW.2 ⟨f,hf,by simpa using h,rfl⟩
structure tp(P:ah)(M:af)(s:bQ)(g:Nat->Int)(a:Nat):Prop where
 gone:∀f j:Nat,j<a->P.jk s.1 j=(f:Int)->g f=P.tH M s f
 left:∀f:Nat,(∀j,j<a->P.jk s.1 j≠(f:Int))->g f=val M f
variable{s:bQ}
theorem tp.begin:P.tp M s (val M) 0:=⟨λf j h=>zo,λf _=>rfl⟩
variable{x:Nat}{g:Nat->Int}
theorem tp.fD(h:P.tp M s g a)(ha:a<(P.cq s.1).length)(hx:P.jk s.1 a=(x:Int)):g x=val M x :=
 h.left x λj hj e=>by
  have:=zzl hj ha;omega
theorem tp.next{g':Nat->Int}(h:P.tp M s g a)(ha:a<(P.cq s.1).length)(hx:P.jk s.1 a=(x:Int))(h1:g' x=P.tH M s x)(h2:∀f,f≠x->g' f=g f):P.tp M s g' (a+1) where
 gone f j hj e:=by
  by_cases q:f=x
  ·subst q;exact h1
  rw[h2 f q];refine h.gone f j ?_ e;by_cases q2:j=a
  ·subst q2;rw[hx] at e;omega
  omega
 left f hf:=by
  rw[h2 f λe=>by subst e;exact hf a zo hx];exact h.left f λj hj=>hf j zo
theorem tp.fin{P:ah}{M:af}{s:bQ}{g:Nat->Int}(h:P.tp M s g (P.cq s.1).length){f:Nat}(hf:f<P.aP.length):g f=P.tH M s f:=by
 by_cases e:P.dst f=s.1
 ·obtain⟨a,h1,h2⟩:=YK hf e;exact h.gone f a h1 h2
 rw[h.left f λj hj q=>e<|by have:=(DU (P:=P) (n:=s.1) hj).2.2;rw[q,bS] at this;exact this];unfold tH qz;rw[gx e];simp
theorem zvL(h:P.vC s.1 k=(x:Int))(hb:jz s.2.2 k):P.mg s x (k+1)=P.mg s x k+1:=by
 simp only[mg];rw[ae ⟨h,hb⟩]
theorem WG(h:P.vC s.1 k≠(f:Int)\/jz s.2.2 k=false):P.mg s f (k+1)=P.mg s f k:=by
 simp only[mg];rw[aa (by rintro⟨h1,h2⟩;rcases h with h|h;exact h h1;rw[h] at h2;cases h2),Int.add_zero]
end ah
end
section
@[simp] theorem zAb{m:Nat}(l:List bQ):az m (nv l)↔True:=⟨λ_=>trivial,λ_=>cp _<|F6 l⟩
namespace ah
def jT(P:ah)(M:af):Bool:=decide (M.length=P.aP.length)&&bq M 10
noncomputable def jg(P:ah)(M:af):Int:=if P.dp≠0 then P.dp else if P.jT M=true then 0 else 1
noncomputable def uv(P:ah)(M:af):List bQ:=if P.jg M=0 then P.aC else []
variable{P:ah}{M:af}
theorem jX(h:P.jT M):P.Mark M:=by
 unfold jT at h;rw[dL,c6] at h;have k:∀i,0<=val M i/\val M i<=9:=λi=>by
  by_cases hi:i<M.length
  ·have:=U4 h.2 hi;unfold val;omega
  unfold val;rw[ay,db zo];simp
 exact⟨h.1,λi=>(k i).1,λi=>(k i).2⟩
theorem lY(h:P.dp=0):P.aV=0/\P.aC=P.oT P.nodes.length/\P.aC.length<=60:=by
 have e:P.aC=P.oT P.nodes.length:=by unfold aC;rw[ae h]
 unfold dp at h;split at h
 ·rename_i q;exact absurd h q
 rename_i q;split at h
 ·cases h
 exact⟨Classical.not_not.1 q,e,by rw[e];omega⟩
theorem Ws(h:P.jg M=0):P.dp=0/\P.jT M:=by
 unfold jg at h;split at h
 ·rename_i q;exact absurd h q
 rename_i q;split at h
 ·rename_i q2;exact⟨Classical.not_not.1 q,q2⟩
 cases h
theorem Ag(h:P.dp=0)(hk:k<P.aC.length):P.D2<|P.aC.getD k (0,0,0):=by
 obtain⟨h0,e,_⟩:=lY h;refine Te (ky h0).2 (aI _) ?_;rw[e] at hk⊢;rw[ay,aG hk];exact ig hk
end ah
theorem Ck{l:List bQ}{z:Nat}(hz:z=k)(h:k<l.length):(jA l)[z]? = some (xn<|l.getD k (0,0,0)):=by
 rw[zyt hz h,ay,aG h];rfl
def vr(P:ah)(i:Nat):Int:=if P.kind (P.src i).toNat=1 then 1 else 0
noncomputable def ah.jd(P:ah):af:=if P.dp=0 then gl P.aP.length<|vr P else []
theorem znT(x:Int):ar aj 216 [ab x]<|aF<|decide (x<0)||decide (x>9):=by
 refine bV ?_;cases h:decide (x<0)
 ·refine sW ?_;exact .refl _
 refine sW ?_;exact .refl _
theorem zy2(M:af):(M.any λx=>decide (x<0)||decide (x>9))=!bq M 10:=by
 unfold bq;rw[List.all_eq_not_any_not,Bool.not_not]
 congr 1
 funext x;by_cases h1:x<0<;>by_cases h2:x>9<;>simp[h1,h2]<;>omega
variable(P:ah)
theorem Pp(hP:P.Fits)(M:af)(hM:M.length<=9223372036854775807):ar aj 156 [cH P,aL M] (.aJ [nv<|P.uv M,ab<|P.jg M]):=by
 refine bz fZ ?_;have bad:∀{H:aB} {e:Int},e≠0->P.jg M=e->Deep H (.aJ [bC,ab e]) (.aJ [nv<|P.uv M,ab<|P.jg M]):=λh k=>by
  have:P.uv M=[]:=by unfold ah.uv;rw[aa<|by rw[k];exact h]
  rw[k,this];exact .aJ _ _ (.cons _ _ _ _ (.none _) (.cons _ _ _ _ (.refl _) .nil))
 have GZ:=kY (λn=>ab n) (λ_=>by simp[Pure]) M hM (λx=>decide (x<0)||decide (x>9)) 216 [] (by simp[ao]) λa _=>znT a;rw[zy2] at GZ;have rZ:=hP.aP;have eE:P.jg M=if P.dp≠0 then P.dp else if P.jT M=true then 0 else 1:=rfl
 refine sR ?_;refine sC (vO P hP) ?_;refine sS (λh1=>?_) λh1=>?_
 ·have h1:P.dp≠0:=sO;exact bad h1<|by rw[eE,ae h1]
 have h1:P.dp=0:=sO;rw[aa zo] at eE;rw[aS,aS];cases h2:((M.length:Int) != P.aP.length)
 ·have h2:M.length=P.aP.length:=sO;refine sW ?_;refine sC GZ ?_;have eM:P.jT M=bq M 10:=(by unfold ah.jT;rw[gb h2,jZ]);cases h3:bq M 10
  ·refine sW ?_;exact bad zc<|by rw[eE,aa<|by rw[eM,h3];decide]
  refine sW ?_;have e0:P.jg M=0:=(by rw[eE,ae<|by rw[eM,h3]]);have eL:P.uv M=P.aC:=(by unfold ah.uv;rw[ae e0]);rw[e0,eL];exact .refl _
 have h2:M.length≠P.aP.length:=sO;refine sW ?_;exact bad zc<|by rw[eE,aa<|by unfold ah.jT;rw[gx h2];simp]
noncomputable def ah.cD(P:ah)(M:af):af:=if P.jg M=0 then P.gE M P.aC P.aC.length else []
theorem LL(hP:P.Fits)(M:af)(hM:M.length<=9223372036854775807):ar aj 61 [cH P,aL M] (.aJ [aL<|P.cD M,ab<|P.jg M]):=by
 refine bV ?_;refine sC (Pp P hP M hM) ?_;refine sS (λh1=>?_) λh1=>?_
 ·have h1:P.jg M≠0:=sO;have:P.cD M=[]:=by unfold ah.cD;rw[aa h1]
  rw[this];exact .aJ _ _ (.cons _ _ _ _ (.none _) (.cons _ _ _ _ (.refl _) .nil))
 have h1:P.jg M=0:=sO;obtain⟨hE,hB⟩:=ah.Ws h1;obtain⟨h0,_,ko⟩:=ah.lY hE;have hK:=ah.jX hB;have eL:P.uv M=P.aC:=by unfold ah.uv;rw[ae h1]
 have eN:P.cD M=P.gE M P.aC P.aC.length:=by unfold ah.cD;rw[ae h1]
 rw[eL,h1,eN,Br];refine dk (iF 8 1 zs rfl) ?_;refine bT [1,2,20,21] (λ((k,c,l):Nat×Nat×af)=>[(8,.own 1 c 0 c),(22,ab k)]) (λ(k,c,l)=>[(1,.vec true c 1<|aE l)]) (λ(k,c,l)=>k<=P.aC.length/\c=l.length/\c<=k/\l=P.gE M P.aC k) (λ(k,c,l)=>P.aC.length-k) (0,0,[]) ?_;refine sW ?_;refine⟨⟨zo,rfl,zo,rfl⟩,by exact sK,rfl,?_⟩;rintro⟨k,c,l⟩ ⟨hk,hc,m8,hl⟩;refine bl (λh2=>?_) λh2=>?_
 ·have au:k<P.aC.length:=sO;have CG:=ah.Ag hE au;have eT:P.gE M P.aC (k+1)=if P.ix M (P.aC.getD k (0,0,0))=true then P.gE M P.aC k++[(k:Int)] else P.gE M P.aC k:=rfl
  refine sL (Ck (k:=k) zo au) ?_;generalize P.aC.getD k (0,0,0)=s at CG eT;refine sC (QW P hP h0 M hK s CG) ?_;cases hm:P.ix M s
  ·refine bJ ?_;refine⟨(k+1,c,l),⟨zo,hc,zo,by rw[eT,hm,hl];rfl⟩,zd,?_⟩;exact br 2 zs rfl sQ sQ
  refine mQ ?_;refine⟨(k+1,c+1,l++[(k:Int)]),⟨zo,by simp[hc],zo,by rw[eT,hm,hl];rfl⟩,zd,?_⟩;refine br 2 zs rfl sQ (sU ?_);exact bM<|tS hc
 have au:k=P.aC.length:=by have:¬k<P.aC.length:=sO
                           omega
 subst au;rw[<-hl];exact .aJ _ _ (.cons _ _ _ _ (AV hc rfl) (.cons _ _ _ _ (.refl _) .nil))
theorem Qw(hP:P.Fits):ar aj 58 [cH P] (.aJ [aL P.jd,ab P.dp]):=by
 refine bV ?_;refine sC (vO P hP) ?_;refine sS (λh1=>?_) λh1=>?_
 ·have h1:P.dp≠0:=sO;have:P.jd=[]:=by unfold ah.jd;rw[aa h1]
  rw[this];exact .aJ _ _ (.cons _ _ _ _ (.none _) (.cons _ _ _ _ (.refl _) .nil))
 have h1:P.dp=0:=sO;obtain⟨h0,_,_⟩:=ah.lY h1;obtain⟨tF,pd⟩:=ky h0;have eB:P.jd=gl P.aP.length (vr P):=by unfold ah.jd;rw[ae h1]
 rw[aS,h1,eB];refine⟨zo,zo,zo,?_⟩;rw[bS,show List.map D.sc [Value.int .i64 0]=[ab 0] from rfl,A2];refine sW ?_;rw[aS];refine bT [1,6,22,23] (λ((k,g):Nat×(Nat->Int))=>[(24,ab k)]) (λ(k,g)=>[(1,.vec true 0 1<|aE<|gl P.aP.length g)]) (λ(k,g)=>k<=P.aP.length/\∀i,g i=if i<k then vr P i else 0) (λ(k,g)=>P.aP.length-k) (0,λ_=>0) ?_;refine sW ?_;refine⟨⟨zo,λi=>rfl⟩,by exact sK,rfl,?_⟩;rintro⟨k,g⟩ ⟨hk,hg⟩;refine bl (λh2=>?_) λh2=>?_
 ·have au:k<P.aP.length:=sO;have hfk:=ah.zh.1<|QH h0 k au;refine sL (Ae P (k:=k) zo au) ?_;refine sL (xr P (k:=(P.src k).toNat) zo zo) ?_;refine sS (λh3=>?_) λh3=>?_
  ·have h3:P.kind (P.src k).toNat=1:=sO;refine sB ?_;refine⟨_,dh k zo zo,?_⟩;refine bJ ?_;refine⟨(k+1,kD g k 1),⟨zo,λi=>?_⟩,zd,?_⟩
   ·by_cases e:i=k
    ·subst e;rw[tu,ae zo];unfold vr;rw[ae h3]
    rw[wj e,hg];by_cases q:i<k
    ·rw[ae q,ae zo]
    rw[aa q,aa zo]
   refine br 2 zs rfl sQ (sU ?_);exact bM<|nA zo
  have h3:P.kind (P.src k).toNat≠1:=sO;refine sI ?_;refine⟨(k+1,g),⟨zo,λi=>?_⟩,zd,?_⟩
  ·rw[hg];by_cases e:i=k
   ·subst e;rw[aa zo,ae zo];unfold vr;rw[aa h3]
   by_cases q:i<k
   ·rw[ae q,ae zo]
   rw[aa q,aa zo]
  exact br 2 zs rfl sQ sQ
 have au:k=P.aP.length:=by have:¬k<P.aP.length:=sO
                           omega
 subst au;have e:gl P.aP.length (vr P)=gl P.aP.length g:=vW λi hi=>by rw[hg,ae hi]
 rw[e];exact .aJ _ _ (.cons _ _ _ _ (HW rfl) (.cons _ _ _ _ (.refl _) .nil))
end
section
theorem zy0{zs:fp}{y:aZ}(h:zs.length=n):zs.take 0++List.replicate (n-0) y++zs.drop n=List.replicate n y:=by
 rw[FT zo];simp
theorem zpi(h:0<=x)(h':x<=1073741824)(k:Nat):0<=x.fdiv (2^k)/\x.fdiv (2^k)<9223372036854775808:=by
 have hp:(0:Int)<2^k:=Int.pow_pos zc;rw[MI _ zo];have h1:=Int.ediv_nonneg h (by omega:(0:Int)<=2^k);have h2:=Int.ediv_le_self (2^k) h;omega
variable(P:ah)
theorem zsO(hP:P.Fits)(h0:P.aV=0)(M:af)(hM:P.Mark M)(s:bQ)(hs:P.D2 s) :
  ar aj 215 [cH P,aL M,.agg<|xn s] (.aJ [aL<|P.pt M s,ab<|P.lK M s]):=by
 obtain⟨tF,pd⟩:=ky h0;have hn:=hs.node;obtain⟨hE,hI,hO⟩:=OL h0 hn.1 hn.2;have hi:=GG P hP s.1;have ho:=Xi P hP s.1;rw[hI,hE] at hi;rw[hO,hE] at ho;have l1:=P.Er s.1;have l2:=P.EK s.1;have lM:=hM.len;have F3:=hs.out;have eE:P.lK M s=if P.kind s.1.toNat=3 then 0 else if ∃f,f<P.aP.length/\9<P.rY M s f then 7 else 0:=by unfold ah.lK;rfl
 have eL:P.pt M s=if P.kind s.1.toNat=3 then gl P.aP.length λ_=>0 else if P.lK M s=0 then gl P.aP.length<|P.rY M s else []:=rfl
 refine bV ?_;refine sE (nX (Hw M zo) (by simp[ao,Pure]) [2] rfl rfl (by simp[an.aO,bO,D.aO];rfl)) ?_;rw[lM];refine sL (xr P (k:=s.1.toNat) zo zo) ?_;refine sS (λh1=>?_) λh1=>?_
 ·have h1:P.kind s.1.toNat=3:=sO;rw[ae h1] at eE eL;rw[eE,eL,zy0<|by rw[aS];exact lM,A2];exact .aJ _ _ (.cons _ _ _ _ (HW rfl) (.cons _ _ _ _ (.refl _) .nil))
 have h1:P.kind s.1.toNat≠3:=sO;rw[aa h1] at eE eL;refine sC hi ?_;rw[aS];have eM:(M.map λn=>[ab n])=aE (gl P.aP.length<|val M):=by rw[<-lM,zCv];rfl
 refine bT [3,5,8,36,37] (λ((a,g):Nat×(Nat->Int))=>[(38,ab a)]) (λ(a,g)=>[(2,.vec true 1 1<|aE<|gl P.aP.length g)]) (λ(a,g)=>a<=(P.cq s.1).length/\P.tp M s g a) (λ(a,g)=>(P.cq s.1).length-a) (0,val M) ?_;refine sW ?_;refine⟨⟨zo,ah.tp.begin⟩,by exact sK,by rw[eM];rfl,?_⟩;rintro⟨a,g⟩ ⟨ha,hA⟩;refine bl (λh2=>?_) λh2=>?_
 ·have nf:a<(P.cq s.1).length:=sO;have bg:=ah.DU (P:=P) (n:=s.1) nf;obtain⟨X,hX⟩:∃X:Nat,P.jk s.1 a=X:=⟨_,(w7 bg.1).symm⟩;have hold:=hA.fD nf hX;have v1:=hM.pos X;have v2:=hM.top X;refine sL (eY (k:=a) zo nf) ?_;rw[show(P.cq s.1).getD a 0=P.jk s.1 a from rfl,hX];rw[hX,bS] at bg;have eD:P.qz M s X=(s.2.1==(X:Int)||decide (s.2.1<0)&&decide (0<val M X)):=(by unfold ah.qz;rw[gb bg.2.2,jZ]);have eBase:P.tH M s X=val M X-if P.qz M s X=true then 1 else 0:=rfl
  cases h3:(s.2.1==(X:Int))
  ·refine sW ?_;rw[h3,rK] at eD;cases h4:decide (s.2.1<0)
   ·rw[h4,qG] at eD;rw[aa<|by rw[eD];decide,Int.sub_zero] at eBase;refine bJ ?_;refine⟨(a+1,g),⟨zo,hA.next nf hX (by rw[eBase,hold]) λf hf=>rfl⟩,zd,?_⟩;exact bf (by exact sK) rfl
   refine ew ?_;refine⟨_,dh X zo zo,?_⟩;refine sW ?_;rw[h4,jZ] at eD;rw[hold];cases h5:decide (val M X>0)
   ·have eD:P.qz M s X=false:=(by rw[eD];exact h5);rw[aa<|by rw[eD];decide,Int.sub_zero] at eBase;refine bJ ?_;refine⟨(a+1,g),⟨zo,hA.next nf hX (by rw[eBase,hold]) λf hf=>rfl⟩,zd,?_⟩;exact bf (by exact sK) rfl
   have eD:P.qz M s X:=(by rw[eD];exact h5);rw[ae eD] at eBase;refine ew ?_;refine⟨_,dh X zo zo,?_⟩;refine bJ ?_;refine sB ?_;refine⟨_,dh X zo zo,?_⟩;refine bJ ?_;refine⟨(a+1,kD g X<|g X-1),⟨zo,hA.next nf hX (by rw[tu,eBase,hold]) λf hf=>wj hf⟩,zd,?_⟩;exact bf (by exact sK)<|by rw[nA (k:=X) zo];rfl
  rw[h3,Bool.true_or] at eD;rw[ae eD] at eBase;refine ew ?_;refine⟨_,dh X zo zo,?_⟩;refine bJ ?_;refine sB ?_;refine⟨_,dh X zo zo,?_⟩;refine bJ ?_;refine⟨(a+1,kD g X<|g X-1),⟨zo,hA.next nf hX (by rw[tu,eBase,hold]) λf hf=>wj hf⟩,zd,?_⟩;exact bf (by exact sK)<|by rw[nA (k:=X) zo];rfl
 have nf:a=(P.cq s.1).length:=by have:¬a<(P.cq s.1).length:=sO
                                 omega
 subst nf;refine sC ho ?_;rw[aS];refine bT [5,8,72,73] (λ((k,g):Nat×(Nat->Int))=>[(74,ab k)]) (λ(k,g)=>[(2,.vec true 1 1<|aE<|gl P.aP.length g)]) (λ(k,g)=>k<=(P.gB s.1).length/\∀f,f<P.aP.length->g f=P.tH M s f+P.mg s f k/\g f<=9) (λ(k,g)=>(P.gB s.1).length-k) (0,g) ?_;refine sW ?_;refine⟨⟨zo,λf hf=>?_⟩,by exact sK,rfl,?_⟩
 ·have b1:=ah.T2 hM s f;rw[hA.fin hf];exact⟨by simp[ah.mg],b1.2⟩
 clear hA h2;rintro⟨k,g⟩ ⟨hk,hg⟩;refine bl (λh2=>?_) λh2=>?_
 ·have au:k<(P.gB s.1).length:=sO;have bg:=ah.zu9 (P:=P) (n:=s.1) au;obtain⟨X,hX⟩:∃X:Nat,P.vC s.1 k=X:=⟨_,(w7 bg.1).symm⟩;refine sL (eY (k:=k) zo au) ?_;rw[show(P.gB s.1).getD k 0=P.vC s.1 k from rfl,hX];rw[hX,bS] at bg;have fd:=zpi F3.1 F3.2<|min (k:Int).toNat IntKind.i64.bits;refine⟨zo,?_⟩;refine sW ?_;have eb:(gF .and .i64 (s.2.2.fdiv<|2^min (k:Int).toNat IntKind.i64.bits) 1==1)=jz s.2.2 k:=(by rw[ztW fd.1 fd.2];rfl);rw[eb];obtain⟨g1,g2⟩:=hg X zo;have b1:=ah.T2 hM s X;have b2:=ah.Nz P s X k;refine sS (λh3=>?_) λh3=>?_
  ·have hh:=ah.zvL hX h3;refine sB ?_;refine⟨_,dh X zo zo,?_⟩;refine bJ ?_;refine sB ?_;refine⟨_,dh X zo zo,?_⟩;refine sW ?_;rw[nA (k:=X) zo];refine sB ?_;refine⟨_,dh X zo zo,?_⟩;refine sW ?_;rw[tu];refine sS (λh4=>?_) λh4=>?_
   ·have h4:9<g X+1:=sO;have hm:=ah.Xy P s X (j:=k+1) (k:=(P.gB s.1).length) zo;have e7:P.lK M s=7:=(by rw[eE,ae ⟨X,zo,by unfold ah.rY;omega⟩]);rw[e7] at eL;rw[e7,eL,aa zc];exact .aJ _ _ (.cons _ _ _ _ (.none _) (.cons _ _ _ _ (.refl _) .nil))
   have h4:g X+1<=9:=sO;refine sI ?_;refine⟨(k+1,kD g X<|g X+1),⟨zo,λf hf=>?_⟩,zd,bf (by exact sK) rfl⟩;by_cases e:f=X
   ·subst e;rw[tu,hh];omega
   rw[wj e,ah.WG (.inl<|by rw[hX];omega)];exact hg f hf
  refine sI ?_;refine⟨(k+1,g),⟨zo,λf hf=>?_⟩,zd,bf (by exact sK) rfl⟩;rw[ah.WG (.inr h3)];exact hg f hf
 have au:k=(P.gB s.1).length:=by have:¬k<(P.gB s.1).length:=sO
                                 omega
 subst au;have e0:P.lK M s=0:=by
  rw[eE,aa];rintro⟨f,hf,h9⟩;have:=hg f hf;unfold ah.rY at h9;omega
 rw[e0,ae rfl] at eL;have e:gl P.aP.length (P.rY M s)=gl P.aP.length g:=vW λf hf=>(hg f hf).1.symm;rw[e0,eL,e];exact .aJ _ _ (.cons _ _ _ _ (HW rfl) (.cons _ _ _ _ (.refl _) .nil))
open Classical in
noncomputable def ah.gH(P:ah)(M:af)(k:Int):Int :=
 if P.jg M≠0 then P.jg M else if k<0\/(P.aC.length:Int)<=k then 1
 else if P.ix M (P.aC.getD k.toNat (0,0,0))=true then P.lK M<|P.aC.getD k.toNat (0,0,0) else 9
noncomputable def ah.cR(P:ah)(M:af)(k:Int):af:=if P.gH M k=0 then P.pt M<|P.aC.getD k.toNat (0,0,0) else []
theorem VK{P:ah}{M:af}{s:bQ}(h:P.lK M s≠0):P.pt M s=[]:=by
 unfold ah.pt;split
 ·rename_i q;exfalso;apply h;unfold ah.lK;rw[ae q]
 first|rfl|rw[aa h]
theorem Qf(hP:P.Fits)(M:af)(hM:M.length<=9223372036854775807)(k:Int) :
  ar aj 155 [cH P,aL M,ab k] (.aJ [aL<|P.cR M k,ab<|P.gH M k]):=by
 have eE:P.gH M k=if P.jg M≠0 then P.jg M else if k<0\/(P.aC.length:Int)<=k then 1
  else if P.ix M (P.aC.getD k.toNat (0,0,0))=true then P.lK M<|P.aC.getD k.toNat (0,0,0) else 9:=by unfold ah.gH;rfl
 have eL:P.cR M k=if P.gH M k=0 then P.pt M<|P.aC.getD k.toNat (0,0,0) else []:=rfl
 refine bz fZ ?_;have bad:∀{H:aB} {e:Int},e≠0->P.gH M k=e->Deep H (.aJ [bC,ab e]) (.aJ [aL<|P.cR M k,ab<|P.gH M k]):=λh q=>by
  rw[eL,q,aa h];exact .aJ _ _ (.cons _ _ _ _ (.none _) (.cons _ _ _ _ (.refl _) .nil))
 refine sR ?_;refine sC (Pp P hP M hM) ?_;refine sS (λh1=>?_) λh1=>?_
 ·have h1:P.jg M≠0:=sO;exact bad h1<|by rw[eE,ae h1]
 have h1:P.jg M=0:=sO;obtain⟨hE,hB⟩:=ah.Ws h1;obtain⟨h0,_,ko⟩:=ah.lY hE;have hK:=ah.jX hB;have eN:P.uv M=P.aC:=by unfold ah.uv;rw[ae h1]
 rw[aa zo] at eE;rw[eN];cases h2:decide (k<0)
 ·have h2:¬k<0:=sO;refine sW ?_;rw[Br];refine sS (λh3=>?_) λh3=>?_
  ·exact bad zc<|by rw[eE,ae (.inr<|sO)]
  have h3:¬(P.aC.length:Int)<=k:=sO;rw[aa zo] at eE;have au:k.toNat<P.aC.length:=zo;have CG:=ah.Ag hE au;refine sL (Ck (k:=k.toNat) zo au) ?_;generalize hS:P.aC.getD k.toNat (0,0,0)=s at CG eE eL;refine sC (QW P hP h0 M hK s CG) ?_;cases h4:P.ix M s
  ·refine sW ?_;exact bad zc<|by rw[eE,aa<|by rw[h4];decide]
  rw[ae h4] at eE;refine sW ?_;refine sL (Ck (k:=k.toNat) zo au) ?_;rw[hS];refine sC (zsO P hP h0 M hK s CG) ?_;have e:P.cR M k=P.pt M s:=by
   rw[eL,eE];split
   ·rfl
   rename_i q;exact(VK q).symm
  rw[eE,e];exact .refl _
 have h2:k<0:=sO;refine sW ?_;exact bad zc<|by rw[eE,ae (.inl h2)]
end
section
end
section
end

namespace ah
theorem YF(e:Nat->Int)(len:Nat):∃n,n<=len/\(∀j,j<n->e j=0)/\(n=len\/e n≠0):=by
 induction len with
 |zero=>exact⟨0,zo,λj h=>zo,.inl rfl⟩
 |succ k ih =>
  obtain⟨n,h1,h2,h3⟩:=ih;rcases h3 with rfl|h3
  ·by_cases q:e n=0
   ·refine⟨n+1,zo,λj hj=>?_,.inl rfl⟩;by_cases w:j=n
    ·subst w;exact q
    exact h2 j zo
   exact⟨n,zo,h2,.inr q⟩
  exact⟨n,zo,h2,.inr h3⟩
variable{P:ah}
theorem MN(h:P.dp=0):P.jT P.jd:=by
 have e:P.jd=gl P.aP.length (vr P):=by unfold jd;rw[ae h]
 unfold jT bq;rw[e,GJ,gb rfl,jZ,kv];intro x hx;unfold gl at hx;obtain⟨i,_,rfl⟩:=cU.1 hx;unfold vr;split<;>decide
variable{M:af}{s:bQ}
theorem zyu(hM:P.Mark M)(hm:P.ix M s)(f:Nat):0<=P.rY M s f:=by
 have h1:=hM.pos f;have h2:=(P.Nz s f (P.gB s.1).length).1;unfold rY tH;split
 ·rename_i hd;unfold qz at hd;rw[dL,jh] at hd;have:0<val M f:=by
   rcases hd.2 with q|q
   ·have q:s.2.1=(f:Int):=(by simpa using q);unfold ix at hm;rw[ae zo,q,bS] at hm;exact tk hm
   rw[dL] at q;exact tk q.2
  omega
 omega
theorem RB(hM:P.jT M)(hm:P.ix M s)(he:P.lK M s=0):P.jT<|P.pt M s:=by
 have hK:=jX hM;unfold lK at he;unfold pt;by_cases h3:P.kind s.1.toNat=3
 ·rw[ae h3];unfold jT bq;rw[GJ,gb rfl,jZ,kv];intro x hx;unfold gl at hx;obtain⟨i,_,rfl⟩:=cU.1 hx;decide
 rw[aa h3] at he;split at he
 ·cases he
 rename_i cJ;have G4:P.lK M s=0:=by unfold lK;rw[aa h3,aa cJ]
 rw[aa h3,ae G4];unfold jT bq;rw[GJ,gb rfl,jZ,kv];intro x hx;unfold gl at hx;obtain⟨i,hi,rfl⟩:=cU.1 hx;have h4:=zyu hK hm i;have h5:¬9<P.rY M s i:=λq=>cJ ⟨i,eW.1 hi,q⟩;rw[dL,c6,c6];omega
theorem V5{k:Int}(h:P.gH M k=0):P.jg M=0/\0<=k/\k.toNat<P.aC.length/\P.ix M (P.aC.getD k.toNat (0,0,0))/\P.lK M (P.aC.getD k.toNat (0,0,0))=0/\P.cR M k=P.pt M (P.aC.getD k.toNat (0,0,0)):=by
 have e:P.cR M k=P.pt M (P.aC.getD k.toNat (0,0,0)):=by unfold cR;rw[ae h]
 unfold gH at h;split at h
 ·exact absurd h<|by assumption
 rename_i q;split at h
 ·cases h
 split at h
 ·rename_i q2 q3;exact⟨Classical.not_not.1 q,zo,zo,q3,h,e⟩
 cases h
end ah
section
def jw(L:ak):fp:=L.map λl=>[aL l]
variable(L:ak)
@[simp] theorem D9:dX<|jw L:=cO _ (λl=>by simp[ao,c9]) L
@[simp] theorem zx2{m:Nat}:bN m (jw L)↔True:=⟨λ_=>trivial,λ_=>bP _<|D9 L⟩
@[simp] theorem zCR:(jw L).length=L.length:=by simp[jw]
variable{L:ak}
theorem Im{x:af}(h:c=L.length):List.drop 0 (List.take c<|jw L)++[[aL x]]=jw (L++[x]):=by
 subst h;rw[dt zs];simp[jw]
theorem On{z:Nat}(hz:z=k)(h:k<L.length):(jw L)[z]? = some [aL<|L.getD k []]:=by
 unfold jw;rw[Nv hz h,ay,aG h];rfl
theorem Xn{H:aB}{id:Nat}{q:Bool}(hn:n=L.length)(h:H[id]? = some (.vec q v 1<|jw L)):Deep H (.own id v 0 n)<|bW L:=by
 subst hn;exact .own _ _ _ _ _ _ _ _ h<|by rw[dt zs];exact fW _
end
abbrev cK:=Int×Int
abbrev bb:=Int×Int
structure SpR where
 e:Int
 marks:ak
 aQ:List cK
 cur:List bb
 last:cK
def oy(marks:ak)(m:af):Nat:=marks.idxOf m
def y7(m:af)(tok:Int):Bool:=m.any λx=>decide (x>tok)
def jM(marks:ak)(m:af)(tok:Int)(st:Nat):Int:=if y7 m tok=true then 7 else if m∈marks then 0 else if marks.length=st then 8 else 0
def gN(marks:ak)(m:af)(tok:Int)(st:Nat):ak:=if jM marks m tok st=0/\¬m∈marks then marks++[m] else marks
def kW(marks:ak)(aQ:List cK)(m:af)(tok:Int)(st:Nat)(o:cK):List cK:=if jM marks m tok st=0/\¬m∈marks then aQ++[o] else aQ
def ka(marks:ak)(m:af)(tok:Int)(st:Nat):Int:=if jM marks m tok st=0 then (oy (gN marks m tok st) m:Int) else 0
namespace ah
noncomputable def eX(P:ah)(tok:Int)(st:Nat)(n:Nat)(M:af):af->ak->List cK->List bb->cK->SpR
 |[],marks,aQ,cur,last=>⟨0,marks,aQ,cur,last⟩
 |k::r,marks,aQ,cur,_ =>
  if P.gH M k≠0 then ⟨P.gH M k,marks,aQ,cur,((n:Int),k)⟩
  else if jM marks (P.cR M k) tok st≠0 then ⟨jM marks (P.cR M k) tok st,marks,aQ,cur,((n:Int),k)⟩
  else P.eX tok st n M r (gN marks (P.cR M k) tok st) (kW marks aQ (P.cR M k) tok st ((n:Int),k)) (cur++[(k,ka marks (P.cR M k) tok st)]) ((n:Int),k)
structure SpF where
 e:Int
 marks:ak
 aQ:List cK
 next:List<|List bb
 last:cK
noncomputable def iD(P:ah)(tok:Int)(st:Nat):Nat->Nat->ak->List cK->List (List bb)->cK->SpF
 |0,_,marks,aQ,next,last=>⟨0,marks,aQ,next,last⟩
 |f+1,n,marks,aQ,next,last =>
  if n<marks.length then
   if (P.eX tok st n (marks.getD n []) (P.cD<|marks.getD n []) marks aQ [] last).e≠0 then
    ⟨(P.eX tok st n (marks.getD n []) (P.cD<|marks.getD n []) marks aQ [] last).e,(P.eX tok st n (marks.getD n []) (P.cD<|marks.getD n []) marks aQ [] last).marks,
     (P.eX tok st n (marks.getD n []) (P.cD<|marks.getD n []) marks aQ [] last).aQ,next,(P.eX tok st n (marks.getD n []) (P.cD<|marks.getD n []) marks aQ [] last).last⟩
   else P.iD tok st f (n+1) (P.eX tok st n (marks.getD n []) (P.cD<|marks.getD n []) marks aQ [] last).marks (P.eX tok st n (marks.getD n []) (P.cD<|marks.getD n []) marks aQ [] last).aQ
    (next++[(P.eX tok st n (marks.getD n []) (P.cD<|marks.getD n []) marks aQ [] last).cur]) (P.eX tok st n (marks.getD n []) (P.cD<|marks.getD n []) marks aQ [] last).last
  else ⟨0,marks,aQ,next,last⟩
structure Sp(P:ah)(tok:Int)(st:Nat)(marks:ak)(aQ:List cK):Prop where
 one:marks.Nodup
 fB:∀m∈marks,P.jT m=true
 room:marks.length<=st
 len:aQ.length=marks.length
 back:∀i,0<i->i<aQ.length->0<=(aQ.getD i (0,0)).1/\(aQ.getD i (0,0)).1<(i:Int)
 root:aQ.length=0\/(aQ.getD 0 (0,0))=(-1,-1)
variable{marks:ak}{m:af}{tok:Int}{st:Nat}
theorem ztb(h:jM marks m tok st=0):y7 m tok=false/\(m∈marks\/marks.length≠st):=by
 unfold jM at h;split at h
 ·cases h
 rename_i h1;refine⟨by simpa using h1,?_⟩;split at h
 ·rename_i h2;exact .inl h2
 split at h
 ·cases h
 rename_i h3;exact .inr h3
variable{P:ah}
theorem Sp.put{aQ:List cK}(h:Sp P tok st marks aQ)(hm:P.jT m){a k:Int}(ha:0<=a)(hl:a<(marks.length:Int)):Sp P tok st (gN marks m tok st)<|kW marks aQ m tok st (a,k):=by
 unfold gN kW;split
 ·rename_i q;obtain⟨q1,q2⟩:=q;have h3:=(ztb q1).2.resolve_left q2;have hr:=h.room;have hlen:=h.len;refine⟨?_,?_,by simp;omega,by simp[hlen],?_,?_⟩
  ·rw[zn];refine⟨h.one,zs,λx hx y hy=>?_⟩;rw[cM] at hy;subst hy;intro e;subst e;exact q2 hx
  ·intro x hx;rcases de.1 hx with hx|hx
   ·exact h.fB x hx
   rw[cM] at hx;subst hx;exact hm
  ·intro i hi ug;rw[cL,jt] at ug;by_cases e:i=aQ.length
   ·subst e;rw[ay,fc<|aI _,mE];simp;omega
   have:=h.back i hi zo;rw[ay,dJ zo,<-ay];exact this
  right;rcases h.root with q|q
  ·omega
  rw[ay,dJ zo,<-ay];exact q
 exact h
theorem Hd:marks.length<=(gN marks m tok st).length:=by
 unfold gN;split<;>simp
theorem Oc(h:i<marks.length):(gN marks m tok st).getD i []=marks.getD i []:=by
 unfold gN;split
 ·rw[ay,dJ h,<-ay]
 rfl
theorem PA(h:jM marks m tok st=0):m∈gN marks m tok st:=by
 unfold gN;split
 ·simp
 rename_i q;by_cases e:m∈marks
 ·exact e
 exact absurd ⟨h,e⟩ q
theorem yY{l:ak}(h:k<l.length):l.getD k []∈l:=by
 rw[ay,aG h];exact ig h
variable{k:Int}{M:af}
theorem LM(h:k∈P.cD M):P.jg M=0/\0<=k/\k.toNat<P.aC.length/\P.ix M (P.aC.getD k.toNat (0,0,0)):=by
 unfold cD at h;split at h
 ·rename_i he;refine⟨he,?_⟩;have key:∀n,n<=P.aC.length->k∈P.gE M P.aC n->0<=k/\k.toNat<n/\P.ix M (P.aC.getD k.toNat (0,0,0))=true:=by
   intro n
   induction n with
   |zero=>intro _ h;simp[gE] at h
   |succ n ih =>
    intro hn h;simp only[gE] at h;split at h
    ·rename_i hm;rcases de.1 h with h|h
     ·obtain⟨h1,h2,h3⟩:=ih zo h;exact⟨h1,zo,h3⟩
     rw[cM] at h;subst h;refine⟨zo,zs,?_⟩;simpa using hm
    obtain⟨h1,h2,h3⟩:=ih zo h;exact⟨h1,zo,h3⟩
  obtain⟨h1,h2,h3⟩:=key _ (aI _) h;exact⟨h1,h2,h3⟩
 simp at h
theorem zzK(h:k∈P.cD M):P.gH M k=P.lK M (P.aC.getD k.toNat (0,0,0))/\P.cR M k=P.pt M (P.aC.getD k.toNat (0,0,0)):=by
 obtain⟨h1,h2,h3,h4⟩:=LM h;have e:P.gH M k=P.lK M (P.aC.getD k.toNat (0,0,0)):=by
  unfold gH;rw[aa zo,aa zo,ae h4]
 refine⟨e,?_⟩;unfold cR;rw[e];split
 ·rfl
 rename_i q;exact(VK q).symm
theorem R6(hM:P.jT M)(h:k∈P.cD M)(he:P.gH M k=0):P.jT<|P.cR M k:=by
 obtain⟨e1,e2⟩:=zzK h;rw[e2];exact RB hM (LM h).2.2.2<|by rw[<-e1];exact he
theorem Qz(P:ah)(M:af):(P.cD M).length<=P.aC.length:=by
 unfold cD;split
 ·exact P.Ke M _ _
 simp
end ah
section
theorem ztx{P:bt}{k e:aY}{q:IntKind}(gT:0<P.types.size)(hk:P.keyType k)(hu:P.underlying k=some (.array n e))(he:P.underlying e=some (.int q))(Oj:P.cellsOf e=1)(m8:P.cellsOf k=n)(vs:af)(hl:vs.length=n)(hw:∀x∈vs,(Lit.int q x).wf) :
  ∃l,keyOf P k (.agg (vs.map<|Value.int q).toArray)=some l:=by
 obtain⟨d,hd⟩:∃d,P.types.size=d+1:=⟨P.types.size-1,zo⟩;have key:∀is:List Nat,(∀i∈is,i<n)->∃r,(is.mapM λi=>P.keyLits (d+1) e<|((vs.map<|Value.int q).drop<|i*P.cellsOf e).take<|P.cellsOf e)=some r:=by
  intro is
  induction is with
  |nil=>intro _;exact⟨[],rfl⟩
  |cons i is ih =>
   intro h;obtain⟨r,hr⟩:=ih λj hj=>h j (by simp[hj]);have hi:=h i zs;have e1:((vs.map<|Value.int q).drop<|i*P.cellsOf e).take (P.cellsOf e)=[.int q<|vs[i]'zo]:=by
    rw[Oj,AE,uu<|by simp;omega];simp
   refine⟨[.int q<|vs[i]'zo]::r,?_⟩;rw[List.mapM_cons,hr,e1];simp only[Program.keyLits,he];rw[ae ⟨trivial,hw _<|ig _⟩];rfl
 obtain⟨r,hr⟩:=key (List.range n) λi hi=>eW.1 hi;unfold keyOf;rw[hu];simp only[hk,Value.formed,hu,m8,jZ];rw[ae<|by simp[hl],hd];show ∃l,(P.keyLits (d+1+1) k (vs.map<|Value.int q).toArray.toList).map _=some l;rw[Program.keyLits];simp only[hu];rw[ae<|by simp[hl,m8],hr]
 ·exact⟨_,rfl⟩
 exact hu
def tU(m:af):af:=(List.range 30).map λi=>m.getD i 0
def As(m:af):aZ:=(tU m).map λx=>.sc (.int .i8 x)
def tI(m:af):aH:=.agg ((As m).map scV).toArray
theorem LJ(m:af):tI m=.agg ((tU m).map<|Value.int .i8).toArray:=by
 unfold tI As;rw[List.map_map];rfl
variable{m:af}
theorem W8{m':af}(hl:m.length=m'.length)(nI:m.length<=30)(h:tI m=tI m'):m=m':=by
 rw[LJ,LJ] at h;have h:=(Value.agg.injEq _ _).mp h;have h:=bK Array.toList h;simp only[List.toList_toArray] at h;have h:tU m=tU m':=by
  have:=bK (List.map λv=>match v with|Value.int _ x=>x|_=>0) h;simpa [List.map_map,Function.comp_def] using this
 apply AT hl;intro i h1 h2;have:=bK (λl:af=>l[i]?) h;simp only[tU,cy,pN<|show i<30 by omega,xg,Option.some.injEq] at this;rw[ay,ay,aG h1,aG h2] at this;exact this
noncomputable def tL(marks:ak):Nat->aH->Option aH
 |0=>λ_=>none
 |k+1=>ox (tL marks k) (tI<|marks.getD k []) (.int .i64 k)
noncomputable def fM(marks:ak):aH->Option aH:=tL marks marks.length
theorem P0{marks:ak}{m:af}:∀k,k<=marks.length->tL (marks++[m]) k=tL marks k
 |0,_=>rfl
 |k+1,h=>by
  simp only[tL];rw[P0 k zo,ay,dJ zo,<-ay]
theorem zBn(marks:ak)(m:af):fM (marks++[m])=ox (fM marks) (tI m) (.int .i64 marks.length):=by
 unfold fM;rw[cL,jt];simp only[tL];rw[P0 _<|aI _,ay,fc<|aI _,mE];rfl
theorem Xv{marks:ak}{m:af}(hl:∀x∈marks,x.length=m.length)(nI:m.length<=30)(hm:¬m∈marks):∀k,k<=marks.length->tL marks k (tI m)=none
 |0,_=>rfl
 |k+1,h=>by
  simp only[tL,ox];rw[aa ?_,Xv hl nI hm k zo];intro e;have hk:=ah.yY (l:=marks) (k:=k) zo;have:=W8 (hl _ hk).symm nI e;exact hm<|this▸hk
theorem TI{marks:ak}{m:af}(hl:∀x∈marks,x.length=m.length)(nI:m.length<=30)(hn:marks.Nodup){i:Nat}(hi:i<marks.length)(hm:marks.getD i []=m):∀k,i<k->k<=marks.length->tL marks k (tI m)=some (.int .i64 i)
 |0,h,_=>zo
 |k+1,h,hk=>by
  simp only[tL,ox];by_cases e:i=k
  ·subst e;rw[hm,ae rfl]
  rw[aa ?_,TI hl nI hn hi hm k zo zo];intro q;have hkm:=ah.yY (l:=marks) (k:=k) zo;have:=W8 (hl _ hkm).symm nI q;rw[<-hm,ay,ay,aG hi,aG zo] at this;exact xc.1 hn i k hi zo zo this
variable{marks:ak}
theorem zsJ(h:m∈marks):oy marks m<marks.length/\marks.getD (oy marks m) []=m:=by
 unfold oy;have h1:=Ks h;refine⟨h1,?_⟩;rw[ay,aG h1,List.getElem_idxOf h1];rfl
theorem VR(hl:∀x∈marks,x.length=m.length)(nI:m.length<=30)(hn:marks.Nodup)(h:m∈marks):fM marks (tI m)=some (.int .i64<|oy marks m):=by
 obtain⟨h1,h2⟩:=zsJ h;exact TI hl nI hn h1 h2 _ h1<|aI _
theorem X4(hl:∀x∈marks,x.length=m.length)(nI:m.length<=30)(h:¬m∈marks):fM marks (tI m)=none:=Xv hl nI h _<|aI _
theorem zw5{cs:aZ}{z:Nat}{c:D}{K:aZ->Prop}(hz:z=k)(h:k<cs.length)(hK:K<|cs.set k c):pQ cs z [c] K:=by
 subst hz;refine(Cy _ _ _ _).2 ⟨by simp;omega,?_⟩;rw[List.set_eq_take_append_cons_drop,ae h] at hK;rw[jt,l8,List.singleton_append];exact hK
def wq(a b:Int):aZ:=[ab a,ab b]
def kc(l:List<|Int×Int):fp:=l.map λo=>wq o.1 o.2
def nD(l:List<|Int×Int):D:=.a8 2<|kc l
def jW(L:List<|List bb):fp:=L.map λl=>[nD l]
variable(l:List<|Int×Int)
@[simp] theorem CA:(kc l).length=l.length:=by simp[kc]
@[simp] theorem zsg(l:List<|List bb):(jW l).length=l.length:=by simp[jW]
@[simp] theorem Ec:dX<|kc l:=cO _ (λl=>by simp[wq,ao,Pure]) l
@[simp] theorem CE:Pure<|nD l:=by simp only[nD,Pure];exact Ec l
@[simp] theorem yG(l:List<|List bb):dX<|jW l:=cO _ (λl=>by simp[ao,CE]) l
variable{m:Nat}
@[simp] theorem zxf:bN m (kc l)↔True:=⟨λ_=>trivial,λ_=>bP _<|Ec l⟩
@[simp] theorem zx0(l:List<|List bb):bN m (jW l)↔True:=⟨λ_=>trivial,λ_=>bP _<|yG l⟩
@[simp] theorem zx3:az m (nD l)↔True:=⟨λ_=>trivial,λ_=>cp _<|CE l⟩
variable{l:List<|Int×Int}
theorem ur{z:Nat}(hz:z=k)(h:k<l.length):(kc l)[z]? = some (wq (l.getD k (0,0)).1 (l.getD k (0,0)).2):=by
 subst hz;unfold kc;rw[cy,aG h,ay,aG h];rfl
theorem GC{a b:Int}(h:c=l.length):List.drop 0 (List.take c<|kc l)++[wq a b]=kc (l++[(a,b)]):=by
 subst h;rw[dt zs];simp[kc]
theorem zpO{L:List<|List bb}{l:List bb}(h:c=L.length):List.drop 0 (List.take c<|jW L)++[[nD l]]=jW (L++[l]):=by
 subst h;rw[dt zs];simp[jW]
def Ab(P:ah)(tok:Int)(st n no nn:Nat)(last:cK):aZ:=[.a8 2<|P.nodes.map gf,.a8 2<|P.aP.map kg,ab tok,ab st,.own 2 n 0 n,.own 4 nn 0 nn,.mp 0,.own 3 no 0 no,ab last.1,ab last.2]
noncomputable def kX(P:ah)(tok:Int)(st:Nat)(marks:ak)(aQ:List cK)(next:List<|List bb)(last:cK):aB :=
 [.dI true<|kF aj 295<|fM marks,.row true<|Ab P tok st marks.length aQ.length next.length last,.vec true marks.length 1<|jw marks,.vec true aQ.length 2<|kc aQ,.vec true next.length 1 (jW next)]
theorem Yl:laidOutB aj:=by kernel_rfl
theorem Qn:Maps.Keyed aj 295:=Maps.Keyed.of_law<|deep_law_laid Yl (m:=2) zo (tk<|by kernel_rfl) (by kernel_rfl)<|by rw[Tryz.underlying295]
def x5(m:af)(k:Nat):aZ:=(List.range 30).map λi=>.sc (.int .i8<|if i<k then m.getD i 0 else 0)
theorem YT{m:af}:(x5 m k).set k (.sc (.int .i8<|m.getD k 0))=x5 m (k+1):=by
 unfold x5;apply qX;intro i;rw[wG];by_cases hi:i<30
 ·by_cases e:k=i
  ·subst e;simp[hi]
  rw[aa e];simp only[cy,pN hi,xg];by_cases q:i<k
  ·rw[ae q,ae zo]
  rw[aa q,aa zo]
 rw[db (l:=(List.range 30).map _)<|by simp;omega,db (l:=(List.range 30).map _)<|by simp;omega];split
 ·simp;omega
 rfl
variable(m:af)
theorem zsK:x5 m m.length=As m:=by
 unfold x5 As tU;rw[List.map_map];refine uy λi _=>?_;by_cases h:i<m.length
 ·simp[h]
 simp[h,ay,db<|Nat.le_of_not_lt h]
theorem O2(hl:m.length<=30)(hm:∀x∈m,0<=x/\x<=127):ar aj 227 [aL m] (.agg<|As m):=by
 refine fi fZ zs (by simp[ao,Pure,c9]) ?_ (by simp only[Pure,As];generalize tU m=l;induction l with|nil=>simp[ao]|cons x r ih=>simpa [ao,Pure] using ih);refine sR ?_;rw[aS];refine bT [2,3,6,7] (λk:Nat=>[(8,ab k)]) (λk=>[(1,.row true<|x5 m k)]) (λk=>k<=m.length) (λk=>m.length-k) 0 ?_;refine gp ?_;rintro k hk;refine bl (λh1=>?_) λh1=>?_
 ·have au:k<m.length:=sO;refine sL (eY (l:=m) (k:=k) zo au) ?_;have hx:=hm _<|fV au;have vn:dW .i8<|m.getD k 0:=by
   unfold dW;generalize m.getD k 0=x at hx;simp[IntKind.wrap,IntKind.bits,IntKind.signed];omega
  refine .inl ⟨vn,?_⟩;refine sW ?_;refine⟨zo,zo,?_⟩;refine sW ?_;refine zw5 (k:=k) zo (by simp[x5];omega) ?_;refine bJ ?_;refine⟨k+1,zo,zd,?_⟩;refine bf (by exact sK) ?_;rw[YT];rfl
 have au:k=m.length:=by have:¬k<m.length:=sO
                        omega
 refine bL ?_;show D.agg (x5 m k)=D.agg (As m);rw[au,zsK]
theorem zp3(hm:∀x∈m,0<=x/\x<=127):∃l,keyOf aj 295 (tI m)=some l:=by
 rw[LJ];refine ztx (tk<|by kernel_rfl) (by kernel_rfl) Tryz.underlying295 Tryz.underlying293 (by kernel_rfl) (by kernel_rfl) (tU m) (by simp[tU]) λx hx=>?_;unfold tU at hx;obtain⟨i,_,rfl⟩:=cU.1 hx;have:0<=m.getD i 0/\m.getD i 0<=127:=by
  by_cases h:i<m.length
  ·exact hm _<|fV h
  rw[ay,db zo];simp
 simp only[Lit.wf,dL,c6];have h1:IntKind.min .i8=-128:=zc;have h2:IntKind.max .i8=127:=zc;omega
theorem zpZ(x tok:Int):ar aj 226 [ab x,.aN [.aN [.dB,.dB,ab tok,.dB,.dB,.dB,.dB,.dB,.dB,.dB]]]<|aF<|decide (x>tok):=by
 refine bV ?_;exact .refl _
theorem Zh(tok:Int):(m.any λx=>decide (x>tok))=y7 m tok:=rfl
theorem T5(P:ah)(tok:Int)(st:Nat)(b8:st<=200)(marks:ak)(aQ:List cK)(next:List<|List bb)(last:cK)(hS:ah.Sp P tok st marks aQ)(nI:P.aP.length<=30)(m:af)(hm:P.jT m)(o:cK) :
  cd aj 172 [.loc 1 0,aL m,.agg<|wq o.1 o.2] (kX P tok st marks aQ next last) (.aJ [ab<|ka marks m tok st,ab<|jM marks m tok st]) (kX P tok st (gN marks m tok st) (kW marks aQ m tok st o) next o):=by
 have hM:=ah.jX hm;have hml:=hM.len;have lj:∀x∈m,0<=x/\x<=9:=λx hx=>by
  unfold ah.jT at hm;rw[dL] at hm;have:=dn hm.2 hx;omega
 have hlen:∀x∈marks,x.length=m.length:=λx hx=>by rw[(ah.jX<|hS.fB x hx).len,hml]
 have hr:=hS.room;have qV:=hS.len;refine gm fZ zs (by simp[kX]) ?_ (by simp[az,aK]) (by
  intro x hx;simp only[kX,dD,tt,or_false] at hx;rcases hx with rfl|rfl|rfl|rfl|rfl<;>simp[an.under,Ab,aK,az,kX])
 unfold kX Ab wq;refine sR ?_
 refine .inr (.inl ⟨_,_,.cons _ _ _ _ (.refl _) (.cons _ _ _ _ (.fn _ _ _ _ _ .nil (.cons _ _ _ _ (.loc _ _ _ _ _ rfl (.cons _ _ _ _ (.loc _ _ _ _ _ rfl (.cons _ _ _ _ (.dB _) (.cons _ _ _ _ (.dB _) (.cons _ _ _ _ (.refl _) (.cons _ _ _ _ (.dB _) (.cons _ _ _ _ (.dB _) (.cons _ _ _ _ (.dB _) (.cons _ _ _ _ (.dB _) (.cons _ _ _ _ (.dB _) (.cons _ _ _ _ (.dB _) (.cons _ _ _ _ (.dB _) .nil))))))))))) .nil)) .nil)) .nil),
  kY (λn=>ab n) (λa=>by simp[Pure]) m zo (λx=>decide (x>tok)) 226 [.aN [.aN [.dB,.dB,ab tok,.dB,.dB,.dB,.dB,.dB,.dB,.dB]]] (by simp[ao,Pure]) (λa _=>zpZ a tok),rfl,?_⟩)
 rw[Zh];have eE:jM marks m tok st=if y7 m tok=true then 7 else if m∈marks then 0 else if marks.length=st then 8 else 0:=rfl
 refine sW ?_;have o7:∀v,jM marks m tok st=v->v≠0->gN marks m tok st=marks/\kW marks aQ m tok st o=aQ/\ka marks m tok st=0:=λv h1 h2=>by
  unfold gN kW ka;rw[h1,aa λq=>h2 q.1,aa λq=>h2 q.1,aa h2];exact⟨rfl,rfl,rfl⟩
 cases h1:y7 m tok
 ·refine sW ?_;refine sC (O2 m zo λx hx=>by have:=lj x hx;omega) ?_;have jV:=zp3 m (λx hx=>by have:=lj x hx;omega);refine⟨fM marks,rfl,Qn,jV,λv hv=>?_,λhv=>?_⟩
  ·refine sW ?_;by_cases h2:m∈marks
   ·have hs:=VR hlen zo hS.one h2;have lS:some v=some (Value.int .i64<|oy marks m):=hv.symm.trans hs;cases lS;have e0:jM marks m tok st=0:=(by rw[eE,h1,aa zs,ae h2]);have eM:gN marks m tok st=marks:=(by unfold gN;rw[aa λq=>q.2 h2]);have eG:kW marks aQ m tok st o=aQ:=(by unfold kW;rw[aa λq=>q.2 h2]);have eI:ka marks m tok st=(oy marks m:Int):=(by unfold ka;rw[ae e0,eM]);rw[eM,eG,eI,e0];exact⟨rfl,rfl,zs⟩
   exfalso;have:=X4 hlen zo h2;have lS:some v=none:=hv.symm.trans this;cases lS
  refine sW ?_;have h2:¬m∈marks:=λh2=>by
   have hs:=VR hlen zo hS.one h2;have lS:(none:Option aH)=some (Value.int .i64<|oy marks m):=hv.symm.trans hs;cases lS
  refine sS (λh3=>?_) λh3=>?_
  ·have h3:marks.length=st:=sO;have e8:jM marks m tok st=8:=(by rw[eE,h1,aa zs,aa h2,ae h3]);obtain⟨eM,eG,eI⟩:=o7 8 e8 zc;rw[eM,eG,eI,e8];exact⟨rfl,rfl,zs⟩
  have h3:marks.length≠st:=sO;have e0:jM marks m tok st=0:=(by rw[eE,h1,aa zs,aa h2,aa h3]);have eM:gN marks m tok st=marks++[m]:=(by unfold gN;rw[ae ⟨e0,h2⟩]);have eG:kW marks aQ m tok st o=aQ++[o]:=(by unfold kW;rw[ae ⟨e0,h2⟩]);have eI:ka marks m tok st=(marks.length:Int):=by
   unfold ka;rw[ae e0,eM]
   congr 1
   unfold oy;rw[List.idxOf_append,aa h2];simp
  refine sC (O2 m zo λx hx=>by have:=lj x hx;omega) ?_;refine⟨fM marks,rfl,Qn,jV,hv,?_⟩;refine sWJ ?_;refine sJ ?_;rw[eM,eG,eI,e0];refine⟨rfl,?_,zs⟩;rw[zBn,cL,cL,jt,jt];have g1:=Im (L:=marks) (c:=marks.length) (x:=m) rfl;have g2:=GC (l:=aQ) (c:=aQ.length) (a:=o.1) (b:=o.2) rfl;rw[<-g1,<-g2];rfl
 have e7:jM marks m tok st=7:=by rw[eE,ae h1]
 obtain⟨eM,eG,eI⟩:=o7 7 e7 zc;refine sW ?_;rw[eM,eG,eI,e7];exact⟨rfl,rfl,zs⟩
end
section
def DL(R:SpR):List bb:=if R.e=0 then R.cur else []
namespace ah
theorem BU{P:ah}{tok:Int}{st n:Nat}{M:af}{k:Int}{r:af}{marks:ak}{aQ:List cK}{cur:List bb}{last:cK} :
  P.eX tok st n M (k::r) marks aQ cur last=if P.gH M k≠0 then ⟨P.gH M k,marks,aQ,cur,((n:Int),k)⟩
  else if jM marks (P.cR M k) tok st≠0 then ⟨jM marks (P.cR M k) tok st,marks,aQ,cur,((n:Int),k)⟩
  else P.eX tok st n M r (gN marks (P.cR M k) tok st) (kW marks aQ (P.cR M k) tok st ((n:Int),k)) (cur++[(k,ka marks (P.cR M k) tok st)]) ((n:Int),k):=rfl
theorem zpp{l:af}(h:k<l.length):l.drop k=l.getD k 0::l.drop (k+1):=by
 rw[uu h,ay,aG h];rfl
end ah
variable{P:ah}{tok:Int}{st:Nat}{marks:ak}{aQ:List cK}{last:cK}
theorem Oe{next:List<|List bb}:kl 5<|kX P tok st marks aQ next last:=by
 simp[kX,kl,an.under,Ab,aK,az]
theorem JC{next:List<|List bb}{G R:aB}:uZ 5 G (kX P tok st marks aQ next last++R) (kX P tok st marks aQ next last) :=
 nJ _ _ λo ho=>AI Oe o ho
theorem znQ(P:ah)(hP:P.Fits)(h1:P.dp=0)(tok:Int)(st:Nat)(b8:st<=200)(marks:ak)(aQ:List cK)(next:List<|List bb)(last:cK)(hS:ah.Sp P tok st marks aQ)(n:Nat)(hn:n<marks.length) :
  cd aj 173 [.loc 1 0,ab n] (kX P tok st marks aQ next last)
   (.aJ [nD<|DL<|P.eX tok st n (marks.getD n []) (P.cD<|marks.getD n []) marks aQ [] last,.sc (.int .i64 (P.eX tok st n (marks.getD n []) (P.cD<|marks.getD n []) marks aQ [] last).e)])
   (kX P tok st (P.eX tok st n (marks.getD n []) (P.cD<|marks.getD n []) marks aQ [] last).marks (P.eX tok st n (marks.getD n []) (P.cD<|marks.getD n []) marks aQ [] last).aQ next (P.eX tok st n (marks.getD n []) (P.cD<|marks.getD n []) marks aQ [] last).last):=by
 obtain⟨h0,_,ko⟩:=ah.lY h1;have nI:=(ky h0).2;have qV:=hS.len;refine vp fZ zs (by simp[kX]) ?_ (by simp[az,aK]);have nV:=hS.fB _<|ah.yY hn;have hr:=hS.room;generalize hM:marks.getD n []=M at nV;have hML:=(ah.jX nV).len;generalize hR:P.eX tok st n M (P.cD M) marks aQ [] last=R;have eM:P.jg M=0:=by unfold ah.jg;rw[aa zo,ae nV]
 have Ou:=P.Qz M;have hLs:∀k∈P.cD M,k∈P.cD M:=λ_ h=>h;generalize hL:P.cD M=L at hR Ou;unfold kX Ab;refine sR ?_;refine sB ?_;refine⟨_,On (k:=n) zo hn,?_⟩;refine sW ?_;rw[hM];refine sC (LL P hP M zo) ?_;rw[hL,aS];refine dk (iF 6 2 zs rfl) ?_
 refine fy [0,1,30,31] (λ((mk,og,cur,la,k):ak×List cK×List bb×cK×Nat)=>[(6,.own 5 cur.length 0 cur.length),(32,ab k)]) (λ(mk,og,cur,la,k)=>kX P tok st mk og next la++[.vec true cur.length 2<|kc cur])
  (λ(mk,og,cur,la,k)=>k<=L.length/\ah.Sp P tok st mk og/\n<mk.length/\mk.getD n []=M/\cur.length=k/\P.eX tok st n M (L.drop k) mk og cur la=R) (λ(mk,og,cur,la,k)=>L.length-k) (marks,aQ,[],last,0) ?_
 refine sW ?_;refine⟨⟨zo,hS,hn,hM,rfl,hR⟩,by exact sK,rfl,?_⟩;rintro⟨mk,og,cur,la,k⟩ ⟨hk,mI,jx,QZ,hc,hF⟩;have Dp:=mI.room;have zQM:=mI.len;unfold kX Ab;refine bl (λh2=>?_) λh2=>?_
 ·have au:k<L.length:=sO;rw[ah.zpp au,ah.BU] at hF;have CY:L.getD k 0∈P.cD M:=(by rw[hL];exact fV au);refine sL (eY (l:=L) (k:=k) zo au) ?_;generalize L.getD k 0=x at hF CY;refine sB ?_;refine⟨_,On (k:=n) zo jx,?_⟩;refine sW ?_;rw[QZ];refine sC (Qf P hP M zo x) ?_;refine sS (λh3=>?_) λh3=>?_
  ·have h3:P.gH M x≠0:=sO;rw[ae h3] at hF;subst hF;have zF:DL ⟨P.gH M x,mk,og,cur,((n:Int),x)⟩=[]:=aa h3;rw[zF];exact⟨.aJ _ _ (.cons _ _ _ _ (.none _) (.refl _)),JC (P:=P) (tok:=tok) (st:=st) (marks:=mk) (aQ:=og) (next:=next) (last:=((n:Int),x)) (R:=[_])⟩
  have h3:P.gH M x=0:=sO;rw[aa λq=>q h3] at hF;have Kp:=ah.R6 nV CY h3;generalize P.cR M x=m at hF Kp;refine sA (sl (T5 P tok st b8 mk og next ((n:Int),x) mI nI m Kp ((n:Int),x)) [.vec true cur.length 2<|kc cur] rfl (by simp[aK,az,wq,kX]) Oe) ?_;refine sS (λh4=>?_) λh4=>?_
  ·have h4:jM mk m tok st≠0:=sO;rw[ae h4] at hF;have hM1:gN mk m tok st=mk:=(by unfold gN;rw[aa λq=>h4 q.1]);have hG1:kW mk og m tok st ((n:Int),x)=og:=(by unfold kW;rw[aa λq=>h4 q.1]);subst hF;have zF:DL ⟨jM mk m tok st,mk,og,cur,((n:Int),x)⟩=[]:=aa h4;rw[zF];refine⟨.aJ _ _ (.cons _ _ _ _ (.none _) (.refl _)),?_⟩;rw[hM1,hG1];exact JC (P:=P) (tok:=tok) (st:=st) (marks:=mk) (aQ:=og) (next:=next) (last:=((n:Int),x)) (R:=[_])
  have h4:jM mk m tok st=0:=sO;rw[aa λq=>q h4] at hF;refine sJI ?_;refine⟨(gN mk m tok st,kW mk og m tok st ((n:Int),x),cur++[(x,ka mk m tok st)],((n:Int),x),k+1),⟨zo,mI.put Kp zo zo,vY jx ah.Hd,by rw[ah.Oc jx,QZ],by simp[hc],hF⟩,zd,?_⟩;dsimp only;rw[show(cur++[(x,ka mk m tok st)]).length=cur.length+1 by simp];refine br 6 zs rfl sQ (sU ?_);exact bM<|GC rfl
 have au:k=L.length:=by have:¬k<L.length:=sO
                        omega
 rw[au,wX] at hF;have DA:R=⟨0,mk,og,cur,la⟩:=hF.symm;subst DA;have zF:DL ⟨0,mk,og,cur,la⟩=cur:=ae rfl;rw[zF];refine⟨.aJ _ _ (.cons _ _ _ _ (.own _ _ _ _ _ _ _ _ rfl rfl ?_) (.refl _)),JC (P:=P) (tok:=tok) (st:=st) (marks:=mk) (aQ:=og) (next:=next) (last:=la) (R:=[_])⟩;rw[dt zs];exact .refl _
end
section
namespace ah
noncomputable def exF(P:ah)(tok:Int)(st:Nat):SpF:=P.iD tok st 201 0 [P.jd] [(-1,-1)] [] (-1,-1)
theorem Sp.nil(P:ah)(tok:Int)(st:Nat):Sp P tok st [] []:=⟨zs,zs,zs,rfl,λi h1 h2=>by simp at h2,.inl rfl⟩
variable{P:ah}{tok:Int}
theorem X'(h:P.dp=0)(ht:1<=tok):y7 P.jd tok=false:=by
 unfold y7 jd;rw[ae h,oP];intro x hx;unfold gl at hx;obtain⟨i,_,rfl⟩:=cU.1 hx;unfold vr;split<;>simp<;>omega
variable{st:Nat}
theorem Yr(h:P.dp=0)(ht:1<=tok)(hs:1<=st):jM [] P.jd tok st=0/\gN [] P.jd tok st=[P.jd]/\kW [] [] P.jd tok st (-1,-1)=[(-1,-1)]:=by
 have e0:jM [] P.jd tok st=0:=by
  unfold jM;rw[X' h ht];simp;omega
 refine⟨e0,?_,?_⟩
 ·unfold gN;rw[ae ⟨e0,zs⟩];rfl
 unfold kW;rw[ae ⟨e0,zs⟩];rfl
theorem Sp.start(h:P.dp=0)(hs:1<=st):Sp P tok st [P.jd] [(-1,-1)] :=
 ⟨zs,λm hm=>by rw[cM] at hm;subst hm;exact MN h,by simpa using hs,rfl,λi h1 h2=>by simp at h2;omega,.inr rfl⟩
theorem DE{P:ah}{tok:Int}{st n:Nat}{M:af}(hM:P.jT M):∀(L:af) (marks:ak) (aQ:List cK) (cur:List bb) (last:cK),(∀k∈L,k∈P.cD M)->Sp P tok st marks aQ->n<marks.length ->
  Sp P tok st (P.eX tok st n M L marks aQ cur last).marks (P.eX tok st n M L marks aQ cur last).aQ/\marks.length<=(P.eX tok st n M L marks aQ cur last).marks.length /\
   (∀i,i<marks.length->(P.eX tok st n M L marks aQ cur last).marks.getD i []=marks.getD i [])
 |[],marks,aQ,cur,last,_,hS,_=>⟨hS,aI _,λ_ _=>rfl⟩
 |k::r,marks,aQ,cur,last,hL,hS,hn=>by
  rw[BU];split
  ·exact⟨hS,aI _,λ_ _=>rfl⟩
  split
  ·exact⟨hS,aI _,λ_ _=>rfl⟩
  rename_i h1 h2;have hg:=R6 hM (hL k zs) zo;have hl:=Hd (marks:=marks) (m:=P.cR M k) (tok:=tok) (st:=st);have jx:n<(gN marks (P.cR M k) tok st).length:=vY hn hl;have mI:=hS.put hg (a:=(n:Int)) (k:=k) zo zo;obtain⟨g1,g2,g3⟩:=DE hM r (gN marks (P.cR M k) tok st) (kW marks aQ (P.cR M k) tok st ((n:Int),k)) (cur++[(k,ka marks (P.cR M k) tok st)]) ((n:Int),k) (λj hj=>hL j<|by simp[hj]) mI jx;exact⟨g1,ia hl g2,λi hi=>by rw[g3 i<|vY hi hl,Oc hi]⟩
end ah
def Ei(P:ah)(tok:Int)(st n no nn:Nat)(last:cK):aZ:=[.a8 2<|P.nodes.map gf,.a8 2<|P.aP.map kg,ab tok,ab st,.own 3 n 0 n,.own 5 nn 0 nn,.mp 1,.own 4 no 0 no,ab last.1,ab last.2]
noncomputable def qB(P:ah)(tok:Int)(st:Nat)(marks:ak)(aQ:List cK)(next:List<|List bb)(last:cK):aB :=
 [.row true [.a8 2<|P.nodes.map gf,.a8 2<|P.aP.map kg],.dI true<|kF aj 295<|fM marks,.row true<|Ei P tok st marks.length aQ.length next.length last,.vec true marks.length 1<|jw marks,.vec true aQ.length 2<|kc aQ,.vec true next.length 1 (jW next)]
variable{ρ:Nat->Nat}(P:ah)
theorem Ju:D.aO ρ (.a8 2<|P.nodes.map gf)=.a8 2 (P.nodes.map gf)/\D.aO ρ (.a8 2<|P.aP.map kg)=.a8 2 (P.aP.map kg):=by
 have h:=Jk P;simp only[cH,ah.cells,Pure,ao] at h;exact⟨iK _<|by simpa only[Pure] using h.1,iK _<|by simpa only[Pure] using h.2.1⟩
theorem XQ(P:ah)(tok:Int)(st:Nat)(marks:ak)(aQ:List cK)(next:List<|List bb)(last:cK) :
  [an.row true [.a8 2<|P.nodes.map gf,.a8 2<|P.aP.map kg]]++((kX P tok st marks aQ next last).map (an.aO λi=>[an.row true [.a8 2<|P.nodes.map gf,.a8 2<|P.aP.map kg]].length+i)++[])=qB P tok st marks aQ next last:=by
 have h1:=λρ=>(Ju (ρ:=ρ) P).1;have h2:=λρ=>(Ju (ρ:=ρ) P).2;have h3:=λρ=>jb (ρ:=ρ) _<|D9 marks;have h4:=λρ=>jb (ρ:=ρ) _<|Ec aQ;have h5:=λρ=>jb (ρ:=ρ) _<|yG next;simp only[kX,qB,Ab,Ei,dR,gP,an.aO,bO,h1,h2,h3,h4,h5,oR,cj,dE,mJ,m9];simp only[D.aO]
theorem YM{P:ah}{tok:Int}{st:Nat}{marks:ak}{aQ:List cK}{next:List<|List bb}{last:cK}:∀o∈qB P tok st marks aQ next last,o.under 6:=by
 intro o ho;simp only[qB,dD,tt,or_false] at ho;rcases ho with rfl|rfl|rfl|rfl|rfl|rfl<;>simp[an.under,Ei,aK,az]
theorem Zp(l:List<|Int×Int)(v:aH):D.aO ρ (.aJ [nD l,.sc v])=.aJ [nD l,.sc v]:=by
 simp only[D.aO,bO,iK _<|CE l]
theorem zzW(u v:aH):D.aO ρ (.aJ [.sc u,.sc v])=.aJ [.sc u,.sc v]:=by
 simp only[D.aO,bO]
theorem O4{P:ah}{f:FuncId}{tok:Int}{st:Nat}{marks marks':ak}{aQ org':List cK}{next:List<|List bb}{last last':cK}{args args':aZ}{d d':D}
  (hA:cd aj f args (kX P tok st marks aQ next last) d<|kX P tok st marks' org' next last') (hu:aK 5 args) (e1:bO (λi=>1+i) args=args') (e2:D.aO (λi=>1+i) d=d') :
  cd aj f args' (qB P tok st marks aQ next last) d' (qB P tok st marks' org' next last') :=
 sF hA [.row true [.a8 2<|P.nodes.map gf,.a8 2<|P.aP.map kg]] [] rfl hu Oe e1 e2 (XQ ..) (XQ ..)
def ZW:PC:=.seq (SO [qm 62 15,qm 63 10,q 64 (.fO 63),Fa 65 4 64,Fa 66 0 65,Lo 67 66,Ln 68 67,Bi 69 .lss 62 68]<|CX 69 0) (.seq (.block 1<|SO [qm 73 10,qm 74 15,Ca 75 173 [73,74],qm 72 75,Xt 76 0 72,Xt 77 1 72,qm 16 76,qm 17 77] (.seq (SO [qm 78 17,Bi 79 .neq 78 K0]<|If 79<|SO [qm 80 10,qm 81 17,qm 6 80,qm 7 81] .ret)<|OP [qm 82 10,qm 83 10,q 84 (.fO 83),Fa 85 4 84,Fa 86 1 85,Lo 87 86,qm 88 16,Bs 89 1 1 [88],Ap 90 1 24 87 89,q 91 (.fO 82),Fa 92 4 91,Fa 93 1 92,So 1 93 90]))<|OP [qm 70 15,Bi 71 .add 70 K1,qm 15 71])
def c89:PC:=SO [Bx 3 0,q 6 (.move (.const (.pointer none))),Mv 7 K0] (.seq (SO [LA 19 2 3,Ca 20 29 [19],qm 18 20,Xt 21 0 18,Xt 22 1 18,qm 8 21,qm 9 22]<|SO [qm 23 9,Bi 24 .neq 23 K0]<|If 24<|SO [qm 25 9,q 6 (.move (.const (.pointer none))),qm 7 25] .ret) (.seq (SO [qm 26 1,Bi 27 .lss 26 K1,qm 28 27,GF 29 28 (.move 1),GF 30 28 (.bin .gtr 29 K9),Pk 31 28 cT 30,qm 32 31,GF 33 32 (.move 2),GF 34 32 (.bin .lss 33 K1),Pk 35 32 cT 34,qm 36 35,GF 37 36 (.move 2),GF 38 36 (.bin .gtr 37<|cI 200),Pk 39 36 cT 38]<|If 39<|SO [q 6 (.move (.const (.pointer none))),Mv 7 K1] .ret)<|SO [LA 40 2 3,qm 41 1,qm 42 2,q 43 (.FY 295),q 44 (.build [vN,vN,v0,v0,vN,vN,(.map none),vN,v0,v0] [(0,2,40),(2,1,41),(3,1,42),(6,1,43)]),Bx 45 44,qm 10 45]<|SO [LA 47 2 3,Ca 48 58 [47],qm 46 48,Xt 49 0 46,Xt 50 1 46,qm 11 49,qm 12 50] (.seq (.seq (.stop<|OP [qm 52 10,qm 53 11,q 54 (.build [v0,v0] [(0,1,(cI (-1))),(1,1,(cI (-1)))]),Ca 55 172 [52,53,54],qm 51 55,Xt 56 0 51,Xt 57 1 51,qm 13 56,qm 14 57])<|SO [qm 58 14,Bi 59 .neq 58 K0]<|If 59<|SO [qm 60 10,qm 61 14,qm 6 60,qm 7 61] .ret) (.seq (SO [Mv 15 K0]<|BL 0 ZW)<|SO [qm 94 10,qm 6 94,Mv 7 K0] .ret))))
theorem Kb:pj aj 89 95 [.tmp 6,.tmp 7] c89:=fK Tryz.func89
theorem ziR(hP:P.Fits)(h1:P.dp≠0)(tok st:Int):cd aj 89 [cH P,ab tok,ab st] [] (.aJ [.sc (.pointer none),ab P.dp]) []:=by
 refine gm Kb zs zs ?_ (by simp[az,aK]) zs;unfold cH ah.cells;refine sR ?_;refine sC (vO P hP) ?_;refine sS (λh2=>?_) λh2=>?_
 ·exact b9 _
 exfalso;exact sO
theorem ziT(hP:P.Fits)(h1:P.dp=0)(tok st:Int)(hb:tok<1\/9<tok\/st<1\/200<st):cd aj 89 [cH P,ab tok,ab st] [] (.aJ [.sc (.pointer none),ab 1]) []:=by
 refine gm Kb zs zs ?_ (by simp[az,aK]) zs;unfold cH ah.cells;refine sR ?_;refine sC (vO P hP) ?_;refine sS (λh2=>?_) λh2=>?_
 ·exfalso;exact sO
 refine sS (λh3=>?_) λh3=>?_
 ·refine sW ?_;exact b9 _
 refine sS (λh4=>?_) λh4=>?_
 ·refine sW ?_;exact b9 _
 refine sS (λh5=>?_) λh5=>?_
 ·refine sW ?_;exact b9 _
 refine sS (λh6=>?_) λh6=>?_
 ·exact b9 _
 exfalso;exact sO
theorem ztU(hP:P.Fits)(h1:P.dp=0)(tok:Int)(ht:1<=tok)(ht':tok<=9)(st:Nat)(hs:1<=st)(CW:st<=200) :
  cd aj 89 [cH P,ab tok,ab st] [] (.aJ [.loc 2 0,.sc (.int .i64 (P.exF tok st).e)]) (qB P tok st (P.exF tok st).marks (P.exF tok st).aQ (P.exF tok st).next (P.exF tok st).last):=by
 obtain⟨h0,_,ko⟩:=ah.lY h1;have nI:=(ky h0).2;refine gm Kb zs zs ?_ (by simp[az,aK,qB]) YM;have hB:=ah.MN h1;obtain⟨p1,p2,p3⟩:=ah.Yr h1 ht hs;unfold cH ah.cells;refine sR ?_;refine sC (vO P hP) ?_;refine sS (λh2=>?_) λh2=>?_
 ·exfalso;exact sO
 refine sS (λh3=>?_) λh3=>?_
 ·exfalso;exact sO
 refine sS (λh4=>?_) λh4=>?_
 ·exfalso;exact sO
 refine sS (λh5=>?_) λh5=>?_
 ·exfalso;exact sO
 refine sS (λh6=>?_) λh6=>?_
 ·exfalso;exact sO
 refine sC (Qw P hP) ?_;refine dk (jN 2 4 1 zs rfl rfl) ?_;refine dk (jN 2 7 2 zs rfl rfl) ?_;refine dk (jN 2 5 1 zs rfl rfl) ?_;refine sR ?_;refine sA (O4 (T5 P tok st CW [] [] [] (0,0) (ah.Sp.nil P tok st) nI P.jd hB (-1,-1)) (by simp[aK,az,wq]) (by simp only[bO,D.aO,wq,iK _<|c9 _])<|zzW _ _) ?_;rw[p1,p2,p3];refine sW ?_;have eF:P.exF tok st=P.iD tok st 201 0 [P.jd] [(-1,-1)] [] (-1,-1):=rfl;generalize P.exF tok st=F at eF
 refine fy [10] (λ((mk,og,nx,la,n):ak×List cK×List (List bb)×cK×Nat)=>[(15,ab n)]) (λ(mk,og,nx,la,n)=>qB P tok st mk og nx la)
  (λ(mk,og,nx,la,n)=>n<=mk.length/\ah.Sp P tok st mk og/\nx.length=n/\P.iD tok st (201-n) n mk og nx la=F) (λ(mk,og,nx,la,n)=>201-n) ([P.jd],[(-1,-1)],[],(-1,-1),0) ?_
 refine sW ?_;refine⟨⟨zs,ah.Sp.start h1 hs,rfl,eF.symm⟩,by exact sK,rfl,?_⟩;rintro⟨mk,og,nx,la,n⟩ ⟨hn,hS,iZ,hF⟩;have hr:=hS.room;obtain⟨f,ef⟩:∃f,201-n=f+1:=⟨200-n,zo⟩;rw[ef] at hF;simp only[ah.iD] at hF;unfold qB Ei;refine bl (λh7=>?_) λh7=>?_
 ·have jx:n<mk.length:=sO;rw[ae jx] at hF;have aA:=ah.DE (tok:=tok) (st:=st) (n:=n) (hS.fB _<|ah.yY jx) (P.cD<|mk.getD n []) mk og [] la (λ_ h=>h) hS jx;refine sA (O4 (znQ P hP h1 tok st CW mk og nx la hS n jx) (by simp[aK,az]) (by simp only[bO,D.aO])<|Zp _ _) ?_;generalize P.eX tok st n (mk.getD n []) (P.cD<|mk.getD n []) mk og [] la=R at hF aA;refine sS (λh8=>?_) λh8=>?_
  ·have h8:R.e≠0:=sO;rw[ae h8] at hF;rw[<-hF];exact⟨rfl,rfl,aI _⟩
  have h8:R.e=0:=sO;rw[aa λq=>q h8] at hF;have zF:DL R=R.cur:=ae h8;rw[zF];refine sJI ?_;refine⟨(R.marks,R.aQ,nx++[R.cur],R.last,n+1),⟨zo,aA.1,by simp[iZ],by rw[show 201-(n+1)=f by omega];exact hF⟩,zd,?_⟩;dsimp only;rw[show(nx++[R.cur]).length=nx.length+1 by simp];refine br 6 zs rfl sQ (sU ?_);exact bM<|zpO rfl
 have jx:¬n<mk.length:=sO;rw[aa jx] at hF;rw[<-hF];exact⟨rfl,rfl,aI _⟩
end
section
namespace ah
theorem WU{P:ah}{tok:Int}{st n:Nat}{M:af}:∀(L:af) (marks:ak) (aQ:List cK) (cur:List bb) (last:cK),last.1=(n:Int)\/L≠[]\/last.1=-1 ->
  (P.eX tok st n M L marks aQ cur last).last.1=(n:Int)\/(P.eX tok st n M L marks aQ cur last).last=last
 |[],marks,aQ,cur,last,_=>.inr rfl
 |k::r,marks,aQ,cur,last,_=>by
  rw[BU];split
  ·exact .inl rfl
  split
  ·exact .inl rfl
  rcases WU r (gN marks (P.cR M k) tok st) (kW marks aQ (P.cR M k) tok st ((n:Int),k)) (cur++[(k,ka marks (P.cR M k) tok st)]) ((n:Int),k) (.inl rfl) with h|h
  ·exact .inl h
  rw[h];exact .inl rfl
theorem Rl{P:ah}{tok:Int}{st:Nat}:∀(f n:Nat) (marks:ak) (aQ:List cK) (next:List<|List bb) (last:cK),Sp P tok st marks aQ->last.1<(marks.length:Int) ->
  Sp P tok st (P.iD tok st f n marks aQ next last).marks (P.iD tok st f n marks aQ next last).aQ/\(P.iD tok st f n marks aQ next last).last.1<((P.iD tok st f n marks aQ next last).marks.length:Int)
 |0,n,marks,aQ,next,last,hS,hl=>⟨hS,hl⟩
 |f+1,n,marks,aQ,next,last,hS,hl=>by
  simp only[iD];split
  ·rename_i hn;obtain⟨g1,g2,_⟩:=DE (tok:=tok) (st:=st) (n:=n) (hS.fB _<|yY hn) (P.cD<|marks.getD n []) marks aQ [] last (λ_ h=>h) hS hn;have g3:(P.eX tok st n (marks.getD n []) (P.cD<|marks.getD n []) marks aQ [] last).last.1=(n:Int)\/(P.eX tok st n (marks.getD n []) (P.cD<|marks.getD n []) marks aQ [] last).last=last:=by
    generalize P.cD (marks.getD n [])=L
    cases L with
    |nil=>exact .inr rfl
    |cons k r=>exact WU _ _ _ _ _ (.inr (.inl zs))
   generalize P.eX tok st n (marks.getD n []) (P.cD<|marks.getD n []) marks aQ [] last=R at g1 g2 g3;have g4:R.last.1<(R.marks.length:Int):=by
    rcases g3 with g3|g3
    ·omega
    rw[g3];omega
   split
   ·exact⟨g1,g4⟩
   exact Rl f (n+1) _ _ _ _ g1 g4
  exact⟨hS,hl⟩
theorem zCB{P:ah}(h:P.dp=0){tok:Int}{st:Nat}(hs:1<=st):Sp P tok st (P.exF tok st).marks (P.exF tok st).aQ/\(P.exF tok st).last.1<((P.exF tok st).marks.length:Int) :=
 Rl _ _ _ _ _ _ (Sp.start h hs) zs
def wO(tok st:Int):Prop:=tok<1\/9<tok\/st<1\/200<st
instance (tok st:Int):Decidable<|wO tok st:=by unfold wO;infer_instance
noncomputable def eZ(P:ah)(tok st:Int):Int:=if P.dp≠0 then P.dp else if wO tok st then 1 else (P.exF tok st.toNat).e
noncomputable def exM(P:ah)(tok st:Int):ak:=if P.eZ tok st=0 then (P.exF tok st.toNat).marks else []
noncomputable def bX(P:ah)(tok st:Int):List<|List bb:=if P.eZ tok st=0 then (P.exF tok st.toNat).next else []
end ah
end
section
@[simp] theorem zuj:dX<|aE l:=by simp[aE,ao,Pure]
theorem YG{ρ:Nat->Nat}:jH ρ (aE l)=aE l:=jb _<|zuj l
def ME(M:ak)(N:List<|List bb):D:=.agg [bW M,.a8 1<|jW N]
@[simp] theorem zAS(M:ak)(N:List<|List bb):Pure<|ME M N:=by simp[ME,Pure,ao,lu,yG]
theorem zoS{H:aB}{id:Nat}{q:Bool}{L:List<|List bb}(hn:n=L.length)(h:H[id]? = some (.vec q v 1<|jW L)):Deep H (.own id v 0 n) (.a8 1<|jW L):=by
 subst hn;exact .own _ _ _ _ _ _ _ _ h<|by rw[dt zs];exact fW _
def Qm(b:Nat)(P:ah)(tok:Int)(st n no nn:Nat)(last:cK):aZ:=[.a8 2<|P.nodes.map gf,.a8 2<|P.aP.map kg,ab tok,ab st,.own (b+2) n 0 n,.own (b+4) nn 0 nn,.mp b,.own (b+3) no 0 no,ab last.1,ab last.2]
noncomputable def JV(b:Nat)(P:ah)(tok:Int)(st:Nat)(marks:ak)(aQ:List cK)(next:List<|List bb)(last:cK):aB :=
 [.row true [.a8 2<|P.nodes.map gf,.a8 2<|P.aP.map kg],.dI true<|kF aj 295<|fM marks,.row true<|Qm b P tok st marks.length aQ.length next.length last,.vec true marks.length 1<|jw marks,.vec true aQ.length 2<|kc aQ,.vec true next.length 1 (jW next)]
theorem X3(b:Nat)(P:ah)(tok:Int)(st:Nat)(marks:ak)(aQ:List cK)(next:List<|List bb)(last:cK) :
  (qB P tok st marks aQ next last).map (an.aO λi=>[b,b+1,b+2,b+3,b+4,b+5].getD i 0)=JV (b+1) P tok st marks aQ next last:=by
 have h1:=λρ=>(Ju (ρ:=ρ) P).1;have h2:=λρ=>(Ju (ρ:=ρ) P).2;have h3:=λρ=>jb (ρ:=ρ) _<|D9 marks;have h4:=λρ=>jb (ρ:=ρ) _<|Ec aQ;have h5:=λρ=>jb (ρ:=ρ) _<|yG next;simp only[JV,qB,Qm,Ei,dR,gP,an.aO,bO,h1,h2,h3,h4,h5];simp only[D.aO];rfl
variable{args:aZ}{e:Int}
theorem zoW{P:ah}{tok:Int}{st:Nat}{marks:ak}{aQ:List cK}{next:List<|List bb}{last:cK}(hA:cd aj 89 args [] (.aJ [.loc 2 0,ab e])<|qB P tok st marks aQ next last)(hp:ao args)
  {H:aB} {b:Nat} (hb:H.length=b):qx aj 89 args H (.aJ [.loc (b+2) 0,ab e]) (H++JV (b+1) P tok st marks aQ next last) [b,b+1,b+2,b+3,b+4,b+5] :=
 nX hA hp _ (by rw[hb];rfl) (by simp only[D.aO,bO];rfl) (by rw[X3])
theorem Po(hA:cd aj 89 args [] (.aJ [.sc (.pointer none),ab e]) [])(hp:ao args)
  {H:aB}:qx aj 89 args H (.aJ [.sc (.pointer none),ab e]) H [] :=
 nX hA hp [] rfl (by simp only[D.aO,bO]) zs
theorem Sf(P:ah)(hP:P.Fits)(tok st:Int):ar aj 41 [cH P,ab tok,ab st] (.aJ [ME (P.exM tok st)<|P.bX tok st,ab<|P.eZ tok st]):=by
 refine bz fZ ?_;have LH:ao [cH P,ab tok,ab st]:=by simp[ao,Pure,Jk]
 unfold cH ah.cells;refine sR ?_;have bad:∀e,e≠0->P.eZ tok st=e->P.exM tok st=[]/\P.bX tok st=[]:=λe h1 h2=>by
  unfold ah.exM ah.bX;rw[h2,aa h1,aa h1];exact⟨rfl,rfl⟩
 by_cases h1:P.dp=0
 ·by_cases h2:ah.wO tok st
  ·have e1:P.eZ tok st=1:=(by unfold ah.eZ;rw[aa zo,ae h2]);obtain⟨eM,eN⟩:=bad 1 zc e1;refine sE (Po (ziT P hP h1 tok st h2) LH) ?_;rw[eM,eN,e1];exact .aJ _ _ (.cons _ _ _ _ (.agg _ _ (.cons _ _ _ _ (.none _) (.cons _ _ _ _ (.none _) .nil)))<|oX _)
  have Di:=h2;unfold ah.wO at Di;obtain⟨s,rfl⟩:∃s:Nat,st=s:=⟨st.toNat,zo⟩;have e1:P.eZ tok s=(P.exF tok s).e:=(by unfold ah.eZ;rw[aa zo,aa h2,bS]);have hA:=zoW (ztU P hP h1 tok zo zo s zo zo) LH (H:=[.row true [.a8 2<|P.nodes.map gf,.a8 2<|P.aP.map kg],.row true [bC,bC]]) (b:=2) rfl;refine sE (hA) ?_;refine sS (λh3=>?_) λh3=>?_
  ·have h3:P.eZ tok s≠0:=(by rw[e1];exact sO);obtain⟨eM,eN⟩:=bad _ h3 rfl;rw[eM,eN,e1];exact .aJ _ _ (.cons _ _ _ _ (.agg _ _ (.cons _ _ _ _ (.none _) (.cons _ _ _ _ (.none _) .nil)))<|oX _)
  have h3:P.eZ tok s=0:=(by rw[e1];exact sO);unfold ah.exM ah.bX;rw[ae h3,ae h3,h3,bS];exact .aJ _ _ (.cons _ _ _ _ (.agg _ _ (.cons _ _ _ _ (Xn rfl rfl) (.cons _ _ _ _ (zoS rfl rfl) .nil)))<|oX _)
 have e1:P.eZ tok st=P.dp:=by unfold ah.eZ;rw[ae h1]
 obtain⟨eM,eN⟩:=bad _ h1 e1;refine sE (Po (ziR P hP h1 tok st) LH) ?_;have hb:(P.dp != 0)=true:=by simp[h1]
 rw[hb];refine sW ?_;rw[eM,eN,e1];exact .aJ _ _ (.cons _ _ _ _ (.agg _ _ (.cons _ _ _ _ (.none _) (.cons _ _ _ _ (.none _) .nil)))<|oX _)
end
def mX(N:List<|List bb)(m:Nat):List bb:=if (N.getD m []).length=0 then [(-1,(m:Int))] else (N.getD m []).map λx=>(x.1,(m:Int))
def nz(N:List<|List bb)(m:Nat):af:=if (N.getD m []).length=0 then [(m:Int)] else (N.getD m []).map λx=>x.2
def dr(N:List<|List bb):Nat->List bb
 |0=>[]
 |m+1=>dr N m++mX N m
def uc(N:List<|List bb):Nat->af
 |0=>[]
 |m+1=>uc N m++nz N m
def bm(N:List<|List bb)(m:Nat):Nat:=(dr N m).length
def iy(N:List<|List bb)(m:Nat):Nat:=(mX N m).length
variable(N:List<|List bb)
theorem zvz(m:Nat):1<=iy N m:=by
 unfold iy mX;split
 ·simp
 rename_i h;simp only[aS];omega
theorem qy(m:Nat):iy N m=if (N.getD m []).length=0 then 1 else (N.getD m []).length:=by
 unfold iy mX;split<;>simp
theorem zCn(m:Nat):(nz N m).length=iy N m:=by
 rw[qy];unfold nz;split<;>simp
theorem qM(m:Nat):bm N (m+1)=bm N m+iy N m:=by simp[bm,iy,dr]
theorem Cv(N:List<|List bb):∀m,(uc N m).length=bm N m
 |0=>rfl
 |m+1=>by rw[qM];simp only[uc,cL,zCn,Cv N m]
variable{N:List<|List bb}{m:Nat}
theorem xA(h:m<=n):bm N m<=bm N n:=by
 induction n with
 |zero=>rw[show m=0 by omega];exact aI _
 |succ n ih =>
  by_cases e:m=n+1
  ·subst e;exact aI _
  rw[qM];have:=ih zo;omega
variable{a:Nat}{α:Type}
theorem RC{l r:List α}{d:α}(h:a<l.length):(l++r).getD a d=l.getD a d:=by
 rw[ay,ay,dJ h]
theorem Rv{l r:List α}{d:α}(h:a=l.length+k):(l++r).getD a d=r.getD k d:=by
 subst h;rw[ay,ay,fc zo,vI]
theorem zl{N:List<|List bb}{m k:Nat}(hk:k<iy N m):∀n,m<n->(dr N n).getD (bm N m+k) (0,0)=(mX N m).getD k (0,0)
 |0,h=>zo
 |n+1,h=>by
  simp only[dr];by_cases e:m=n
  ·subst e;exact Rv rfl
  have h1:=xA (N:=N) (show m+1<=n by omega);rw[qM] at h1;rw[RC (show bm N m+k<(dr N n).length by unfold bm at h1⊢;omega),zl hk n zo]
theorem LC{N:List<|List bb}{m k:Nat}(hk:k<iy N m):∀n,m<n->(uc N n).getD (bm N m+k) 0=(nz N m).getD k 0
 |0,h=>zo
 |n+1,h=>by
  simp only[uc];by_cases e:m=n
  ·subst e;exact Rv<|by rw[Cv]
  have h1:=xA (N:=N) (show m+1<=n by omega);rw[qM] at h1;rw[RC<|by rw[Cv];omega,LC hk n zo]
theorem Nb(hk:k<iy N m):((mX N m).getD k (0,0)).2=(m:Int):=by
 rw[qy] at hk;unfold mX;split
 ·rename_i h;rw[ae h] at hk;rw[show k=0 by omega];rfl
 rename_i h;rw[aa h] at hk;rw[ay,cy,aG hk];rfl
theorem It{N:List<|List bb}:∀{n i:Nat},i<bm N n->∃m k,m<n/\k<iy N m/\i=bm N m+k
 |0,i,h=>by simp[bm,dr] at h
 |n+1,i,h=>by
  rw[qM] at h;by_cases q:i<bm N n
  ·obtain⟨m,k,h1,h2,h3⟩:=It q;exact⟨m,k,zo,h2,h3⟩
  exact⟨n,i-bm N n,zo,zo,zo⟩
def iY(N:List<|List bb)(t:Nat):af:=(List.range<|iy N t).map λ(i:Nat)=>((bm N t+i:Nat):Int)
theorem zyq(h:(N.getD m []).length=0):iY N m=[(bm N m:Int)]:=by
 unfold iY;rw[qy,ae h];rfl
theorem E7(N:List<|List bb)(t:Nat):(iY N t).length=iy N t:=by simp[iY]
def FK(N:List<|List bb)(m:Nat)(k:Int):Bool:=(N.getD m []).any λy=>y.1==k
def mB(N:List<|List bb)(of:List bb)(s:Int):Nat->af
 |0=>[]
 |i+1=>if FK N (of.getD i (0,0)).2.toNat s=false\/(of.getD i (0,0)).1=s then mB N of s i++[(i:Int)] else mB N of s i
theorem WZ(N:List<|List bb)(of:List bb)(s:Int):∀i,(mB N of s i).length<=i
 |0=>by simp[mB]
 |i+1=>by
  simp only[mB];have:=WZ N of s i;split<;>simp<;>omega
section
end
section
theorem Yo{L:List<|List bb}{z:Nat}(hz:z=k)(h:k<L.length):(jW L)[z]? = some [nD L[k]]:=by
 subst hz;unfold jW;rw[cy,aG h];rfl
namespace ah
theorem QG{P:ah}{tok:Int}{st n:Nat}{M:af}:∀(L:af) (marks:ak) (aQ:List cK) (cur:List bb) (last:cK),(P.eX tok st n M L marks aQ cur last).cur.length<=cur.length+L.length
 |[],_,_,_,_=>by simp[eX]
 |k::r,marks,aQ,cur,last=>by
  rw[BU];split
  ·simp
  split
  ·simp
  have:=QG (P:=P) (tok:=tok) (st:=st) (n:=n) (M:=M) r (gN marks (P.cR M k) tok st) (kW marks aQ (P.cR M k) tok st ((n:Int),k)) (cur++[(k,ka marks (P.cR M k) tok st)]) ((n:Int),k);simp at this⊢;omega
theorem VT{P:ah}{tok:Int}{st:Nat}:∀(f n:Nat) (marks:ak) (aQ:List cK) (next:List<|List bb) (last:cK),(∀x∈next,x.length<=P.aC.length) ->
  (∀x∈(P.iD tok st f n marks aQ next last).next,x.length<=P.aC.length)/\(P.iD tok st f n marks aQ next last).next.length<=next.length+f
 |0,_,_,_,next,_,h=>⟨h,aI _⟩
 |f+1,n,marks,aQ,next,last,h=>by
  simp only[iD];split
  ·split
   ·exact⟨h,zs⟩
   have hl:=QG (P:=P) (tok:=tok) (st:=st) (n:=n) (M:=marks.getD n []) (P.cD<|marks.getD n []) marks aQ [] last;have he:=P.Qz<|marks.getD n [];generalize P.eX tok st n (marks.getD n []) (P.cD<|marks.getD n []) marks aQ [] last=R at hl;obtain⟨g1,g2⟩:=VT (P:=P) (tok:=tok) (st:=st) f (n+1) R.marks R.aQ (next++[R.cur]) R.last λx hx=>by
    rcases de.1 hx with hx|hx
    ·exact h x hx
    rw[cM] at hx;subst hx;exact ia hl<|by rw[dE,jP];exact he
   refine⟨g1,?_⟩;rw[cL,jt] at g2;omega
  exact⟨h,zs⟩
end ah
end
structure SpN(M:ak)(N:List<|List bb)(s:Nat):Prop where
 len:N.length=M.length
 pos:1<=M.length
 few:M.length<=200
 row:∀l∈N,l.length<=60
 JB:∀l∈N,∀x∈l,0<=x.1/\x.1<(s:Int)/\0<=x.2/\x.2<(M.length:Int)
 mark:∀m∈M,m.length<=30/\∀x∈m,0<=x
variable{s:Nat}{M:ak}
theorem SpN.rowAt(h:SpN M N s)(i:Nat):(N.getD i []).length<=60:=by
 rw[ay]
 cases e:N[i]? with
 |none=>simp
 |some l=>exact h.row l<|kI e
theorem X8{l:List bb}(h:k<l.length):l.getD k (0,0)∈l:=by
 rw[ay,aG h];exact ig h
theorem SpN.TF(h:SpN M N s)(hk:k<(N.getD i []).length):0<=((N.getD i []).getD k (0,0)).1/\((N.getD i []).getD k (0,0)).1<(s:Int)/\0<=((N.getD i []).getD k (0,0)).2/\((N.getD i []).getD k (0,0)).2<(M.length:Int):=by
 have hm:=X8 hk;have hi:N.getD i []∈N:=by
  rw[ay] at hk⊢
  cases e:N[i]? with
  |none=>rw[e] at hk;simp at hk
  |some l=>exact kI e
 exact h.JB _ hi _ hm
variable{z:Nat}
theorem Kj{L:List<|List bb}(hz:z=k)(h:k<L.length):(jW L)[z]? = some [nD<|L.getD k []]:=by
 rw[Yo hz h,ay,aG h];rfl
def J4(M:ak)(N:List<|List bb):aZ:=[bW M,.a8 1<|jW N]
structure Nf(P:ah)(M:ak)(N:List<|List bb):Prop where
 sp:SpN M N P.aC.length
 steps:P.dp=0
def jR(N:List<|List bb)(m:Nat):af:=gl m λt=>(bm N t:Int)
def lq(N:List<|List bb)(m:Nat):af:=gl m λt=>(iy N t:Int)
theorem RG(n:Nat)(g:Nat->Int):gl (n+1) g=gl n g++[g n]:=by simp[gl,qa]
def uA(N:List<|List bb)(m k:Nat):List bb:=((N.getD m []).take k).map λx=>(x.1,(m:Int))
theorem ztD(N:List<|List bb)(m:Nat):uA N m 0=[]:=by simp[uA]
theorem Z5(h:k<(N.getD m []).length):uA N m (k+1)=uA N m k++[(((N.getD m []).getD k (0,0)).1,(m:Int))]:=by
 unfold uA;rw[ld,aG h,ay (l:=N.getD m []),aG h,mq];rfl
theorem zw6(h:k<=(N.getD m []).length):(uA N m k).length=k:=by
 simp only[uA,aS,gO];omega
theorem zi(N:List<|List bb)(m:Nat):(dr N m).length=bm N m:=rfl
theorem zsN(N:List<|List bb)(m:Nat):dr N (m+1)=if (N.getD m []).length=0 then dr N m++[(-1,(m:Int))] else dr N m++uA N m (N.getD m []).length:=by
 simp only[dr,mX,uA,gz];split<;>rfl
theorem Tj{N:List<|List bb}{c:Nat}(h:∀i,(N.getD i []).length<=c)(hc:1<=c):∀m,bm N m<=c*m
 |0=>by simp[bm,dr]
 |m+1=>by
  rw[qM,qy,Nat.mul_succ];have:=Tj h hc m;have:=h m;split<;>omega
theorem DY(h:SpN M N s)(hm:m<=N.length):bm N m<=12000:=by
 have h1:=Tj (N:=N) (c:=60) h.rowAt zo m;have:=h.few;have:=h.len;omega
theorem TX(h:SpN M N s)(m:Nat):iy N m<=60:=by
 rw[qy];have:=h.rowAt m;split<;>omega
theorem Y0(N:List<|List bb)(m:Nat):max (1:Int) ((N.getD m []).length:Int)=(iy N m:Int):=by
 rw[qy];split<;>omega
def tZ(L:List bQ)(M:ak)(N:List<|List bb)(o a y:D):aZ :=
 [nv L,bW M,.a8 1<|jW N,o,a,y,bC,bC,bC,bC]
theorem znk(L:List bQ)(M:ak)(N:List<|List bb)(s:Nat)(hS:SpN M N s) :
  cd aj 42 [.loc 0 0] [.row true<|tZ L M N bC bC bC] (aF<|decide ((bm N N.length:Int)<=600))
   [.row true<|tZ L M N (.own 1 (bm N N.length) 0<|bm N N.length) (.own 2 N.length 0 N.length) (.own 3 N.length 0 N.length),.vec true (bm N N.length) 2<|kc<|dr N N.length,.vec true N.length 1<|aE<|jR N N.length,.vec true N.length 1<|aE<|lq N N.length]:=by
 have hf:=hS.few;have hl:=hS.len;refine gm fZ zs zs ?_ (by simp[az]) (by simp[an.under,tZ,aK,az]);unfold tZ;refine sR ?_;rw[zsg];refine dk (oK (jN 0 3 2 zs rfl rfl)<|oK (jN 0 4 1 zs rfl rfl)<|jN 0 5 1 zs rfl rfl) ?_
 refine fy [0,11,12] (λ((m,a):Nat×Nat)=>[(13,ab m)])
  (λ(m,a)=>[.row true [nv L,bW M,.a8 1<|jW N,.own 1 a 0 a,.own 2 m 0 m,.own 3 m 0 m,bC,bC,bC,bC],.vec true a 2<|kc<|dr N m,.vec true m 1<|aE<|jR N m,.vec true m 1<|aE<|lq N m])
  (λ(m,a)=>m<=N.length/\a=bm N m) (λ(m,a)=>N.length-m) (0,0) ?_
 refine sW ?_;refine⟨⟨zo,rfl⟩,by exact sK,rfl,?_⟩;rintro⟨m,a⟩ ⟨hm,ha⟩;have haS:=DY hS hm;refine bl (λh1=>?_) λh1=>?_
 ·have zM:m<N.length:=sO;have lx:=hS.rowAt m;have la1:jR N (m+1)=jR N m++[(bm N m:Int)]:=RG _ _;have la2:lq N (m+1)=lq N m++[(iy N m:Int)]:=RG _ _;have e1:=zsN N m;have e2:=qM N m;have e3:=qy N m;have e4:=Y0 N m;have bg:=λk (hk:k<(N.getD m []).length)=>Z5 hk;have zJb:=λk (hk:k<=(N.getD m []).length)=>zw6 hk;have l1:(jR N m).length=m:=(by simp[jR]);have l2:(lq N m).length=m:=(by simp[lq]);have l3:(dr N m).length=a:=(by rw[ha];rfl);have kS:=ztD N m;have hmp:=TX hS m;refine sL (Kj (L:=N) (k:=m) zo zM) ?_;generalize N.getD m []=l at *;refine sJ ?_;rw[CA]
  refine fy [0,3,4,11,12,13,32,33] (λ((k,c):Nat×Nat)=>[(34,ab k)])
   (λ(k,c)=>[.row true [nv L,bW M,.a8 1<|jW N,.own 1 c 0 c,.own 2 (m+1) 0<|m+1,.own 3 m 0 m,bC,bC,bC,bC],.vec true c 2<|kc<|dr N m++uA N m k,.vec true (m+1) 1<|aE<|jR N m++[(bm N m:Int)],.vec true m 1<|aE<|lq N m,.vec true 0 1 [[ab a]]])
   (λ(k,c)=>k<=l.length/\c=a+k) (λ(k,c)=>l.length-k) (0,a) ?_
  refine sW ?_;refine⟨⟨zo,rfl⟩,by exact sK,?_,?_⟩
  ·have hx:List.drop 0 (List.take m<|aE<|jR N m)++[[ab ((a-0:Nat):Int)]]=aE (jR N m++[(bm N m:Int)]):=(by rw[tS l1.symm,xS,ha]);dsimp only;rw[kS,oR,<-hx];rfl
  rintro⟨k,c⟩ ⟨hk,hc⟩;have ug:=zJb k hk;refine bl (λh2=>?_) λh2=>?_
  ·have au:k<l.length:=sO;have gg:=bg k au;refine sL (ur (k:=k) zo au) ?_;generalize l.getD k (0,0)=x at gg;refine sJI ?_;refine⟨(k+1,c+1),⟨zo,zo⟩,zd,?_⟩;dsimp only;rw[gg];refine br 5 zs rfl sQ (sU ?_);rw[<-l8];exact bM<|GC<|by rw[cL,l3,ug,hc]
  have au:k=l.length:=by have:¬k<l.length:=sO
                         omega
  subst au;rw[CA];refine sS (λh3=>?_) λh3=>?_
  ·have h3:l.length=0:=sO;rw[ae h3] at e1 e3;refine sJ ?_;rw[CA,e4];refine sJI ?_;refine⟨(m+1,c+1),⟨zo,zo⟩,zd,?_⟩;dsimp only;rw[la1,la2,e1]
   (refine br 4 zs rfl ?_ ?_<;>(repeat' (first|exact trivial|exact rfl|exact bR.refl _|exact ck.refl _|exact cg.refl _|refine And.intro ?_ ?_|(simp[az,aK,bN,-List.map_take,-List.map_drop];done))))
   ·refine bM ?_;rw[h3,kS,oR];exact GC zo
   exact bM<|tS l2.symm
  have h3:¬l.length=0:=sO;rw[aa h3] at e1 e3;rw[CA,e4];refine sJI ?_;refine⟨(m+1,c),⟨zo,zo⟩,zd,?_⟩;dsimp only;rw[la1,la2,e1];refine br 4 zs rfl sQ (sU ?_);exact bM<|tS l2.symm
 have zM:m=N.length:=by have:¬m<N.length:=sO
                        omega
 subst zM;subst ha;rw[xS];exact⟨rfl,rfl,aI _⟩
def pJ(l:af):fp:=l.map λn=>[.sc (.int .u64 n)]
@[simp] theorem OJ:dX<|pJ l:=cO _ (λl=>by simp[ao,Pure]) l
@[simp] theorem zz6:bN m (pJ l)↔True:=⟨λ_=>trivial,λ_=>bP _<|OJ l⟩
theorem zul{l:af}(h:c=l.length):List.drop 0 (List.take c<|pJ l)++[[D.sc (.int .u64 x)]]=pJ (l++[x]):=by
 rw[ft,fF<|by simp[h,pJ]];simp[pJ]
def mW(L:List bQ)(M:ak)(N:List<|List bb)(dS:D)(a x b y c z:Nat):aZ :=
 [nv L,bW M,.a8 1<|jW N,nD<|dr N N.length,aL<|jR N N.length,aL<|lq N N.length,dS,.own a x 0 x,.own b y 0 y,.own c z 0 z]
def jj(L:List bQ)(M:ak)(N:List<|List bb)(dS:D)(x y z:Nat)(X:ak)(Y:af)(Z:ak):aB :=
 [.row true<|mW L M N dS 1 x 2 y 3 z,.vec true x 1<|jw X,.vec true y 1<|pJ Y,.vec true z 1<|jw Z]
variable{x y:Nat}{L:List bQ}{ρ:Nat->Nat}{dS:D}
theorem zw2(hd:Pure dS){b:Nat}:bO ρ (mW L M N dS a x b y c z)=mW L M N dS (ρ a) x (ρ b) y (ρ c) z:=by
 have h1:=iK (ρ:=ρ) _<|F6 L;have h2:=iK (ρ:=ρ) _<|lu M;have h3:=iK (ρ:=ρ) (.a8 1<|jW N) (by simp only[Pure];exact yG N);have h4:=iK (ρ:=ρ) _<|CE<|dr N N.length;have h5:=iK (ρ:=ρ) _<|c9<|jR N N.length;have h6:=iK (ρ:=ρ) _<|c9<|lq N N.length;have h7:=iK (ρ:=ρ) _ hd;unfold mW;simp only[bO,h1,h2,h3,h4,h5,h6,h7];rfl
theorem Ys(hd:Pure dS){b:Nat}(ha:a<k)(hb:b<k)(hc:c<k):aK k<|mW L M N dS a x b y c z:=by
 have h1:=cp (m:=k) _<|F6 L;have h2:=cp (m:=k) _<|lu M;have h3:=cp (m:=k) (.a8 1<|jW N) (by simp only[Pure];exact yG N);have h4:=cp (m:=k) _<|CE<|dr N N.length;have h5:=cp (m:=k) _<|c9<|jR N N.length;have h6:=cp (m:=k) _<|c9<|lq N N.length;have h7:=cp (m:=k) _ hd;unfold mW;exact⟨h1,h2,h3,h4,h5,h6,h7,ha,hb,hc,trivial⟩
variable{X Z:ak}{Y:af}
theorem Rb(hk:4<=k)(hd:Pure dS):kl k (jj L M N dS x y z X Y Z) :=
 ⟨Ys hd zo zo zo,by simp[an.under],by simp[an.under],by simp[an.under],trivial⟩
theorem B5(hd:Pure dS){G R:aB}:uZ 4 G (jj L M N dS x y z X Y Z++R) (jj L M N dS x y z X Y Z) :=
 nJ _ _ λo ho=>AI (Rb (aI _) hd) o ho
theorem ES{f:FuncId}{rest:aZ}{d:D}{L:List bQ}{M:ak}{N:List<|List bb}(hd:Pure dS){x y z:Nat}{X:ak}{Y:af}{Z:ak}
  (hA:cd aj f (.loc 0 0::rest) (jj L M N dS x y z X Y Z) d<|jj L M N dS x y z X Y Z) (hr:ao rest) (hp:Pure d) {H:aB} (m a b c:Nat) (hn:[m,a,b,c].Nodup)
  (h0:H[m]? = some (.row true<|mW L M N dS a x b y c z)) (h1:H[a]? = some (.vec true x 1<|jw X)) (h2:H[b]? = some (.vec true y 1<|pJ Y)) (h3:H[c]? = some (.vec true z 1<|jw Z)):BV aj f (.loc m 0::rest) H d [m,a,b,c]:=by
 refine Q6 hA [m,a,b,c] rfl hn ⟨by simp[az,jj],cu _ hr⟩ (Rb (aI _) hd) (by simp only[bO,l6 _ hr];rfl) (iK _ hp) (λi o ho=>?_) m zs h0 zs (λid hid=>?_)
 ·have key:∀{i:Nat} {q p:an},(jj L M N dS x y z X Y Z)[i]? = some q->H[[m,a,b,c].getD i 0]? = some p->q.aO (λi=>[m,a,b,c].getD i 0)=p->(jj L M N dS x y z X Y Z)[i]? = some o->H[[m,a,b,c].getD i 0]? = some (o.aO λi=>[m,a,b,c].getD i 0):=λk1 k2 k3 k4=>by
   rw[k1] at k4;cases k4;rw[k3];exact k2
  match i with
  |0=>exact key rfl h0 (by simp only[an.aO,zw2 hd];rfl) ho
  |1=>exact key rfl h1 (by simp only[an.aO,jb _<|D9 X]) ho
  |2=>exact key rfl h2 (by simp only[an.aO,jb _<|OJ Y]) ho
  |3=>exact key rfl h3 (by simp only[an.aO,jb _<|D9 Z]) ho
  |i+4=>simp[jj] at ho
 simp only[dD,tt,or_false] at hid;rcases hid with rfl|rfl|rfl|rfl
 ·exact .inl rfl
 ·exact .inr ⟨x,0,x,by simp[mW]⟩
 ·exact .inr ⟨y,0,y,by simp[mW]⟩
 exact .inr ⟨z,0,z,by simp[mW]⟩
@[simp] theorem Tl(v:aH):Pure (.sc v):=by simp[Pure]
theorem zsn{t:Nat}(h:k<iy N t):(iY N t).take (k+1)=(iY N t).take k++[((bm N t+k:Nat):Int)]:=by
 have hl:=E7 N t;rw[ld,aG zo];simp[iY]
variable(L:List bQ)
theorem RU(M:ak)(N:List<|List bb)(s:Nat)(hS:SpN M N s)(dS:D)(hd:Pure dS)(x y z:Nat)(X:ak)(Y:af)(Z:ak)(t:Nat)(ht:t<N.length):cd aj 45 [.loc 0 0,ab t] (jj L M N dS x y z X Y Z) (aL<|iY N t)<|jj L M N dS x y z X Y Z:=by
 have hf:=hS.few;have hl:=hS.len;have ha:=DY hS (m:=t) zo;have hm:=TX hS t;have hal:=E7 N t;refine vp fZ zs (by simp[jj]) ?_ (by simp[az]);unfold jj mW;refine sR ?_;refine sL (eY (l:=lq N N.length) (k:=t) zo<|by simpa [lq] using ht) ?_;rw[show(lq N N.length).getD t 0=(iy N t:Int) from A9 ht];refine dk (iF 5 1 zs rfl) ?_;refine bT [0,1,13] (λk:Nat=>[(5,.own 4 k 0 k),(14,ab k)]) (λk=>[(4,.vec true k 1<|aE<|(iY N t).take k)]) (λk=>k<=iy N t) (λk=>iy N t-k) 0 ?_;refine gp ?_;rintro k hk;refine bl (λh1=>?_) λh1=>?_
 ·have au:k<iy N t:=sO;refine sL (eY (l:=jR N N.length) (k:=t) zo<|by simpa [jR] using ht) ?_;rw[show(jR N N.length).getD t 0=(bm N t:Int) from A9 ht];refine sI ?_;refine sJI ?_;refine⟨k+1,zo,zd,?_⟩;dsimp only;rw[zsn au];have e:(bm N t:Int)+(k:Int)=((bm N t+k:Nat):Int):=zo;rw[e];have bF:((iY N t).take k).length=k:=by rw[gO];omega
  (refine br 5 zs rfl ?_ ?_<;>(repeat' (first|exact trivial|exact rfl|exact bR.refl _|exact ck.refl _|exact cg.refl _|refine And.intro ?_ ?_|(simp[az,aK,bN,-List.map_take,-List.map_drop];done))))
  ·exact cp _ hd
  exact bM<|tS bF.symm
 have au:k=iy N t:=by have:¬k<iy N t:=sO
                      omega
 subst au;rw[fF zo];exact⟨.own _ _ _ _ _ _ _ _ rfl rfl (bM<|dt<|by simp[aE];omega),B5 hd⟩
theorem LK{l:List bb}(h:k<l.length):l[k]? = some (l.getD k (0,0)):=by
 rw[ay,aG h];rfl
theorem W1(h0:(N.getD m []).length≠0)(hk:k<iy N m):(mX N m).getD k (0,0)=(((N.getD m []).getD k (0,0)).1,(m:Int))/\(nz N m).getD k 0=((N.getD m []).getD k (0,0)).2:=by
 rw[qy,aa h0] at hk;unfold mX nz;rw[aa h0,aa h0];constructor
 ·rw[ay,cy,LK hk];rfl
 rw[ay,cy,LK hk];rfl
theorem Th(h0:(N.getD m []).length=0):(mX N m).getD 0 (0,0)=(-1,(m:Int))/\(nz N m).getD 0 0=(m:Int):=by
 unfold mX nz;rw[ae h0,ae h0];exact⟨rfl,rfl⟩
theorem ztn(M:ak)(N:List<|List bb)(s:Nat)(hS:SpN M N s)(dS:D)(hd:Pure dS)(x y z:Nat)(X:ak)(Y:af)(Z:ak)(m k:Nat)(hm:m<N.length)(hk:k<iy N m):cd aj 43 [.loc 0 0,ab ((bm N m+k:Nat):Int)] (jj L M N dS x y z X Y Z) (aL<|iY N ((nz N m).getD k 0).toNat)<|jj L M N dS x y z X Y Z:=by
 have hf:=hS.few;have hl:=hS.len;have ha:=DY hS (m:=m+1) zo;have nf:=xA (N:=N) (show m+1<=N.length by omega);have hsu:=qM N m;have qV:=zi N N.length;have gR:=zl hk N.length hm;have dg:=λt (ht:t<N.length)=>RU L M N s hS dS hd x y z X Y Z t ht;refine vp fZ zs (by simp[jj]) ?_ (by simp[az]);by_cases h0:(N.getD m []).length=0
 ·have pV:k=0:=(by rw[qy,ae h0] at hk;omega);subst pV;obtain⟨e1,e2⟩:=Th h0;rw[e2,bS,zyq h0];rw[e1] at gR;unfold jj mW;refine sR ?_;refine⟨zo,_,ur (l:=dr N N.length) (k:=bm N m+0) zo zo,?_⟩;rw[gR];refine sW ?_;exact⟨.own _ _ _ _ _ _ _ _ rfl rfl (.refl _),B5 hd⟩
 obtain⟨e1,e2⟩:=W1 h0 hk;rw[e1] at gR;have au:k<(N.getD m []).length:=by rw[qy,aa h0] at hk;exact hk
 have he:=hS.TF au;have cW:=Kj (L:=N) (z:=(m:Int).toNat) (k:=m) zo hm;have YY:=ur (l:=N.getD m []) (z:=k) (k:=k) rfl au;rw[e2];generalize (N.getD m []).getD k (0,0)=e at *;have hA:=dg e.2.toNat zo;rw[show((e.2.toNat:Nat):Int)=e.2 by omega] at hA;unfold jj mW;refine sR ?_;refine⟨zo,_,ur (l:=dr N N.length) (k:=bm N m+k) zo zo,?_⟩;rw[gR];refine sWS (λh1=>?_) λh1=>?_
 ·exfalso;exact sO
 refine sL (cW) ?_;refine sL (eY (l:=jR N N.length) (k:=m) zo<|by simpa [jR] using hm) ?_;rw[show(jR N N.length).getD m 0=(bm N m:Int) from A9 hm];refine sI ?_;refine sL ((show(kc<|N.getD m [])[(((bm N m+k:Nat):Int)-(bm N m:Int)).toNat]? = _ by rw[show(((bm N m+k:Nat):Int)-(bm N m:Int)).toNat=k by omega];exact YY)) ?_;refine sX (ES hd hA (by simp[ao,Pure]) (c9 _) 0 1 2 3 zc rfl rfl rfl rfl) ?_;exact⟨.refl _,B5 hd⟩
def uV(L:List bQ)(z:Int):Int:=if z<0 then 9223372036854775808 else 2^(L.getD z.toNat (0,0,0)).1.toNat
theorem zvA{z:Int}(hk:z=k)(h:k<=63):(1:Int)*2^min z.toNat IntKind.u64.bits=2^k:=by
 subst hk;rw[bS,Int.one_mul,tJ<|by show k<=64;omega]
theorem zwX(h:k<=63):dW .u64<|(2:Int)^k:=by
 have h1:=BS k;have h2:=Ao (k:=k) (n:=63) h;have h3:(2:Int)^63=9223372036854775808:=zc;unfold dW IntKind.wrap;simp only[IntKind.bits,IntKind.signed];have h4:(2:Int)^64=18446744073709551616:=zc;simp;omega
theorem zql(M:ak)(N:List<|List bb)(s:Nat)(hS:SpN M N s)(dS:D)(hd:Pure dS)(x y z:Nat)(X:ak)(Y:af)(Z:ak)(hL:∀j,j<L.length->0<=(L.getD j (0,0,0)).1/\(L.getD j (0,0,0)).1<=63)(hs:s=L.length)(m k:Nat)(hm:m<N.length)(hk:k<iy N m):cd aj 44 [.loc 0 0,ab ((bm N m+k:Nat):Int)] (jj L M N dS x y z X Y Z) (.sc (.int .u64<|uV L ((mX N m).getD k (0,0)).1))<|jj L M N dS x y z X Y Z:=by
 have hf:=hS.few;have hl:=hS.len;have ha:=DY hS (m:=m+1) zo;have nf:=xA (N:=N) (show m+1<=N.length by omega);have hsu:=qM N m;have qV:=zi N N.length;have gR:=zl hk N.length hm;refine vp fZ zs (by simp[jj]) ?_ (by simp[az]);by_cases h0:(N.getD m []).length=0
 ·have pV:k=0:=(by rw[qy,ae h0] at hk;omega);subst pV;obtain⟨e1,e2⟩:=Th h0;rw[e1];rw[e1] at gR;unfold jj mW;refine sR ?_;refine⟨zo,_,ur (l:=dr N N.length) (k:=bm N m+0) zo zo,?_⟩;rw[gR];refine sW ?_;exact⟨.refl _,B5 (R:=[]) hd⟩
 obtain⟨e1,e2⟩:=W1 h0 hk;rw[e1] at gR⊢;have au:k<(N.getD m []).length:=by rw[qy,aa h0] at hk;exact hk
 have he:=hS.TF au;generalize (N.getD m []).getD k (0,0)=e at *;have Db:=hL e.1.toNat zo;have e3:uV L e.1=2^(L.getD e.1.toNat (0,0,0)).1.toNat:=by unfold uV;rw[aa zo]
 unfold jj mW;refine sR ?_;refine⟨zo,_,ur (l:=dr N N.length) (k:=bm N m+k) zo zo,?_⟩;rw[gR];refine sWS (λh1=>?_) λh1=>?_
 ·exfalso;exact sO
 refine⟨zo,_,ur (l:=dr N N.length) (k:=bm N m+k) zo zo,?_⟩;rw[gR];refine sW ?_;refine sL (Ck (k:=e.1.toNat) zo zo) ?_;generalize L.getD e.1.toNat (0,0,0)=st at *;refine⟨zo,?_⟩;rw[zvA (k:=st.1.toNat) zo zo,<-e3];refine .inl ⟨by rw[e3];exact zwX zo,?_⟩;refine sW ?_;exact⟨.refl _,B5 (R:=[]) hd⟩
theorem ZP(M:ak)(N:List<|List bb)(s:Nat)(hS:SpN M N s)(dS:D)(hd:Pure dS)(x y z:Nat)(X:ak)(Y:af)(Z:ak)(st:Int):cd aj 46 [.loc 0 0,ab st] (jj L M N dS x y z X Y Z) (aL<|mB N (dr N N.length) st<|bm N N.length)<|jj L M N dS x y z X Y Z:=by
 have hf:=hS.few;have hl:=hS.len;have ha:=DY hS (m:=N.length) zo;have qV:=zi N N.length;refine vp fZ zs (by simp[jj]) ?_ (by simp[az]);unfold jj mW;refine sR ?_;rw[CA,qV];refine dk (iF 5 1 zs rfl) ?_;refine bT [0,1,14,15] (λ((k,c,l):Nat×Nat×af)=>[(5,.own 4 c 0 c),(16,ab k)]) (λ(k,c,l)=>[(4,.vec true c 1<|aE l)]) (λ(k,c,l)=>k<=bm N N.length/\c=l.length/\c<=k/\l=mB N (dr N N.length) st k) (λ(k,c,l)=>bm N N.length-k) (0,0,[]) ?_;refine sW ?_;refine⟨⟨zo,rfl,zo,rfl⟩,by exact sK,rfl,?_⟩;rintro⟨k,c,l⟩ ⟨hk,hc,m8,jY⟩;refine bl (λh1=>?_) λh1=>?_
 ·have au:k<bm N N.length:=sO;obtain⟨m,j,q1,q2,q3⟩:=It au;have gR:=zl q2 N.length q1;rw[<-q3] at gR;have xt:=Nb q2;have eT:mB N (dr N N.length) st (k+1)=if FK N ((dr N N.length).getD k (0,0)).2.toNat st=false\/((dr N N.length).getD k (0,0)).1=st then mB N (dr N N.length) st k++[(k:Int)] else mB N (dr N N.length) st k:=rfl
  refine⟨zo,_,ur (l:=dr N N.length) (k:=k) zo zo,?_⟩;rw[gR] at eT⊢;generalize (mX N m).getD j (0,0)=e at eT xt;rw[xt,bS,<-jY] at eT;obtain⟨e1,e2⟩:=e;dsimp only at xt eT;subst xt;refine sW ?_;have lx:=hS.rowAt m;refine sL (Kj (L:=N) (k:=m) zo q1) ?_;rw[CA];refine bT [0,1,5,6,7,14,15,16,29,30] (λ((j,b):Nat×Bool)=>[(8,aF b),(31,ab j)]) (λ_=>[]) (λ(j,b)=>j<=(N.getD m []).length/\b=((N.getD m []).take j).any λy=>y.1==st) (λ(j,b)=>(N.getD m []).length-j) (0,false) ?_;refine sW ?_;refine⟨⟨zo,zs⟩,by exact sK,rfl,?_⟩;rintro⟨j,b⟩ ⟨hj,hb⟩;refine bl (λh2=>?_) λh2=>?_
  ·have jC:j<(N.getD m []).length:=sO;refine sL (ur (k:=j) zo jC) ?_;have iZ:((N.getD m []).take<|j+1).any (λy=>y.1==st)=(b||(((N.getD m []).getD j (0,0)).1==st)):=by
    rw[ld,LK jC,BG,<-hb];simp
   generalize (N.getD m []).getD j (0,0)=e at iZ;cases b
   ·refine bJ ?_;refine⟨(j+1,e.1==st),⟨zo,by rw[iZ];rfl⟩,zd,?_⟩;refine br 6 zs rfl sQ (sU ?_);exact cp _ hd
   refine bJ ?_;refine⟨(j+1,true),⟨zo,by rw[iZ];rfl⟩,zd,?_⟩;refine br 6 zs rfl sQ (sU ?_);exact cp _ hd
  have jC:j=(N.getD m []).length:=by have:¬j<(N.getD m []).length:=sO
                                     omega
  subst jC;rw[gz] at hb;have hb:b=FK N m st:=hb;rw[<-hb] at eT;cases b
  ·refine sW ?_;rw[ae (.inl rfl)] at eT;refine sJI ?_;refine⟨(k+1,c+1,l++[(k:Int)]),⟨zo,by simp[hc],zo,eT.symm⟩,zd,?_⟩
   (refine br 5 zs rfl ?_ ?_<;>(repeat' (first|exact trivial|exact rfl|exact bR.refl _|exact ck.refl _|exact cg.refl _|refine And.intro ?_ ?_|(simp[az,aK,bN,-List.map_take,-List.map_drop];done))))
   ·exact cp _ hd
   exact bM<|tS hc
  refine sWS (λh3=>?_) λh3=>?_
  ·have h3:e1=st:=sO;rw[ae (.inr h3)] at eT;refine sJI ?_;refine⟨(k+1,c+1,l++[(k:Int)]),⟨zo,by simp[hc],zo,eT.symm⟩,zd,?_⟩
   (refine br 5 zs rfl ?_ ?_<;>(repeat' (first|exact trivial|exact rfl|exact bR.refl _|exact ck.refl _|exact cg.refl _|refine And.intro ?_ ?_|(simp[az,aK,bN,-List.map_take,-List.map_drop];done))))
   ·exact cp _ hd
   exact bM<|tS hc
  have h3:¬e1=st:=sO;rw[aa λq=>q.elim (λq=>by cases q) h3] at eT;refine sI ?_;refine⟨(k+1,c,l),⟨zo,hc,zo,eT.symm⟩,zd,?_⟩;refine br 5 zs rfl sQ (sU ?_);exact cp _ hd
 have au:k=bm N N.length:=by have:¬k<bm N N.length:=sO
                             omega
 subst au;rw[<-jY];exact⟨.own _ _ _ _ _ _ _ _ rfl rfl (bM<|dt<|by simp[aE];omega),B5 hd⟩
def kH(N:List<|List bb):ak:=(uc N N.length).map λt=>iY N t.toNat
def pg(L:List bQ)(N:List<|List bb):af:=(dr N N.length).map λx=>uV L x.1
def rm(L:List bQ)(N:List<|List bb):ak:=(List.range L.length).map λ(k:Nat)=>mB N (dr N N.length) (k:Int)<|bm N N.length
theorem Hp(N:List<|List bb):(kH N).length=bm N N.length:=by simp[kH,Cv]
theorem Ra(N:List<|List bb):(pg L N).length=bm N N.length:=by simp[pg,zi]
theorem O1(N:List<|List bb):(rm L N).length=L.length:=by simp[rm]
theorem Ny{β:Type}{f:α->β}{l:List α}{d:α}(h:i<l.length):(l.map f).take (i+1)=(l.map f).take i++[f<|l.getD i d]:=by
 rw[ld,cy,aG h,ay,aG h];rfl
theorem znW(hm:m<N.length)(hk:k<iy N m):(kH N).take (bm N m+k+1)=(kH N).take (bm N m+k)++[iY N ((nz N m).getD k 0).toNat]:=by
 have h1:=xA (N:=N) (show m+1<=N.length by omega);rw[qM] at h1;unfold kH;rw[Ny (d:=0)<|by rw[Cv];omega,LC hk N.length hm]
variable{L:List bQ}
theorem zqi(hm:m<N.length)(hk:k<iy N m):(pg L N).take (bm N m+k+1)=(pg L N).take (bm N m+k)++[uV L ((mX N m).getD k (0,0)).1]:=by
 have h1:=xA (N:=N) (show m+1<=N.length by omega);rw[qM] at h1;unfold pg;rw[Ny (d:=(0,0))<|by rw[zi];omega,zl hk N.length hm]
theorem zms(h:k<L.length):(rm L N).take (k+1)=(rm L N).take k++[mB N (dr N N.length) (k:Int)<|bm N N.length]:=by
 unfold rm;rw[Ny (d:=0)<|by simpa using h];simp[ay,pN,h]
def N6(l:af):D:=.a8 1<|pJ l
def x6(start:af)(next:ak)(label:af)(fair:ak):D:=.agg [aL start,bW next,N6 label,bW fair]
@[simp] theorem zpw:Pure<|N6 l:=by simp only[N6,Pure];exact OJ l
@[simp] theorem ztR(start:af)(next:ak)(label:af)(fair:ak):Pure<|x6 start next label fair:=by simp[x6,Pure,ao,c9,lu,zpw]
theorem RI{o a y:D}:bO ρ (tZ L M N o a y)=tZ L M N (D.aO ρ o) (D.aO ρ a) (D.aO ρ y):=by
 have h1:=iK (ρ:=ρ) _<|F6 L;have h2:=iK (ρ:=ρ) _<|lu M;have h3:=iK (ρ:=ρ) (.a8 1<|jW N) (by simp only[Pure];exact yG N);unfold tZ;simp only[bO,h1,h2,h3];rfl
theorem ztl(L:List bQ)(M:ak)(N:List<|List bb)(s:Nat)(hS:SpN M N s)(o0 o1 o2:an) :
  qx aj 42 [.loc 3 0] [o0,o1,o2,.row true<|tZ L M N bC bC bC] (aF<|decide ((bm N N.length:Int)<=600))
   [o0,o1,o2,.row true<|tZ L M N (.own 4 (bm N N.length) 0<|bm N N.length) (.own 5 N.length 0 N.length) (.own 6 N.length 0 N.length),.vec true (bm N N.length) 2<|kc<|dr N N.length,.vec true N.length 1<|aE<|jR N N.length,.vec true N.length 1<|aE<|lq N N.length] [3,4,5,6]:=by
 refine Xj (znk L M N s hS) [3] rfl zs (by simp[aK,az]) (by simp[kl,an.under,tZ,aK,az]) [3,4,5,6] rfl rfl rfl (λi o ho=>?_) ?_
 ·match i with
  |0 =>
   simp at ho;subst ho;simp only[an.aO,RI];rfl
  |i+1=>simp at ho
 simp only[cj,dE,Ey,zC,FV,ft,dR,gP,an.aO,RI,jb _<|Ec _,YG,lh];rfl
variable(P:ah)
theorem YD(hP:P.Fits)(tok st:Int)(he:P.eZ tok st≠0):ar aj 15 [cH P,ab tok,ab st] (.aJ [x6 [] [] [] [],nD [],ab<|P.eZ tok st]):=by
 have hE:=Sf P hP tok st;refine bz fZ ?_;generalize P.eZ tok st=e at *;refine sR ?_;refine sC hE ?_;refine sS (λh1=>?_) λh1=>?_
 ·exact .aJ _ _ (.cons _ _ _ _ (.agg _ _ (.cons _ _ _ _ (.none _) (.cons _ _ _ _ (.none _) (.cons _ _ _ _ (.none _) (.cons _ _ _ _ (.none _) .nil))))) (.cons _ _ _ _ (.none _) (.cons _ _ _ _ (.refl _) .nil)))
 exfalso;exact sO
theorem DI(hP:P.Fits)(tok st:Int)(he:P.eZ tok st=0)(hF:Nf P (P.exM tok st)<|P.bX tok st):ar aj 15 [cH P,ab tok,ab st]
  (if bm (P.bX tok st) (P.bX tok st).length<=600 then .aJ [x6 (iY (P.bX tok st) 0) (kH<|P.bX tok st) (pg P.aC<|P.bX tok st)<|rm P.aC<|P.bX tok st,nD<|dr (P.bX tok st) (P.bX tok st).length,ab 0] else .aJ [x6 [] [] [] [],nD [],ab 2]):=by
 have hE:=Sf P hP tok st;rw[he] at hE;generalize P.exM tok st=M at *;generalize P.bX tok st=N at *;have hS:=hF.sp;have hf:=hS.few;have hl:=hS.len;have lj:=hS.pos;obtain⟨h0,_,ko⟩:=ah.lY hF.steps;have Db:∀j,j<P.aC.length->0<=(P.aC.getD j (0,0,0)).1/\(P.aC.getD j (0,0,0)).1<=63:=λj hj=>by
  have h1:=(ah.Ag hF.steps hj).node;have:=(ky h0).1;omega
 refine fi fZ zs (by simp[ao,Pure,Jk]) ?_ (by split<;>simp[Pure,ao,ztR,CE]);refine sR ?_;refine sC hE ?_;refine sC (vO P hP) ?_;refine sE (ztl P.aC M N P.aC.length hS _ _ _) ?_;by_cases hA:bm N N.length<=600
 ·have hb:decide ((bm N N.length:Int)<=600)=true:=gb zo;rw[hb,ae hA];refine sW ?_;rw[xS];have hNl:=Hp N;have Ou:=Ra P.aC N;have zJ:=O1 P.aC N;have uG:Pure bC:=Tl _;have HP:Pure<|aL<|iY N 0:=c9 _;have zKE:=λi X Y m k (hm:m<N.length) (hk:k<iy N m)=>ztn P.aC M N _ hS _ uG i i 0 X Y [] m k hm hk;have IK:=λi j X Y m k (hm:m<N.length) (hk:k<iy N m)=>zql P.aC M N _ hS _ uG i j 0 X Y [] Db rfl m k hm hk;have dg:=λX Y=>RU P.aC M N _ hS _ uG (bm N N.length) (bm N N.length) 0 X Y [] 0 zo;have Ku:=λk X Y Z st=>ZP P.aC M N _ hS _ HP (bm N N.length) (bm N N.length) k X Y Z st;have Vb:List.drop 0 (List.take (bm N N.length)<|kc<|dr N N.length)=kc (dr N N.length):=dt (by simp[zi]);have hfa:List.drop 0 (List.take N.length<|aE<|jR N N.length)=aE (jR N N.length):=dt (by simp[aE,jR]);have hfm:List.drop 0 (List.take N.length<|aE<|lq N N.length)=aE (lq N N.length):=dt (by simp[aE,lq])
  refine dk (oK (vl (λi=>i==4||i==5||i==6) (env':=[(6,.loc 1 0),(11,.loc 3 0),(44,ab<|bm N N.length),(45,ab 0)])
   (H':=[.row true P.cells,.row true [bC,bC,bC,bC],.row true<|J4 M N,.row true [nv P.aC,bW M,.a8 1<|jW N,nD<|dr N N.length,aL<|jR N N.length,aL<|lq N N.length,bC,bC,bC,bC],
    .vec false (bm N N.length) 2 (kc<|dr N N.length),.vec false N.length 1<|aE<|jR N N.length,.vec false N.length 1<|aE<|lq N N.length])
   ⟨.refl _,.refl _,.refl _,.refl _,trivial⟩ ?_)
   (oK (jN 3 7 1 zs rfl rfl)<|oK (jN 3 8 1 zs rfl rfl)<|jN 3 9 1 zs rfl rfl)) ?_
  ·refine⟨⟨.inl rfl,(λh=>by cases h),.refl _⟩,⟨.inl rfl,(λh=>by cases h),.refl _⟩,⟨.inl rfl,(λh=>by cases h),.refl _⟩,⟨.inl rfl,(λh=>by cases h),?_⟩,⟨.inr ⟨rfl,rfl⟩,λ_=>rfl,rfl,rfl,.refl _⟩,⟨.inr ⟨rfl,rfl⟩,λ_=>rfl,rfl,rfl,.refl _⟩,⟨.inr ⟨rfl,rfl⟩,λ_=>rfl,rfl,rfl,.refl _⟩,trivial⟩;refine .cons _ _ _ _ (.refl _) (.cons _ _ _ _ (.refl _) (.cons _ _ _ _ (.refl _) (.cons _ _ _ _ (.own _ _ _ _ _ _ _ _ rfl rfl (bM Vb)) (.cons _ _ _ _ (.own _ _ _ _ _ _ _ _ rfl rfl (bM hfa)) (.cons _ _ _ _ (.own _ _ _ _ _ _ _ _ rfl rfl (bM hfm)) (.refl _))))))
  refine fy [6,11,44] (λi:Nat=>[(45,ab i)])
   (λi=>[.row true P.cells,.row true [bC,bC,bC,bC],.row true<|J4 M N,.row true<|mW P.aC M N bC 7 i 8 i 9 0,
    .vec false (bm N N.length) 2 (kc<|dr N N.length),.vec false N.length 1<|aE<|jR N N.length,.vec false N.length 1<|aE<|lq N N.length,.vec true i 1<|jw<|(kH N).take i,.vec true i 1<|pJ<|(pg P.aC N).take i,.vec true 0 1<|jw []])
   (λi=>i<=bm N N.length) (λi=>bm N N.length-i) 0 ?_
  refine gp ?_;rintro i hi;refine bl (λh1=>?_) λh1=>?_
  ·have bu:i<bm N N.length:=sO;obtain⟨m,k,q1,q2,rfl⟩:=It bu;have e1:=znW q1 q2;have e2:=zqi (L:=P.aC) q1 q2;have l1:((kH N).take<|bm N m+k).length=bm N m+k:=(by rw[gO];omega);have l2:((pg P.aC N).take<|bm N m+k).length=bm N m+k:=(by rw[gO];omega);have hn:=λX Y=>zKE (bm N m+k) X Y m k q1 q2;have hlb:=λj X Y=>IK (bm N m+k+1) j X Y m k q1 q2;refine sX (ES uG (hn _ _) (by simp[ao,Pure]) (c9 _) 3 7 8 9 zc rfl rfl rfl rfl) ?_;rw[show List.drop 0 (List.take (bm N m+k)<|jw<|List.take (bm N m+k)<|kH N)++List.drop 0 (List.take 1 [[aL<|iY N ((nz N m).getD k 0).toNat]])=jw ((kH N).take<|bm N m+k+1) from by rw[e1];exact Im l1.symm];refine sJ ?_;refine sX (ES uG (hlb (bm N m+k) _ _) (by simp[ao,Pure]) (Tl _) 3 7 8 9 zc rfl rfl rfl rfl) ?_;rw[show List.drop 0 (List.take (bm N m+k)<|pJ<|List.take (bm N m+k)<|pg P.aC N)++List.drop 0 (List.take 1 [[D.sc (.int .u64<|uV P.aC ((mX N m).getD k (0,0)).1)]])=pJ ((pg P.aC N).take<|bm N m+k+1) from by rw[e2];exact zul l2.symm];refine sJI ?_;refine⟨bm N m+k+1,zo,zd,?_⟩;exact br 10 zs rfl sQ sQ
  have bu:i=bm N N.length:=by have:¬i<bm N N.length:=sO
                              omega
  subst bu;rw[fF zo,fF zo];refine sX (ES uG (dg _ _) (by simp[ao,Pure]) (c9 _) 3 7 8 9 zc rfl rfl rfl rfl) ?_;rw[Br]
  refine fy [6,11,87] (λi:Nat=>[(88,ab i)])
   (λi=>[.row true P.cells,.row true [bC,bC,bC,bC],.row true<|J4 M N,.row true<|mW P.aC M N (aL<|iY N 0) 7 (bm N N.length) 8 (bm N N.length) 9 i,
    .vec false (bm N N.length) 2 (kc<|dr N N.length),.vec false N.length 1<|aE<|jR N N.length,.vec false N.length 1<|aE<|lq N N.length,.vec true (bm N N.length) 1<|jw<|kH N,.vec true (bm N N.length) 1<|pJ<|pg P.aC N,.vec true i 1<|jw<|(rm P.aC N).take i])
   (λi=>i<=P.aC.length) (λi=>P.aC.length-i) 0 ?_
  refine gp ?_;rintro k hk;refine bl (λh2=>?_) λh2=>?_
  ·have au:k<P.aC.length:=sO;have e1:=zms (N:=N) au;have l1:((rm P.aC N).take k).length=k:=(by rw[gO];omega);refine sX (ES HP (Ku k _ _ _ k) (by simp[ao,Pure]) (c9 _) 3 7 8 9 zc rfl rfl rfl rfl) ?_;refine sJI ?_;refine⟨k+1,zo,zd,?_⟩;dsimp only;rw[e1];refine br 10 zs rfl sQ (sU ?_);exact bM<|Im l1.symm
  have au:k=P.aC.length:=by have:¬k<P.aC.length:=sO
                            omega
  subst au;rw[fF zo];refine .aJ _ _ (.cons _ _ _ _ (.agg _ _ (.cons _ _ _ _ (.refl _) (.cons _ _ _ _ (.own _ _ _ _ _ _ _ _ rfl ?_) (.cons _ _ _ _ (.own _ _ _ _ _ _ _ _ rfl ?_) (.cons _ _ _ _ (.own _ _ _ _ _ _ _ _ rfl ?_) .nil))))) (.cons _ _ _ _ (.refl _) (.cons _ _ _ _ (.refl _) .nil)))
  ·rw[dt<|by simp[jw,hNl]];exact fW _
  ·rw[dt<|by simp[pJ,Ou]];exact fW _
  rw[dt<|by simp[jw,zJ]];exact fW _
 have hb:decide ((bm N N.length:Int)<=600)=false:=gx zo;rw[hb,aa hA];refine sW ?_;exact .aJ _ _ (.cons _ _ _ _ (.agg _ _ (.cons _ _ _ _ (.none _) (.cons _ _ _ _ (.none _) (.cons _ _ _ _ (.none _) (.cons _ _ _ _ (.none _) .nil))))) (.cons _ _ _ _ (.none _) (.cons _ _ _ _ (.refl _) .nil)))
namespace ah
def AG(s m:Nat)(e:bb):Prop:=0<=e.1/\e.1<(s:Int)/\0<=e.2/\e.2<(m:Int)
theorem AG.mono{m':Nat}{e:bb}(h:AG s m e)(hm:m<=m'):AG s m' e:=⟨h.1,h.2.1,h.2.2.1,by have:=h.2.2.2;omega⟩
theorem VC{P:ah}{tok:Int}{st n:Nat}{M:af}:∀(L:af) (marks:ak) (aQ:List cK) (cur:List bb) (last:cK),(∀k∈L,k∈P.cD M)->(∀e∈cur,AG P.aC.length marks.length e) ->
  marks.length<=(P.eX tok st n M L marks aQ cur last).marks.length/\∀e∈(P.eX tok st n M L marks aQ cur last).cur,AG P.aC.length (P.eX tok st n M L marks aQ cur last).marks.length e
 |[],marks,aQ,cur,last,_,hc=>⟨aI _,hc⟩
 |k::r,marks,aQ,cur,last,hL,hc=>by
  rw[BU];split
  ·exact⟨aI _,hc⟩
  split
  ·exact⟨aI _,hc⟩
  rename_i h1 h2;have h2:jM marks (P.cR M k) tok st=0:=zo;have hl:=Hd (marks:=marks) (m:=P.cR M k) (tok:=tok) (st:=st);obtain⟨_,k1,k2,_⟩:=LM<|hL k zs
  obtain⟨q1,q2⟩:=VC (P:=P) (tok:=tok) (st:=st) (n:=n) (M:=M) r (gN marks (P.cR M k) tok st) (kW marks aQ (P.cR M k) tok st ((n:Int),k)) (cur++[(k,ka marks (P.cR M k) tok st)]) ((n:Int),k)
   (λx hx=>hL x<|by simp[hx]) (λe he=>by
    rcases de.1 he with he|he
    ·exact(hc e he).mono hl
    rw[cM] at he;subst he;have hm:=PA h2;have hi:=Ks hm;have e:ka marks (P.cR M k) tok st=(oy (gN marks (P.cR M k) tok st) (P.cR M k):Int):=(by unfold ka;rw[ae h2]);refine⟨k1,by show k<_;omega,?_,?_⟩
    ·show 0<=ka marks (P.cR M k) tok st;rw[e];omega
    show ka marks (P.cR M k) tok st<_;rw[e];unfold oy;omega)
  exact⟨ia hl q1,q2⟩
theorem Vx{P:ah}{tok:Int}{st:Nat}(b8:st<=200):∀(f n:Nat) (marks:ak) (aQ:List cK) (next:List<|List bb) (last:cK),Sp P tok st marks aQ->(∀l∈next,∀e∈l,AG P.aC.length marks.length e)->next.length=n->n<=marks.length->n+f=201 ->
  (P.iD tok st f n marks aQ next last).e=0->(P.iD tok st f n marks aQ next last).next.length=(P.iD tok st f n marks aQ next last).marks.length/\marks.length<=(P.iD tok st f n marks aQ next last).marks.length /\
   ∀l∈(P.iD tok st f n marks aQ next last).next,∀e∈l,AG P.aC.length (P.iD tok st f n marks aQ next last).marks.length e
 |0,n,marks,aQ,next,last,hS,_,_,hn,hf,_=>by have:=hS.room;omega
 |f+1,n,marks,aQ,next,last,hS,hN,hl,hn,hf,he=>by
  simp only[iD] at he⊢;split
  ·rename_i bF;rw[ae bF] at he;have hM:=hS.fB _<|yY bF;obtain⟨q1,q2,_⟩:=DE (tok:=tok) (st:=st) (n:=n) hM (P.cD<|marks.getD n []) marks aQ [] last (λ_ h=>h) hS bF;obtain⟨r1,r2⟩:=VC (P:=P) (tok:=tok) (st:=st) (n:=n) (M:=marks.getD n []) (P.cD<|marks.getD n []) marks aQ [] last (λ_ h=>h) zs;split
   ·rename_i h0;rw[ae h0] at he;exact absurd he h0
   rename_i h0;rw[aa h0] at he;obtain⟨t1,t2,t3⟩:=Vx b8 f (n+1) _ _ _ _ q1 (λl jY e G4=>by
    rcases de.1 jY with jY|jY
    ·exact(hN l jY e G4).mono q2
    rw[cM] at jY;subst jY;exact r2 e G4) (by simp[hl]) zo zo he
   exact⟨t1,ia q2 t2,t3⟩
  rename_i bF;exact⟨by show next.length=marks.length;omega,aI _,hN⟩
end ah
theorem oU{P:ah}{tok st:Int}(he:P.eZ tok st=0):Nf P (P.exM tok st)<|P.bX tok st:=by
 have eM:P.exM tok st=(P.exF tok st.toNat).marks:=by unfold ah.exM;rw[ae he]
 have eN:P.bX tok st=(P.exF tok st.toNat).next:=by unfold ah.bX;rw[ae he]
 unfold ah.eZ at he;split at he
 ·exfalso;omega
 rename_i h1;have h1:P.dp=0:=zo;split at he
 ·exfalso;omega
 rename_i h2;unfold ah.wO at h2;obtain⟨h0,_,ko⟩:=ah.lY h1;have nI:=(ky h0).2;obtain⟨hS,_⟩:=ah.zCB h1 (tok:=tok) (st:=st.toNat) zo;have hr:=hS.room;obtain⟨g1,g2⟩:=ah.VT (P:=P) (tok:=tok) (st:=st.toNat) 201 0 [P.jd] [(-1,-1)] [] (-1,-1) zs;obtain⟨t1,t2,t3⟩:=ah.Vx (P:=P) (tok:=tok) (st:=st.toNat) zo 201 0 [P.jd] [(-1,-1)] [] (-1,-1) (ah.Sp.start h1 zo) zs rfl zs rfl he;rw[eM,eN];refine⟨⟨t1,t2,zo,λl hl=>ia (g1 l hl) ko,t3,λm hm=>?_⟩,h1⟩;have hk:=ah.jX<|hS.fB m hm;refine⟨by have:=hk.len;omega,λx hx=>?_⟩;obtain⟨j,hj,rfl⟩:=xd hx;exact by have:=hk.pos j;unfold val at this;exact this
variable{d:D}{H:aB}
theorem Rx{P:bt}{f:FuncId}{id:Nat}{k:Int}(h:ar P f [bn<|aW k t] d)(hp:Pure d)(hid:H[id]? = some (.vec true 0 3 [[ab t.kind,ab t.num,.a8 3<|t.kids.map fT]])) :
  qx P f [.agg [ab k,ab 0,.own id 0 0 1]] H d (H.set id (.vec false 0 3 [[ab t.kind,ab t.num,.a8 3<|t.kids.map fT]])) [id]:=by
 have hx:dX [[ab t.kind,ab t.num,.a8 3<|t.kids.map fT]]:=by
  have:=iv t;exact⟨this,trivial⟩
 have:=HZ (args0:=[.agg [ab k,ab 0,.own 0 0 0 1]]) (args':=[bn<|aW k t]) (H0:=[.vec true 0 3 [[ab t.kind,ab t.num,.a8 3<|t.kids.map fT]]]) (H:=H) (args:=[.agg [ab k,ab 0,.own id 0 0 1]])
  (.cons _ _ _ _ (.agg _ _ (.cons _ _ _ _ (.refl _) (.cons _ _ _ _ (.refl _) (.cons _ _ _ _ (.own _ _ _ _ _ _ _ _ rfl (.cons _ _ _ _ (by rw[vw];exact oX _) .nil)) .nil)))) .nil) h hp [id] rfl zs (by simp[aK,az]) ⟨bP _ hx,trivial⟩ (by simp[bO,D.aO]) (λi o ho=>by
   cases i with
   |zero =>
    simp at ho;subst ho;show H[id]? = _;rw[hid];simp only[an.aO,jb _ hx]
   |succ i=>simp at ho)
 simpa [vU,an.frozen,an.aO,jb _ hx,lh] using this
variable(W:ba)
theorem zuY(hW:W.Fits)(s1:W.start.length<=1048576)(r1:∀l∈W.next,l.length<=1048576)(t:Tree)(hs:Small t) :
  ∃s l,ar aj 19 [jQ W,bn t] (.aJ [.agg [aL s,aL l],aF<|decide (W.aV=0/\aV bD t=0/\fS t=0)&&!(eK W<|b6 t),ab<|if W.aV≠0 then W.aV else if aV bD t≠0 then aV bD t else fS t]) /\
   (W.aV=0->aV bD t=0->fS t=0->oh W (b6 t) (bH W<|b6 t).1 (bH W<|b6 t).2 (fA W<|b6 t).2=.aJ [.agg [aL s,aL l],aF<|eK W<|b6 t,ab 0])/\(¬(W.aV=0/\aV bD t=0/\fS t=0/\eK W (b6 t))->s=[]/\l=[]):=by
 have hC:=G1 W hW;have hL:=uK t hs;have hM:=zAe (aW 4 t)<|sj hs;rw[ztQ] at hM;by_cases h1:W.aV=0
 ·by_cases h2:aV bD t=0
  ·by_cases h3:fS t=0
   ·have hb:=xq hW h1 s1 r1 h3;have hF:=zzi hb;obtain⟨s,l,e1,e2⟩:=zxn hb;rw[e1] at hF;refine⟨s,l,?_,λ_ _ _=>e1,λh=>e2 (by cases e:eK W (b6 t);rfl;exact absurd ⟨h1,h2,h3,e⟩ h)⟩;rw[aa (by simpa using h1),aa (by simpa using h2),gb ⟨h1,h2,h3⟩,jZ];rw[h1] at hC;rw[h2] at hL;rw[h3] at hM⊢;generalize eK W (b6 t)=b at *;refine bz fZ ?_;unfold jQ at *;refine sR ?_;refine sC hC ?_;refine sC hL ?_;refine sE (Rx hM (by simp[Pure,ao,EP]) rfl) ?_;refine sC hF ?_;cases b
    ·refine sW ?_;exact sP
    refine sW ?_;exact sP
   refine⟨[],[],?_,λ_ _ h=>absurd h h3,λ_=>⟨rfl,rfl⟩⟩;rw[aa<|by simpa using h1,aa<|by simpa using h2,gx λh=>h3 h.2.2,qG];rw[h1] at hC;rw[h2] at hL;generalize fS t=c at *;refine bz fZ ?_;unfold jQ at *;refine sR ?_;refine sC hC ?_;refine sC hL ?_;refine sE (Rx hM (by simp[Pure,ao,EP]) rfl) ?_;refine sS (λg=>?_) λg=>?_
   ·unfold aL;exact sP
   exact absurd (sO) h3
  refine⟨[],[],?_,λ_ h=>absurd h h2,λ_=>⟨rfl,rfl⟩⟩;rw[aa<|by simpa using h1,ae h2,gx λh=>h2 h.2.1,qG];rw[h1] at hC;generalize aV bD t=c at *;refine bz fZ ?_;unfold jQ at *;refine sR ?_;refine sC hC ?_;refine sC hL ?_;refine sS (λg=>?_) λg=>?_
  ·unfold aL;exact sP
  exact absurd (sO) h2
 refine⟨[],[],?_,λh=>absurd h h1,λ_=>⟨rfl,rfl⟩⟩;rw[ae h1,gx λh=>h1 h.1,qG];generalize W.aV=c at *;refine bz fZ ?_;unfold jQ at *;refine sR ?_;refine sC hC ?_;refine sS (λg=>?_) λg=>?_
 ·unfold aL;exact sP
 exact absurd (sO) h1
def oF(k a b c:Int):D:=.agg [ab k,ab a,ab b,ab c]
variable(k c a b:Int)
@[simp] theorem zAh(k a b c:Int):Pure<|oF k a b c:=by simp[oF,Pure,ao]
def kZ(k a b c:Int):Int :=
 if k<1\/14<k\/a<0\/62<a\/b<0\/62<b\/(k<=4/\b≠0) then 1
 else if (k<=3/\(c<1\/3<c))\/(3<k/\c≠0) then 1 else 0
theorem Vy:ar aj 37 [ab k]<|aF<|decide (1<=k)&&decide (k<=3):=by
 refine bV ?_;repeat' (first|refine sS (λh=>?_) λh=>?_|exact bL<|by simp_all)
theorem F7(k a b c:Int):ar aj 35 [oF k a b c]<|ab<|kZ k a b c:=by
 refine bV ?_
 repeat' (first
  |refine sS (λh=>?_) λh=>?_
  |refine sC (Vy k) ?_
  |exact bL (by unfold kZ;congr 2;(repeat' split)<;>first|rfl|exact sO))
def du(n:Int):Tree:=bE 5 (bd 3 n)<|aW 4<|bd 3 63
def lH(a:Int):Nat->Tree
 |0=>aW 10<|du a
 |n+1=>aW 10<|bE 5 (du a)<|aW 7<|lH a n
def u7(a b:Int):Tree:=aW 11<|bE 6 (aW 4<|du a)<|aW 10<|du b
def x8(a b:Int):Tree:=bE 6 (bE 8 (aW 4<|du b)<|du a)<|aW 11<|aW 4<|du b
def rb(k a b c:Int):Tree :=
 if k=1 then lH a (c-1).toNat else if k=2 then aW 4<|lH a (c-1).toNat
 else if k=3 then bE 5 (lH a (c-1).toNat)<|aW 4<|lH a c.toNat
 else if k=4 then bE 6 (bE 8 (bd 3 63)<|du a)<|aW 11<|bd 3 63
 else if k=5 then bE 6 (aW 10<|du a)<|aW 10<|du b
 else if k=6 then bE 6 (aW 4<|aW 10<|du a)<|aW 10<|du b
 else if k=7 then bE 5 (bE 6 (aW 4<|aW 10<|du a)<|aW 10<|du b)<|bE 6 (aW 4<|aW 10<|du b)<|aW 10<|du a
 else if k=13 then aW 4<|bE 5 (aW 10<|du a)<|aW 10<|du b
 else if k=8 then u7 a b else if k=9 then x8 a b else if k=10 then bE 5 (u7 a b)<|x8 a b
 else if k=11 then aW 11<|bE 6 (aW 4<|du a)<|aW 7<|bE 8 (aW 4<|du a)<|du b
 else if k=12 then aW 11<|bE 6 (aW 4<|du a)<|aW 7<|bE 8 (bd 3 63)<|du b
 else aW 11<|bE 6 (aW 4<|du a)<|aW 4<|aW 7<|aW 10<|du b
variable(n:Int)
theorem Is:ar aj 141 [ab n]<|bn<|du n:=by
 refine bV ?_;refine sC (Kg n) ?_;refine sC (Kg 63) ?_;refine sC (H3<|bd 3 63) ?_;refine sC (NC (bd 3 n)<|aW 4<|bd 3 63) ?_;exact sP
theorem Ps:∀n:Nat,n<=3->ar aj 150 [ab a,ab<|n+1] (bn<|lH a n):=by
 intro n
 induction n with
 |zero =>
  intro _;refine bV ?_;refine sC (Is a) ?_
  first|refine sC (IU<|du a) ?_|refine sC (zH 10<|du a) ?_
  exact sP
 |succ n ih =>
  intro hn;refine bV ?_;refine sC (Is a) ?_;refine .inl ⟨by unfold dW;rw[fU];omega,?_⟩;rw[show((n+1:Nat):Int)+1-1=(n:Int)+1 by omega];refine sW ?_;refine sC (ih zo) ?_;refine sC (zH 7<|lH a n) ?_;refine sC (NC (du a)<|aW 7<|lH a n) ?_
  first|refine sC (IU<|bE 5 (du a)<|aW 7<|lH a n) ?_|refine sC (zH 10<|bE 5 (du a)<|aW 7<|lH a n) ?_
  exact sP
def c56:PC:=SO [Bx 1 0,q 2 (.alloc [v0,v0,vN])]<|SO [q 7 (.n4 (.func 140) [] [1]),q 3 (.alloc [(.nilFunc)]),So 1 3 7]<|SO [q 8 (.n4 (.func 142) [] [1]),q 4 (.alloc [(.nilFunc)]),So 1 4 8]<|SO [q 9 (.n4 (.func 143) [] [3,4]),qm 5 9]<|SO [q 10 (.n4 (.func 148) [] [4,3]),qm 6 10] (.seq (.seq (.stop<|OP [Fa 11 0 1,Lo 12 11]) (.block 0<|SO [Bi 14 .eql 12 K1,qm 13 14] (.cond 13 (SO [Fa 15 1 1,Lo 16 15,Fa 17 3 1,Lo 18 17,Ca 19 150 [16,18],So 3 2 19] .ret)<|SO [Bi 21 .eql 12 K2,qm 20 21] (.cond 20 (SO [Fa 22 1 1,Lo 23 22,Fa 24 3 1,Lo 25 24,Ca 26 150 [23,25],Ca 27 146 [26],So 3 2 27] .ret)<|SO [Bi 29 .eql 12 K3,qm 28 29] (.cond 28 (.seq (.ops [Fa 30 1 1,Ld 31 30 1,Fa 32 3 1,Ld 33 32 4,Cd 34 150 [31,33] 15,Fa 35 1 1,Ld 36 35 32,Fa 37 3 1,Ld 38 37 128,Bd 39 .add 38 K1 384,Cd 40 150 [36,39] 1023,Cd 41 146 [40] 2047,Cd 42 151 [34,41] 4095,qk (.store 3 2 42) 8191] true) .ret)<|SO [Bi 44 .eql 12 K4,qm 43 44] (.cond 43 (.seq (.ops [Ca 45 152 [(cI 63)],Lo 46 3,qd 47 (.iB 46 []) 3,Cd 48 149 [K8,45,47] 7,Cd 49 152 [(cI 63)] 15,Cd 50 144 [49] 31,Cd 51 145 [48,50] 63,qk (.store 3 2 51) 127] true) .ret)<|SO [Bi 53 .eql 12 K5,qm 52 53] (.cond 52 (.seq (.ops [Lo 54 3,qd 55 (.iB 54 []) 1,Cd 56 147 [55] 3,Lo 57 4,qd 58 (.iB 57 []) 15,Cd 59 147 [58] 31,Cd 60 145 [56,59] 63,qk (.store 3 2 60) 127] true) .ret)<|SO [Bi 62 .eql 12 K6,qm 61 62] (.cond 61 (.seq (.ops [Lo 63 3,qd 64 (.iB 63 []) 1,Cd 65 147 [64] 3,Cd 66 146 [65] 7,Lo 67 4,qd 68 (.iB 67 []) 31,Cd 69 147 [68] 63,Cd 70 145 [66,69] 127,qk (.store 3 2 70) 255] true) .ret)<|SO [Bi 72 .eql 12 K7,qm 71 72] (.cond 71 (.seq (.ops [Lo 73 3,qd 74 (.iB 73 []) 1,Cd 75 147 [74] 3,Cd 76 146 [75] 7,Lo 77 4,qd 78 (.iB 77 []) 31,Cd 79 147 [78] 63,Cd 80 145 [76,79] 127,Lo 81 4,qd 82 (.iB 81 []) 511,Cd 83 147 [82] 1023,Cd 84 146 [83] 2047,Lo 85 3,qd 86 (.iB 85 []) 8191,Cd 87 147 [86] 16383,Cd 88 145 [84,87] 32767,Cd 89 151 [80,88] 65535,qk (.store 3 2 89) 131071] true) .ret)<|SO [Bi 91 .eql 12<|cI 13,qm 90 91] (.cond 90 (.seq (.ops [Lo 92 3,qd 93 (.iB 92 []) 1,Cd 94 147 [93] 3,Lo 95 4,qd 96 (.iB 95 []) 15,Cd 97 147 [96] 31,Cd 98 151 [94,97] 63,Cd 99 146 [98] 127,qk (.store 3 2 99) 255] true) .ret)<|SO [Bi 101 .eql 12 K8,qm 100 101] (.cond 100 (SO [qm 102 5,q 103 (.iB 102 []),So 3 2 103] .ret)<|SO [Bi 105 .eql 12 K9,qm 104 105] (.cond 104 (SO [qm 106 6,q 107 (.iB 106 []),So 3 2 107] .ret)<|SO [Bi 109 .eql 12<|cI 10,qm 108 109] (.cond 108 (SO [qm 110 5,q 111 (.iB 110 []),qm 112 6,q 113 (.iB 112 []),Ca 114 151 [111,113],So 3 2 114] .ret)<|SO [Bi 116 .eql 12<|cI 11,qm 115 116] (.cond 115 (.seq (.ops [Lo 117 3,qd 118 (.iB 117 []) 1,Cd 119 146 [118] 3,Lo 120 3,qd 121 (.iB 120 []) 15,Cd 122 146 [121] 31,Lo 123 4,qd 124 (.iB 123 []) 127,Cd 125 149 [K8,122,124] 255,Cd 126 153 [K7,125] 511,Cd 127 145 [119,126] 1023,Cd 128 144 [127] 2047,qk (.store 3 2 128) 4095] true) .ret)<|SO [Bi 130 .eql 12<|cI 12,qm 129 130]<|If 129 (.seq (.ops [Lo 131 3,qd 132 (.iB 131 []) 1,Cd 133 146 [132] 3,Cd 134 152 [(cI 63)] 7,Lo 135 4,qd 136 (.iB 135 []) 31,Cd 137 149 [K8,134,136] 63,Cd 138 153 [K7,137] 127,Cd 139 145 [133,138] 255,Cd 140 144 [139] 511,qk (.store 3 2 140) 1023] true) .ret))))))))))))))) (.seq (.ops [Lo 141 3,qd 142 (.iB 141 []) 1,Cd 143 146 [142] 3,Lo 144 4,qd 145 (.iB 144 []) 15,Cd 146 147 [145] 31,Cd 147 153 [K7,146] 63,Cd 148 146 [147] 127,Cd 149 145 [143,148] 255,Cd 150 144 [149] 511,qk (.store 3 2 150) 1023] true) .ret))
def jf(k a b c:Int):aZ:=[ab k,ab a,ab b,ab c]
theorem Lj(k a b c:Int):ar aj 140 [.aN<|jf k a b c]<|bn<|du a:=by
 refine fi fZ zs (by simp[ao,Pure,jf]) ?_<|dT _;refine sR ?_;refine sC (Is a) ?_;exact sP
theorem NY(k a b c:Int):ar aj 142 [.aN<|jf k a b c]<|bn<|du b:=by
 refine fi fZ zs (by simp[ao,Pure,jf]) ?_<|dT _;refine sR ?_;refine sC (Is b) ?_;exact sP
def fnA(k a b c:Int):D:=.fn (.func 140) [] [.aN<|jf k a b c]
def fnB(k a b c:Int):D:=.fn (.func 142) [] [.aN<|jf k a b c]
theorem zvs(k a b c:Int):ar aj 143 [.aN [fnA k a b c],.aN [fnB k a b c]]<|bn<|u7 a b:=by
 refine fi fZ zs (by simp[ao,Pure,jf,fnA,fnB]) ?_<|dT _;refine sR ?_;refine sC (Lj k a b c) ?_;refine sC (H3<|du a) ?_;refine sC (NY k a b c) ?_;refine sC (IU<|du b) ?_;refine sC (M1 _ _) ?_;refine sC (Ly _) ?_;exact sP
theorem zxL(k a b c:Int):ar aj 148 [.aN [fnB k a b c],.aN [fnA k a b c]]<|bn<|x8 a b:=by
 refine fi fZ zs (by simp[ao,Pure,jf,fnA,fnB]) ?_<|dT _;refine sR ?_
 repeat' (first
  |refine sC (Lj k a b c) ?_
  |refine sC (NY k a b c) ?_
  |refine sC (H3 _) ?_
  |refine sC (Ly _) ?_
  |refine sC (M1 _ _) ?_
  |refine sC (IH 8 _ _) ?_
  |exact qI rfl (.refl _))
theorem zxx(k a b c:Int)(h:kZ k a b c=0):ar aj 56 [oF k a b c]<|bn<|rb k a b c:=by
 have hc:(k=1\/k=2\/k=3)->1<=c/\c<=3:=λhk=>by
  unfold kZ at h;split at h
  ·omega
  split at h
  ·omega
  omega
 have m1:(k=1\/k=2\/k=3)->ar aj 150 [ab a,ab c] (bn<|lH a (c-1).toNat):=λhk=>by
  have:=Ps a (c-1).toNat (by have:=hc hk;omega);rwa [show(((c-1).toNat:Int))+1=c by have:=hc hk;omega] at this
 have m2:(k=1\/k=2\/k=3)->ar aj 150 [ab a,ab<|c+1] (bn<|lH a c.toNat):=λhk=>by
  have:=Ps a c.toNat (by have:=hc hk;omega);rwa [show((c.toNat:Int))+1=c+1 by have:=hc hk;omega] at this
 refine bz (fJ 151 [.agg 2 3] c56 Tryz.func56) ?_;refine sR ?_
 refine dk (vl (λi=>!(Nat.beq i 1)) (env':=[(1,.aN<|jf k a b c),(2,.loc 1 0),(3,.aN [fnA k a b c]),(4,.aN [fnB k a b c]),(5,.fn (.func 143) [] [.aN [fnA k a b c],.aN [fnB k a b c]]),(6,.fn (.func 148) [] [.aN [fnB k a b c],.aN [fnA k a b c]])])
  (H':=[.row false<|jf k a b c,.row true [ab 0,ab 0,bC],.row false [fnA k a b c],.row false [fnB k a b c]]) ?_ ?_) ?_
 ·exact sD
 ·exact sD
 refine sR ?_
 repeat' (first
  |refine sS (λh=>?_) λh=>?_
  |refine sC (m1 (sO)) ?_
  |refine sC (m2 (sO)) ?_
  |refine sC (Lj k a b c) ?_
  |refine sC (NY k a b c) ?_
  |refine sC (zvs k a b c) ?_
  |refine sC (zxL k a b c) ?_
  |refine sC (H3 _) ?_
  |refine sC (IU _) ?_
  |refine sC (Ly _) ?_
  |refine sC (Kg _) ?_
  |refine sC (M1 _ _) ?_
  |refine sC (NC _ _) ?_
  |refine sC (IH 8 _ _) ?_
  |refine sC (zH 7 _) ?_
  |(refine .inl ⟨by unfold dW;rw[fU];have:=hc (sO);omega,?_⟩;refine sW ?_)
  |exact qI (by simp_all [rb]) (.refl _))
theorem MY:Small<|du n:=yo (xO _ _)<|sj<|xO _ _
theorem Wn(a:Int):∀n,Small (lH a n)
 |0=>sj<|MY a
 |n+1=>sj<|yo (MY a)<|sj<|Wn a n
theorem Wt(k a b c:Int):Small<|rb k a b c:=by
 unfold rb u7 x8;repeat' (first|exact MY _|exact Wn _ _|exact xO _ _|apply sj|apply yo|refine BK _ ?_ ?_)
set_option maxHeartbeats 4000000
structure cc where
 kind:Int
 scope:Int
 p:Int
 s:Int
 q:Int
 r:Int
 count:Int
def cm(x:cc):aZ:=[ab x.kind,ab x.scope,ab x.p,ab x.s,ab x.q,ab x.r,ab x.count]
def iS(x:cc):D:=.agg<|cm x
variable(x:cc)
@[simp] theorem zCO:Pure<|iS x:=by simp[iS,cm,Pure,ao]
def fo(x:cc):Int :=
 if x.kind<1\/6<x.kind\/x.scope<1\/5<x.scope\/x.p<0\/63<x.p\/x.s<0\/63<x.s\/(x.kind<5/\x.s≠0)
  \/ x.q<0\/63<x.q\/(x.scope<3/\x.q≠0)\/x.r<0\/63<x.r\/(x.scope≠2/\x.scope<4/\x.r≠0)
  \/ x.count<0\/3<x.count\/(x.kind≠4/\x.count≠0) then 1 else 0
theorem Y7(has:Bool):ar aj 68 [ab n,aF has]<|aF<|decide (0<=n)&&decide (n<=63)&&(has||n==0):=by
 refine bV ?_;repeat' (first|refine sS (λh=>?_) λh=>?_|exact bL<|by simp_all)
theorem u0:ar aj 31 [iS x]<|ab<|fo x:=by
 refine bV ?_
 repeat' (first
  |refine sS (λh=>?_) λh=>?_
  |refine sC (Y7 _ _) ?_
  |exact bL (by unfold fo;congr 2;(repeat' split)<;>first|rfl|exact sO))
set_option maxHeartbeats 4000000
def noP(x:cc):Tree:=aW 4<|bd 3 x.p
def noR(x:cc):Tree:=aW 4<|bd 3 x.r
def td(x:cc)(more:Bool)(T:Tree):Tree :=
 if x.kind=2 then aW 11<|bd 3 x.p else if x.kind=3 then aW 10<|bd 3 x.p
 else if x.kind=5 then bE 6 (bE 8 (noP x)<|bd 3 x.s)<|aW 11<|noP x
 else if x.kind=6 then aW 11<|bE 6 (noP x)<|aW 10<|bd 3 x.s
 else if x.kind=4/\more=true then bE 6 (bE 8 (noP x)<|bE 5 (bd 3 x.p)<|aW 7 T)<|aW 11<|noP x else aW 11<|noP x
def l7(x:cc):Nat->Tree
 |0=>td x false<|bd 0 0
 |n+1=>td x true<|l7 x n
def oQ(weak:Bool)(a b:Tree):Tree:=if weak=true then bE 6 (bE 8 a b)<|aW 11 a else bE 8 a b
def yf(x:cc):Tree:=bE 6 (noP x)<|bE 8 (noR x)<|bE 5 (bd 3 x.s)<|noR x
def xm(x:cc)(T:Tree):Tree:=bE 6 (bd 3 x.r)<|bE 5 (bE 5 (bd 3 x.p)<|noR x)<|aW 7 T
def upN(x:cc)(weak more:Bool)(T:Tree):Tree :=
 if x.kind=2 then oQ weak (bd 3 x.p)<|bd 3 x.r else if x.kind=3 then bE 8 (noR x)<|bE 5 (bd 3 x.p)<|noR x
 else if x.kind=5 then oQ weak (noP x)<|bE 6 (bd 3 x.s)<|bd 3 x.r else if x.kind=6 then oQ weak (yf x)<|bd 3 x.r
 else if x.kind=4/\more=true then oQ weak (noP x)<|xm x T
 else oQ weak (noP x)<|bd 3 x.r
def upT(x:cc)(weak:Bool):Nat->Tree
 |0=>upN x weak false<|bd 0 0
 |n+1=>upN x weak true<|upT x weak n
def gI(x:cc):Tree :=
 let n:=x.count.toNat
 if x.scope=2 then bE 6 (aW 4<|aW 10<|bd 3 x.r)<|upT x false n
 else if x.scope=3 then bE 6 (aW 11<|aW 4<|bd 3 x.q)<|bE 8 (aW 4<|bd 3 x.q)<|bE 5 (bd 3 x.q)<|l7 x n
 else if x.scope=4 then aW 11<|bE 6 (aW 4<|bE 5 (bE 5 (bd 3 x.q)<|noR x)<|aW 10<|bd 3 x.r)<|upT x false n
 else if x.scope=5 then aW 11<|bE 6 (aW 4<|bE 5 (bd 3 x.q)<|noR x)<|upT x true n
 else l7 x n
theorem Vu(x:cc):∀n,Small (l7 x n)
 |0=>by
  unfold l7 td noP;repeat' (first|exact xO _ _|apply sj|apply yo|refine BK _ ?_ ?_)
 |n+1=>by
  have:=Vu x n;unfold l7 td noP;repeat' (first|assumption|exact xO _ _|apply sj|apply yo|refine BK _ ?_ ?_)
theorem W4(x:cc)(weak:Bool):∀n,Small (upT x weak n)
 |0=>by
  unfold upT upN oQ yf xm noP noR;repeat' (first|exact xO _ _|apply sj|apply yo|refine BK _ ?_ ?_)
 |n+1=>by
  have:=W4 x weak n;unfold upT upN oQ yf xm noP noR;repeat' (first|assumption|exact xO _ _|apply sj|apply yo|refine BK _ ?_ ?_)
theorem Q2:Small<|gI x:=by
 unfold gI noR;repeat' (first|exact Vu _ _|exact W4 _ _ _|exact xO _ _|apply sj|apply yo|refine BK _ ?_ ?_)
def c135:PC:=SO [Bx 3 0,Bx 4 1,Bx 5 2,q 6 (.alloc [v0,v0,vN])]<|SO [q 10 (.n4 (.func 208) [] [3]),q 7 (.alloc [(.nilFunc)]),So 1 7 10]<|SO [q 11 (.n4 (.func 209) [] [3]),q 8 (.alloc [(.nilFunc)]),So 1 8 11] (.seq (.seq (.stop<|OP [Fa 12 0 3,Lo 13 12]) (.block 0<|SO [Bi 15 .eql 13 K2,qm 14 15] (.cond 14 (SO [Lo 16 5,q 17 (.n4 (.func 211) [] [3]),Lo 18 8,Ca 19 210 [16,17,18],So 3 6 19] .ret)<|SO [Bi 21 .eql 13 K3,qm 20 21] (.cond 20 (.seq (.ops [Lo 22 8,qd 23 (.iB 22 []) 1,Cd 24 132 [23] 3,Fa 25 2 3,Ld 26 25 8,Cd 27 131 [26] 31,Lo 28 8,qd 29 (.iB 28 []) 127,Cd 30 132 [29] 255,Cd 31 138 [27,30] 511,Cd 32 137 [24,31] 1023,qk (.store 3 6 32) 2047] true) .ret)<|SO [Bi 34 .eql 13 K5,qm 33 34] (.cond 33 (SO [Lo 35 5,Lo 36 7,q 37 (.n4 (.func 212) [] [3,8]),Ca 38 210 [35,36,37],So 3 6 38] .ret)<|SO [Bi 40 .eql 13 K6,qm 39 40] (.cond 39 (SO [q 41 (.n4 (.func 213) [] [7,8,3]),qm 9 41]<|SO [Lo 42 5,qm 43 9,Lo 44 8,Ca 45 210 [42,43,44],So 3 6 45] .ret)<|SO [Bi 47 .eql 13 K4,qm 46 47]<|If 46<|SO [Lo 48 4,Bi 49 .gtr 48 K0]<|If 49<|SO [Lo 50 5,Lo 51 7,q 52 (.n4 (.func 214) [] [8,3,4,5]),Ca 53 210 [50,51,52],So 3 6 53] .ret))))))<|SO [Lo 54 5,Lo 55 7,Lo 56 8,Ca 57 210 [54,55,56],So 3 6 57] .ret)
theorem Yy:∀n:Nat,n<=3->ar aj 139 [iS x,ab n] (bn<|l7 x n):=by
 intro n
 induction n with
 |zero =>
  intro _;refine bV ?_
  repeat' (first
   |refine sS (λh=>?_) λh=>?_
   |refine sC (uF _) ?_
   |refine sC (yw _) ?_
   |refine sC (Gx _) ?_
   |refine sC (y5 _ _) ?_
   |refine sC (BR _ _) ?_
   |refine sC (Bc _ _) ?_
   |refine sC (yr 10 _) ?_
   |exact qI (by simp_all [l7,td,noP]) (.refl _))
 |succ n ih =>
  intro hn;have ih:=ih zo;refine bV ?_
  repeat' (first
   |refine sS (λh=>?_) λh=>?_
   |refine sC (uF _) ?_
   |refine sC (yw _) ?_
   |refine sC (Gx _) ?_
   |refine sC (y5 _ _) ?_
   |refine sC (BR _ _) ?_
   |refine sC (Bc _ _) ?_
   |refine sC (yr 10 _) ?_
   |refine sC (yr 7 _) ?_
   |refine sC ih ?_
   |(refine .inl ⟨by unfold dW;rw[fU];omega,?_⟩;rw[show(((n+1:Nat):Int)-1)=(n:Int) by omega];refine sW ?_)
   |exact qI (by simp_all [l7,td,noP]) (.refl _))
theorem Fz(weak:Bool)(f g:FuncId)(c1 c2:aZ)(h1:ao c1)(h2:ao c2)(a b:Tree)(hA:ar aj f c1<|bn a)(hB:ar aj g c2<|bn b) :
  ar aj 210 [aF weak,.fn (.func f) [] c1,.fn (.func g) [] c2] (bn<|oQ weak a b):=by
 refine fi fZ zs (by simp[ao,Pure,h1,h2]) ?_<|dT _;refine sR ?_
 repeat' (first
  |refine sS (λh=>?_) λh=>?_
  |refine sC hA ?_
  |refine sC hB ?_
  |refine sC (Gx _) ?_
  |refine sC (y5 _ _) ?_
  |refine sC (Bc _ _) ?_
  |exact qI (by simp_all [oQ]) (.refl _))
def D'(x:cc):D:=.fn (.func 208) [] [.aN<|cm x]
def fnR(x:cc):D:=.fn (.func 209) [] [.aN<|cm x]
theorem EF:ar aj 208 [.aN<|cm x]<|bn<|noP x:=by
 refine fi fZ zs (by simp[ao,Pure,cm]) ?_<|dT _;refine sR ?_;refine sC (uF _) ?_;refine sC (yw _) ?_;exact .refl _
theorem An:ar aj 209 [.aN<|cm x]<|bn<|bd 3 x.r:=by
 refine fi fZ zs (by simp[ao,Pure,cm]) ?_<|dT _;refine sR ?_;refine sC (uF _) ?_;exact .refl _
theorem zBQ:ar aj 211 [.aN<|cm x]<|bn<|bd 3 x.p:=by
 refine fi fZ zs (by simp[ao,Pure,cm]) ?_<|dT _;refine sR ?_;refine sC (uF _) ?_;exact .refl _
theorem zBd:ar aj 212 [.aN<|cm x,.aN [fnR x]]<|bn<|bE 6 (bd 3 x.s)<|bd 3 x.r:=by
 refine fi fZ zs (by simp[ao,Pure,cm,fnR]) ?_<|dT _;refine sR ?_
 repeat' (first
  |refine sC (uF _) ?_
  |refine sC (An x) ?_
  |refine sC (y5 _ _) ?_
  |exact qI rfl (.refl _))
theorem zCD:ar aj 213 [.aN [D' x],.aN [fnR x],.aN<|cm x]<|bn<|yf x:=by
 refine fi fZ zs (by simp[ao,Pure,cm,fnR,D']) ?_<|dT _;refine sR ?_
 repeat' (first
  |refine sC (uF _) ?_
  |refine sC (EF x) ?_
  |refine sC (An x) ?_
  |refine sC (y5 _ _) ?_
  |refine sC (BR _ _) ?_
  |refine sC (Bc _ _) ?_
  |refine sC (yw _) ?_
  |exact qI rfl (.refl _))
theorem zB3(n:Nat)(hn:n<=3)(weak:Bool)(T:Tree)(h:ar aj 135 [iS x,ab n,aF weak]<|bn T) :
  ar aj 214 [.aN [fnR x],.aN<|cm x,.aN [ab ((n+1:Nat):Int)],.aN [aF weak]] (bn<|xm x T):=by
 refine fi fZ zs (by simp[ao,Pure,cm,fnR]) ?_<|dT _;refine sR ?_
 repeat' (first
  |refine sC (uF _) ?_
  |refine sC (An x) ?_
  |refine sC (y5 _ _) ?_
  |refine sC (BR _ _) ?_
  |refine sC (yr 7 _) ?_
  |refine sC (yw _) ?_
  |refine sC h ?_
  |(refine .inl ⟨by unfold dW;rw[fU];omega,?_⟩;rw[show(((n+1:Nat):Int)-1)=(n:Int) by omega];refine sW ?_)
  |exact qI rfl (.refl _))
theorem S5(n:Nat)(weak:Bool)(T:Tree)(h6:0<n->ar aj 214 [.aN [fnR x],.aN<|cm x,.aN [ab n],.aN [aF weak]] (bn<|xm x T)) :
  ar aj 135 [iS x,ab n,aF weak] (bn<|upN x weak (decide (0<n)) T):=by
 refine bz (fJ 58 [.agg 6 3] c135 Tryz.func135) ?_;refine sR ?_
 refine dk (vl (λi=>!(Nat.beq i 3)) (env':=[(3,.aN<|cm x),(4,.aN [ab n]),(5,.aN [aF weak]),(6,.loc 3 0),(7,.aN [D' x]),(8,.aN [fnR x])])
  (H':=[.row false<|cm x,.row false [ab n],.row false [aF weak],.row true [ab 0,ab 0,bC],.row false [D' x],.row false [fnR x]]) ?_ ?_) ?_
 ·exact sD
 ·exact sD
 refine sR ?_
 repeat' (first
  |refine sS (λh=>?_) λh=>?_
  |refine sC (uF _) ?_
  |refine sC (EF x) ?_
  |refine sC (An x) ?_
  |refine sC (yw _) ?_
  |refine sC (BR _ _) ?_
  |refine sC (Bc _ _) ?_
  |refine sC (Fz weak _ _ _ _ (by simp[ao,Pure,cm]) (by simp[ao,Pure,cm]) _ _ (zBQ x) (An x)) ?_
  |refine sC (Fz weak _ _ _ _ (by simp[ao,Pure,cm]) (by simp[ao,Pure,cm,fnR]) _ _ (EF x) (zBd x)) ?_
  |refine sC (Fz weak _ _ _ _ (by simp[ao,Pure,cm,fnR,D']) (by simp[ao,Pure,cm]) _ _ (zCD x) (An x)) ?_
  |refine sC (Fz weak _ _ _ _ (by simp[ao,Pure,cm]) (by simp[ao,Pure,cm,fnR]) _ _ (EF x) (h6 (sO))) ?_
  |refine sC (Fz weak _ _ _ _ (by simp[ao,Pure,cm]) (by simp[ao,Pure,cm]) _ _ (EF x) (An x)) ?_
  |exact qI (by simp_all [upN,oQ,noR]) (.refl _))
theorem zvF(weak:Bool):∀n:Nat,n<=3->ar aj 135 [iS x,ab n,aF weak] (bn<|upT x weak n):=by
 intro n
 induction n with
 |zero=>exact λ_=>S5 x 0 weak (bd 0 0) λh=>zo
 |succ n ih =>
  intro hn;have:=S5 x (n+1) weak (upT x weak n) λ_=>zB3 x n zo weak _<|ih zo;rw[show decide (0<n+1)=true from rfl] at this;exact this
theorem X9(h:fo x=0):ar aj 55 [iS x]<|bn<|gI x:=by
 have hc:0<=x.count/\x.count<=3:=by
  unfold fo at h;split at h<;>omega
 have hn:x.count=(x.count.toNat:Int):=zo;have hg:=Yy x x.count.toNat zo;have hu:=λweak=>zvF x weak x.count.toNat zo;rw[<-hn] at hg hu;clear hn hc h;refine bV ?_
 repeat' (first
  |refine sS (λh=>?_) λh=>?_
  |refine sC hg ?_
  |refine sC (hu true) ?_
  |refine sC (hu false) ?_
  |refine sC (uF _) ?_
  |refine sC (yw _) ?_
  |refine sC (Gx _) ?_
  |refine sC (y5 _ _) ?_
  |refine sC (BR _ _) ?_
  |refine sC (Bc _ _) ?_
  |refine sC (yr 10 _) ?_
  |exact qI (by simp_all [gI,noR]) (.refl _))
set_option maxHeartbeats 4000000

noncomputable def oe(e:Int)(t:Tree):D:=.aJ [bn<|if e=0 then t else bd 0 0,ab e]
@[simp] theorem zBD(e:Int)(t:Tree):Pure<|oe e t:=by simp[oe,Pure,ao,dT]
variable{e:Int}
theorem BC(h:e≠0)(t:Tree):Deep H (.aJ [.agg [ab 0,ab 0,bC],ab e])<|oe e t:=by
 unfold oe;rw[aa h];exact .aJ _ _ (.cons _ _ _ _ zr2 (.cons _ _ _ _ (.refl _) .nil))
theorem Mq(h:e=0)(k:Deep H d<|bn t):Deep H (.aJ [d,ab 0])<|oe e t:=by
 subst h;unfold oe;rw[ae rfl];exact .aJ _ _ (.cons _ _ _ _ k (.cons _ _ _ _ (.refl _) .nil))
noncomputable def qt(x:cc):Int:=if fo x=0 then aV bD<|gI x else fo x
noncomputable def CV(k a b c:Int):Int:=if kZ k a b c=0 then aV bD<|rb k a b c else kZ k a b c
theorem ztE(k a b c:Int):ar aj 22 [oF k a b c]<|oe (CV k a b c)<|rb k a b c:=by
 refine bz fZ ?_;unfold CV;refine sR ?_;refine sC (F7 k a b c) ?_;refine sS (λh1=>?_) λh1=>?_
 ·rw[aa<|sO];exact BC (sO) _
 have h0:kZ k a b c=0:=sO;rw[ae h0];refine sC (zxx k a b c h0) ?_;refine sC (uK _<|Wt k a b c) ?_;refine sS (λh2=>?_) λh2=>?_
 ·exact BC (sO) _
 exact Mq (sO) (.refl _)
theorem S4:ar aj 21 [iS x]<|oe (qt x)<|gI x:=by
 refine bz fZ ?_;unfold qt;refine sR ?_;refine sC (u0 x) ?_;refine sS (λh1=>?_) λh1=>?_
 ·rw[aa<|sO];exact BC (sO) _
 have h0:fo x=0:=sO;rw[ae h0];refine sC (X9 x h0) ?_;refine sC (uK _<|Q2 x) ?_;refine sS (λh2=>?_) λh2=>?_
 ·exact BC (sO) _
 exact Mq (sO) (.refl _)
variable{k:Nat}
theorem zs0(hk:k<t.width):List.drop 0 (List.take k<|(t.kids.take k).map fT)++[bx<|t.aD k]=(t.kids.take<|k+1).map fT:=by
 have:=Vz fT<|kid_get? hk;rwa [vw] at this
theorem zoq:∀t:Tree,t.wf bD->ar aj 24 [bn t] (bn t):=by
 intro t
 induction t using Tree.ind with
 |h t ih =>
  intro df;have hs:=wu t df;have gT:=hs.width;have rV:=qN ((gK _ _).1 df).1;refine bV ?_;rw[aS];refine dk (jN 2 2 3 zs rfl rfl) ?_;refine bT [2,3,12,13] (λk:Nat=>[(14,ab k)]) (λk=>[(2,.row true [ab t.kind,ab t.num,.own 3 k 0 k]),(3,.vec true k 3<|(t.kids.take k).map fT)]) (λk=>k<=t.width) (λk=>t.width-k) 0 ?_;refine gp ?_;rintro k hk;refine bl (λh1=>?_) λh1=>?_
  ·have au:k<t.width:=(by simpa [Tree.width] using h1);refine sL (gd au) ?_;refine sC (ih k au<|gy df au) ?_;refine sJI ?_;refine⟨k+1,zo,zd,?_⟩;refine br 4 zs rfl sQ (sU ?_);exact bM<|zs0 au
  have au:k=t.width:=by have:¬k<t.width:=by simpa [Tree.width] using h1
                        omega
  subst au;refine .agg _ _ (.cons _ _ _ _ (.refl _) (.cons _ _ _ _ (.refl _) (.cons _ _ _ _ (.own _ _ _ _ _ _ _ _ rfl ?_) .nil)));rw[dt<|by simp[Tree.width],Tree.width,gz];exact fW _
def jF(name:aM)(sort:Int)(x:cc)(k a b c:Int)(f g:Tree):aZ:=.sc (.string name)::ab sort::(cm x++(jf k a b c++(bx f++bx g)))
def cQ(name:aM)(sort:Int)(x:cc)(k a b c:Int)(f g:Tree):D:=.agg<|jF name sort x k a b c f g
theorem L4{a b:aZ}(h:ao a)(k:ao b):ao<|a++b:=by
 induction a with
 |nil=>exact k
 |cons d r ih=>exact⟨h.1,ih h.2⟩
@[simp] theorem zoG(name:aM)(sort:Int)(x:cc)(k a b c:Int)(f g:Tree):Pure<|cQ name sort x k a b c f g:=by
 simp only[cQ,Pure,jF,ao,true_and];exact L4 (by simp[cm,ao,Pure])<|L4 (by simp[jf,ao,Pure])<|L4 (iv f)<|iv g
noncomputable def gW(sort:Int)(x:cc)(k a b c:Int)(f:Tree):Int:=if sort=1 then qt x else if sort=2 then CV k a b c else if sort=3 then aV bD f else 1
noncomputable def cz(sort:Int)(x:cc)(k a b c:Int)(f:Tree):Tree:=if sort=1 then gI x else if sort=2 then rb k a b c else f
theorem HJ(name:aM)(sort:Int)(x:cc)(k a b c:Int)(f g:Tree)(hf:Small f) :
  ar aj 6 [cQ name sort x k a b c f g] (oe (gW sort x k a b c f)<|cz sort x k a b c f):=by
 refine bz fZ ?_;refine sRS (λh1=>?_) λh1=>?_
 ·have h1:sort=1:=sO;have e:gW sort x k a b c f=qt x:=(by simp[gW,h1]);have t:cz sort x k a b c f=gI x:=(by simp[cz,h1]);rw[e,t];refine sC (S4 x) ?_;exact .refl _
 have h1:sort≠1:=sO;refine sS (λh2=>?_) λh2=>?_
 ·have h2:sort=2:=sO;have e:gW sort x k a b c f=CV k a b c:=(by simp[gW,h2]);have t:cz sort x k a b c f=rb k a b c:=(by simp[cz,h2]);rw[e,t];refine sC (ztE k a b c) ?_;exact .refl _
 have h2:sort≠2:=sO;refine sS (λh3=>?_) λh3=>?_
 ·have h3:sort=3:=sO;refine sC (uK f hf) ?_;have e:gW sort x k a b c f=aV bD f:=(by simp[gW,h1,h2,h3]);have t:cz sort x k a b c f=f:=(by simp[cz,h1,h2]);rw[e,t];refine sS (λh4=>?_) λh4=>?_
  ·exact BC (sO) _
  have h4:aV bD f=0:=sO;refine sC (zoq f ((qo _ _).1 h4).2.2) ?_;exact Mq h4 (.refl _)
 have h3:sort≠3:=sO;have e:gW sort x k a b c f=1:=by simp[gW,h1,h2,h3]
 rw[e];exact BC zc _
theorem OF(sort:Int)(x:cc)(k a b c:Int)(f:Tree)(hf:Small f):Small<|cz sort x k a b c f:=by
 unfold cz;split
 ·exact Q2 x
 split
 ·exact Wt k a b c
 exact hf
theorem dz{a b:Int}(h:a≠b):(a==b)=false:=by simpa using h
theorem gG{a b:Int}(h:a=b):(a==b):=by simpa using h
def rnm(names:List aM)(silent:Bool)(n:Int):aM :=
 if n=63/\silent=true then yc
 else if n<0\/(names.length:Int)<=n\/63<=n then ⟨#[]⟩
 else if ic (names.getD n.toNat ⟨#[]⟩)=false then ⟨#[]⟩
 else if rO names n.toNat (names.getD n.toNat ⟨#[]⟩)=true then ⟨#[]⟩
 else names.getD n.toNat ⟨#[]⟩
def kb(x:cc):af:=if x.kind=5\/x.kind=6 then [x.s,x.p] else [x.p]
def j5(x:cc):af:=if x.scope=2 then [x.r] else if x.scope=3 then [x.q] else if x.scope=4\/x.scope=5 then [x.q,x.r] else []
def yC(k a b:Int):af:=if k<=4 then [a] else [a,b]
def gJ(names:List aM)(silent:Bool)(n:Int):Bool:=dH (rnm names silent n) ⟨#[]⟩
def eQ(names:List aM)(sort:Int)(x:cc)(k a b c:Int)(f g:Tree):Int :=
 if sort=1 then (if fo x=0/\(kb x++j5 x).any (gJ names true)=true then 4 else fo x)
 else if sort=2 then (if kZ k a b c=0/\(yC k a b).any (gJ names false)=true then 4 else kZ k a b c)
 else if sort=3 then (if aV bD f=0 then (if dK names f then 0 else 4) else aV bD f)
 else if sort=4 then (if aV fX g=0 then (if dK names g then 0 else 4) else aV fX g) else 0
def Ie(sort:Int)(x:cc)(k a b c:Int)(f g:Tree):Bool :=
 decide (sort≠1)&&!(x.kind==0&&x.scope==0&&x.p==0&&x.s==0&&x.q==0&&x.r==0&&x.count==0)||decide (sort≠2)&&!(k==0&&a==0&&b==0&&c==0) ||
  decide (sort≠3)&&(f.kind != 0||f.num != 0||decide (f.width>0))||decide (sort≠4)&&(g.kind != 0||g.num != 0||decide (g.width>0))
def fL(names:List aM)(name:aM)(sort:Int)(x:cc)(k a b c:Int)(f g:Tree):Int :=
 if ic name=false\/sort<1\/4<sort then 1 else if eQ names sort x k a b c f g≠0 then eQ names sort x k a b c f g else if Ie sort x k a b c f g=true then 1 else 0
theorem zzI(hW:W.Fits)(hc:W.aV=0):ar aj 98 [jQ W] (.aJ [bI W.next.length<|fwB (gQ W.next lV)<|W.fair.map kK,ab 0]):=by
 obtain⟨_,v7,CN,_,iZ,iX⟩:=vm W hc;have hC:=G1 W hW;rw[hc] at hC;have T3:=Wf W hW hc lV;refine bz fZ ?_;unfold jQ at *;refine sR ?_;refine sC hC ?_;rw[aS];refine⟨zo,zo,zo,?_⟩;rw[bS,show List.map D.sc [Value.bool false]=[aF false] from rfl,n5];refine sW ?_;refine bT [1,5,17] (λk:Nat=>[(18,ab k)]) (λk=>[(1,.vec true 0 1<|bU W.next.length λi=>decide (i<k))]) (λk=>k<=W.next.length) (λk=>W.next.length-k) 0 ?_;refine sW ?_;refine⟨zo,by exact sK,by simp;rfl,?_⟩;rintro k hk;refine bl (λq0=>?_) λq0=>?_
 ·have q0:k<W.next.length:=sO;refine sB ?_;refine⟨_,cX k zo q0,?_⟩;refine bJ ?_;refine⟨k+1,zo,zd,bf (by exact sK) ?_⟩;rw[oZ (i:=k) (f':=λi=>decide (i<k+1)) zo λv _=>by
   by_cases e:v=k
   ·rw[ae e];simp;omega
   rw[aa e,kj];simp;omega]
  rfl
 have q0:k=W.next.length:=by have:¬k<W.next.length:=sO
                             omega
 subst q0;rw[iw (g':=lV) λi hi=>by simp[hi,lV]];rw[show bI W.next.length lV=D.a8 1 (List.drop 0<|List.take W.next.length<|bU W.next.length lV) from by rw[Af];rfl] at T3;refine sE (BB (pre:=[_]) (post:=[]) T3 (ke _ _) ⟨by simp only[Pure];exact Du W,trivial⟩ trivial (r9 _ _) rfl) ?_;exact .refl _
inductive Eu(g:ak)(a c:aq):Nat->Prop
 |base {i:Nat} (h:c i=true):Eu g a c i
 |step {i:Nat} {x:Int} (h:a i=true) (k:x∈g.getD i []) (m:Eu g a c x.toNat):Eu g a c i
open Classical in
noncomputable def euB(g:ak)(a c:aq)(v:Nat):Bool:=decide (Eu g a c v)
variable{c a:aq}
theorem zyB:euB g a c v↔Eu g a c v:=by unfold euB;simp
theorem zCH{b:Bool}(h:b↔Eu g a c v):b=euB g a c v:=by
 rw[kj,h,zyB]
structure EuI(g:ak)(a c:aq)(s:aq)(Q:List Nat):Prop where
 sound:∀v,s v->Eu g a c v
 start:∀v,c v->s v=true
 here:∀v,v∈Q->s v=true
 closed:∀v,s v->v∈Q\/∀k x,x∈g.getD k []->x.toNat=v->a k->s k=true
structure EuJ(g:ak)(a c:aq)(s:aq)(Q:List Nat)(n:Nat)(D:List Nat):Prop where
 sound:∀v,s v->Eu g a c v
 start:∀v,c v->s v=true
 here:∀v,v∈n::Q->s v=true
 closed:∀v,s v->v=n\/v∈Q\/∀k x,x∈g.getD k []->x.toNat=v->a k->s k=true
 done:∀k,k∈D->a k->s k=true
variable{s:aq}{n:Nat}{Q:List Nat}
theorem EuI.pop(h:EuI g a c s<|n::Q):EuJ g a c s Q n [] where
 sound:=h.sound
 start:=h.start
 here:=h.here
 closed v hv:=by
  rcases h.closed v hv with q|q
  ·rcases dD.1 q with e|e
   ·exact .inl e
   exact .inr (.inl e)
  exact .inr (.inr q)
 done k hk:=by cases hk
theorem EuJ.skip{D:List Nat}(h:EuJ g a c s Q n D)(hk:a k->s k):EuJ g a c s Q n (D++[k]) where
 sound:=h.sound
 start:=h.start
 here:=h.here
 closed:=h.closed
 done j hj ha:=by
  rcases de.1 hj with q|q
  ·exact h.done j q ha
  rw[cM] at q;subst q;exact hk ha
theorem EuJ.push{D:List Nat}(h:EuJ g a c s Q n D){x:Int}(hx:x∈g.getD k [])(hn:x.toNat=n)(ha:a k):EuJ g a c (mark s k) (Q++[k]) n (D++[k]) where
 sound v hv:=by
  rcases wM.1 hv with e|e
  ·subst e;exact .step ha hx<|by rw[hn];exact h.sound n<|h.here n zs
  exact h.sound v e
 start v hv:=jX<|h.start v hv
 here v hv:=by
  rcases dD.1 hv with e|e
  ·exact jX<|h.here v<|by simp[e]
  rcases de.1 e with e|e
  ·exact jX<|h.here v<|by simp[e]
  rw[cM] at e;subst e;exact qj _ _
 closed v hv:=by
  rcases wM.1 hv with e|e
  ·exact .inr (.inl<|by simp[e])
  rcases h.closed v e with q|q|q
  ·exact .inl q
  ·exact .inr (.inl<|by simp[q])
  exact .inr (.inr λj y h1 h2 h3=>jX<|q j y h1 h2 h3)
 done j hj h3:=by
  rcases de.1 hj with q|q
  ·exact jX<|h.done j q h3
  rw[cM] at q;subst q;exact qj _ _
theorem EuJ.fin{g:ak}{a c s:aq}{n:Nat}{Q D:List Nat}(h:EuJ g a c s Q n D)(hD:∀k x,x∈g.getD k []->x.toNat=n->k∈D):EuI g a c s Q where
 sound:=h.sound
 start:=h.start
 here v hv:=h.here v<|by simp[hv]
 closed v hv:=by
  rcases h.closed v hv with q|q|q
  ·subst q;exact .inr λk x h1 h2 h3=>h.done k (hD k x h1 h2) h3
  ·exact .inl q
  exact .inr q
theorem EuI.end_(h:EuI g a c s [])(v:Nat):s v=euB g a c v:=zCH ⟨h.sound v,λq=>by
 induction q with
 |base h'=>exact h.start _ h'
 |step h1 k _ ih=>exact(h.closed _ ih).elim (λq=>by cases q) λq=>q _ _ k rfl h1⟩
section
noncomputable def rM(W:ba):Nat->Bool:=fwB (gQ W.next lV)<|W.fair.map kK
noncomputable def um(W:ba):aZ:=[aL W.start,bW W.next,cY W.label,bW W.fair,bI W.next.length<|rM W,bW<|fk W.next W.next.length]
noncomputable def jS(W:ba):D:=.aN<|um W
@[simp] theorem ZE:ao<|um W:=by simp[um,ao,c9,lu,qR,ke]
@[simp] theorem Dd:Pure<|jS W:=by simp only[jS,Pure];exact ZE W
def eC(a:aq):Nat->Bool:=λi=>!a i
def mN(a b:aq):Nat->Bool:=λi=>a i&&b i
def orF(a b:aq):Nat->Bool:=λi=>a i||b i
noncomputable def exF(W:ba)(a:aq):Nat->Bool:=λi=>(W.next.getD i []).any λx=>a x.toNat&&rM W x.toNat
noncomputable def euF(W:ba)(a b:aq):Nat->Bool:=euB W.next a<|mN b<|rM W
noncomputable def egF(W:ba)(a:aq):Nat->Bool:=fwB (gQ W.next a)<|W.fair.map kK
noncomputable def auF(W:ba)(a b:aq):Nat->Bool:=eC<|orF (euF W (eC b)<|mN (eC a)<|eC b)<|egF W<|eC b
theorem BE(h6:W.next.length<=1000000)(p:aq)(cl:FuncId)(caps:aZ)(Lq:ao caps)(hc:∀i:Nat,i<W.next.length->ar aj cl (ab i::caps) (aF<|p i)) :
  ar aj 100 [jS W,.fn (.func cl) [] caps] (bI W.next.length p):=by
 refine fi fZ zs (by simp[ao,Pure,Dd,Lq]) ?_<|ke _ _;unfold jS um;refine sR ?_;rw[aS];refine⟨zo,zo,zo,?_⟩;rw[bS,show List.map D.sc [Value.bool false]=[aF false] from rfl,n5];refine sW ?_;refine bT [1,5,15] (λk:Nat=>[(16,ab k)]) (λk=>[(0,.vec true 0 1<|bU W.next.length λi=>if i<k then p i else false)]) (λk=>k<=W.next.length) (λk=>W.next.length-k) 0 ?_;refine sW ?_;refine⟨zo,by exact sK,by simp;rfl,?_⟩;rintro k hk;refine bl (λq0=>?_) λq0=>?_
 ·have q0:k<W.next.length:=sO;refine sC (hc k q0) ?_;refine sB ?_;refine⟨_,cX k zo q0,?_⟩;refine bJ ?_;refine⟨k+1,zo,zd,bf (by exact sK) ?_⟩;rw[oZ (i:=k) (f':=λi=>if i<k+1 then p i else false) zo λv _=>by
   by_cases e:v=k
   ·subst e;rw[ae zo,ae rfl]
   rw[aa e];by_cases e2:v<k
   ·rw[ae e2,ae zo]
   rw[aa e2,aa zo]]
  rfl
 have q0:k=W.next.length:=by have:¬k<W.next.length:=sO
                             omega
 subst q0;rw[iw (g':=p) λi hi=>ae hi];exact zW rfl
theorem zxG(h6:W.next.length<=1000000)(p:aq)(cl:FuncId)(x y:D)(hx:Pure x)(hy:Pure y)(hc:∀i:Nat,i<W.next.length->ar aj cl [ab i,.aN [x],.aN [y]] (aF<|p i)) :
  cd aj 100 [jS W,.fn (.func cl) [] [.loc 0 0,.loc 1 0]] [.row true [x],.row true [y]] (.own 2 0 0 W.next.length) [.row true [x],.row true [y],.vec true 0 1<|bU W.next.length p]:=by
 refine gm fZ zs zs ?_ (by simp[az]) (by
  intro o ho;simp only[dD,tt,or_false] at ho;rcases ho with rfl|rfl|rfl
  ·exact⟨cp _ hx,trivial⟩
  ·exact⟨cp _ hy,trivial⟩
  exact bP _<|r9 _ _)
 unfold jS um;refine sR ?_;rw[aS];refine⟨zo,zo,zo,?_⟩;rw[bS,show List.map D.sc [Value.bool false]=[aF false] from rfl,n5];refine sW ?_;refine bT [1,5,15] (λk:Nat=>[(16,ab k)]) (λk=>[(2,.vec true 0 1<|bU W.next.length λi=>if i<k then p i else false)]) (λk=>k<=W.next.length) (λk=>W.next.length-k) 0 ?_;refine sW ?_;refine⟨zo,by exact sK,by simp;rfl,?_⟩;rintro k hk;refine bl (λq0=>?_) λq0=>?_
 ·have q0:k<W.next.length:=sO;refine sN (hc k q0) ?_;refine sB ?_;refine⟨_,cX k zo q0,?_⟩;refine bJ ?_;refine⟨k+1,zo,zd,bf (by exact sK) ?_⟩;rw[oZ (i:=k) (f':=λi=>if i<k+1 then p i else false) zo λv _=>by
   by_cases e:v=k
   ·subst e;rw[ae zo,ae rfl]
   rw[aa e];by_cases e2:v<k
   ·rw[ae e2,ae zo]
   rw[aa e2,aa zo]]
  rfl
 have q0:k=W.next.length:=by have:¬k<W.next.length:=sO
                             omega
 subst q0;rw[iw (g':=p) λi hi=>ae hi];exact⟨rfl,aI _⟩
variable(n:Nat)
theorem zz3(a:aq)(i:Nat)(hi:i<n):ar aj 182 [ab i,.aN [bI n a]]<|aF<|eC a i:=by
 refine bV ?_;refine sL (cX i zo hi) ?_;exact .refl _
theorem tG(h6:W.next.length<=1000000)(a:aq):ar aj 103 [jS W,bI W.next.length a]<|bI W.next.length<|eC a:=by
 have hE:=BE W h6 (eC a) 182 [.aN [bI W.next.length a]] (by simp[ao,Pure,ke]) λi hi=>zz3 W.next.length a i hi;refine bV ?_;refine sV hE ?_;exact .refl _
theorem Q0(a b:aq)(i:Nat)(hi:i<n):ar aj 183 [ab i,.aN [bI n a],.aN [bI n b]]<|aF<|mN a b i:=by
 refine bz fZ ?_;have e:mN a b i=(a i&&b i):=rfl;refine sR ?_;refine sL (cX i zo hi) ?_;cases r:a i
 ·rw[r] at e;refine sW ?_;rw[e];exact .refl _
 rw[r] at e;refine sW ?_;refine sL (cX i zo hi) ?_;rw[e];exact .refl _
theorem TZ(h6:W.next.length<=1000000)(a b:aq):ar aj 104 [jS W,bI W.next.length a,bI W.next.length b]<|bI W.next.length<|mN a b:=by
 have hE:=BE W h6 (mN a b) 183 [.aN [bI W.next.length a],.aN [bI W.next.length b]] (by simp[ao,Pure,ke]) λi hi=>Q0 W.next.length a b i hi;refine bV ?_;refine sV hE ?_;exact .refl _
theorem Qv(h6:W.next.length<=1000000)(a b:aq):cd aj 104 [jS W,bI W.next.length a,bI W.next.length b] [] (.own 2 0 0 W.next.length) [.row true [bI W.next.length a],.row true [bI W.next.length b],.vec true 0 1<|bU W.next.length<|mN a b]:=by
 have hE:=zxG W h6 (mN a b) 183 (bI W.next.length a) (bI W.next.length b) (ke _ _) (ke _ _) λi hi=>Q0 W.next.length a b i hi;refine gm fZ zs zs ?_ (by simp[az]) (by simp[an.under,aK,bP _<|r9 _ _]);refine sR ?_;refine sA hE ?_;exact aI _
theorem Yh(hW:W.Fits)(hc:W.aV=0)(a:aq)(i:Nat)(hi:i<W.next.length):ar aj 184 [ab i,.aN [jS W],.aN [bI W.next.length a]]<|aF<|exF W a i:=by
 obtain⟨_,v7,CN,_,iZ,iX⟩:=vm W hc;have dV:=λk=>iO (g:=W.next) (λl hl=>(iZ l hl).2) k;have Jl:kL W.next:=⟨hW.next,hW.AS⟩;have QI:=Jl.at i;refine bz fZ ?_;have e:exF W a i=(W.next.getD i []).any λx=>a x.toNat&&rM W x.toNat:=rfl;rw[e];have hr:=dV i;unfold jS um;generalize rM W=f at *;refine sR ?_;refine sL (me (g:=W.next) (k:=i) zo hi) ?_;rw[aS];generalize W.next.getD i []=l at *;refine bT [1,2,14,15] (λk:Nat=>[(16,ab k)]) (λ_=>[]) (λk=>k<=l.length/\∀j (hj:j<l.length),j<k->(a l[j].toNat&&f l[j].toNat)=false) (λk=>l.length-k) 0 ?_;refine sW ?_;refine⟨⟨zo,λj hj h=>zo⟩,by exact sK,rfl,?_⟩;rintro k ⟨hk,cJ⟩;refine bl (λq0=>?_) λq0=>?_
 ·have q0:k<l.length:=sO;have hx:=dn hr<|fV q0;have next:(a (l.getD k 0).toNat&&f (l.getD k 0).toNat)=false->∀j (hj:j<l.length),j<k+1->(a l[j].toNat&&f l[j].toNat)=false:=λh j hj E5=>by
   by_cases e:j=k
   ·subst e;rw[ay,aG q0] at h;exact h
   exact cJ j hj zo
  have yes:(a (l.getD k 0).toNat&&f (l.getD k 0).toNat)->(l.any λx=>a x.toNat&&f x.toNat)=true:=λh=>iR.2 ⟨_,fV q0,h⟩;refine sL (eY (l:=l) (k:=k) zo q0) ?_;generalize l.getD k 0=x at *;refine sL (cX x.toNat zo zo) ?_;cases r:a x.toNat
  ·rw[r] at next
   refine bJ ?_;exact⟨k+1,⟨zo,next rfl⟩,zd,bf (by exact sK) rfl⟩
  rw[r] at next yes
  refine sW ?_;refine sL (cX x.toNat zo zo) ?_;cases r2:f x.toNat
  ·rw[r2] at next
   refine bJ ?_;exact⟨k+1,⟨zo,next rfl⟩,zd,bf (by exact sK) rfl⟩
  rw[r2] at yes;refine sW ?_;rw[yes rfl];exact .refl _
 have q0:k=l.length:=by have:¬k<l.length:=sO
                        omega
 rw[MJ λj hj=>cJ j hj zo];exact .refl _
theorem O'(hW:W.Fits)(hc:W.aV=0)(a:aq):ar aj 106 [jS W,bI W.next.length a]<|bI W.next.length<|exF W a:=by
 obtain⟨_,v7,_⟩:=vm W hc;have hE:=BE W zo (exF W a) 184 [.aN [jS W],.aN [bI W.next.length a]] (by simp[ao,Pure,ke,Dd]) λi hi=>Yh W hW hc a i hi;refine bV ?_;refine sV hE ?_;exact .refl _
theorem Lt(hW:W.Fits)(hc:W.aV=0)(a:aq):ar aj 108 [jS W,bI W.next.length a]<|bI W.next.length<|egF W a:=by
 have h:=Wf W hW hc a;refine bz fZ ?_;unfold jQ ba.cells at h;refine sR ?_;refine sC h ?_;exact .refl _
end
section
theorem NU(c:aq):∀n,(gV c n).length+ir c n=n
 |0=>rfl
 |n+1=>by
  have:=NU c n;unfold ir at this⊢;rw[HT];simp only[iV];cases h:c n<;>simp<;>omega
theorem Nn(hc:W.aV=0)(a b:aq):ar aj 107 [jS W,bI W.next.length a,bI W.next.length b]<|bI W.next.length<|euF W a b:=by
 obtain⟨_,v7,CN,_,iZ,iX⟩:=vm W hc;have kS:∀l∈W.next,bq l W.next.length:=λl hl=>(iZ l hl).2;have dV:=λk=>iO kS k;have Dc:∀v y,y∈W.next.getD v []->y.toNat<W.next.length:=λv x hx=>by have:=dn (dV v) hx;omega
 have hB:=Qv W zo b<|rM W;have e0:euF W a b=euB W.next a (mN b<|rM W):=rfl;rw[e0];clear e0;generalize mN b (rM W)=c at *;refine bz fZ ?_;unfold jS um at *;generalize hT:fk W.next W.next.length=T at *;have lT:T.length=W.next.length:=by rw[<-hT,sb]
 have mT:∀(m:Nat) (x:Int),x∈T.getD m []↔∃k,k<W.next.length/\x=(k:Int)/\∃y,y∈W.next.getD k []/\y.toNat=m:=λm x=>by rw[<-hT];exact Bw Dc<|aI _
 have rT:∀m,(T.getD m []).length<=W.next.length:=λm=>by rw[<-hT];exact C2 W.next W.next.length m
 refine sR ?_;refine sA hB ?_;refine dk (iF 8 1 zs rfl) ?_;refine bT [0,1,7,21,22] (λk:Nat=>[(8,.own 3 (gV c k).length 0 (gV c k).length),(23,ab k)]) (λk=>[(3,.vec true (gV c k).length 1<|aE<|gV c k)]) (λk=>k<=W.next.length) (λk=>W.next.length-k) 0 ?_;refine gp ?_;rintro k hk;have iQ:=IF c k;have eS:=HT c k;refine bl (λq0=>?_) λq0=>?_
 ·have q0:k<W.next.length:=sO;refine sB ?_;refine⟨_,cX k zo q0,?_⟩;refine sW ?_;cases r:c k
  ·rw[r,aa zc] at eS;refine bJ ?_;refine⟨k+1,zo,zd,?_⟩;dsimp only;rw[eS];exact bf (by exact sK) rfl
  rw[r,ae rfl] at eS;refine mQ ?_;refine⟨k+1,zo,zd,?_⟩;dsimp only;rw[eS,show(gV c k++[(k:Int)]).length=(gV c k).length+1 by simp];refine br 4 zs rfl sQ (sU ?_);exact bM<|by rw[IA,gz]
 have q0:k=W.next.length:=by have:¬k<W.next.length:=sO
                             omega
 subst q0;clear eS
 refine bT [0,1,7] (λ((s,Z,lo,hi,aw):aq×af×Nat×Nat×Nat)=>[(8,.own 3 aw lo hi)]) (λ(s,Z,lo,hi,aw)=>[(2,.vec true 0 1<|bU W.next.length s),(3,.vec true aw 1<|aE Z)])
  (λ(s,Z,lo,hi,aw)=>lo<=hi/\hi<=Z.length/\(∀x∈Z,0<=x/\x<(W.next.length:Int))/\hi-lo+ir s W.next.length<=W.next.length/\EuI W.next a c s (lQ<|(Z.take hi).drop lo)) (λ(s,Z,lo,hi,aw)=>hi-lo+ir s W.next.length) (c,gV c W.next.length,0,(gV c W.next.length).length,(gV c W.next.length).length) ?_
 refine sW ?_;refine⟨⟨zo,zo,λx hx=>⟨(ta.1 hx).1,(ta.1 hx).2.1⟩,by rw[xS];exact Nat.le_of_eq<|NU c _,?_⟩,by exact sK,rfl,?_⟩
 ·rw[gz,ft];refine⟨λv hv=>.base hv,λv hv=>hv,λv hv=>?_,λv hv=>?_⟩
  ·obtain⟨x,hx,rfl⟩:=Cw.1 hv;exact(ta.1 hx).2.2
  by_cases q:v<W.next.length
  ·exact .inl<|Cw.2 ⟨(v:Int),ta.2 ⟨zo,zo,by rw[bS];exact hv⟩,zs⟩
  exact .inr λk x hx e=>absurd (e▸Dc k x hx) q
 rintro⟨s,Z,lo,hi,aw⟩ ⟨HY,ny,u5,hu,hI⟩;refine bl (λh1=>?_) λh1=>?_
 ·have h1:lo<hi:=sO;rw[F9 h1 ny,W0] at hI;have hx:=u5 (Z.getD lo 0)<|fV zo;generalize hX:Z.getD lo 0=x at hI hx;refine sB ?_;refine⟨_,eY (l:=Z) (k:=lo) zo zo,?_⟩;refine sW ?_;rw[hX];refine⟨zo,zo,zo,?_⟩;refine sW ?_;rw[show lo+(hi-lo)=hi by omega];refine sL (me (g:=T) (k:=x.toNat) zo zo) ?_;rw[aS];have hL:=rT x.toNat;have mL:=mT x.toNat;generalize T.getD x.toNat []=L at hL mL
  refine bT [0,1,7,48,49] (λ((s',Z',cv,bu,bY,k):aq×af×Nat×Nat×Nat×Nat)=>[(8,.own 3 bY cv bu),(50,ab k)]) (λ(s',Z',cv,bu,bY,k)=>[(2,.vec true 0 1<|bU W.next.length s'),(3,.vec true bY 1<|aE Z')])
   (λ(s',Z',cv,bu,bY,k)=>k<=L.length/\cv<=bu/\bu<=Z'.length/\(∀x∈Z',0<=x/\x<(W.next.length:Int))/\bu-cv+ir s' W.next.length<hi-lo+ir s W.next.length/\EuJ W.next a c s' (lQ<|(Z'.take bu).drop cv) x.toNat (lQ<|L.take k)) (λ(s',Z',cv,bu,bY,k)=>L.length-k) (s,Z,lo+1,hi,aw,0) ?_
  refine sW ?_;refine⟨⟨zo,zo,ny,u5,zo,hI.pop⟩,by exact sK,rfl,?_⟩;rintro⟨s',Z',cv,bu,bY,k⟩ ⟨hk,mz,l9,wb,sH,hJ⟩;refine bl (λh3=>?_) λh3=>?_
  ·have au:k<L.length:=sO;obtain⟨v,vi,wC,y,uB,C7⟩:=(mL<|L.getD k 0).1<|fV au;have eT:lQ (L.take<|k+1)=lQ (L.take k)++[v]:=by
    rw[ld,aG au,Gw];rw[ay,aG au] at wC;simp at wC;simp[lQ,wC]
   refine sL (eY (l:=L) (k:=k) zo au) ?_;rw[wC];refine sL (cX v zo vi) ?_;cases av:a v
   ·refine bJ ?_;refine⟨(s',Z',cv,bu,bY,k+1),⟨zo,mz,l9,wb,sH,by rw[eT];exact hJ.skip λq=>by rw[av] at q;cases q⟩,zd,bf (by exact sK) rfl⟩
   refine ew ?_;refine⟨_,cX v zo vi,?_⟩;refine sW ?_;cases sv:s' v
   ·refine ew ?_;refine⟨_,cX v zo vi,?_⟩;refine mQ ?_;have BA:=GO (s:=s') (s':=mark s' v) vi (λj _ q=>jX q) sv<|qj _ _;refine⟨(mark s' v,(Z'.take bu).drop cv++[(v:Int)],0,bu-cv+1,bY+1,k+1),⟨zo,zo,by simp;omega,λz hz=>?_,zo,?_⟩,zd,?_⟩
    ·rcases de.1 hz with q|q
     ·exact wb z<|CB<|List.mem_of_mem_drop q
     rw[cM] at q;omega
    ·rw[ft,fF<|by simp;omega,Gw,eT];exact hJ.push uB C7 av
    (refine br 4 zs rfl ?_ ?_<;>(repeat' (first|exact trivial|exact rfl|exact bR.refl _|exact ck.refl _|exact cg.refl _|refine And.intro ?_ ?_|(simp[az,aK,bN,-List.map_take,-List.map_drop];done))))
    ·exact bM<|E8 zo
    exact bM Bh
   refine bJ ?_;refine⟨(s',Z',cv,bu,bY,k+1),⟨zo,mz,l9,wb,sH,by rw[eT];exact hJ.skip λ_=>sv⟩,zd,bf (by exact sK) rfl⟩
  have au:k=L.length:=by have:¬k<L.length:=sO
                         omega
  subst au;refine⟨(s',Z',cv,bu,bY),⟨mz,l9,wb,zo,hJ.fin λk y h1 h2=>?_⟩,zd,bf (by exact sK) rfl⟩;have hk:k<W.next.length:=by
   rcases c7 k W.next.length with q|q
   ·exact q
   rw[ay,db q] at h1;cases h1
  rw[gz];exact Cw.2 ⟨(k:Int),(mL k).2 ⟨k,hk,rfl,y,h1,h2⟩,zs⟩
 have h0:hi=lo:=sO;subst h0;rw[FT<|by rw[gO];omega] at hI;rw[iw (g':=euB W.next a c) λi _=>hI.end_ i];exact zW rfl
theorem zBg(hc:W.aV=0)(a b:aq):cd aj 107 [jS W,bI W.next.length a,bI W.next.length b] [] (.own 2 0 0 W.next.length) [.row true [bI W.next.length b],.row true [bI W.next.length<|rM W],.vec true 0 1<|bU W.next.length<|euF W a b]:=by
 obtain⟨_,v7,CN,_,iZ,iX⟩:=vm W hc;have kS:∀l∈W.next,bq l W.next.length:=λl hl=>(iZ l hl).2;have dV:=λk=>iO kS k;have Dc:∀v y,y∈W.next.getD v []->y.toNat<W.next.length:=λv x hx=>by have:=dn (dV v) hx;omega
 have hB:=Qv W zo b<|rM W;have e0:euF W a b=euB W.next a (mN b<|rM W):=rfl;rw[e0];clear e0;generalize mN b (rM W)=c at *;refine gm fZ zs zs ?_ (by simp[az]) (by simp[an.under,aK,bP _<|r9 _ _]);unfold jS um at *;generalize hT:fk W.next W.next.length=T at *;have lT:T.length=W.next.length:=by rw[<-hT,sb]
 have mT:∀(m:Nat) (x:Int),x∈T.getD m []↔∃k,k<W.next.length/\x=(k:Int)/\∃y,y∈W.next.getD k []/\y.toNat=m:=λm x=>by rw[<-hT];exact Bw Dc<|aI _
 have rT:∀m,(T.getD m []).length<=W.next.length:=λm=>by rw[<-hT];exact C2 W.next W.next.length m
 refine sR ?_;refine sA hB ?_;refine dk (iF 8 1 zs rfl) ?_;refine bT [0,1,7,21,22] (λk:Nat=>[(8,.own 3 (gV c k).length 0 (gV c k).length),(23,ab k)]) (λk=>[(3,.vec true (gV c k).length 1<|aE<|gV c k)]) (λk=>k<=W.next.length) (λk=>W.next.length-k) 0 ?_;refine gp ?_;rintro k hk;have iQ:=IF c k;have eS:=HT c k;refine bl (λq0=>?_) λq0=>?_
 ·have q0:k<W.next.length:=sO;refine sB ?_;refine⟨_,cX k zo q0,?_⟩;refine sW ?_;cases r:c k
  ·rw[r,aa zc] at eS;refine bJ ?_;refine⟨k+1,zo,zd,?_⟩;dsimp only;rw[eS];exact bf (by exact sK) rfl
  rw[r,ae rfl] at eS;refine mQ ?_;refine⟨k+1,zo,zd,?_⟩;dsimp only;rw[eS,show(gV c k++[(k:Int)]).length=(gV c k).length+1 by simp];refine br 4 zs rfl sQ (sU ?_);exact bM<|by rw[IA,gz]
 have q0:k=W.next.length:=by have:¬k<W.next.length:=sO
                             omega
 subst q0;clear eS
 refine bT [0,1,7] (λ((s,Z,lo,hi,aw):aq×af×Nat×Nat×Nat)=>[(8,.own 3 aw lo hi)]) (λ(s,Z,lo,hi,aw)=>[(2,.vec true 0 1<|bU W.next.length s),(3,.vec true aw 1<|aE Z)])
  (λ(s,Z,lo,hi,aw)=>lo<=hi/\hi<=Z.length/\(∀x∈Z,0<=x/\x<(W.next.length:Int))/\hi-lo+ir s W.next.length<=W.next.length/\EuI W.next a c s (lQ<|(Z.take hi).drop lo)) (λ(s,Z,lo,hi,aw)=>hi-lo+ir s W.next.length) (c,gV c W.next.length,0,(gV c W.next.length).length,(gV c W.next.length).length) ?_
 refine sW ?_;refine⟨⟨zo,zo,λx hx=>⟨(ta.1 hx).1,(ta.1 hx).2.1⟩,by rw[xS];exact Nat.le_of_eq<|NU c _,?_⟩,by exact sK,rfl,?_⟩
 ·rw[gz,ft];refine⟨λv hv=>.base hv,λv hv=>hv,λv hv=>?_,λv hv=>?_⟩
  ·obtain⟨x,hx,rfl⟩:=Cw.1 hv;exact(ta.1 hx).2.2
  by_cases q:v<W.next.length
  ·exact .inl<|Cw.2 ⟨(v:Int),ta.2 ⟨zo,zo,by rw[bS];exact hv⟩,zs⟩
  exact .inr λk x hx e=>absurd (e▸Dc k x hx) q
 rintro⟨s,Z,lo,hi,aw⟩ ⟨HY,ny,u5,hu,hI⟩;refine bl (λh1=>?_) λh1=>?_
 ·have h1:lo<hi:=sO;rw[F9 h1 ny,W0] at hI;have hx:=u5 (Z.getD lo 0)<|fV zo;generalize hX:Z.getD lo 0=x at hI hx;refine sB ?_;refine⟨_,eY (l:=Z) (k:=lo) zo zo,?_⟩;refine sW ?_;rw[hX];refine⟨zo,zo,zo,?_⟩;refine sW ?_;rw[show lo+(hi-lo)=hi by omega];refine sL (me (g:=T) (k:=x.toNat) zo zo) ?_;rw[aS];have hL:=rT x.toNat;have mL:=mT x.toNat;generalize T.getD x.toNat []=L at hL mL
  refine bT [0,1,7,48,49] (λ((s',Z',cv,bu,bY,k):aq×af×Nat×Nat×Nat×Nat)=>[(8,.own 3 bY cv bu),(50,ab k)]) (λ(s',Z',cv,bu,bY,k)=>[(2,.vec true 0 1<|bU W.next.length s'),(3,.vec true bY 1<|aE Z')])
   (λ(s',Z',cv,bu,bY,k)=>k<=L.length/\cv<=bu/\bu<=Z'.length/\(∀x∈Z',0<=x/\x<(W.next.length:Int))/\bu-cv+ir s' W.next.length<hi-lo+ir s W.next.length/\EuJ W.next a c s' (lQ<|(Z'.take bu).drop cv) x.toNat (lQ<|L.take k)) (λ(s',Z',cv,bu,bY,k)=>L.length-k) (s,Z,lo+1,hi,aw,0) ?_
  refine sW ?_;refine⟨⟨zo,zo,ny,u5,zo,hI.pop⟩,by exact sK,rfl,?_⟩;rintro⟨s',Z',cv,bu,bY,k⟩ ⟨hk,mz,l9,wb,sH,hJ⟩;refine bl (λh3=>?_) λh3=>?_
  ·have au:k<L.length:=sO;obtain⟨v,vi,wC,y,uB,C7⟩:=(mL<|L.getD k 0).1<|fV au;have eT:lQ (L.take<|k+1)=lQ (L.take k)++[v]:=by
    rw[ld,aG au,Gw];rw[ay,aG au] at wC;simp at wC;simp[lQ,wC]
   refine sL (eY (l:=L) (k:=k) zo au) ?_;rw[wC];refine sL (cX v zo vi) ?_;cases av:a v
   ·refine bJ ?_;refine⟨(s',Z',cv,bu,bY,k+1),⟨zo,mz,l9,wb,sH,by rw[eT];exact hJ.skip λq=>by rw[av] at q;cases q⟩,zd,bf (by exact sK) rfl⟩
   refine ew ?_;refine⟨_,cX v zo vi,?_⟩;refine sW ?_;cases sv:s' v
   ·refine ew ?_;refine⟨_,cX v zo vi,?_⟩;refine mQ ?_;have BA:=GO (s:=s') (s':=mark s' v) vi (λj _ q=>jX q) sv<|qj _ _;refine⟨(mark s' v,(Z'.take bu).drop cv++[(v:Int)],0,bu-cv+1,bY+1,k+1),⟨zo,zo,by simp;omega,λz hz=>?_,zo,?_⟩,zd,?_⟩
    ·rcases de.1 hz with q|q
     ·exact wb z<|CB<|List.mem_of_mem_drop q
     rw[cM] at q;omega
    ·rw[ft,fF<|by simp;omega,Gw,eT];exact hJ.push uB C7 av
    (refine br 4 zs rfl ?_ ?_<;>(repeat' (first|exact trivial|exact rfl|exact bR.refl _|exact ck.refl _|exact cg.refl _|refine And.intro ?_ ?_|(simp[az,aK,bN,-List.map_take,-List.map_drop];done))))
    ·exact bM<|E8 zo
    exact bM Bh
   refine bJ ?_;refine⟨(s',Z',cv,bu,bY,k+1),⟨zo,mz,l9,wb,sH,by rw[eT];exact hJ.skip λ_=>sv⟩,zd,bf (by exact sK) rfl⟩
  have au:k=L.length:=by have:¬k<L.length:=sO
                         omega
  subst au;refine⟨(s',Z',cv,bu,bY),⟨mz,l9,wb,zo,hJ.fin λk y h1 h2=>?_⟩,zd,bf (by exact sK) rfl⟩;have hk:k<W.next.length:=by
   rcases c7 k W.next.length with q|q
   ·exact q
   rw[ay,db q] at h1;cases h1
  rw[gz];exact Cw.2 ⟨(k:Int),(mL k).2 ⟨k,hk,rfl,y,h1,h2⟩,zs⟩
 have h0:hi=lo:=sO;subst h0;rw[FT<|by rw[gO];omega] at hI;rw[iw (g':=euB W.next a c) λi _=>hI.end_ i];exact⟨rfl,zs⟩
end
section
def FO(W:ba)(num:Int):Nat->Bool:=λi=>jz (W.label.getD i 0) num
noncomputable def iM(W:ba)(kind num:Int)(K:Nat->Nat->Bool):Nat->Bool :=
 if kind=1 then lV else if kind=3 then FO W num else if kind=4 then eC<|K 0 else if kind=5 then mN (K 0)<|K 1 else if kind=6 then orF (K 0)<|K 1
 else if kind=7 then exF W<|K 0 else if kind=8 then euF W lV<|K 0 else if kind=9 then egF W<|K 0 else if kind=10 then euF W (K 0)<|K 1
 else if kind=11 then eC<|exF W<|eC<|K 0 else if kind=12 then eC<|egF W<|eC<|K 0 else if kind=13 then eC<|euF W lV<|eC<|K 0 else if kind=14 then auF W (K 0)<|K 1 else eC lV
mutual
noncomputable def pb(W:ba):Tree->Nat->Bool
 | .node k n ks=>iM W k n<|cV W ks
noncomputable def cV(W:ba):List Tree->Nat->Nat->Bool
 |[],_=>noT
 |t::_,0=>pb W t
 |_::ts,j+1=>cV W ts j
end
theorem P'(W:ba):∀(ts:List Tree) (j:Nat),j<ts.length->cV W ts j=pb W (ts.getD j default)
 |[],j,h=>by simp at h
 |t::_,0,_=>by simp[cV]
 |_::ts,j+1,h=>by
  rw[cV,P' W ts j<|by simpa using h];rfl
variable{j:Nat}
theorem zz4(h:j<t.width):cV W t.kids j=pb W (t.aD j):=P' W t.kids j h
theorem zzb(t:Tree):pb W t=iM W t.kind t.num (cV W t.kids):=by cases t;rw[pb];rfl
noncomputable def o6(W:ba)(t:Tree)(k:Nat):fp:=(List.range k).map λj=>[bI W.next.length<|cV W t.kids j]
@[simp] theorem zCP(t:Tree)(k:Nat):(o6 W t k).length=k:=by simp[o6]
@[simp] theorem Vq(t:Tree)(k:Nat):dX<|o6 W t k:=cO _ (λj=>by simp[ao,ke]) _
@[simp] theorem zya(t:Tree)(k:Nat):bN m (o6 W t k)↔True:=⟨λ_=>trivial,λ_=>bP _<|Vq W t k⟩
theorem oz{W:ba}(hz:z=j)(h:j<k):(o6 W t k)[z]? = some [bI W.next.length<|cV W t.kids j]:=by
 subst hz;rw[aG<|by simpa using h];simp[o6]
theorem zqh(t:Tree)(k:Nat):List.drop 0 (List.take k<|o6 W t k)++List.drop 0 (List.take 1 [[bI W.next.length<|cV W t.kids k]])=o6 W t (k+1):=by
 rw[dt zs];simp[o6,qa]
theorem znK(h:¬fE fX t):((t.kind=1\/t.kind=2\/t.kind=3)/\t.width=0\/(t.kind=4\/t.kind=7\/t.kind=8\/t.kind=9\/t.kind=11\/t.kind=12\/t.kind=13)/\t.width=1\/(t.kind=5\/t.kind=6\/t.kind=10\/t.kind=14)/\t.width=2)/\0<=t.num/\t.num<=63:=by
 unfold fE fX at h
 (repeat' split at h)<;>omega
theorem zy7{v:Int}(h:0<=v/\v<18446744073709551616)(a:Int):(gF .and .u64 (v.fdiv<|2^min a.toNat 64) 1==1)=jz v a:=by
 have hr:=Fg h.1 h.2<|min a.toNat 64;rw[Fh hr.1 hr.2];rfl
theorem zyW{l:af}(hz:z=k)(h:k<l.length):(l.map λn=>[D.sc (.int .u64 n)])[z]? = some [.sc (.int .u64<|l.getD k 0)]:=by
 subst hz;rw[cy,aG h,ay,aG h];rfl
theorem zDs(hW:W.Fits)(hc:W.aV=0)(a b:aq):ar aj 109 [jS W,bI W.next.length a,bI W.next.length b]<|bI W.next.length<|auF W a b:=by
 obtain⟨_,v7,_⟩:=vm W hc;have n1:=tG W zo a;have n2:=tG W zo b;have bo:=TZ W zo (eC a)<|eC b;have eO:=zBg W hc (eC b)<|mN (eC a)<|eC b;have eg:=Lt W hW hc<|eC b;have n3:=tG W zo<|orF (euF W (eC b)<|mN (eC a)<|eC b)<|egF W<|eC b;have e0:auF W a b=eC (orF (euF W (eC b)<|mN (eC a)<|eC b)<|egF W<|eC b):=rfl;refine bz fZ ?_;rw[e0];clear e0;generalize euF W (eC b) (mN (eC a)<|eC b)=e at *;generalize egF W (eC b)=f at *;refine sR ?_;refine sC n2 ?_;refine sC n1 ?_;refine sC n2 ?_;refine sC bo ?_;refine sA eO ?_;refine sC n2 ?_;refine sC eg ?_;rw[C4];refine bT [0,7,27,28] (λk:Nat=>[(29,ab k)]) (λk=>[(2,.vec true 0 1<|bU W.next.length λi=>if i<k then orF e f i else e i)]) (λk=>k<=W.next.length) (λk=>W.next.length-k) 0 ?_;refine sW ?_;refine⟨zo,by exact sK,by simp;rfl,?_⟩;rintro k hk;refine bl (λq0=>?_) λq0=>?_
 ·have q0:k<W.next.length:=sO;have eat:(if k<k then orF e f k else e k)=e k:=aa zo;have eput:∀v,v<W.next.length->(if v<k+1 then orF e f v else e v)=if v=k then (e k||f k) else if v<k then orF e f v else e v:=λv _=>by
   by_cases q:v=k
   ·subst q;rw[ae zo,ae rfl];rfl
   rw[aa q];by_cases e2:v<k
   ·rw[ae e2,ae zo]
   rw[aa e2,aa zo]
  refine sL (cX k zo q0) ?_;refine sB ?_;refine⟨_,cX k zo q0,?_⟩;rw[eat];cases r:e k
  ·rw[r,rK] at eput;refine ew ?_;refine⟨_,cX k zo q0,?_⟩;refine bJ ?_;refine⟨k+1,zo,zd,bf (by exact sK) ?_⟩;rw[oZ (i:=k) zo eput];rfl
  rw[r,Bool.true_or] at eput;refine ew ?_;refine⟨_,cX k zo q0,?_⟩;refine bJ ?_;refine⟨k+1,zo,zd,bf (by exact sK) ?_⟩;rw[oZ (i:=k) zo eput];rfl
 have q0:k=W.next.length:=by have:¬k<W.next.length:=sO
                             omega
 subst q0;rw[iw (g':=orF e f) λi hi=>ae hi];rw[show bI W.next.length (orF e f)=D.a8 1 (List.drop 0<|List.take W.next.length<|bU W.next.length<|orF e f) from by rw[Af];rfl] at n3;refine sE (BB (pre:=[_]) (post:=[]) n3 (ke _ _) ⟨Dd W,trivial⟩ trivial (r9 _ _) rfl) ?_;exact .refl _
theorem zv1(hW:W.Fits)(hc:W.aV=0):ar aj 50 [jQ W]<|jS W:=by
 obtain⟨_,v7,CN,_,iZ,iX⟩:=vm W hc;have hF:=zzI W hW hc;have hT:=QU W.next (zv.2 ⟨zo,λl hl=>(iZ l hl).2⟩) ⟨hW.next,hW.AS⟩;refine fi fZ zs (by simp[ao,Ur]) ?_<|Dd W;unfold jQ ba.cells jS um at *;refine sR ?_;refine sC hF ?_;refine sC hT ?_;exact .loc _ _ _ _ _ rfl (oX _)
theorem Zk(i:Int):ar aj 101 [ab i]<|aF true:=by
 refine bV ?_;exact .refl _
theorem zyP(hl:W.label.length=W.next.length)(hL:ly W.label)(t:Tree)(hn:0<=t.num/\t.num<=63)(i:Nat)(hi:i<W.next.length):ar aj 102 [ab i,.aN [jS W],.aN<|bx t]<|aF<|FO W t.num i:=by
 have hv:0<=W.label.getD i 0/\W.label.getD i 0<18446744073709551616:=hL _<|fV zo;have hb:=zy7 hv t.num;refine bz fZ ?_;have e:FO W t.num i=jz (W.label.getD i 0) t.num:=rfl;rw[e,<-hb];unfold jS um cY;refine sR ?_;refine sL (zyW (k:=i) zo zo) ?_;refine⟨hn.1,?_⟩;refine sW ?_;exact .refl _
theorem zyw(t:Tree)(h2:t.width=2)(i:Nat)(hi:i<W.next.length):ar aj 105 [ab i,.aN [.a8 1<|o6 W t t.width]]<|aF<|orF (cV W t.kids 0) (cV W t.kids 1) i:=by
 refine bz fZ ?_;have e:orF (cV W t.kids 0) (cV W t.kids 1) i=(cV W t.kids 0 i||cV W t.kids 1 i):=rfl;rw[e];refine sR ?_;refine sL (oz (j:=0) zo zo) ?_;refine sL (cX i zo hi) ?_;cases r:cV W t.kids 0 i
 ·refine sW ?_;refine sL (oz (j:=1) zo zo) ?_;refine sL (cX i zo hi) ?_;exact .refl _
 refine sW ?_;exact .refl _
theorem zwE(hW:W.Fits)(hc:W.aV=0)(hL:ly W.label):∀t:Tree,t.wf fX->ar aj 51 [jS W,bn t] (bI W.next.length<|pb W t):=by
 obtain⟨hl,v7,_⟩:=vm W hc;have h6:W.next.length<=1000000:=zo;have zJH:=BE W h6 lV 101 [] (by simp[ao]) λi hi=>Zk i;intro t
 induction t using Tree.ind with
 |h t ih =>
  intro df;obtain⟨rV,vV⟩:=znK ((gK _ _).1 df).1;have gu:t.width<=2:=zo;have hA:=BE W h6 (FO W t.num) 102 [.aN [jS W],.aN<|bx t] (by simp[ao,Pure,Dd,iv]) λi hi=>zyP W hl hL t vV i hi;have hO:=λ(h:t.width=2)=>BE W h6 (orF (cV W t.kids 0)<|cV W t.kids 1) 105 [.aN [.a8 1<|o6 W t t.width]] (by simp[ao,Pure,Vq]) λi hi=>zyw W t h i hi;refine bz fZ ?_;rw[zzb];refine sR ?_;refine sC zJH ?_;refine dk (jN 2 0 1 zs rfl rfl) ?_;refine fy [2,3,5,6,12,13] (λk:Nat=>[(14,ab k)]) (λk=>[.row true [jS W],.row true<|bx t,.row true [.own 3 k 0 k],.vec true k 1<|o6 W t k]) (λk=>k<=t.width) (λk=>t.width-k) 0 ?_;refine gp ?_;rintro k hk;refine bl (λh1=>?_) λh1=>?_
  ·have au:k<t.width:=(by simpa [Tree.width] using h1);refine sL (by rw[bS];exact gd au) ?_;have PI:=ih k au<|gy df au;rw[<-zz4 W au] at PI;refine sC PI ?_;refine⟨by unfold mu;simp;omega,?_⟩;refine bJ ?_;refine⟨k+1,zo,zd,?_⟩;dsimp only;refine br 4 zs rfl sQ (sU ?_);exact bM<|zqh W t k
  have EX:k=t.width:=by have:¬k<t.width:=by simpa [Tree.width] using h1
                        omega
  subst EX;clear ih h1 hk;refine sS (λg1=>?_) λg1=>?_
  ·have g1:t.kind=1:=sO;rw[show iM W t.kind t.num (cV W t.kids)=lV from by unfold iM;simp[g1]];exact .refl _
  have g1:¬t.kind=1:=sO;refine sS (λg3=>?_) λg3=>?_
  ·have g3:t.kind=3:=sO;rw[show iM W t.kind t.num (cV W t.kids)=FO W t.num from by unfold iM;simp[g3]];refine sV hA ?_;exact .refl _
  have g3:¬t.kind=3:=sO;refine sS (λg4=>?_) λg4=>?_
  ·have g4:t.kind=4:=sO;rw[show iM W t.kind t.num (cV W t.kids)=eC (cV W t.kids 0) from by unfold iM;simp[g4]];refine sB ?_;refine⟨_,oz (j:=0) zo zo,?_⟩;refine sW ?_;refine sC (tG W h6<|cV W t.kids 0) ?_;exact .refl _
  have g4:¬t.kind=4:=sO;refine sS (λg5=>?_) λg5=>?_
  ·have g5:t.kind=5:=sO;rw[show iM W t.kind t.num (cV W t.kids)=mN (cV W t.kids 0) (cV W t.kids 1) from by unfold iM;simp[g5]];refine sB ?_;refine⟨_,oz (j:=0) zo zo,?_⟩;refine ew ?_;refine⟨_,oz (j:=1) zo zo,?_⟩;refine sW ?_;refine sC (TZ W h6 (cV W t.kids 0)<|cV W t.kids 1) ?_;exact .refl _
  have g5:¬t.kind=5:=sO;refine sS (λg6=>?_) λg6=>?_
  ·have g6:t.kind=6:=sO;rw[show iM W t.kind t.num (cV W t.kids)=orF (cV W t.kids 0) (cV W t.kids 1) from by unfold iM;simp[g6]];have hdd:∀{H:aB},lE H (List.drop 0<|List.take t.width<|o6 W t t.width)<|o6 W t t.width:=(by intro H;rw[dt zs];exact fW _);refine .inr (.inr (.inr (.inr (.inr (.inl ⟨rfl,_,_,.cons _ _ _ _ (.refl _) (.cons _ _ _ _ (.fn _ _ _ _ _ .nil (.cons _ _ _ _ (.loc _ _ _ _ _ rfl (.cons _ _ _ _ (.own _ _ _ _ _ _ _ _ rfl hdd) .nil)) .nil)) .nil),hO zo,?_⟩)))));refine sW ?_;exact .refl _
  have g6:¬t.kind=6:=sO;refine sS (λg7=>?_) λg7=>?_
  ·have g7:t.kind=7:=sO;rw[show iM W t.kind t.num (cV W t.kids)=exF W (cV W t.kids 0) from by unfold iM;simp[g7]];refine sB ?_;refine⟨_,oz (j:=0) zo zo,?_⟩;refine sW ?_;refine sC (O' W hW hc<|cV W t.kids 0) ?_;exact .refl _
  have g7:¬t.kind=7:=sO;refine sS (λg8=>?_) λg8=>?_
  ·have g8:t.kind=8:=sO;rw[show iM W t.kind t.num (cV W t.kids)=euF W lV (cV W t.kids 0) from by unfold iM;simp[g8]];refine sB ?_;refine⟨_,oz (j:=0) zo zo,?_⟩;refine sW ?_;refine sC (Nn W hc lV<|cV W t.kids 0) ?_;exact .refl _
  have g8:¬t.kind=8:=sO;refine sS (λg9=>?_) λg9=>?_
  ·have g9:t.kind=9:=sO;rw[show iM W t.kind t.num (cV W t.kids)=egF W (cV W t.kids 0) from by unfold iM;simp[g9]];refine sB ?_;refine⟨_,oz (j:=0) zo zo,?_⟩;refine sW ?_;refine sC (Lt W hW hc<|cV W t.kids 0) ?_;exact .refl _
  have g9:¬t.kind=9:=sO;refine sS (λg10=>?_) λg10=>?_
  ·have g10:t.kind=10:=sO;rw[show iM W t.kind t.num (cV W t.kids)=euF W (cV W t.kids 0) (cV W t.kids 1) from by unfold iM;simp[g10]];refine sB ?_;refine⟨_,oz (j:=0) zo zo,?_⟩;refine ew ?_;refine⟨_,oz (j:=1) zo zo,?_⟩;refine sW ?_;refine sC (Nn W hc (cV W t.kids 0)<|cV W t.kids 1) ?_;exact .refl _
  have g10:¬t.kind=10:=sO;refine sS (λg11=>?_) λg11=>?_
  ·have g11:t.kind=11:=sO;rw[show iM W t.kind t.num (cV W t.kids)=eC (exF W<|eC<|cV W t.kids 0) from by unfold iM;simp[g11]];refine sB ?_;refine⟨_,oz (j:=0) zo zo,?_⟩;refine sW ?_;refine sC (tG W h6<|cV W t.kids 0) ?_;refine sC (O' W hW hc<|eC<|cV W t.kids 0) ?_;refine sC (tG W h6<|exF W<|eC<|cV W t.kids 0) ?_;exact .refl _
  have g11:¬t.kind=11:=sO;refine sS (λg12=>?_) λg12=>?_
  ·have g12:t.kind=12:=sO;rw[show iM W t.kind t.num (cV W t.kids)=eC (egF W<|eC<|cV W t.kids 0) from by unfold iM;simp[g12]];refine sB ?_;refine⟨_,oz (j:=0) zo zo,?_⟩;refine sW ?_;refine sC (tG W h6<|cV W t.kids 0) ?_;refine sC (Lt W hW hc<|eC<|cV W t.kids 0) ?_;refine sC (tG W h6<|egF W<|eC<|cV W t.kids 0) ?_;exact .refl _
  have g12:¬t.kind=12:=sO;refine sS (λg13=>?_) λg13=>?_
  ·have g13:t.kind=13:=sO;rw[show iM W t.kind t.num (cV W t.kids)=eC (euF W lV<|eC<|cV W t.kids 0) from by unfold iM;simp[g13]];refine sB ?_;refine⟨_,oz (j:=0) zo zo,?_⟩;refine sW ?_;refine sC (tG W h6<|cV W t.kids 0) ?_;refine sC (Nn W hc lV<|eC<|cV W t.kids 0) ?_;refine sC (tG W h6<|euF W lV<|eC<|cV W t.kids 0) ?_;exact .refl _
  have g13:¬t.kind=13:=sO;refine sS (λg14=>?_) λg14=>?_
  ·have g14:t.kind=14:=sO;rw[show iM W t.kind t.num (cV W t.kids)=auF W (cV W t.kids 0) (cV W t.kids 1) from by unfold iM;simp[g14]];refine sB ?_;refine⟨_,oz (j:=0) zo zo,?_⟩;refine ew ?_;refine⟨_,oz (j:=1) zo zo,?_⟩;refine sW ?_;refine sC (zDs W hW hc (cV W t.kids 0)<|cV W t.kids 1) ?_;exact .refl _
  have g14:¬t.kind=14:=sO;rw[show iM W t.kind t.num (cV W t.kids)=eC lV from by unfold iM;simp[g1,g3,g4,g5,g6,g7,g8,g9,g10,g11,g12,g13,g14]];refine sC (tG W h6 lV) ?_;exact .refl _
end
def Hl(W:ba)(t:Tree):Int:=if W.aV=0 then aV fX t else W.aV
theorem zt2(hW:W.Fits)(t:Tree)(hs:Small t):ar aj 49 [jQ W,bn t]<|ab<|Hl W t:=by
 have hC:=G1 W hW;have hT:=Sa t hs;refine bz fZ ?_;unfold Hl;generalize W.aV=c at *;unfold jQ at *;refine sR ?_;refine sC hC ?_;refine sS (λq=>?_) λq=>?_
 ·have q:¬c=0:=sO;rw[aa q];exact .refl _
 have q:c=0:=sO;rw[ae q];refine sC hT ?_;exact .refl _
theorem Yu(hW:W.Fits)(hL:ly W.label)(t:Tree)(hs:Small t)(hc:W.aV=0)(h:aV fX t=0):ar aj 18 [jQ W,bn t] (.aJ [bI W.next.length<|pb W t,ab 0]):=by
 have hC:=zt2 W hW t hs;rw[show Hl W t=0 by unfold Hl;rw[ae hc,h]] at hC;have hB:=zv1 W hW hc;have hT:=zwE W hW hc hL t ((qo _ _).1 h).2.2;refine bz fZ ?_;unfold jQ at *;refine sR ?_;refine sC hC ?_;refine sC hB ?_;refine sC hT ?_;exact .refl _
end Go.Proofs.YtaalipopcddnjaaGreatDoor
