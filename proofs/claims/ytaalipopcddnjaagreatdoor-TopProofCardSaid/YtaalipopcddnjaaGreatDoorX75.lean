/-
  Parts of a proof, joined. No statement is proved here.
-/
import Derived.Test.YtaalipopcddnjaaGreatDoorX71
import Derived.Test.YtaalipopcddnjaaGreatDoorX74
import Derived.Test.YtaalipopcddnjaaGreatDoorX73
import Derived.Test.YtaalipopcddnjaaGreatDoorProg
import Derived.OpenShut
import Derived.FnData
import Derived.LaidLaws
import Derived.LaidHandle
import Derived.Lay
import Derived.Stop.Joined
import Derived.Test.YtaalipopcddnjaaGreatDoorX70
namespace Go.Proofs.YtaalipopcddnjaaGreatDoor
set_option linter.unusedSimpArgs false
set_option linter.unusedVariables false
set_option maxRecDepth 100000
set_option linter.unusedSectionVars false
open Go.RowKit
variable{P S:aq}{E a e i:Nat}
theorem UU{kind:Int}:Jm kind P S E a e i↔∀d,d<i-a->P (a+d)->(if kind=5 then decide (0<bc S a (a+d+1)) else if kind=6 then decide (fst S E (a+d)<e) else true)=true:=by
 unfold Jm;rw[qp];exact forall_congr' λd=>forall_congr' λ_=>imp_or
variable{count:Int}
theorem zwq{kind:Int}(hk:1<=kind/\kind<=6)(h1:a<=e)(h2:e<E):sq kind count P S E a e↔DR kind count P S a e:=by
 unfold sq DR;by_cases k1:kind=1
 ·rw[ae k1,aa zo,aa zo,aa zo,aa zo,aa zo,c6,vR _ h1];simp
 rw[aa k1];by_cases k2:kind=2
 ·rw[ae k2,ae k2,c6,WL _ h1]
 rw[aa k2,aa k2];by_cases k3:kind=3
 ·rw[ae k3,ae k3,c6,re h1]
 rw[aa k3,aa k3];by_cases k4:kind=4
 ·rw[ae k4,ae k4,c6]
 rw[aa k4,aa k4,UU];by_cases k5:kind=5
 ·rw[ae k5];constructor
  ·intro h i i1 i2 i3;have:=h (i-a) zo (by rw[show a+(i-a)=i by omega];exact i3);rw[ae k5,c6,re zo] at this;obtain⟨j,j1,j2,j3⟩:=this;exact⟨j,j1,zo,j3⟩
  intro h d hd hp;obtain⟨j,j1,j2,j3⟩:=h (a+d) zo zo hp;rw[ae k5,c6,re zo];exact⟨j,j1,zo,j3⟩
 have k6:kind=6:=zo;rw[aa k5,ae k6];constructor
 ·intro h i i1 i2 i3;have:=h (i-a) zo (by rw[show a+(i-a)=i by omega];exact i3);rw[aa k5,ae k6,c6,show a+(i-a)=i by omega] at this;obtain⟨g1,g2,g3,g4⟩:=mY (p:=S) (e:=E) (i:=i) zo;exact⟨_,g1,this,g4 zo⟩
 intro h d hd hp;obtain⟨j,j1,j2,j3⟩:=h (a+d) zo zo hp;rw[aa k5,ae k6,c6];obtain⟨g1,g2,g3,g4⟩:=mY (p:=S) (e:=E) (i:=a+d) zo;rcases c7 (fst S E<|a+d) e with q|q
 ·exact q
 have:=g3 j j1 zo;rw[j3] at this;cases this
variable{b m:Nat}
theorem zvS{kind:Int}(hk:1<=kind/\kind<=6)(hc:0<=count/\count<=3)(hP:Prd b m P)(hS:Prd b m S)(hm:1<=m)(ha:a<=b+m) :
  (if kind=6 then zL P S (b+6*m+m) a<|b+6*m else sq kind count P S (b+6*m) a<|b+6*m)=true↔Ak kind count P S a:=by
 have hE:a<=b+6*m:=zo;unfold sq Ak;by_cases k6:kind=6
 ·rw[ae k6,aa zo,aa zo,aa zo,aa zo,ae k6];unfold zL;rw[qp,zwO hP hS hm ha]
 rw[aa k6];by_cases k1:kind=1
 ·rw[ae k1,aa zo,aa zo,aa zo,aa zo,aa zo,c6,vR _ hE];constructor
  ·intro h i hi hp;obtain⟨j,g1,g2,g3,g4⟩:=hP.kG hm hi hp;rw[h j g1 zo] at g4;cases g4
  intro h j j1 _;simpa using h j j1
 rw[aa k1];by_cases k2:kind=2
 ·rw[ae k2,ae k2,c6,WL _ hE];constructor
  ·intro h j h1
   cases hp:P j with
   |true=>rfl
   |false =>
    have hN:Prd b m λi=>!P i:=λi hi=>by show(!P (i+m))=!P i;rw[hP i hi]
    obtain⟨j',g1,g2,g3,g4⟩:=hN.kG hm h1 (by show(!P j)=true;rw[hp];rfl);have:=h j' g1 zo;rw[this] at g4;cases g4
  intro h j h1 _;exact h j h1
 rw[aa k2,aa k2];by_cases k3:kind=3
 ·rw[ae k3,ae k3,c6,re hE];constructor
  ·rintro⟨j,j1,_,j3⟩;exact⟨j,j1,j3⟩
  rintro⟨j,j1,j3⟩;obtain⟨j',g1,g2,g3,g4⟩:=hP.kG hm j1 j3;exact⟨j',g1,zo,g4⟩
 rw[aa k3,aa k3];by_cases k4:kind=4
 ·rw[ae k4,ae k4,c6];constructor
  ·intro h e he;by_cases q:e<=b+6*m
   ·have:=qq (p:=P) he (b+6*m) q;omega
   have:=JP hP hm ha (aI _) (show b+6*m<=e by omega) (c:=count.toNat) zo;omega
  intro h;exact h _ hE
 rw[aa k4,aa k4];have k5:kind=5:=zo;rw[ae k5,UU];constructor
 ·intro h i hi hp;obtain⟨j,k,h1,h2,h3,h4,h5⟩:=Prd.alike (b:=b) hm hi;have G0:P j:=by
   rcases h5 with h5|h5
   ·subst h5;rw[Nat.zero_mul,kN] at h4;subst h4;exact hp
   rw[h4,hP.times h5] at hp;exact hp
  have:=h (j-a) zo (by rw[show a+(j-a)=j by omega];exact G0);rw[ae k5,c6,re zo] at this;obtain⟨y,y1,y2,y3⟩:=this;exact⟨y,y1,zo,y3⟩
 intro h d hd hp;obtain⟨j,j1,j2,j3⟩:=h (a+d) zo hp;rw[ae k5,c6,re zo];exact⟨j,j1,zo,j3⟩
variable{R:aq}
theorem L9(hi:i<=E)(h:fst R E i<E):Fst R i<|fst R E i:=by
 obtain⟨g1,g2,g3,g4⟩:=mY (p:=R) (e:=E) (i:=i) hi;exact⟨g1,g4 h,λk k1 k2=>by rw[g3 k k1 k2];decide⟩
theorem KG(hR:Prd b m R)(hm:1<=m)(hi:i<=b+m+1)(h:¬fst R (b+6*m) i<b+6*m):∀k,i<=k->¬R k:=λk hk hr=>by
 obtain⟨j,g1,g2,g3,g4⟩:=hR.kG hm hk hr;exact h<|(AK zo).2 ⟨j,g1,zo,g4⟩
theorem U1{scope:Int}{Q R:aq}{E:Nat}{F:Nat×Nat->Bool}:∀k,(oA scope Q R E k).all F↔∀i,i<k->Q i->R i=false->(fst R E (i+1)<E\/scope=5)->F (i,fst R E<|i+1)=true
 |0=>by simp[oA]
 |k+1=>by
  have ih:=U1 (scope:=scope) (Q:=Q) (R:=R) (E:=E) (F:=F) k;simp only[oA];by_cases q:Q k=true/\R k=false/\(fst R E (k+1)<E\/scope=5)
  ·rw[ae q,Dn,dL,ih];constructor
   ·rintro⟨h1,h2⟩ i hi a1 a2 a3;by_cases e:i=k
    ·subst e;simpa using h2
    exact h1 i zo a1 a2 a3
   intro h;exact⟨λi hi=>h i zo,by simpa using h k zo q.1 q.2.1 q.2.2⟩
  rw[aa q,ih];constructor
  ·intro h i hi a1 a2 a3;by_cases e:i=k
   ·subst e;exact absurd ⟨a1,a2,a3⟩ q
   exact h i zo a1 a2 a3
  intro h i hi;exact h i zo
theorem zwr{x:cc}{s l:af}(h:PW x s l)(hw:(gI x).wf bD)(hl:∀i,0<=bw s l i/\bw s l i<18446744073709551616):D7 x s l↔bh (bw s l) (gI x) 0:=by
 obtain⟨hk,yN,YC,CW,C5,Dp,hc⟩:=h.xX;obtain⟨_,hm⟩:=h.lens;have hp:∀i,nq (bw s l i) x.p=bG s l x.p i:=λi=>(Ax (hl i).1 (hl i).2 YC).symm;have hs:∀i,nq (bw s l i) x.s=bG s l x.s i:=λi=>(Ax (hl i).1 (hl i).2 CW).symm;have hq:∀i,nq (bw s l i) x.q=bG s l x.q i:=λi=>(Ax (hl i).1 (hl i).2 C5).symm;have hr:∀i,nq (bw s l i) x.r=bG s l x.r i:=λi=>(Ax (hl i).1 (hl i).2 Dp).symm;have hP:=HL s l x.p;have hS:=HL s l x.s;have hQ:=HL s l x.q;have hR:=HL s l x.r;have sf:∀{a e},a<=e->e<s.length+6*l.length->(mf x s l (a,e)=true↔DR x.kind x.count (bG s l x.p) (bG s l x.s) a e):=λ{a e} h1 h2=>by
  unfold mf;rw[aa λz=>by have:=z.1;dsimp only at this;omega];exact zwq hk h1 h2
 have si:∀{a},a<=s.length+l.length->(mf x s l (a,s.length+6*l.length)=true↔Ak x.kind x.count (bG s l x.p) (bG s l x.s) a):=λ{a} h1=>by
  rw[<-zvS hk hc hP hS hm h1];unfold mf;by_cases q:x.kind=6
  ·rw[ae ⟨rfl,q⟩,ae q]
  rw[aa λz=>q z.2,aa q]
 have Ns:((x.count.toNat:Nat):Int)=x.count:=zo;have gl:=λi=>zu2 hp hs (x:=x) x.count.toNat i;have uf:=λ(weak:Bool) {i e} (hF:Fst (bG s l x.r) i e)=>zBa hp hs hr (x:=x) weak x.count.toNat hF;have ui:=λ{i} (hN:∀k,i<=k->¬bG s l x.r k)=>zB1 hp hs hr (x:=x) x.count.toNat (i:=i) hN;rw[Ns] at gl;simp only[Ns] at uf ui;have one:∀o,[o].all (mf x s l)=mf x s l o:=λo=>zs;unfold D7 vx
 have hT:gI x=if x.scope=2 then bE 6 (aW 4<|aW 10<|bd 3 x.r) (upT x false x.count.toNat)
  else if x.scope=3 then bE 6 (aW 11<|aW 4<|bd 3 x.q)<|bE 8 (aW 4<|bd 3 x.q)<|bE 5 (bd 3 x.q)<|l7 x x.count.toNat
  else if x.scope=4 then aW 11<|bE 6 (aW 4<|bE 5 (bE 5 (bd 3 x.q)<|noR x)<|aW 10<|bd 3 x.r)<|upT x false x.count.toNat
  else if x.scope=5 then aW 11<|bE 6 (aW 4<|bE 5 (bd 3 x.q)<|noR x)<|upT x true x.count.toNat
  else l7 x x.count.toNat:=rfl
 rw[hT] at hw⊢;clear hT;by_cases s1:x.scope=1
 ·rw[ae s1,aa zo,aa zo,aa zo,aa zo,one,si zo,gl]
 rw[aa s1];by_cases s2:x.scope=2
 ·rw[ae s2,ae s2,kz,n7,n9,s_r hr];by_cases z:fst (bG s l x.r) (s.length+6*l.length) 0<s.length+6*l.length
  ·have hF:=L9 (R:=bG s l x.r) (E:=s.length+6*l.length) (b9 _) z;rw[aa zo,one,sf (b9 _) z,uf false hF];exact⟨λh=>.inr h,λh=>h.elim (λh=>absurd ⟨_,b9 _,hF.2.1⟩ h) id⟩
  have hN:=KG hR hm zo z;have:=(mY (p:=bG s l x.r) (e:=s.length+6*l.length) (i:=0)<|b9 _).2.1;rw[ae zo];exact iff_of_true rfl (.inl λ⟨j,_,hj⟩=>hN j (b9 _) hj)
 rw[aa s2,aa s2];by_cases s3:x.scope=3
 ·have hnq:bh (bw s l) (aW 4<|bd 3 x.q)=λi=>¬bG s l x.q i=true:=funext λi=>by rw[n7,rn,hq]
  rw[ae s3,ae s3,kz,om,pU,hnq];by_cases z:fst (bG s l x.q) (s.length+6*l.length) 0<s.length+6*l.length
  ·have hF:=L9 (R:=bG s l x.q) (E:=s.length+6*l.length) (b9 _) z;have zMJ:fst (bG s l x.q) (s.length+6*l.length) 0<=s.length+l.length:=by
    obtain⟨j,g1,g2,g3,g4⟩:=hQ.kG hm (b9 _) hF.2.1;rcases c7 j<|fst (bG s l x.q) (s.length+6*l.length) 0 with q|q
    ·exact absurd g4<|hF.2.2 j (b9 _) q
    omega
   rw[ae z,one,si zMJ,<-gl];constructor
   ·intro h;exact .inr ⟨_,b9 _,by rw[lU,rn,hq];exact⟨hF.2.1,h⟩,hF.2.2⟩
   rintro(h|⟨j,_,j2,j3⟩)
   ·exact absurd hF.2.1<|h _<|b9 _
   rw[lU,rn,hq] at j2;have e:j=fst (bG s l x.q) (s.length+6*l.length) 0:=by
    rcases ue j<|fst (bG s l x.q) (s.length+6*l.length) 0 with q|q|q
    ·exact absurd j2.1<|hF.2.2 j (b9 _) q
    ·exact q
    exact absurd hF.2.1<|j3 _ (b9 _) q
   rw[<-e];exact j2.2
  rw[aa z];exact iff_of_true rfl (.inl λj _ hj=>KG hQ hm zo z j (b9 _) hj)
 rw[aa s3,aa s3];rw[U1];have step:∀{i},i<=s.length+l.length->fst (bG s l x.r) (s.length+6*l.length) (i+1)<s.length+6*l.length->¬bG s l x.r i=true->Fst (bG s l x.r) i (fst (bG s l x.r) (s.length+6*l.length)<|i+1):=λ{i} hi z Aq=>by
  have hF:=L9 (R:=bG s l x.r) (E:=s.length+6*l.length) (i:=i+1) zo z;refine⟨by have:=hF.1;omega,hF.2.1,λk k1 k2=>?_⟩;by_cases e:k=i
  ·subst e;exact Aq
  exact hF.2.2 k zo k2
 have none:∀{i},i<=s.length+l.length->¬fst (bG s l x.r) (s.length+6*l.length) (i+1)<s.length+6*l.length->¬bG s l x.r i->∀k,i<=k->¬bG s l x.r k:=λ{i} hi z Aq k k1=>by
  by_cases e:k=i
  ·subst e;exact Aq
  exact KG hR hm zo z k zo
 by_cases s4:x.scope=4
 ·rw[ae s4] at hw⊢;rw[aa s2,aa s3] at hw;rw[om];refine Iff.trans ?_ (NZ hm hl (gy hw (j:=0) (by show 0<1;omega))).symm;refine forall_congr' λi=>forall_congr' λhi=>?_;show _↔bh (bw s l) (bE 6 _ _) i;rw[kz,n7,lU,lU,n9,rn,hq,tC hr,s_r hr];by_cases z:fst (bG s l x.r) (s.length+6*l.length) (i+1)<s.length+6*l.length
  ·constructor
   ·intro h;by_cases q:bG s l x.q i/\¬bG s l x.r i=true
    ·have hF:=step zo z q.2;right;rw[uf false hF,<-sf hF.1 z];exact h q.1 (by simpa using q.2) (.inl z)
    exact .inl λw=>q w.1
   intro h q1 q2 _;have hF:=step zo z (by rw[q2];decide);rw[sf hF.1 z,<-uf false hF];exact h.resolve_left λw=>w ⟨⟨q1,λz=>by rw[q2] at z;cases z⟩,_,hF.1,hF.2.1⟩
  refine iff_of_true (λ_ _ w=>absurd w zo) (.inl ?_);rintro⟨⟨_,q2⟩,j,j1,j2⟩;exact none zo z q2 j j1 j2
 have s5:x.scope=5:=zo;rw[aa s4,ae s5] at hw⊢;rw[aa s2,aa s3] at hw;rw[om];refine Iff.trans ?_ (NZ hm hl (gy hw (j:=0) (by show 0<1;omega))).symm;refine forall_congr' λi=>forall_congr' λhi=>?_;show _↔bh (bw s l) (bE 6 _ _) i;rw[kz,n7,lU,rn,hq,tC hr];have key:¬bG s l x.r i=true->(mf x s l (i,fst (bG s l x.r) (s.length+6*l.length) (i+1))=true↔bh (bw s l) (upT x true x.count.toNat) i):=λq2=>by
  by_cases z:fst (bG s l x.r) (s.length+6*l.length) (i+1)<s.length+6*l.length
  ·have hF:=step zo z q2;rw[sf hF.1 z,<-uf true hF]
  have:=(mY (p:=bG s l x.r) (e:=s.length+6*l.length) (i:=i+1) zo).2.1;rw[show fst (bG s l x.r) (s.length+6*l.length) (i+1)=s.length+6*l.length by omega,si zo,<-ui (none zo z q2)]
 constructor
 ·intro h;by_cases q:bG s l x.q i/\¬bG s l x.r i=true
  ·exact .inr<|(key q.2).1<|h q.1 (by simpa using q.2) (.inr s5)
  exact .inl q
 intro h q1 q2 _;exact(key<|by rw[q2];decide).2 (h.resolve_left λw=>w ⟨q1,λz=>by rw[q2] at z;cases z⟩)
variable{p:aq}
theorem sr{j:Nat}(h:i<=j):bc p 0 i<=bc p 0 j:=by
 have:=qq (p:=p) (a:=0) (m:=i) (b9 _) j h;omega
theorem wK{j:Nat}(h:i<j)(hp:p i):bc p 0 i<bc p 0 j:=by
 have h1:=mh (p:=p) (a:=0) (e:=i)<|b9 _;rw[ae hp] at h1;have h2:=sr (p:=p) (show i+1<=j by omega);omega
theorem Cf{p:aq}:∀{n k:Nat},k<bc p 0 n->∃i,i<n/\p i/\bc p 0 i=k
 |0,k,h=>by rw[nr] at h;omega
 |n+1,k,h=>by
  rw[mh<|b9 _] at h;by_cases q:k<bc p 0 n
  ·obtain⟨i,h1,h2,h3⟩:=Cf q;exact⟨i,zo,h2,h3⟩
  cases hp:p n with
  |true=>rw[hp,ae rfl] at h;exact⟨n,zo,hp,zo⟩
  |false=>rw[hp,aa zc] at h;omega
def eu(sn A B:aq):Nat->List (Bool×Bool)
 |0=>[]
 |k+1=>if sn k=true then eu sn A B k++[(A k,B k)] else eu sn A B k
theorem nS(sn A B:aq):∀k,(eu sn A B k).length=bc sn 0 k
 |0=>by rw[nr];rfl
 |k+1=>by
  rw[mh<|b9 _];simp only[eu];split
  ·rw[cL,nS sn A B k];rfl
  rw[nS sn A B k];rfl
theorem pM{sn A B:aq}:∀{n i:Nat},i<n->sn i->(eu sn A B n).getD (bc sn 0 i) (false,false)=(A i,B i)
 |0,i,h,_=>zo
 |n+1,i,h,hs=>by
  have hl:=nS sn A B n;simp only[eu];by_cases e:i=n
  ·subst e;rw[ae hs,ay,fc zo,hl,mE];rfl
  have hi:=pM (A:=A) (B:=B) (show i<n by omega) hs;have bF:=wK (show i<n by omega) hs;split
  ·rw[ay,dJ zo,<-ay];exact hi
  exact hi
variable{p:Bool×Bool->Bool}{sn A B:aq}
theorem zy8:(∃k,bc sn 0 i<=k/\k<(eu sn A B E).length/\p ((eu sn A B E).getD k (false,false)))↔∃j,i<=j/\j<E/\sn j/\p (A j,B j):=by
 rw[nS];constructor
 ·rintro⟨k,h1,h2,h3⟩;obtain⟨j,g1,g2,g3⟩:=Cf h2;subst g3;rw[pM g1 g2] at h3;refine⟨j,?_,g1,g2,h3⟩;rcases c7 j i with q|q
  ·have:=wK q g2;omega
  exact q
 rintro⟨j,h1,h2,h3,h4⟩;exact⟨bc sn 0 j,sr h1,wK h2 h3,by rw[pM h2 h3];exact h4⟩
def ji(l:List<|Bool×Bool)(f:Nat)(p:Bool×Bool->Bool):Bool:=decide (fst (λk=>p<|l.getD k (false,false)) l.length f<l.length)
variable{f:Nat}
theorem Nl{l:List<|Bool×Bool}(h:f<=l.length):ji l f p↔∃k,f<=k/\k<l.length/\p (l.getD k (false,false)):=by
 unfold ji;rw[c6,AK h]
def mK(l:List<|Bool×Bool)(fresh:Nat)(ok:aq):Bool:=(List.range fresh).all λi=>!(l.getD i (false,false)).1||ok i
def ve(l:List<|Bool×Bool):Bool:=(List.range l.length).all λk=>!(l.getD k (false,false)).2||(List.range (k+1)).any λj=>(l.getD j (false,false)).1
def Fx(l:List<|Bool×Bool)(i:Nat):Nat:=fst (λk=>(l.getD k (false,false)).2||(l.getD k (false,false)).1) l.length<|i+1
def wF(l:List<|Bool×Bool)(i:Nat):Bool:=decide (Fx l i<l.length)&&(l.getD (Fx l i) (false,false)).2
def Gv(kind:Int)(l:List<|Bool×Bool)(fresh:Nat):Bool :=
 if kind=4 then decide (l.length=0)||(l.getD 0 (false,false)).1
 else if kind=5 then ji l 0 (λs=>s.1)||ji l 0 (λs=>s.2)
 else if kind=6 then !ji l 0 (λs=>s.1)||ji l 0 (λs=>s.2)
 else if kind=7 then ji l 0 (λs=>s.1)==ji l 0 (λs=>s.2)
 else if kind=13 then !ji l 0 (λs=>s.1)||!ji l 0 (λs=>s.2)
 else if kind=8 then mK l fresh λi=>ji l i λs=>s.2
 else if kind=9 then ve l
 else if kind=10 then mK l fresh (λi=>ji l i λs=>s.2)&&ve l
 else if kind=11 then mK l fresh<|wF l
 else if kind=12 then mK l fresh λi=>decide (i+1<l.length)&&(l.getD (i+1) (false,false)).2
 else mK l fresh λi=>!ji l (i+1) λs=>s.2
def yW(l:List<|Bool×Bool):Nat:=bc (λk=>(l.getD k (false,false)).1) 0 l.length
def qz(kind count:Int)(l:List<|Bool×Bool)(fresh:Nat):Bool :=
 if kind=1 then decide (count<=(yW l:Int)) else if kind=2 then decide ((yW l:Int)<count) else if kind=3 then decide ((yW l:Int)=count) else Gv kind l fresh
def kJ(far a:Nat)(p:aq):Bool:=decide (fst p far a<far)
def EZ(far n:Nat)(A B:aq):Bool:=(List.range n).all λi=>!A i||kJ far i B
def AH(n:Nat)(A B:aq):Bool:=(List.range n).all λi=>!B i||(List.range<|i+1).any A
def ub(kind:Int)(far:Nat)(sn A B:aq)(i:Nat):Nat:=fst (λk=>if kind=12 then sn k else if kind=11 then A k||B k else false) far<|i+1
def HM(kind count:Int)(sn A B:aq)(far n:Nat):Bool :=
 if kind=1 then decide (count<=(bc A 0 far:Int)) else if kind=2 then decide ((bc A 0 far:Int)<count) else if kind=3 then decide ((bc A 0 far:Int)=count)
 else if kind=4 then (if fst sn n 0<n then A<|fst sn n 0 else true)
 else if kind=5 then kJ far 0 A||kJ far 0 B
 else if kind=6 then !kJ far 0 A||kJ far 0 B
 else if kind=7 then kJ far 0 A==kJ far 0 B
 else if kind=13 then !(kJ far 0 A&&kJ far 0 B)
 else if kind=8 then EZ far n A B
 else if kind=9 then AH n A B
 else if kind=10 then EZ far n A B&&AH n A B
 else (List.range n).all λi=>!A i||(if kind=14 then !kJ far (i+1) B else decide (ub kind far sn A B i<far)&&B (ub kind far sn A B i))
theorem U0{p:aq}(h:Prd b m p)(hm:1<=m)(he:max a b+m<=e)(hf:max a b+m<=f):kJ e a p=kJ f a p:=by
 have key:∀e f,max a b+m<=e->max a b+m<=f->kJ e a p->kJ f a p:=λe f he hf q=>by
  unfold kJ at q⊢;rw[c6,AK zo] at q⊢;obtain⟨j,h1,h2,h3⟩:=q;obtain⟨j',g1,g2,g3,g4⟩:=h.kG hm h1 h3;exact⟨j',g1,zo,g4⟩
 rw[kj];exact⟨key e f he hf,key f e hf he⟩
theorem SP(hi:i<=E){q:aq}(hq:∀j,q j=(sn j&&p (A j,B j))):ji (eu sn A B E) (bc sn 0 i) p=kJ E i q:=by
 rw[kj,Nl<|by rw[nS];exact sr hi,zy8];unfold kJ;rw[c6,AK hi];constructor
 ·rintro⟨j,h1,h2,h3,h4⟩;exact⟨j,h1,h2,by rw[hq,h3,h4];rfl⟩
 rintro⟨j,h1,h2,h3⟩;rw[hq,dL] at h3;exact⟨j,h1,h2,h3.1,h3.2⟩
variable{A' ok:aq}
theorem Ht{B:aq}{n:Nat}(hn:n<=E)(hA:∀j,A' j=(sn j&&A j)){VG:aq}(h:∀i,i<n->sn i->ok (bc sn 0 i)=VG i) :
  mK (eu sn A B E) (bc sn 0 n) ok=(List.range n).all λi=>!A' i||VG i:=by
 unfold mK;rw[kj,qp,qp];constructor
 ·intro q i hi;rw[hA]
  cases hs:sn i with
  |false=>rfl
  |true =>
   have:=q (bc sn 0 i)<|wK hi hs;rw[pM zo hs,h i hi hs] at this;rw[jZ];exact this
 intro q k hk;obtain⟨i,g1,g2,g3⟩:=Cf hk;subst g3;have:=q i g1;rw[hA,g2,jZ] at this;rw[pM zo g2,h i g1 g2];exact this
theorem Fe(h:sn i):bc sn 0 i+1=bc sn 0 (i+1):=by
 rw[mh<|b9 _,ae h]
theorem XT{p q:aq}:∀e,(∀j,j<e->p j=q j)->bc p 0 e=bc q 0 e
 |0,_=>by rw[nr,nr]
 |e+1,h=>by rw[mh<|b9 _,mh<|b9 _,XT e λj hj=>h j zo,h e zo]
theorem Vm{sn A B A':aq}(hA:∀j,A' j=(sn j&&A j)):∀E,yW (eu sn A B E)=bc A' 0 E
 |0=>by unfold yW;rw[nr];exact nr _ _
 |E+1=>by
  have ih:=Vm (B:=B) hA E;have hl:=nS sn A B E;rw[mh<|b9 _,hA E];simp only[eu]
  cases hs:sn E with
  |false=>rw[aa zc,ih,qG,aa zc,kN]
  |true =>
   rw[ae rfl,jZ,<-ih];unfold yW;rw[cL,jt,mh<|b9 _];have e1:(eu sn A B E++[(A E,B E)]).getD (eu sn A B E).length (false,false)=(A E,B E):=by
    rw[ay,fc<|aI _,mE];rfl
   rw[e1,XT (q:=λk=>((eu sn A B E).getD k (false,false)).1) _ λj hj=>by
    show((eu sn A B E++[(A E,B E)]).getD j (false,false)).1=_;rw[ay,dJ hj,<-ay]]
theorem X0{B':aq}(hA:∀j,A' j=(sn j&&A j))(hB:∀j,B' j=(sn j&&B j))(hm:1<=m)(pA:Prd b m A')(pB:Prd b m B')(hE:b+m<=E):ve (eu sn A B E)=AH (b+m) A' B':=by
 unfold ve AH;rw[kj,qp,qp,nS];constructor
 ·intro h i hi;rw[hB]
  cases hs:sn i with
  |false=>rfl
  |true =>
   have q:=h (bc sn 0 i)<|wK zo hs;rw[pM zo hs] at q;rw[jZ]
   cases hb:B i with
   |false=>rfl
   |true =>
    rw[hb,BO,rK,iR] at q;obtain⟨j,h1,h2⟩:=q;have h1:=eW.1 h1;obtain⟨k,g1,g2,g3⟩:=Cf (p:=sn) (n:=E) (k:=j) (vY h1<|by have:=wK (p:=sn) (show i<E by omega) hs;omega);subst g3;rw[pM g1 g2] at h2;rw[BO,rK,iR];refine⟨k,eW.2 ?_,by rw[hA,g2];exact h2⟩;rcases c7 k<|i+1 with z|z
    ·exact z
    have:=wK (p:=sn) (show i<k by omega) hs;omega
 intro h k hk;obtain⟨i,g1,g2,g3⟩:=Cf hk;subst g3;rw[pM g1 g2]
 cases hb:B i with
 |false=>rfl
 |true =>
  have hB':B' i:=(by rw[hB,g2,hb];rfl);obtain⟨i',q1,q2,q3,q4⟩:=pB.kG hm (b9 i) hB';have q:=h i' zo;rw[q4,BO,rK,iR] at q;obtain⟨j,h1,h2⟩:=q;have h1:=eW.1 h1;rw[hA,dL] at h2;rw[BO,rK,iR];refine⟨bc sn 0 j,eW.2 ?_,by rw[pM zo h2.1];exact h2.2⟩;have:=sr (p:=sn) (show j<=i by omega);omega
theorem zzk{B:aq}(hA:∀j,A' j=(sn j&&A j))(hm:1<=m)(pS:Prd b m sn)(hE:b+m<=E) :
  (decide ((eu sn A B E).length=0)||((eu sn A B E).getD 0 (false,false)).1)=if fst sn (b+m) 0<b+m then A'<|fst sn (b+m) 0 else true:=by
 obtain⟨g1,g2,g3,g4⟩:=mY (p:=sn) (e:=b+m) (i:=0)<|b9 _;rw[nS];by_cases q:fst sn (b+m) 0<b+m
 ·rw[ae q];have hs:=g4 q;have e0:bc sn 0 (fst sn (b+m) 0)=0:=(vR _<|b9 _).2 g3;have bF:=wK (p:=sn) (show fst sn (b+m) 0<E by omega) hs;have gR:=pM (A:=A) (B:=B) (n:=E) (show fst sn (b+m) 0<E by omega) hs;rw[e0] at gR;rw[gR,gx zo,hA,hs];rfl
 rw[aa q];have:bc sn 0 E=0:=(vR _<|b9 _).2 λj _ hj=>by
  cases hs:sn j with
  |false=>rfl
  |true =>
   obtain⟨j',q1,q2,q3,q4⟩:=pS.kG hm (b9 j) hs;have:=g3 j' (b9 _) zo;rw[q4] at this;cases this
 rw[this];rfl
theorem V9{far:Nat}(hE:E<=far)(hs:sn i)(hi:i<E){q:aq}(hq:∀j,q j=(sn j&&p (A j,B j)))(zOZ:(∃j,i<j/\j<far/\q j)->∃j,i<j/\j<E/\q j) :
  (fst q far (i+1)<far/\fst q far (i+1)<E/\fst (λk=>p<|(eu sn A B E).getD k (false,false)) (eu sn A B E).length (bc sn 0 i+1)=bc sn 0 (fst q far<|i+1)/\sn (fst q far<|i+1)=true/\bc sn 0 (fst q far<|i+1)<(eu sn A B E).length) \/
   (¬fst q far (i+1)<far/\fst (λk=>p<|(eu sn A B E).getD k (false,false)) (eu sn A B E).length (bc sn 0 i+1)=(eu sn A B E).length):=by
 obtain⟨g1,g2,g3,g4⟩:=mY (p:=q) (e:=far) (i:=i+1) zo;have hle:bc sn 0 i+1<=bc sn 0 E:=by rw[Fe hs];exact sr zo
 have cJ:∀t,(∀j,i<j->j<t->q j=false)->t<=E->∀k,bc sn 0 i+1<=k->k<bc sn 0 t->p ((eu sn A B E).getD k (false,false))=false:=λt ht htE k h1 h2=>by
  obtain⟨j,r1,r2,r3⟩:=Cf h2;subst r3;rw[pM zo r2];have mR:i<j:=by
   rcases c7 i j with z|z
   ·exact z
   have:=sr (p:=sn) z;omega
  have:=ht j mR r1;rw[hq,r2,jZ] at this;exact this
 by_cases z:fst q far (i+1)<far
 ·left;have Ow:=g4 z;obtain⟨j,r1,r2,r3⟩:=zOZ ⟨_,zo,z,Ow⟩;have MS:fst q far (i+1)<E:=by
   rcases c7 (fst q far<|i+1) E with y|y
   ·exact y
   have:=g3 j zo zo;rw[r3] at this;cases this
  have b8:sn (fst q far<|i+1)/\p (A<|fst q far<|i+1,B<|fst q far<|i+1):=(by rw[hq,dL] at Ow;exact Ow);refine⟨z,MS,?_,b8.1,by rw[nS];exact wK MS b8.1⟩;refine fst_eq ?_ (by rw[nS];exact sr zo) ?_ ?_
  ·rw[Fe hs];exact sr g1
  ·intro k h1 h2;exact cJ _ (λj h3 h4=>g3 j zo h4) zo k h1 h2
  intro _;show p ((eu sn A B E).getD _ (false,false))=true;rw[pM MS b8.1];exact b8.2
 right;refine⟨z,fst_eq (by rw[nS];exact hle) (aI _) (λk h1 h2=>?_) λh=>zo⟩;rw[nS] at h2;exact cJ E (λj h3 h4=>g3 j zo zo) (aI _) k h1 h2
theorem zzr{kind:Int}(hk:1<=kind/\kind<=14)(hc:kind<=3->1<=count/\count<=3){B':aq}(hA:∀j,A' j=(sn j&&A j))(hB:∀j,B' j=(sn j&&B j))(hm:1<=m)(pS:Prd b m sn)(pA:Prd b m A')(pB:Prd b m B') :
  qz kind count (eu sn A B<|b+6*m) (bc sn 0<|b+m)=HM kind count sn A' B' (b+m+6*m) (b+m):=by
 have cf:=λc (hc:c<=3)=>JP pA hm (a:=0) zo (show b+6*m<=b+6*m by omega) (show b+6*m<=b+m+6*m by omega) hc;have sA:=λa (ha:a<=b+m)=>U0 pA hm (a:=a) (e:=b+6*m) (f:=b+m+6*m) zo zo;have sB:=λa (ha:a<=b+m)=>U0 pB hm (a:=a) (e:=b+6*m) (f:=b+m+6*m) zo zo;have lA:=λi (hi:i<=b+6*m)=>SP (sn:=sn) (A:=A) (B:=B) (E:=b+6*m) hi (p:=λs=>s.1) (q:=A') hA;have lB:=λi (hi:i<=b+6*m)=>SP (sn:=sn) (A:=A) (B:=B) (E:=b+6*m) hi (p:=λs=>s.2) (q:=B') hB;have lA0:=lA 0 zo;have lB0:=lB 0 zo;rw[nr,sA 0 zo] at lA0;rw[nr,sB 0 zo] at lB0
 have eR:mK (eu sn A B<|b+6*m) (bc sn 0<|b+m) (λi=>ji (eu sn A B<|b+6*m) i λs=>s.2)=EZ (b+m+6*m) (b+m) A' B' :=
  Ht zo hA λi hi _=>by show ji _ _ _=_;rw[lB i zo,sB i zo]
 have eP:=X0 (E:=b+6*m) hA hB hm pA pB zo;unfold qz HM Gv;rw[Vm hA,lA0,lB0,eR,eP];by_cases k1:kind=1
 ·have h1:=cf (count.toNat-1) (by have:=hc zo;omega);have:=hc zo;rw[ae k1,ae k1,kj,c6,c6];omega
 rw[aa k1,aa k1];by_cases k2:kind=2
 ·have h1:=cf (count.toNat-1) (by have:=hc zo;omega);have:=hc zo;rw[ae k2,ae k2,kj,c6,c6];omega
 rw[aa k2,aa k2];by_cases k3:kind=3
 ·have h1:=cf (count.toNat-1) (by have:=hc zo;omega);have h2:=cf count.toNat (by have:=hc zo;omega);have:=hc zo;rw[ae k3,ae k3,kj,c6,c6];omega
 rw[aa k3,aa k3];by_cases k4:kind=4
 ·rw[ae k4,ae k4];exact zzk hA hm pS zo
 rw[aa k4,aa k4];by_cases k5:kind=5
 ·rw[ae k5,ae k5]
 rw[aa k5,aa k5];by_cases k6:kind=6
 ·rw[ae k6,ae k6]
 rw[aa k6,aa k6];by_cases k7:kind=7
 ·rw[ae k7,ae k7]
 rw[aa k7,aa k7];by_cases k13:kind=13
 ·rw[ae k13,ae k13,Bool.not_and]
 rw[aa k13,aa k13];by_cases k8:kind=8
 ·rw[ae k8,ae k8]
 rw[aa k8,aa k8];by_cases k9:kind=9
 ·rw[ae k9,ae k9]
 rw[aa k9,aa k9];by_cases k10:kind=10
 ·rw[ae k10,ae k10]
 rw[aa k10,aa k10];have pq:∀(q:aq),Prd b m q->∀i,i<b+m->(∃j,i<j/\j<b+m+6*m/\q j)->∃j,i<j/\j<b+6*m/\q j=true:=λq hq i hi=>by
  rintro⟨j,h1,h2,h3⟩;obtain⟨j',g1,g2,g3,g4⟩:=hq.kG hm (show i+1<=j by omega) h3;exact⟨j',zo,zo,g4⟩
 have sAB:∀j,A' j\/B' j->sn j:=λj h=>by
  rw[hA,hB] at h
  cases hs:sn j with
  |true=>rfl
  |false=>rw[hs] at h;simp at h
 by_cases k11:kind=11
 ·rw[ae k11];refine Ht zo hA λi hi hs=>?_;rw[aa zo];have en:ub kind (b+m+6*m) sn A' B' i=fst (λk=>A' k||B' k) (b+m+6*m) (i+1):=by
   unfold ub
   congr 1
   funext k;rw[aa zo,ae k11]
  rw[en];have pAB:Prd b m λk=>A' k||B' k:=λj hj=>by show(A' (j+m)||B' (j+m))=(A' j||B' j);rw[pA j hj,pB j hj]
  rcases V9 (sn:=sn) (A:=A) (B:=B) (E:=b+6*m) (far:=b+m+6*m) zo hs zo (p:=λs=>s.2||s.1) (q:=λk=>A' k||B' k) (λj=>by
   show(A' j||B' j)=(sn j&&(B j||A j));rw[hA,hB];cases sn j<;>cases A j<;>cases B j<;>rfl) (pq _ pAB i hi) with⟨h1,h2,h3,h4,h5⟩|⟨h1,h2⟩
  ·unfold wF Fx;rw[h3,gb h5,gb h1,pM h2 h4,hB,h4];rfl
  unfold wF Fx;rw[h2,gx zo,gx h1];rfl
 rw[aa k11];by_cases k12:kind=12
 ·rw[ae k12];refine Ht zo hA λi hi hs=>?_;rw[aa zo];have en:ub kind (b+m+6*m) sn A' B' i=fst sn (b+m+6*m) (i+1):=by
   unfold ub
   congr 1
   funext k;rw[ae k12]
  rw[en];show(decide (bc sn 0 i+1<_)&&_)=_;rcases V9 (sn:=sn) (A:=A) (B:=B) (E:=b+6*m) (far:=b+m+6*m) zo hs zo (p:=λ_=>true) (q:=sn) (λj=>by
   show sn j=(sn j&&true);rw[yE]) (pq _ pS i hi) with⟨h1,h2,h3,h4,h5⟩|⟨h1,h2⟩
  ·have hz:bc sn 0 i+1=bc sn 0 (fst sn (b+m+6*m)<|i+1):=by
    rw[<-h3];have hle:bc sn 0 i+1<=(eu sn A B<|b+6*m).length:=(by rw[nS,Fe hs];exact sr zo);exact(fst_eq (aI _) hle (λj h1 h2=>zo) λ_=>rfl).symm
   rw[hz,gb h5,gb h1,pM h2 h4,hB,h4];rfl
  have hle:bc sn 0 i+1<=(eu sn A B<|b+6*m).length:=(by rw[nS,Fe hs];exact sr zo);have hz:bc sn 0 i+1=(eu sn A B<|b+6*m).length:=by
   rw[<-h2];exact(fst_eq (aI _) hle (λj h1 h2=>zo) λ_=>rfl).symm
  rw[hz,gx zo,gx h1];rfl
 rw[aa k12];refine Ht zo hA λi hi hs=>?_;rw[ae zo];show(!ji _ (bc sn 0 i+1) _)=_;rw[Fe hs,lB (i+1) zo,sB (i+1) zo]
def ib(s l:af)(a:Int)(i:Nat):Bool:=jz (bw s l i) a
theorem Ub(s l:af)(a:Int):Prd s.length l.length<|ib s l a:=λi hi=>by
 unfold ib bw;rw[aa zo,aa zo,show i+l.length-s.length=(i-s.length)+l.length by omega,Nat.add_mod_right]
def snP(s l:af)(i:Nat):Bool:=!ib s l 63 i
theorem OV{v:Int}(h:0<=v/\v<18446744073709551616)(a:Int):(gF .and .u64 (v.fdiv<|2^min a.toNat 64) 1==1)=jz v a:=by
 have hr:=Fg h.1 h.2<|min a.toNat 64;rw[Fh hr.1 hr.2];rfl
def sG(l:List<|Bool×Bool):fp:=l.map λo=>[aF o.1,aF o.2]
variable(l:List<|Bool×Bool)
@[simp] theorem CL:(sG l).length=l.length:=by simp[sG]
@[simp] theorem Qs:dX<|sG l:=cO _ (λl=>by simp[ao,Pure]) l
@[simp] theorem zz0:bN m (sG l)↔True:=⟨λ_=>trivial,λ_=>bP _<|Qs l⟩
variable{k:Nat}
theorem xx{l:List<|Bool×Bool}{z:Nat}(hz:z=k)(h:k<l.length):(sG l)[z]? = some [.sc (.bool (l.getD k (false,false)).1),.sc (.bool (l.getD k (false,false)).2)]:=by
 subst hz;rw[ay,aG h];simp[sG,h]
theorem Ti{l:List<|Bool×Bool}{c:Nat}{a b:Bool}(h:c=l.length):List.drop 0 (List.take c<|sG l)++[[aF a,aF b]]=sG (l++[(a,b)]):=by
 rw[dt<|by simp[h]];simp[sG]
def dbp(l:List<|Bool×Bool):D:=.a8 2<|sG l
@[simp] theorem BH:Pure<|dbp l:=by simp only[dbp,Pure];exact Qs l
@[simp] theorem zC3:az m (dbp l)↔True:=⟨λ_=>trivial,λ_=>cp _<|BH l⟩
@[simp] theorem zp6(l:af):Pure<|cY l:=by simp only[cY,Pure];exact cO _ (λl=>by simp[ao,Pure]) l
@[simp] theorem zAC(l:af):az m (cY l)↔True:=⟨λ_=>trivial,λ_=>cp _<|zp6 l⟩
theorem zzp(kd a b ct:Int)(ha:0<=a)(hb:0<=b)(s l:af)(hw:mV s l=0)(hs:ly s)(hl:ly l):ar aj 36 [oF kd a b ct,kV s l]
  (.aJ [dbp<|eu (snP s l) (ib s l a) (ib s l b)<|s.length+6*l.length,ab ((bc (snP s l) 0 (s.length+l.length):Nat):Int)]):=by
 have hlen:=(yX s l).1 hw;have yl:=λi (hi:i<=1000)=>Wz s l hw i zo;have u5:=λi=>FQ hs hl i;refine bz fZ ?_;unfold oF;refine sR ?_;rw[aS,aS];refine sI ?_;rw[aS];refine sI ?_;refine sI ?_;rw[show(s.length:Int)+(l.length:Int)+5*(l.length:Int)=((s.length+6*l.length:Nat):Int) by omega];refine dk (iF 4 2 zs rfl) ?_
 refine bT [2,3,6,22] (λ((k,c,f):Nat×Nat×Nat)=>[(4,.own 2 c 0 c),(5,ab f),(23,ab k)]) (λ(k,c,f)=>[(2,.vec true c 2<|sG<|eu (snP s l) (ib s l a) (ib s l b) k)])
  (λ(k,c,f)=>k<=s.length+6*l.length/\c=(eu (snP s l) (ib s l a) (ib s l b) k).length/\c<=k/\f=bc (snP s l) 0 (min k<|s.length+l.length)/\f<=k) (λ(k,c,f)=>s.length+6*l.length-k) (0,0,0) ?_
 refine sW ?_;refine⟨⟨zo,rfl,zo,by simp[nr],zo⟩,by exact sK,rfl,?_⟩;rintro⟨k,c,f⟩ ⟨hk,hc,m8,hf,hfk⟩;refine bl (λq0=>?_) λq0=>?_
 ·have q0:k<s.length+6*l.length:=sO;have e1:eu (snP s l) (ib s l a) (ib s l b) (k+1)=if snP s l k=true then eu (snP s l) (ib s l a) (ib s l b) k++[(ib s l a k,ib s l b k)] else eu (snP s l) (ib s l a) (ib s l b) k:=rfl
  have e2:=mh (p:=snP s l) (a:=0) (e:=k)<|b9 _;refine sC (yl k zo) ?_;have b63:=OV (u5 k) 63;have bA:=OV (u5 k) a;have bB:=OV (u5 k) b;have eA:ib s l a k=jz (bw s l k) a:=rfl;have eB:ib s l b k=jz (bw s l k) b:=rfl;have eS:snP s l k=!jz (bw s l k) 63:=rfl;generalize bw s l k=v at *;refine⟨zc,?_⟩;refine sW ?_;refine xa (λh=>?_) λh=>?_
  ·have h6:jz v 63:=b63.symm.trans h;rw[h6] at eS;rw[eS,aa zc] at e1 e2;rw[h];refine bJ ?_;refine⟨(k+1,c,f),⟨zo,by rw[e1];exact hc,zo,?_,zo⟩,zd,?_⟩
   ·rcases c7 k<|s.length+l.length with q|q
    ·rw[show min (k+1) (s.length+l.length)=k+1 by omega,e2];rw[show min k (s.length+l.length)=k by omega] at hf;omega
    rw[show min (k+1) (s.length+l.length)=min k (s.length+l.length) by omega];exact hf
   dsimp only;rw[e1];exact bf (by exact sK) rfl
  have h6:jz v 63=false:=b63.symm.trans h;rw[h6] at eS;rw[eS,ae zc] at e1 e2;rw[h];refine sW ?_;refine⟨ha,?_⟩;refine sW ?_;refine⟨hb,?_⟩;refine sWJ ?_;have dV:(gF .and .u64 (v.fdiv<|2^min a.toNat IntKind.u64.bits) 1==1)=ib s l a k/\(gF .and .u64 (v.fdiv<|2^min b.toNat IntKind.u64.bits) 1==1)=ib s l b k:=⟨bA.trans eA.symm,bB.trans eB.symm⟩;rw[dV.1,dV.2];refine sS (λq1=>?_) λq1=>?_
  ·have q1:k<s.length+l.length:=sO;refine sI ?_;refine sI ?_;refine⟨(k+1,c+1,f+1),⟨zo,by rw[e1,cL,<-hc];rfl,zo,?_,zo⟩,zd,?_⟩
   ·rw[show min (k+1) (s.length+l.length)=k+1 by omega,e2];rw[show min k (s.length+l.length)=k by omega] at hf;omega
   dsimp only;rw[e1];refine br 3 zs rfl sQ (sU ?_);exact bM<|Ti hc
  have q1:¬k<s.length+l.length:=sO;refine sI ?_;refine⟨(k+1,c+1,f),⟨zo,by rw[e1,cL,<-hc];rfl,zo,?_,zo⟩,zd,?_⟩
  ·rw[show min (k+1) (s.length+l.length)=min k (s.length+l.length) by omega];exact hf
  dsimp only;rw[e1];refine br 3 zs rfl sQ (sU ?_);exact bM<|Ti hc
 have q0:k=s.length+6*l.length:=by have:¬k<s.length+6*l.length:=sO
                                   omega
 subst q0;rw[show min (s.length+6*l.length) (s.length+l.length)=s.length+l.length by omega] at hf;subst hf;refine .aJ _ _ (.cons _ _ _ _ (.own _ _ _ _ _ _ _ _ rfl ?_) (.cons _ _ _ _ (.refl _) .nil));rw[dt<|by simp;omega];exact fW _
variable(s:Bool×Bool)
theorem zBu:ar aj 73 [.agg [aF s.1,aF s.2]]<|aF s.1:=by
 refine bV ?_;exact .refl _
theorem N1:ar aj 74 [.agg [aF s.1,aF s.2]]<|aF s.2:=by
 refine bV ?_;exact .refl _
theorem H7(hl:l.length<=100000)(f:Nat)(hf:f<=l.length)(p:Bool×Bool->Bool)(cl:FuncId)(hc:∀s:Bool×Bool,ar aj cl [.agg [aF s.1,aF s.2]]<|aF<|p s) :
  ar aj 72 [dbp l,ab f,.fn (.func cl) [] []] (aF<|ji l f p):=by
 refine bV ?_;refine bT [0,2] (λk:Nat=>[(7,ab k)]) (λ_=>[]) (λk=>f<=k/\k<=l.length/\∀j,f<=j->j<k->p (l.getD j (false,false))=false) (λk=>l.length-k) f ?_;refine sW ?_;refine⟨⟨zo,zo,λj h1 h2=>zo⟩,by exact sK,rfl,?_⟩;rintro k ⟨dN,hk,cJ⟩;refine sWR ?_;rw[CL];refine sS (λq0=>?_) λq0=>?_
 ·have q0:k<l.length:=sO;refine sL (xx (k:=k) zo q0) ?_;refine sC (hc _) ?_;cases r:p (l.getD k (false,false))
  ·refine bJ ?_;refine⟨k+1,⟨zo,zo,λj h1 h2=>?_⟩,zd,bf (by exact sK) rfl⟩;by_cases e:j=k
   ·subst e;exact r
   exact cJ j h1 zo
  refine sW ?_;refine bL ?_;rw[(Nl hf).2 ⟨k,dN,q0,r⟩]
 have q0:k=l.length:=by have:¬k<l.length:=sO
                        omega
 refine bL ?_;have:ji l f p=false:=by
  rw[th];intro h;obtain⟨j,h1,h2,h3⟩:=(Nl hf).1 h;rw[cJ j h1 zo] at h3;cases h3
 rw[this]
theorem znL{l:List<|Bool×Bool}{fresh:Nat}(hk:k<fresh)(h:(!(l.getD k (false,false)).1||ok k)=false):mK l fresh ok=false:=by
 rw[th];intro q;have:=qp.1 q k hk;rw[h] at this;cases this
theorem zqx(k:Nat)(ok:aq):mK l (k+1) ok=(mK l k ok&&(!(l.getD k (false,false)).1||ok k)):=by
 unfold mK;rw[qa,Dn];simp
theorem H4(fresh:Nat)(hf:fresh<=l.length)(hl:l.length<=100000)(ok:aq)(cl:FuncId)(caps:aZ)(Lq:ao caps)(hc:∀i:Nat,i<fresh->ar aj cl (ab i::caps) (aF<|ok i)) :
  ar aj 75 [dbp l,ab fresh,.fn (.func cl) [] caps] (aF<|mK l fresh ok):=by
 refine fi fZ zs (by simp[ao,Pure,BH,Lq]) ?_ (by simp[Pure]);refine sR ?_;refine bT [0,2,8] (λk:Nat=>[(9,ab k)]) (λ_=>[]) (λk=>k<=fresh/\mK l k ok=true) (λk=>fresh-k) 0 ?_;refine sW ?_;refine⟨⟨zo,rfl⟩,by exact sK,rfl,?_⟩;rintro k ⟨hk,dg⟩;have eS:=zqx l k ok;rw[dg,jZ] at eS;refine bl (λq0=>?_) λq0=>?_
 ·have q0:k<fresh:=sO;refine sL (xx (k:=k) zo zo) ?_;have efl:=znL (l:=l) (ok:=ok) q0;cases r:(l.getD k (false,false)).1
  ·rw[r] at eS;refine bJ ?_;exact⟨k+1,⟨zo,by rw[eS];rfl⟩,zd,bf (by exact sK) rfl⟩
  rw[r] at eS efl;refine sW ?_;refine sC (hc k q0) ?_;cases r2:ok k
  ·rw[r2] at efl;refine sW ?_;refine bL ?_;rw[efl rfl]
  rw[r2] at eS;refine bJ ?_;exact⟨k+1,⟨zo,by rw[eS];rfl⟩,zd,bf (by exact sK) rfl⟩
 have q0:k=fresh:=by have:¬k<fresh:=sO
                     omega
 subst q0;rw[dg];exact .refl _
theorem znq(hl:l.length<=100000):ar aj 77 [dbp l]<|aF<|ve l:=by
 refine bV ?_;rw[CL];refine bT [5,6] (λk:Nat=>[(7,ab k)]) (λ_=>[]) (λk=>k<=l.length/\∀j,j<k->(l.getD j (false,false)).1=false/\(l.getD j (false,false)).2=false) (λk=>l.length-k) 0 ?_;refine sW ?_;refine⟨⟨zo,λj h=>zo⟩,by exact sK,rfl,?_⟩;rintro k ⟨hk,cJ⟩;refine bl (λq0=>?_) λq0=>?_
 ·have q0:k<l.length:=sO;refine sL (xx (k:=k) zo q0) ?_;cases r1:(l.getD k (false,false)).1
  ·refine sW ?_;cases r2:(l.getD k (false,false)).2
   ·refine bJ ?_;refine⟨k+1,⟨zo,λj h=>?_⟩,zd,?_⟩
    ·by_cases e:j=k
     ·subst e;exact⟨r1,r2⟩
     exact cJ j zo
    exact br 0 zs rfl sQ sQ
   refine sW ?_;refine bL ?_;have:ve l=false:=by
    rw[th];intro h;have:=qp.1 h k q0;rw[r2,BO,rK,iR] at this;obtain⟨j,h1,h2⟩:=this;have h1:=eW.1 h1;by_cases e:j=k
    ·subst e;rw[r1] at h2;cases h2
    rw[(cJ j zo).1] at h2;cases h2
   rw[this]
  refine sW ?_;refine bL ?_;have:ve l=true:=by
   refine qp.2 λj hj=>?_
   cases e:(l.getD j (false,false)).2 with
   |false=>rfl
   |true =>
    rw[BO,rK,iR];refine⟨k,eW.2 ?_,r1⟩;rcases c7 j k with q|q
    ·rw[(cJ j q).2] at e;cases e
    omega
  rw[this]
 have q0:k=l.length:=by have:¬k<l.length:=sO
                        omega
 refine bL ?_;have:ve l=true:=qp.2 λj hj=>by rw[(cJ j zo).2];rfl
 rw[this]
theorem ziS(hl:l.length<=100000)(i:Nat)(hi:i<l.length):ar aj 79 [dbp l,ab i]<|aF<|wF l i:=by
 refine bz fZ ?_;have fin:∀k,i+1<=k->k<=l.length->(∀j,i+1<=j->j<k->(l.getD j (false,false)).2=false/\(l.getD j (false,false)).1=false)->(k<l.length->((l.getD k (false,false)).2||(l.getD k (false,false)).1))->wF l i=(decide (k<l.length)&&(l.getD k (false,false)).2):=λk h1 h2 h3 h4=>by
  have:Fx l i=k:=fst_eq h1 h2 (λj g1 g2=>by show(_||_)=false;rw[(h3 j g1 g2).1,(h3 j g1 g2).2];rfl) h4;unfold wF;rw[this]
 refine sR ?_;refine sI ?_;refine bT [0] (λk:Nat=>[(5,ab k)]) (λ_=>[]) (λk=>i+1<=k/\k<=l.length/\∀j,i+1<=j->j<k->(l.getD j (false,false)).2=false/\(l.getD j (false,false)).1=false) (λk=>l.length-k) (i+1) ?_;refine sW ?_;refine⟨⟨zo,zo,λj h1 h2=>zo⟩,by exact sK,rfl,?_⟩;rintro k ⟨dN,hk,cJ⟩;refine sWR ?_;rw[CL];refine sS (λq0=>?_) λq0=>?_
 ·have q0:k<l.length:=sO;have f1:=fin k dN hk cJ;rw[gb q0,jZ] at f1;refine sL (xx (k:=k) zo q0) ?_;cases r2:(l.getD k (false,false)).2
  ·rw[r2] at f1;refine sW ?_;refine sL (xx (k:=k) zo q0) ?_;cases r1:(l.getD k (false,false)).1
   ·refine bJ ?_;refine⟨k+1,⟨zo,zo,λj h1 h2=>?_⟩,zd,bf (by exact sK) rfl⟩;by_cases e:j=k
    ·subst e;exact⟨r2,r1⟩
    exact cJ j h1 zo
   rw[r1] at f1;refine sW ?_;refine bL ?_;rw[f1 λ_=>rfl]
  rw[r2] at f1;refine sW ?_;refine bL ?_;rw[f1 λ_=>rfl]
 have q0:k=l.length:=by have:¬k<l.length:=sO
                        omega
 have f1:=fin k dN hk cJ λq=>zo;rw[gx zo,qG] at f1;refine bL ?_;rw[f1]
theorem zDk(hl:l.length<=100000)(i:Nat)(hi:i<=l.length):ar aj 76 [ab i,.aN [dbp l]]<|aF<|ji l i λs=>s.2:=by
 have h:=H7 l hl i hi (λs=>s.2) 74 N1;refine bV ?_;refine sC h ?_;exact .refl _
theorem zDM(hl:l.length<=100000)(i:Nat)(hi:i<l.length):ar aj 78 [ab i,.aN [dbp l]]<|aF<|wF l i:=by
 have h:=ziS l hl i hi;refine bV ?_;refine sC h ?_;exact .refl _
theorem Zc(hl:l.length<=100000)(i:Nat)(hi:i<l.length):ar aj 80 [ab i,.aN [dbp l]]<|aF<|decide (i+1<l.length)&&(l.getD (i+1) (false,false)).2:=by
 refine bV ?_;refine sI ?_;rw[CL];refine sS (λq=>?_) λq=>?_
 ·have q:i+1<l.length:=sO;refine sI ?_;refine sL (xx (k:=i+1) zo q) ?_;rw[gb q];exact .refl _
 have q:¬i+1<l.length:=sO;rw[gx q];exact .refl _
theorem zD2(hl:l.length<=100000)(i:Nat)(hi:i<l.length):ar aj 81 [ab i,.aN [dbp l]]<|aF<|!ji l (i+1) λs=>s.2:=by
 have h:=H7 l hl (i+1) hi (λs=>s.2) 74 N1;refine bV ?_;refine sI ?_;refine sC h ?_;exact .refl _
theorem zu0(kd a b ct:Int)(l:List<|Bool×Bool)(hl:l.length<=100000)(fresh:Nat)(hf:fresh<=l.length):ar aj 38 [oF kd a b ct,dbp l,ab fresh]<|aF<|Gv kd l fresh:=by
 have hA:=H7 l hl 0 zo (λs=>s.1) 73 zBu;have hB:=H7 l hl 0 zo (λs=>s.2) 74 N1;have h1:=H4 l fresh hf hl (λi=>ji l i λs=>s.2) 76 [.aN [dbp l]] (by simp[ao,Pure,BH]) λi hi=>zDk l hl i zo;have h2:=H4 l fresh hf hl (wF l) 78 [.aN [dbp l]] (by simp[ao,Pure,BH]) λi hi=>zDM l hl i zo;have h3:=H4 l fresh hf hl (λi=>decide (i+1<l.length)&&(l.getD (i+1) (false,false)).2) 80 [.aN [dbp l]] (by simp[ao,Pure,BH]) λi hi=>Zc l hl i zo;have h4:=H4 l fresh hf hl (λi=>!ji l (i+1) λs=>s.2) 81 [.aN [dbp l]] (by simp[ao,Pure,BH]) λi hi=>zD2 l hl i zo;have hP:=znq l hl;refine bz fZ ?_;unfold Gv;generalize ji l 0 (λs=>s.1)=vA at *;generalize ji l 0 (λs=>s.2)=vB at *;generalize mK l fresh (λi=>ji l i λs=>s.2)=v1 at *;generalize mK l fresh (wF l)=v2 at *;generalize mK l fresh (λi=>decide (i+1<l.length)&&(l.getD (i+1) (false,false)).2)=v3 at *;generalize mK l fresh (λi=>!ji l (i+1) λs=>s.2)=v4 at *;generalize ve l=vP at *;unfold oF;refine sR ?_;refine sC hA ?_;refine sC hB ?_;refine sN h1 ?_;refine sS (λq4=>?_) λq4=>?_
 ·have q4:kd=4:=sO;subst q4;rw[ae rfl,CL];refine sS (λz=>?_) λz=>?_
  ·have z:l.length=0:=sO;rw[gb z];exact .refl _
  have z:¬l.length=0:=sO;refine sL (xx (k:=0) rfl zo) ?_;rw[gx z];exact .refl _
 have q4:¬kd=4:=sO;rw[aa q4];refine sS (λq5=>?_) λq5=>?_
 ·have q5:kd=5:=sO;subst q5;rw[ae rfl];cases vA<;>cases vB<;>(refine sW ?_;exact .refl _)
 have q5:¬kd=5:=sO;rw[aa q5];refine sS (λq6=>?_) λq6=>?_
 ·have q6:kd=6:=sO;subst q6;rw[ae rfl];cases vA<;>cases vB<;>(refine sW ?_;exact .refl _)
 have q6:¬kd=6:=sO;rw[aa q6];refine sS (λq7=>?_) λq7=>?_
 ·have q7:kd=7:=sO;subst q7;rw[ae rfl];cases vA<;>cases vB<;>(refine sW ?_;exact .refl _)
 have q7:¬kd=7:=sO;rw[aa q7];refine sS (λq13=>?_) λq13=>?_
 ·have q13:kd=13:=sO;subst q13;rw[ae rfl];cases vA<;>cases vB<;>(refine sW ?_;exact .refl _)
 have q13:¬kd=13:=sO;rw[aa q13];refine sS (λq8=>?_) λq8=>?_
 ·have q8:kd=8:=sO;subst q8;rw[ae rfl];exact .refl _
 have q8:¬kd=8:=sO;rw[aa q8];refine sS (λq9=>?_) λq9=>?_
 ·have q9:kd=9:=sO;subst q9;rw[ae rfl];refine sC hP ?_;exact .refl _
 have q9:¬kd=9:=sO;rw[aa q9];refine sS (λq10=>?_) λq10=>?_
 ·have q10:kd=10:=sO;subst q10;rw[ae rfl];cases v1
  ·refine sW ?_;exact .refl _
  refine sW ?_;refine sC hP ?_;exact .refl _
 have q10:¬kd=10:=sO;rw[aa q10];refine sS (λq11=>?_) λq11=>?_
 ·have q11:kd=11:=sO;subst q11;rw[ae rfl];refine sN h2 ?_;exact .refl _
 have q11:¬kd=11:=sO;rw[aa q11];refine sS (λq12=>?_) λq12=>?_
 ·have q12:kd=12:=sO;subst q12;rw[ae rfl];refine sN h3 ?_;exact .refl _
 have q12:¬kd=12:=sO;rw[aa q12];refine sN h4 ?_;exact .refl _
structure TW(kd a b ct:Int)(s l:af):Prop where
 tm:kZ kd a b ct=0
 word:mV s l=0
 ax:ly s
 loop:ly l
variable{a b kd ct:Int}{s l:af}
theorem TW.xX(h:TW kd a b ct s l):(1<=kd/\kd<=14)/\0<=a/\0<=b/\(kd<=3->1<=ct/\ct<=3):=by
 have:=h.tm;unfold kZ at this;split at this
 ·cases this
 split at this
 ·cases this
 omega
def De(kd a b ct:Int)(s l:af):Bool:=qz kd ct (eu (snP s l) (ib s l a) (ib s l b)<|s.length+6*l.length)<|bc (snP s l) 0<|s.length+l.length
theorem zs4{l:List<|Bool×Bool}:bc (λk=>(l.getD k (false,false)).1) 0 (k+1)=bc (λk=>(l.getD k (false,false)).1) 0 k+if (l.getD k (false,false)).1=true then 1 else 0:=mh<|b9 _
theorem zuc(kd a b ct:Int)(s l:af)(h:TW kd a b ct s l):ar aj 11 [oF kd a b ct,kV s l] (.aJ [aF<|De kd a b ct s l,ab 0]):=by
 have hW:=D3 s l;have hC:=F7 kd a b ct;have Dv:=(yX s l).1 h.word;obtain⟨mj,ha,hb,La⟩:=h.xX;have hL:=zzp kd a b ct ha hb s l h.word h.ax h.loop;have hlen:(eu (snP s l) (ib s l a) (ib s l b)<|s.length+6*l.length).length<=100000:=by
  rw[nS];have:=D5 (snP s l) 0<|s.length+6*l.length;change bc (snP s l) 0 (s.length+6*l.length)<=_ at this;omega
 have iX:bc (snP s l) 0 (s.length+l.length)<=(eu (snP s l) (ib s l a) (ib s l b)<|s.length+6*l.length).length:=by
  rw[nS];exact sr zo
 have hK:=zu0 kd a b ct _ hlen _ iX;have Mm:=Vy kd;rw[h.tm] at hC;rw[h.word] at hW;refine bz fZ ?_;unfold De;generalize eu (snP s l) (ib s l a) (ib s l b) (s.length+6*l.length)=L at *;generalize bc (snP s l) 0 (s.length+l.length)=fresh at *;unfold qz;unfold oF at *;refine sR ?_;refine sC hC ?_;refine sC hW ?_;refine sC hL ?_;refine sC Mm ?_;by_cases q:kd<=3
 ·rw[show(decide (1<=kd)&&decide (kd<=3))=true by simp;omega];refine sW ?_;rw[CL];refine bT [2,37,38] (λ((k,c):Nat×Nat)=>[(10,ab c),(39,ab k)]) (λ_=>[]) (λ(k,c)=>k<=L.length/\c=bc (λk=>(L.getD k (false,false)).1) 0 k/\c<=k) (λ(k,c)=>L.length-k) (0,0) ?_;refine sW ?_;refine⟨⟨zo,by simp[nr],zo⟩,by exact sK,rfl,?_⟩;rintro⟨k,c⟩ ⟨hk,hc,m8⟩;have e1:=zs4 (l:=L) (k:=k);rw[<-hc] at e1;refine bl (λq0=>?_) λq0=>?_
  ·have q0:k<L.length:=sO;refine sL (xx (k:=k) zo q0) ?_;cases r:(L.getD k (false,false)).1
   ·rw[r,aa zc] at e1;refine bJ ?_;refine⟨(k+1,c),⟨zo,by rw[e1];rfl,zo⟩,zd,?_⟩;exact br 2 zs rfl sQ sQ
   rw[r,ae rfl] at e1;refine bJ ?_;refine sI ?_;refine⟨(k+1,c+1),⟨zo,by rw[e1],zo⟩,zd,?_⟩;exact br 2 zs rfl sQ sQ
  have q0:k=L.length:=by have:¬k<L.length:=sO
                         omega
  subst q0;have hm:yW L=c:=hc.symm;rw[hm];refine sS (λq1=>?_) λq1=>?_
  ·have q1:kd=1:=sO;rw[ae q1];exact .refl _
  have q1:¬kd=1:=sO;rw[aa q1];refine sS (λq2=>?_) λq2=>?_
  ·have q2:kd=2:=sO;rw[ae q2];exact .refl _
  have q2:¬kd=2:=sO;rw[aa q2,ae<|show kd=3 by omega];refine bL ?_;rfl
 rw[show(decide (1<=kd)&&decide (kd<=3))=false by simp;omega,aa<|show ¬kd=1 by omega,aa<|show ¬kd=2 by omega,aa<|show ¬kd=3 by omega];refine sW ?_;refine sN hK ?_;exact .refl _
section
variable{w:Nat->Int}{sn A B:aq}
theorem Ng{a:Int}(hA:bh w (du a)=λi=>A i=true):∀(k i:Nat),bh w (lH a k) i↔∃e,i<=e/\k+1<=bc A i e
 |0,i=>by
  rw[lH,n9,hA];constructor
  ·rintro⟨j,j1,j2⟩;refine⟨j+1,zo,?_⟩;have:=(re (p:=A)<|show i<=j+1 by omega).2 ⟨j,j1,zo,j2⟩;omega
  rintro⟨e,e1,e2⟩;obtain⟨j,j1,_,j3⟩:=(re (p:=A) e1).1 zo;exact⟨j,j1,j3⟩
 |k+1,i=>by
  rw[lH,n9];constructor
  ·rintro⟨j,j1,j2⟩;rw[lU,xB,Ng hA k,hA] at j2;obtain⟨q,e,e1,e2⟩:=j2;refine⟨e,zo,?_⟩;have h1:=qq (p:=A) j1 e zo;have h2:=qq (p:=A) (show j<=j+1 by omega) e e1;have h3:=mh (p:=A)<|aI j;rw[nr,ae q] at h3;omega
  rintro⟨e,e1,e2⟩;obtain⟨j,j1,_,j3⟩:=(re (p:=A) e1).1 zo;obtain⟨f,hf,hle⟩:=yL (R:=A) j1 j3;refine⟨f,hf.1,?_⟩;rw[lU,xB,Ng hA k,hA];have bF:f<e:=zo;rw[yO hf bF] at e2;exact⟨hf.2.1,e,zo,zo⟩
variable{b:Nat}
theorem zwK(hA:Prd b m A)(hm:1<=m){c:Nat}(h1:1<=c)(h4:c<=4):(∃e,0<=e/\c<=bc A 0 e)↔c<=bc A 0 (b+m+6*m):=by
 refine⟨λ⟨e,_,he⟩=>?_,λh=>⟨_,b9 _,h⟩⟩;by_cases q:e<=b+m+6*m
 ·have:=qq (p:=A) (b9 e) (b+m+6*m) q;omega
 have:=JP hA hm (a:=0) zo (show b+6*m<=e by omega) (show b+6*m<=b+m+6*m by omega) (c:=c-1) zo;omega
theorem VA(hA:Prd b m A)(hm:1<=m)(hi:i<=b+m):kJ (b+m+6*m) i A↔∃j,i<=j/\A j:=by
 unfold kJ;rw[c6,AK zo];constructor
 ·rintro⟨j,j1,_,j3⟩;exact⟨j,j1,j3⟩
 rintro⟨j,j1,j3⟩;obtain⟨k,g1,g2,g3,g4⟩:=hA.kG hm j1 j3;exact⟨k,g1,zo,g4⟩
theorem zv8(hB:Prd b m B)(hm:1<=m):AH (b+m) A B↔∀k,0<=k->B k->∃j,0<=j/\j<=k/\A j:=by
 unfold AH;rw[qp];have one:∀i,(!B i||(List.range (i+1)).any A)=true↔(B i=true->∃j,0<=j/\j<=i/\A j):=λi=>by
  rw[imp_or,iR];exact⟨λh q=>by obtain⟨j,j1,j2⟩:=h q;exact⟨j,b9 _,by have:=eW.1 j1;omega,j2⟩,λh q=>by obtain⟨j,_,j1,j2⟩:=h q;exact⟨j,eW.2 zo,j2⟩⟩
 constructor
 ·intro h k _ hk;obtain⟨j,g1,g2,g3,g4⟩:=hB.kG hm (b9 _) hk;obtain⟨i,i1,i2,i3⟩:=(one j).1 (h j zo) g4;exact⟨i,i1,zo,i3⟩
 intro h i _;exact(one i).2 λq=>h i (b9 _) q
theorem Pe{C:aq}(hC:Prd b m C)(hm:1<=m)(hi:i<b+m){X:Nat->Prop}(h:Unt X (λk=>B k=true) (i+1)↔∃f,Fst C (i+1) f/\B f=true) :
  (decide (fst C (b+m+6*m) (i+1)<b+m+6*m)&&B (fst C (b+m+6*m)<|i+1))=true↔Unt X (λk=>B k=true) (i+1):=by
 rw[h,dL,c6];obtain⟨g1,g2,g3,g4⟩:=mY (p:=C) (e:=b+m+6*m) (i:=i+1) zo;constructor
 ·rintro⟨h1,h2⟩;exact⟨_,⟨g1,g4 h1,λk k1 k2=>by rw[g3 k k1 k2];decide⟩,h2⟩
 rintro⟨f,hf,h2⟩;obtain⟨j,j1,j2,j3,j4⟩:=hC.kG hm hf.1 hf.2.1;have ef:f=j:=by
  rcases c7 j f with q|q
  ·exact absurd j4<|hf.2.2 j j1 q
  omega
 have e:fst C (b+m+6*m) (i+1)=f:=fst_eq hf.1 zo (λk k1 k2=>by simpa using hf.2.2 k k1 k2) λ_=>hf.2.1;rw[e];exact⟨zo,h2⟩
theorem zoN:Unt (λk=>¬A k=true) (λk=>B k=true) i↔∃f,Fst (λk=>A k||B k) i f/\B f=true:=by
 constructor
 ·rintro⟨j,j1,j2,j3⟩;obtain⟨f,hf,hle⟩:=yL (R:=λk=>A k||B k) j1 (by show(A j||B j)=true;rw[j2];simp);refine⟨f,hf,?_⟩;rcases c7 f j with q|q
  ·have h1:(A f||B f):=hf.2.1;have h2:=j3 f hf.1 q;simpa [h2] using h1
  rw[show f=j by omega];exact j2
 rintro⟨f,hf,h2⟩;exact⟨f,hf.1,h2,λk k1 k2 h=>hf.2.2 k k1 k2<|by show(A k||B k)=true;rw[h];rfl⟩
theorem zuQ(hB:∀k,B k->sn k):Unt (λk=>¬sn k=true) (λk=>B k=true) i↔∃f,Fst sn i f/\B f=true :=
 ⟨λ⟨j,j1,j2,j3⟩=>⟨j,⟨j1,hB j j2,j3⟩,j2⟩,λ⟨f,hf,h2⟩=>⟨f,hf.1,h2,hf.2.2⟩⟩
end
def qW(s l:af)(a:Int)(i:Nat):Bool:=snP s l i&&ib s l a i
theorem MU(s l:af):Prd s.length l.length<|snP s l:=λi hi=>by show(!_)=(!_);rw[Ub s l 63 i hi]
theorem H5(s l:af)(a:Int):Prd s.length l.length<|qW s l a:=λi hi=>by show(_&&_)=(_&&_);rw[MU s l i hi,Ub s l a i hi]
theorem Y8(h:TW kd a b ct s l):De kd a b ct s l=HM kd ct (snP s l) (qW s l a) (qW s l b) (s.length+l.length+6*l.length) (s.length+l.length):=by
 obtain⟨mj,ha,hb,La⟩:=h.xX;exact zzr mj La (A:=ib s l a) (B:=ib s l b) (λj=>rfl) (λj=>rfl) ((yX s l).1 h.word).2 (MU s l) (H5 s l a)<|H5 s l b
theorem ztS(h:TW kd a b ct s l)(hw:(rb kd a b ct).wf bD)(hl:∀i,0<=bw s l i/\bw s l i<18446744073709551616):De kd a b ct s l↔bh (bw s l) (rb kd a b ct) 0:=by
 have AL:(0<=a/\a<=63)/\0<=b/\b<=63:=by
  have:=h.tm;unfold kZ at this;split at this
  ·cases this
  omega
 obtain⟨mj,_,_,La⟩:=h.xX;have hm:=((yX s l).1 h.word).2;rw[Y8 h];have LX:bh (bw s l) (bd 3 63)=λi=>¬snP s l i=true:=funext λi=>by
  rw[rn,<-Ax (hl i).1 (hl i).2 zo];unfold snP ib;cases jz (bw s l i) 63<;>simp
 have KM:∀{n:Int},0<=n/\n<=63->bh (bw s l) (du n)=λi=>qW s l n i=true:=λ{n} hn=>funext λi=>by
  unfold du;rw[lU,n7,LX,rn,<-Ax (hl i).1 (hl i).2 hn];show(jz (bw s l i) n=true/\¬¬snP s l i)=((snP s l i&&jz (bw s l i) n)=true);cases snP s l i<;>cases jz (bw s l i) n<;>simp
 have hA:=KM AL.1;have hB:=KM AL.2;have Ga:bh (bw s l) (aW 4<|du a)=λi=>¬qW s l a i=true:=funext λi=>by rw[n7,hA]
 have hnB:bh (bw s l) (aW 4<|du b)=λi=>¬qW s l b i=true:=funext λi=>by rw[n7,hB]
 have pS:=MU s l;have pA:=H5 s l a;have pB:=H5 s l b;have hBs:∀k,qW s l b k->snP s l k:=λk hk=>by unfold qW at hk;rw[dL] at hk;exact hk.1
 have hAs:∀k,qW s l a k->snP s l k:=λk hk=>by unfold qW at hk;rw[dL] at hk;exact hk.1
 have mA:=λk=>Ng hA k 0;have kG:=λ{t:Tree} (hw:t.wf bD)=>NZ hm hl hw;clear KM;generalize qW s l a=A at *;generalize qW s l b=B at *;generalize snP s l=sn at *;have sA:=VA pA hm (i:=0) zo;have sB:=λi (hi:i<=s.length+l.length)=>VA pB hm (i:=i) hi;have far:=λc (h1:1<=c) (h4:c<=4)=>zwK pA hm (c:=c) h1 h4;have Pb:(u7 a b).wf bD->(EZ (s.length+l.length+6*l.length) (s.length+l.length) A B=true↔bh (bw s l) (u7 a b) 0):=λhw=>by
  unfold u7 at hw⊢;rw[om];refine Iff.trans ?_ (kG (gy hw (j:=0) (by show 0<1;omega))).symm;unfold EZ;rw[qp];refine forall_congr' λi=>forall_congr' λhi=>?_;show _↔bh (bw s l) (bE 6 _ _) i;rw[imp_or,sB i zo,kz,Ga,n9,hB];by_cases q:A i=true<;>simp[q]
 have XS:AH (s.length+l.length) A B↔bh (bw s l) (x8 a b) 0:=by
  unfold x8;rw[zv8 pB hm,kz,pU,om,hnB,hA,<-NG]
 have fin0:∀{C:aq},(∃j,0<=j/\C j)↔∃j,C j:=zs;unfold HM
 have hT:rb kd a b ct=if kd=1 then lH a (ct-1).toNat else if kd=2 then aW 4 (lH a (ct-1).toNat)
  else if kd=3 then bE 5 (lH a (ct-1).toNat)<|aW 4<|lH a ct.toNat
  else if kd=4 then bE 6 (bE 8 (bd 3 63)<|du a)<|aW 11<|bd 3 63
  else if kd=5 then bE 6 (aW 10<|du a)<|aW 10<|du b
  else if kd=6 then bE 6 (aW 4<|aW 10<|du a)<|aW 10<|du b
  else if kd=7 then bE 5 (bE 6 (aW 4<|aW 10<|du a)<|aW 10<|du b)<|bE 6 (aW 4<|aW 10<|du b)<|aW 10<|du a
  else if kd=13 then aW 4<|bE 5 (aW 10<|du a)<|aW 10<|du b
  else if kd=8 then u7 a b else if kd=9 then x8 a b else if kd=10 then bE 5 (u7 a b)<|x8 a b
  else if kd=11 then aW 11<|bE 6 (aW 4<|du a)<|aW 7<|bE 8 (aW 4<|du a)<|du b
  else if kd=12 then aW 11<|bE 6 (aW 4<|du a)<|aW 7<|bE 8 (bd 3 63)<|du b
  else aW 11<|bE 6 (aW 4<|du a)<|aW 4<|aW 7<|aW 10<|du b:=rfl
 rw[hT] at hw⊢;clear hT;by_cases k1:kd=1
 ·rw[ae k1,ae k1,mA,far _ zo zo,c6];omega
 rw[aa k1] at hw⊢;rw[aa k1];by_cases k2:kd=2
 ·rw[ae k2,ae k2,n7,mA,far _ zo zo,c6];omega
 rw[aa k2] at hw⊢;rw[aa k2];by_cases k3:kd=3
 ·rw[ae k3,ae k3,lU,n7,mA,mA,far _ zo zo,far _ zo zo,c6];omega
 rw[aa k3] at hw⊢;rw[aa k3];by_cases k4:kd=4
 ·rw[ae k4,ae k4,kz,pU,om,LX,hA];by_cases z:fst sn (s.length+l.length) 0<s.length+l.length
  ·obtain⟨g1,g2,g3,g4⟩:=mY (p:=sn) (e:=s.length+l.length) (i:=0)<|b9 _;rw[ae z];constructor
   ·intro q;exact .inl ⟨_,b9 _,q,λk k1 k2 w=>by rw[g3 k k1 k2] at w;cases w⟩
   rintro(⟨j,j1,j2,j3⟩|q)
   ·have e:fst sn (s.length+l.length) 0=j:=by
     rcases ue (fst sn (s.length+l.length) 0) j with q|q|q
     ·exact absurd (g4 z)<|j3 _ (b9 _) q
     ·exact q
     have:=g3 j j1 q;rw[hAs j j2] at this;cases this
    rw[e];exact j2
   exact absurd (g4 z)<|q _<|b9 _
  rw[aa z];refine iff_of_true rfl (.inr λk _ hk=>?_);obtain⟨j,g1,g2,g3,g4⟩:=pS.kG hm (b9 k) hk;exact z<|(AK<|b9 _).2 ⟨j,g1,zo,g4⟩
 rw[aa k4] at hw⊢;rw[aa k4];by_cases k5:kd=5
 ·rw[ae k5,ae k5,kz,n9,n9,hA,hB,jh,sA,sB 0 zo]
 rw[aa k5] at hw⊢;rw[aa k5];by_cases k6:kd=6
 ·rw[ae k6,ae k6,kz,n7,n9,n9,hA,hB,jh,oG,<-mP,sA,sB 0 zo]
 rw[aa k6] at hw⊢;rw[aa k6];by_cases k7:kd=7
 ·rw[ae k7,ae k7,lU,kz,kz,n7,n7,n9,n9,hA,hB,<-sA,<-sB 0 zo];cases kJ (s.length+l.length+6*l.length) 0 A<;>cases kJ (s.length+l.length+6*l.length) 0 B<;>simp
 rw[aa k7] at hw⊢;rw[aa k7];by_cases k13:kd=13
 ·rw[ae k13,ae k13,n7,lU,n9,n9,hA,hB,<-sA,<-sB 0 zo];cases kJ (s.length+l.length+6*l.length) 0 A<;>cases kJ (s.length+l.length+6*l.length) 0 B<;>simp
 rw[aa k13] at hw⊢;rw[aa k13];by_cases k8:kd=8
 ·rw[ae k8] at hw⊢;rw[ae k8];exact Pb hw
 rw[aa k8] at hw⊢;rw[aa k8];by_cases k9:kd=9
 ·rw[ae k9,ae k9];exact XS
 rw[aa k9] at hw⊢;rw[aa k9];by_cases k10:kd=10
 ·rw[ae k10] at hw⊢;rw[ae k10,dL,lU,XS,Pb (gy hw (j:=0) (by show 0<2;omega))]
 rw[aa k10] at hw⊢;rw[aa k10,qp];by_cases k14:kd=14
 ·rw[aa zo,aa zo] at hw⊢;rw[om];refine Iff.trans ?_ (kG (gy hw (j:=0) (by show 0<1;omega))).symm;refine forall_congr' λi=>forall_congr' λhi=>?_;show _↔bh (bw s l) (bE 6 _ _) i;rw[imp_or,ae k14,oG,<-mP,sB (i+1) zo,kz,Ga,n7,xB,n9,hB];by_cases q:A i=true<;>simp[q]
 by_cases k11:kd=11
 ·rw[ae k11] at hw⊢;rw[om];refine Iff.trans ?_ (kG (gy hw (j:=0) (by show 0<1;omega))).symm;refine forall_congr' λi=>forall_congr' λhi=>?_;show _↔bh (bw s l) (bE 6 _ _) i;have hC:ub kd (s.length+l.length+6*l.length) sn A B i=fst (λk=>A k||B k) (s.length+l.length+6*l.length) (i+1):=by
   unfold ub
   congr 1
   funext k;rw[aa zo,ae k11]
  rw[imp_or,aa k14,hC,Pe (λi hi=>by show(_||_)=(_||_);rw[pA i hi,pB i hi]) hm hi zoN,kz,xB,pU,Ga,hB];by_cases q:A i=true<;>simp[q]
 have k12:kd=12:=zo;rw[aa k11,ae k12] at hw⊢;rw[om];refine Iff.trans ?_ (kG (gy hw (j:=0) (by show 0<1;omega))).symm;refine forall_congr' λi=>forall_congr' λhi=>?_;show _↔bh (bw s l) (bE 6 _ _) i;have hC:ub kd (s.length+l.length+6*l.length) sn A B i=fst sn (s.length+l.length+6*l.length) (i+1):=by
  unfold ub
  congr 1
  funext k;rw[ae k12]
 rw[imp_or,aa k14,hC,Pe pS hm hi<|zuQ hBs,kz,xB,pU,LX,Ga,hB];by_cases q:A i=true<;>simp[q]
theorem zwH{t:Tree}(h:t.kids.length<=9223372036854775807)(k:∀u∈t.kids,Small u):Small t :=
 .mk t h λj hj=>by rw[Tree.nP hj];exact k _<|ig _
theorem TK{P:bt}{L:Nat}{T E I:aY}{f0 f1 f2:Field}(hT:P.underlying T=some (.struct #[f0,f1,f2]))(h0:f0.type=I)(h1:f1.type=I)(h2:f2.type=E)(hE:P.underlying E=some (.slice T))(hI:P.underlying I=some (.int .i64))(hC:P.cellsOf T=3) :
  ∀(m:Nat) (ds:aZ),SizeOf.sizeOf ds<=m->jG P L T ds->∃t:Tree,ds=bx t/\Small t:=by
 intro m
 induction m with
 |zero=>intro ds hm;exact absurd hm<|by cases ds<;>simp<;>omega
 |succ m ih =>
  intro ds hm h;have:=of_struct hT h;simp only[dR,gP,h0,h1,h2] at this;obtain⟨a,b,rfl,ha,hb⟩:=tN this;obtain⟨c,d,rfl,hc,hd⟩:=tN hb;obtain⟨e,f,rfl,he,hf⟩:=tN hd;obtain rfl:=y9 hf;obtain⟨k,rfl,_⟩:=of_int hI ha;obtain⟨n,rfl,_⟩:=of_int hI hc;obtain⟨xs,rfl,hl,hx⟩:=of_slice hE he;rw[hC] at hm⊢;have each:∀x∈xs,∃t:Tree,x=bx t/\Small t:=λx j0=>ih x (by
   have:=List.sizeOf_lt_of_mem j0;simp at hm;omega) (XK hx x j0)
  have all:∃ts:List Tree,xs=ts.map fT/\∀t∈ts,Small t:=by
   clear hm hx hl he hd hb this h ih
   induction xs with
   |nil=>exact⟨[],rfl,zs⟩
   |cons x r ihx =>
    obtain⟨t,rfl,ht⟩:=each x zs;obtain⟨ts,rfl,jy⟩:=ihx λy hy=>each y (by simp[hy]);refine⟨t::ts,by rw[dR,vw],λu hu=>?_⟩;rcases dD.1 hu with rfl|hu
    ·exact ht
    exact jy u hu
  obtain⟨ts,rfl,jy⟩:=all;exact⟨.node k n ts,rfl,zwH (by simpa [Tree.kids] using hl) jy⟩
section
open Go.RowKit Go.ChangeShapes Go.WideShapes Go.ChangeAt
theorem SL{P:bt}{α:Type}{e:aY}{f:α->aZ}{ok:α->Prop}(he:∀cs,OfT P e cs->∃a,cs=f a/\ok a){xs:fp}(h:OfTL P e xs):∃l:List α,xs=l.map f/\∀a∈l,ok a:=by
 induction xs with
 |nil=>exact⟨[],rfl,zs⟩
 |cons x r ih =>
  cases h with
  |cons _ _ _ h k =>
   obtain⟨a,rfl,ha⟩:=he x h;obtain⟨l,rfl,hl⟩:=ih k;exact⟨a::l,rfl,λb hb=>by
    rcases dD.1 hb with rfl|hb
    ·exact ha
    exact hl b hb⟩
theorem zzn{d:D}(h:OfA aj 25 d):∃P:ah,d=cH P/\P.Fits:=by
 unfold OfA Am at h;rw[Tryz.underlying25] at h;obtain⟨cs,rfl,h⟩:=h;have h:=of_struct Tryz.underlying25 h;simp only[dR,gP] at h;obtain⟨xs,r,rfl,Jp,hx,h⟩:=RD Tryz.underlying22 h;obtain⟨ys,r,rfl,xi,hy,h⟩:=RD Tryz.underlying23 h;obtain rfl:=y9 h;obtain⟨nodes,rfl,hn⟩:=SL (f:=gf) (ok:=λx=>x.1.size<=9223372036854775807) (λcs h=>by
  have h:=of_struct Tryz.underlying126 h;simp only[dR,gP] at h;obtain⟨s,_,rfl,hs,h⟩:=Qb Tryz.underlying9 h;obtain⟨k,_,rfl,_,h⟩:=ot Tryz.underlying3 h;obtain rfl:=y9 h;exact⟨(s,k),rfl,hs⟩) hx
 obtain⟨aP,rfl,_⟩:=SL (f:=kg) (ok:=λ_=>True) (λcs h=>by
  have h:=of_struct Tryz.underlying182 h;simp only[dR,gP] at h;obtain⟨s,_,rfl,hs,h⟩:=ot Tryz.underlying3 h;obtain⟨k,_,rfl,_,h⟩:=ot Tryz.underlying3 h;obtain rfl:=y9 h;exact⟨(s,k),rfl,trivial⟩) hy
 refine⟨⟨nodes,aP⟩,?_,⟨by simpa using Jp,by simpa using xi,hn⟩⟩;rw[show Tryz.prog.cellsOf 126=2 by kernel_rfl,show Tryz.prog.cellsOf 182=2 by kernel_rfl];rfl
end
section
open Go.RowKit Go.ChangeShapes Go.WideShapes Go.ChangeAt
theorem zzG{d:D}(h:OfA aj 37 d):∃name sort x k a b c f g,d=cQ name sort x k a b c f g/\name.size<=9223372036854775807/\Small f/\Small g:=by
 unfold OfA Am at h;rw[Tryz.underlying37] at h;obtain⟨cs,rfl,h⟩:=h;have h:=of_struct Tryz.underlying37 h;simp only[dR,gP] at h;obtain⟨name,r1,rfl,iu,h⟩:=Qb Tryz.underlying9 h;obtain⟨sort,r2,rfl,_,h⟩:=ot Tryz.underlying3 h;obtain⟨ps,r3,rfl,hp,h⟩:=tN h;obtain⟨tcs,r4,rfl,ht,h⟩:=tN h;obtain⟨fs,r5,rfl,hf,h⟩:=tN h;obtain⟨gs,r6,rfl,hg,h⟩:=tN h;obtain rfl:=y9 h;have hp:=of_struct Tryz.underlying27 hp;obtain⟨kk,_,rfl,_,hp⟩:=ot Tryz.underlying3 hp;obtain⟨sc,_,rfl,_,hp⟩:=ot Tryz.underlying3 hp;obtain⟨p,_,rfl,_,hp⟩:=ot Tryz.underlying3 hp;obtain⟨s,_,rfl,_,hp⟩:=ot Tryz.underlying3 hp;obtain⟨q,_,rfl,_,hp⟩:=ot Tryz.underlying3 hp;obtain⟨r,_,rfl,_,hp⟩:=ot Tryz.underlying3 hp;obtain⟨n,_,rfl,_,hp⟩:=ot Tryz.underlying3 hp;obtain rfl:=y9 hp;have ht:=of_struct Tryz.underlying29 ht;obtain⟨k,_,rfl,_,ht⟩:=ot Tryz.underlying3 ht;obtain⟨a,_,rfl,_,ht⟩:=ot Tryz.underlying3 ht;obtain⟨b,_,rfl,_,ht⟩:=ot Tryz.underlying3 ht;obtain⟨c,_,rfl,_,ht⟩:=ot Tryz.underlying3 ht;obtain rfl:=y9 ht;obtain⟨f,rfl,sf⟩:=TK (I:=3) (E:=30) Tryz.underlying32 rfl rfl rfl Tryz.underlying30 Tryz.underlying3 (by kernel_rfl) _ _ (aI _) hf;obtain⟨g,rfl,sg⟩:=TK (I:=3) (E:=33) Tryz.underlying35 rfl rfl rfl Tryz.underlying33 Tryz.underlying3 (by kernel_rfl) _ _ (aI _) hg;exact⟨name,sort,⟨kk,sc,p,s,q,r,n⟩,k,a,b,c,f,g,by simp[cQ,jF,cm,jf],iu,sf,sg⟩
end

end Go.Proofs.YtaalipopcddnjaaGreatDoor
